/- Walks and plain facts. No condition. -/
import Derived.Test.YtjcjjiieblineaaGreatSb
import Derived.Test.YtjcjjiieblineaaGreatPd
namespace Go.Proofs.YtjcjjiieblineaaGreat
open Go.RowKit Go.Proofs.Tryz Mo
set_option maxHeartbeats 8000000
set_option maxRecDepth 100000
set_option linter.all false
variable {w w' w1 wr w2 w4:World}{n g base k m i j b d sz:Nat}{α:Type}{A B:Option Addr}{c:Mo.bA}{e:TypeId}{v a0 a1 a2 a3 vl vg vc v4:Value}{S:Nat->Prop}{l zs L C:List Int}{h:Mo.Hl}{P:Program}{x:Mo.Wt}{ys:Array Value}{tags:Int}{G:List Acc}{kp:Bool}{own:Mo.Rf}{xs:List α}{f:α->List Value}{z:α}
def fI(r:Rf):List Value:=[r.ix,r.tag]
theorem oo(r:Rf):(fI r).length=2:=rfl
theorem u7(r:Rf):∀u∈fI r,u.oneCell'=true:=by intro u a;simp[fI]at a;rcases a with rfl|rfl<;>rfl
def km(o:Od):List Value:=[o.ref.ix,o.ref.tag,o.gF]
theorem tP(r:Od):(km r).length=3:=rfl
theorem yu(r:Od):∀u∈km r,u.oneCell'=true:=by intro u a;simp[km]at a;rcases a with rfl|rfl|rfl<;>rfl
theorem qo(w:World)(A:Option Addr)(c:Nat)(a:List Rf)(q:n=a.length)(o:n<=1000000)(r:dI w fI A a) :
 Calls prog 137 #[.slice A n c] w (tB 200 2 fI w a n) :=
 (F0 w A c (a.map (jD fI oo u7)) (by simpa using q) o (dI.rows.2 r)).mono fun _ _ h=>h.toF
theorem GP(w:World)(A:Option Addr)(c:Nat)(a:List Od)(q:n=a.length)(o:n<=1000000)(r:dI w km A a) :
 Calls prog 138 #[.slice A n c] w (tB 203 3 km w a n) :=
 (KH w A c (a.map (jD km tP yu)) (by simpa using q) o (dI.rows.2 r)).mono fun _ _ h=>h.toF
def lZ(p:Pl)(A:Option Addr)(n:Nat)(B:Option Addr)(m:Nat):Value:=.agg #[p.own.ix,p.own.tag,.slice A p.free.length n,.slice B p.old.length m,p.spent]
structure PC (w:World) (p:Mo.Pl) (A:Option Addr) (n:Nat) (B:Option Addr) (m:Nat):Prop where
 aej:p.free.length<=n
 aek:p.old.length<=m
 zX:dI w fI A p.free
 rdO:dI w km B p.old
 Uz:p.free.length<=100000
 UA:p.old.length<=100000
theorem PC.below{p:Pl}(h:PC w p A n B m)(a:Below w w w'):PC w' p A n B m:=⟨h.aej,h.aek,h.zX.below a,h.rdO.below a,h.Uz,h.UA⟩
def wV(p:Pl)(w:World)(v:Value)(a:World):Prop :=∃A n B m,v=lZ p A n B m/\aH a w 200 2 fI (.slice A p.free.length n) p.free/\aH a w 203 3 km (.slice B p.old.length m) p.old/\Below w w a
section
variable(w:World)
theorem pq(p:Pl)(A:Option Addr)(n:Nat)(B:Option Addr)(m:Nat)(h:PC w p A n B m) :
 Calls prog 98 #[lZ p A n B m] w fun e w'=>∃v,e=.returned v/\wV p w v w':=by
 obtain⟨G,H⟩:=av (fun z (O:Below w w z)=>qo z A n p.free rfl (bq h.Uz aa) (h.zX.below O)) (fun z (O:Below w w z)=>GP z B m p.old rfl (bq h.UA aa) (h.rdO.below O))
 unfold lZ wV lZ
 clear h
 obtain⟨⟨x,g⟩,V,Z,s⟩:=p
 dsimp only at *
 obtain⟨k,X⟩:=aG V.length
 obtain⟨l,Y⟩:=aG Z.length
 rw[<-X]at G ⊢
 rw[<-Y]at H ⊢
 clear X Y
 have D:Below w w (((w.alloc (rD x g A k n B l m s)).alloc vJ).drew):=(ak (ak (aj w) _) _).drew
 have S:af (((w.alloc (rD x g A k n B l m s)).alloc vJ).drew) w 39 _:=(af.new _ _ _).alloc _
 have tQ:af (((w.alloc (rD x g A k n B l m s)).alloc vJ).drew) (w.heap.size+1) 39 _:=af.newAt _ _ _ aD
 go_enter func98,ntmps98
 go_wp2
 go_region_law(first
  |(go_simp;go_at_call 137;go_fit (G _ D);rintro e w1 ⟨a,c,rfl,u,U,q⟩;have E:=ai D q;have Q:=S.ai q;have u9:=tQ.ai q;have UB:=fun i=>af.cell Q i;go_wp2_with fail)
  |(go_simp;go_at_call 138;go_fit (H _ E);rintro e F ⟨b,d,rfl,y,W,j⟩;have sV:=ai E j;have f:=Q.ai j;have C:=u9.ai j;have K:=fun i=>af.cell f i;have L:=fun i=>af.free f i;have M:=fun i=>af.cell C i;have N:=fun i=>af.free C i;have kW:=f.lt;have dN:=C.lt;go_wp2_with fail))
 all_goals
  have o:=f.bj 2 (.slice a k c);have r:=o.bj 3 (.slice b l d);have t:aH ((F.setCell ⟨w,2,none⟩ (.slice a k c)).setCell ⟨w,3,none⟩ (.slice b l d)) w 200 2 fI (.slice a k c) V:=bK (bK ((U.bD D.size).ai j) f ag _ _) o ag _ _;have yx:aH ((F.setCell ⟨w,2,none⟩ (.slice a k c)).setCell ⟨w,3,none⟩ (.slice b l d)) w 203 3 km (.slice b l d) Z:=bK (bK (W.bD E.size) f ag _ _) o ag _ _;have J:af ((F.setCell ⟨w,2,none⟩ (.slice a k c)).setCell ⟨w,3,none⟩ (.slice b l d)) (w.heap.size+1) 39 _:=(C.bO (p:=⟨w,2,none⟩) aD _).bO (p:=⟨w,3,none⟩) aD _;have T:=(sV.setCell (p:=⟨w,2,none⟩) (aS _) (.slice a k c)).setCell (p:=⟨w,3,none⟩) (aS _) (.slice b l d);generalize P:(F.setCell ⟨w,2,none⟩ (.slice a k c)).setCell ⟨w,3,none⟩ (.slice b l d)=R at *;obtain⟨Gj,-,Fo⟩:=af.aM r;obtain⟨Xh,aq,a6⟩:=af.aM J;clear P S Q f o tQ u9 C D E sV q j U W UB K L M N kW dN G H;obtain⟨kL,ft,HB,I,H1,H2⟩:=cT t yx T J u y;clear t yx T u y J r;go_wp2_with fail;have hX:=ja I x g (.slice a k c) (.slice b l d) s;have np:=fun i=>af.cell hX i;have e1:=dZ kL I ag x g (.slice a k c) (.slice b l d) s;have e2:=dZ ft I ag x g (.slice a k c) (.slice b l d) s;have e3:Below w w (iI R (w.heap.size+1) x g (.slice a k c) (.slice b l d) s):=fL HB (cj _) x g (.slice a k c) (.slice b l d) s;change bodyPost _ _ _ _ _ (iI R (w.heap.size+1) x g (.slice a k c) (.slice b l d) s);generalize iI R (w.heap.size+1) x g (.slice a k c) (.slice b l d) s=wz at *;refine bodyPost_ret (v:=.agg #[x,g,.slice a k c,.slice b l d,s]) ?_ rfl ?_
  ·simp[results,results98,go_sem,np]
  ·exact⟨_,rfl,a,c,b,d,rfl,e1,e2,e3⟩
theorem AQ(p:Pl)(A:Option Addr)(n:Nat)(B:Option Addr)(m:Nat)(h:PC w p A n B m) :
 Calls prog 69 #[lZ p A n B m] w fun e w'=>∃v,e=.returned v/\wV (eH p) w v w':=by
 have o:=ae (fun J (j:Below w w J)=>pq J p A n B m (h.below j))
 unfold lZ wV lZ eH pO
 unfold wV lZ at o
 clear h
 obtain⟨⟨x,g⟩,L,P,s⟩:=p
 dsimp only at *
 obtain⟨k,E⟩:=aG L.length
 obtain⟨l,F⟩:=aG P.length
 rw[<-E, <-F]at o ⊢
 clear E F
 have f:Below w w ((w.alloc (rD x g A k n B l m s)).alloc vJ):=ak (ak (aj w) _) _
 have I:af ((w.alloc (rD x g A k n B l m s)).alloc vJ) (w.heap.size+1) 39 _:=af.newAt _ _ _ aD
 go_enter func69,ntmps69
 go_wp2_with fail
 go_fit (o _ f)
 rintro e z ⟨v,rfl,a,d,b,c,N,C,D,j⟩
 subst N
 have H:=ai f j
 have u9:=I.ai j
 obtain⟨S,Q,R⟩:=af.aM u9
 obtain⟨O,M,K,r⟩:=bN (C.bD f.size) (D.bD f.size) H u9
 clear C D j H u9 f I o
 go_wp2_with fail
 have q:=ja r oZ oZ (.slice a k d) (.slice b l c) s
 have G:=fun i=>af.cell q i
 have t:=dZ O r ag oZ oZ (.slice a k d) (.slice b l c) s
 have u:=dZ M r ag oZ oZ (.slice a k d) (.slice b l c) s
 have y:Below w w (iI z (w.heap.size+1) oZ oZ (.slice a k d) (.slice b l c) s):=fL K (cj _) oZ oZ (.slice a k d) (.slice b l c) s
 have q:=q.alloc (rD 0 0 a k d b l c s)
 have G:=fun i=>af.cell q i
 have t:=aH.alloc t (rD 0 0 a k d b l c s)
 have u:=aH.alloc u (rD 0 0 a k d b l c s)
 have y:=ak y (rD 0 0 a k d b l c s)
 change bodyPost _ _ _ _ _ ((iI z (w.heap.size+1) oZ oZ (.slice a k d) (.slice b l c) s).alloc (rD 0 0 a k d b l c s))
 generalize(iI z (w.heap.size+1) oZ oZ (.slice a k d) (.slice b l c) s).alloc (rD 0 0 a k d b l c s)=T at *
 refine bodyPost_ret (v:=.agg #[oZ,oZ,.slice a k d,.slice b l c,s]) ?_ rfl ?_
 ·simp[results,results69,go_sem,G]
 ·exact⟨_,rfl,a,d,b,c,rfl,t,u,y⟩
theorem Lb:(prog.info? 203).map (fun i=>(i.zero,i.size,i.bytes))=some (some (.agg #[oZ,oZ,oZ]),3,24):=by kernel_rfl
theorem PD(p:Pl)(A:Option Addr)(n:Nat)(B:Option Addr)(m:Nat)(h:PC w p A n B m)(r q z:Int) :
 Calls prog 174 #[lZ p A n B m,.agg #[r,q],z] w fun e w'=>∃v,e=.returned v/\wV (lQ p ⟨r,q⟩ z) w v w':=by
 obtain⟨N,HL⟩:=av (fun wx (y:Below w w wx)=>pq wx p A n B m (h.below y)) h.UA
 unfold lZ wV lZ lQ
 unfold wV lZ at N
 clear h
 obtain⟨⟨x,g⟩,R,O,s⟩:=p
 dsimp only at *
 obtain⟨d,C⟩:=aG ((O++[(⟨⟨r,q⟩,z⟩:Od)]).length)
 rw[<-C]
 have SM:=ae C
 clear C
 obtain⟨k,hk⟩:=aG R.length
 obtain⟨l,T⟩:=aG O.length
 rw[<-hk, <-T]at N ⊢
 have C7:=ae T
 clear hk T
 have H:Below w w (((w.alloc (rD x g A k n B l m s)).alloc (.cells #[r,q] 35)).alloc vJ):=ak (ak (ak (aj w) _) _) _
 have tQ:af (((w.alloc (rD x g A k n B l m s)).alloc (.cells #[r,q] 35)).alloc vJ) (w.heap.size+1+1) 39 _:=af.newAt _ _ _ aD
 have gi:af (((w.alloc (rD x g A k n B l m s)).alloc (.cells #[r,q] 35)).alloc vJ) (w.heap.size+1) 35 _:=(af.newAt _ _ _ aD).alloc _
 go_enter func174,ntmps174
 go_wp2_with fail
 go_fit (N _ H)
 rintro e o ⟨v,rfl,f,j,F,M,hv,E,u,y⟩
 subst hv
 have nv:=ai H y
 have u9:=tQ.ai y
 have I:=gi.ai y
 obtain⟨kM,-,a8⟩:=af.aM I
 obtain⟨dR,dK,dN⟩:=af.aM u9
 have U:w.heap.size<=o.heap.size:=aa
 obtain⟨kL,S,Z,HQ⟩:=bN (E.bD H.size) (u.bD H.size) nv u9
 clear E u y nv u9 I H tQ gi N
 go_wp2_with(at_builtin;refine cG _ rfl _ _ 37 rfl w 203 3 24 (.agg #[oZ,oZ,oZ]) km tP yu underlying37 Lb rfl ag _ O rfl ?q1 (some ⟨o.heap.size+1,0,none⟩) 1 1 [⟨⟨r,q⟩,z⟩] rfl rfl ?q2 ?c4 ?c5 ?c6 ?_)
 case q1=>exact(S.alloc _).alloc _
 case q2=>exact Rd.Di _ (km ⟨⟨r,q⟩,z⟩) _ aD
 case c4=>have:=HL.Y;simp;omega
 case c5=>have:=HL.Y;simp;omega
 case c6=>simp;omega
 intro v' D hown' G V
 clear V
 obtain⟨a,c,L⟩:=hown'.shape
 rw[<-SM.Y]at L
 subst L
 have X:af ((o.alloc (rD x g f k j F l M s)).alloc (.cells #[r,q,z] 203)) o 39 _:=(af.new _ _ _).alloc _
 have W:af ((o.alloc (rD x g f k j F l M s)).alloc (.cells #[r,q,z] 203)) (w.heap.size+1+1) 39 _:=(HQ.alloc _).alloc _
 have u:=(S.alloc (rD x g f k j F l M s)).alloc (.cells #[r,q,z] 203)
 have E:=(kL.alloc (rD x g f k j F l M s)).alloc (.cells #[r,q,z] 203)
 have J:=ak (ak Z (rD x g f k j F l M s)) (.cells #[r,q,z] 203)
 have t:=X.grown G (aY u X ag)
 have Q:=W.grown G (aY u W ag)
 have z7:aH D w 200 2 fI (.slice f k j) R:=kI E G (fun b y=>dH E u ag y)
 have K:=aH.bh u J G (by simp;omega) (aS _)
 have PE:=t.bj 3 (.slice a d c)
 have Xi:af (D.setCell ⟨o,3,none⟩ (.slice a d c)) (w.heap.size+1+1) 39 _:=Q.bO (p:=⟨o,3,none⟩) (by show w.heap.size+2≠o;omega) _
 have Y:aH (D.setCell ⟨o,3,none⟩ (.slice a d c)) w 200 2 fI (.slice f k j) R:=bK z7 t ag _ _
 have NA:aH (D.setCell ⟨o,3,none⟩ (.slice a d c)) w 203 3 km (.slice a d c) (O++[⟨⟨r,q⟩,z⟩]):=bK hown' t ag _ _
 have ei:=K.setCell (p:=⟨o,3,none⟩) U (.slice a d c)
 obtain⟨aB,bp,aW⟩:=af.aM t
 obtain⟨aq,a6,a7⟩:=af.aM Q
 obtain⟨P,H6,H7,H8⟩:=bN Xi Y NA ei
 clear hown' G X W E u J t Q z7 K PE Xi Y NA ei dR dK kM kL S Z HQ
 have bg:w.heap.size+1+1<o.heap.size:=dN
 clear dN
 go_wp2_with fail
 have hX:=ja P x g (.slice f k j) (.slice a d c) s
 have np:=fun i=>af.cell hX i
 have e1:=dZ H6 P ag x g (.slice f k j) (.slice a d c) s
 have e2:=dZ H7 P ag x g (.slice f k j) (.slice a d c) s
 have e3:Below w w (iI (D.setCell ⟨o,3,none⟩ (.slice a d c)) (w.heap.size+1+1) x g (.slice f k j) (.slice a d c) s):=fL H8 (Nat.le_add_right _ 2) x g (.slice f k j) (.slice a d c) s
 change bodyPost _ _ _ _ _ (iI (D.setCell ⟨o,3,none⟩ (.slice a d c)) (w.heap.size+1+1) x g (.slice f k j) (.slice a d c) s)
 generalize iI (D.setCell ⟨o,3,none⟩ (.slice a d c)) (w.heap.size+1+1) x g (.slice f k j) (.slice a d c) s=wz at *
 refine bodyPost_ret (v:=.agg #[x,g,.slice f k j,.slice a d c,s]) ?_ rfl ?_
 ·simp[results,results174,go_sem,np]
 ·exact⟨_,rfl,f,j,a,c,rfl,e1,e2,e3⟩
end
def jO(a:Int)(o:Rf)(fr:List Rf)(s:Int):Rf×List Rf×Int:=if o.tag=0 then((dY a fr).1,(dY a fr).2.1,s+(dY a fr).2.2)else(o,fr,s)
theorem GR{x:Rf}{fr:List Rf}{s:Int}(a:own.tag=0)(h:(fy x tags).2=true)(o:(fy x tags).1.tag≠0):jO tags own (x::fr) s=jO tags (fy x tags).1 fr s:=by
 unfold jO;rw[au a,ah o];have e:dY tags (x::fr)=((fy x tags).1,fr,0):=by show(if(fy x tags).2=true then _ else _)=_;rw[au h]
 rw[e];simp
theorem Lc{x:Rf}{fr:List Rf}{s:Int}(a:own.tag=0)(h:(fy x tags).2=false):jO tags own (x::fr) s=jO tags own fr (s+1):=by
 unfold jO;rw[au a,au a];have e:dY tags (x::fr)=((dY tags fr).1,(dY tags fr).2.1,(dY tags fr).2.2+1):=by show(if(fy x tags).2=true then _ else _)=_;rw[ah (by rw[h];decide)]
 rw[e];simp;omega
theorem Ld{x:Rf}(h:(fy x tags).2=true):(fy x tags).1.tag≠0/\(fy x tags).1.tag<=4294967295:=by
 unfold fy at h ⊢;split at h
 ·cases h
 ·rename_i b;rw[ah b];split at h
  ·rename_i a;rw[au a];unfold jz at a;simp at a;dsimp only;omega
  ·cases h
def PF(w:World)(g:Nat):Nat:=match w.cell? ⟨g,2,none⟩with|some (.slice _ n _)=>n|_=>0
theorem tR{a b d e:Value}{t:TypeId}(h:af w g t #[a,b,.slice A k n,d,e]):PF w g=k:=by unfold PF;rw[h.cell];rfl
structure TkL (w wr:World) (g q:Nat) (tags:Int) (R:Mo.Rf×List Mo.Rf×Int) (ol:List Mo.Od) (B:Option Addr) (l m:Nat) (own:Mo.Rf) (fr:List Mo.Rf) (A:Option Addr) (k n:Nat) (s:Int):Prop where
 blk:af wr g 39 #[.int .i64 own.ix,.int .i64 own.tag,.slice A k n,.slice B l m,.int .i64 s]
 res:af wr q 39 #[.int .i64 0,.int .i64 0,.slice none 0 0,.slice none 0 0,.int .i64 0]
 len:k=fr.length
 cap:k<=n
 rd:dI wr fI A fr
 loop:jO tags own fr s=R
 old:aH wr w 203 3 km (.slice B l m) ol
 ext:Below w w wr
 small:∀s∈fr,s.tag<=4294967295
 empty:own.tag=0->own.ix=0
 bO:q<g
 off:∀ad,A=some ad->ad.block≠g
def TkR(w wr:World)(g q:Nat)(a:Int)(R:Rf×List Rf×Int)(o:List Od)(B:Option Addr)(l m:Nat):Prop:=∃(own:Rf) (b:List Rf) (A:Option Addr) (k n:Nat) (s:Int),0<=s/\s+(k:Int)<=2000000/\k<=100000/\TkL w wr g q a R o B l m own b A k n s
def ny(A:Option Addr)(c m a:Nat):Option Addr:=if c=m then A else A.map (·.add (m*a))
theorem Le(a:∀c,(f c).length=sz):∀(m:Nat) (xs:List α),(xs.drop m).flatMap f=(xs.flatMap f).drop (m*sz):=by
 intro m;induction m with
 |zero=>intro xs;simp
 |succ m b =>
  intro xs;rcases xs with _|⟨x,xs⟩
  ·simp
  ·rw[List.drop_succ_cons,b,List.flatMap_cons,Nat.add_mul,Nat.one_mul,Nat.add_comm, <-List.drop_drop,List.drop_left' (a x)]
theorem dI.drop(o:∀c,(f c).length=sz){c:Nat}(h:dI w f A xs)(r:xs.length<=c)(m:Nat):dI w f (ny A c m sz) (xs.drop m):=by
 by_cases e:c=m
 ·have:xs.drop m=[]:=List.drop_of_length_le aa;rw[this];exact dI.nil _ _ _
 ·unfold ny;rw[ah e];unfold dI;rw[Le o];intro j u a;rw[List.getElem?_drop]at a;obtain⟨g,b,d⟩:=h (m*sz+j) u a;subst b;exact⟨_,rfl,by rw[tq];exact d⟩
theorem kn(t e:TypeId){z:Value}{a:Nat}(r:P.underlying t=some (.slice e))(q:(P.info? e).map (fun i=>(i.zero,i.size,i.bytes))=some (some z,sz,a))(A:Option Addr)(n c m:Nat)(X:Int)(o:X=(m:Int))(u:m<=n)(w:World) :
 (Instr.slice t (.slice A n c) (some (.int .i64 X)) none none).run P w=.ok (.slice (ny A c m sz) (n-m) (c-m)) w:=by
 subst o
 obtain⟨i,d,_,f,_⟩:=info_parts q
 have b:0<=(m:Int)/\(m:Int)<=(n:Int):=aa
 simp[Instr.slice,Instr.sliceBounds,run_underlying r,sizeOf,typeInfo,d,run_sliceBound_if,b,f,ny]
theorem Rd.move{U:Nat->Prop}{r:List Value}(h:Rd w A r)(s:∀b,b<w.heap.size->¬U b->w'.heap[b]?=w.heap[b]?)(t:∀a,A=some a->r≠[]->¬U a.block):Rd w' A r:=by
 intro i u f;obtain⟨a,e,c⟩:=h i u f;have d:r≠[]:=by rintro rfl;simp at f
 refine⟨a,e,?_⟩;have j:(a.add i).block=a.block:=by unfold Addr.add;split<;>rfl
 have g:=s (a.add i).block (bb c) (by rw[j];exact t a e d);unfold World.cell? at c ⊢;rw[g];exact c
theorem vS{c:Nat}{o:Addr}(h:ny A c m sz=some o):∃a,A=some a/\a.block=o.block:=by
 unfold ny at h;split at h
 ·exact⟨o,h,rfl⟩
 ·rcases A with _|a
  ·cases h
  ·simp at h;subst h;refine⟨a,rfl,?_⟩;unfold Addr.add;split<;>rfl
theorem TkL.next{q:Nat}{R:Rf×List Rf×Int}{ol:List Od}{l:Nat}{o z:Rf}{fr:List Rf}{s y:Int}(h:TkL w wr g q tags R ol B l m own (z::fr) A k n s)(u:∀b,b<wr.heap.size->b≠g->w2.heap[b]?=wr.heap[b]?)(D:Below w w w2)(hblk:af w2 g 39 #[.int .i64 o.ix,.int .i64 o.tag,.slice (ny A n 1 2) (k-1) (n-1),.slice B l m,.int .i64 y])(H:jO tags own (z::fr) s=jO tags o fr y)(F:o.tag=0->o.ix=0):TkL w w2 g q tags R ol B l m o fr (ny A n 1 2) (k-1) (n-1) y:=by
 have v:=h.len
 have E:=h.cap
 refine⟨hblk,(u _ h.res.lt (by have:=h.bO;omega)).trans h.res,by rw[v];rfl,aa,?_,by rw[<-H];exact h.loop,?_,D,fun x I=>h.small x (List.mem_cons_of_mem _ I),F,h.bO,?_⟩
 ·have:=h.rd.drop oo (c:=n) (by rw[<-v];exact E) 1;refine Rd.move (U:=fun b=>b=g) this u (fun ad j _=>?_);obtain⟨a,d,e⟩:=vS j;rw[<-e];exact h.off a d
 ·obtain⟨C,i⟩:=h.old;refine⟨C,?_⟩;rcases i with i|⟨t,cap,f,G,J,p,r⟩
  ·exact .inl i
  ·refine .inr ⟨t,cap,f,G,J,?_,r⟩;rw[u t (af.FP p) ?_]
   ·exact p
   ·rintro rfl;have:=h.blk;unfold af at this;rw[p]at this;injection this with this
    injection this with _ ht
    exact absurd ht ag
 ·intro ad j;obtain⟨a,d,e⟩:=vS j;rw[<-e];exact h.off a d
theorem aH.drewN{a:List α}(h:aH w base e m f v a)(q:Nat):aH (w.drewN q) base e m f v a:=h.ai (bV (aj w) q)
theorem sr:(prog.info? 200).map (fun i=>(i.zero,i.size,i.bytes))=some (some (.agg #[.int .i64 0,.int .i64 0]),2,16):=by kernel_rfl
section
variable(w:World)
theorem PG(p:Pl)(A:Option Addr)(n:Nat)(B:Option Addr)(m:Nat)(o:Int)(h:PC w p A n B m)(ho:p.own.tag=0->p.own=pO)(hs:∀s∈p.free,s.tag<=4294967295)(h0:0<=p.spent)(h1:p.spent<=1000000) :
 Calls prog 203 #[lZ p A n B m,.int .i64 o] w fun e w'=>∃v,e=.returned (.tuple #[v,.bool (jA p o).2])/\wV (jA p o).1 w v w':=by
 obtain⟨C1,HL⟩:=av (fun wx (J:Below w w wx)=>pq wx p A n B m (h.below J)) h.Uz
 unfold lZ wV lZ
 unfold wV lZ at C1
 clear h
 obtain⟨⟨x,g⟩,fr,Q,s⟩:=p
 dsimp only at *
 obtain⟨R,hR⟩:=aG (jO o ⟨x,g⟩ fr s)
 have HT:Hid (jA ⟨⟨x,g⟩,fr,Q,s⟩ o=(⟨R.1,R.2.1,Q,R.2.2⟩,R.1.tag !=0)):=by
  unfold Hid;rw[hR];unfold jA jO;dsimp only;by_cases hg:g=0
  ·rw[au hg,au hg]
  ·rw[ah hg,ah hg];have:(g !=0)=true:=by simpa using hg
   rw[this]
 rw[HT.Y]
 dsimp only
 have HR:=ae hR.symm
 have HO:Hid (g=0->x=0):=fun hg=>congrArg Rf.ix (ho hg)
 clear ho HT hR
 obtain⟨l,hl⟩:=aG Q.length
 obtain⟨k,V⟩:=aG fr.length
 rw[<-hl, <-V]
 rw[<-V, <-hl]at C1
 obtain⟨HK,HS⟩:=av V hs
 rw[<-V]at HL
 clear hl V hs
 have gK:Below w w ((w.alloc (rD x g A k n B l m s)).alloc vJ):=ak (ak (aj w) _) _
 have tQ:af ((w.alloc (rD x g A k n B l m s)).alloc vJ) (w.heap.size+1) 39 _:=af.newAt _ _ _ aD
 go_enter func203,ntmps203
 go_wp2_with fail
 go_fit (C1 _ gK)
 rintro e y ⟨v,rfl,A1,n1,r,u,hv,fM,U,J⟩
 subst hv
 have nv:=ai gK J
 have u9:=tQ.ai J
 have dN:=u9.lt
 have T0:TkR w (y.alloc (rD x g A1 k n1 r l u s)) y (w.heap.size+1) o R Q r l u:=by
  have V:=HK.Y;have UC:=fM;rw[V]at UC;obtain⟨c1,c2⟩:=UC.zX;have lv:k<=n1:=by have:=UC.cap.2;omega
  exact⟨⟨x,g⟩,fr,A1,k,n1,s,h0,by have:=HL.Y;omega,HL,af.new _ _ _,u9.alloc _,V,lv,(c2.alloc _),HR,(U.bD gK.size).alloc _,ak nv _,HS,HO,dN,fun ad bR=>by subst bR;have:=(aX UC (g:=ad.block) rfl).2;omega⟩
 have NC:=ae T0
 clear T0 J u9 nv fM U gK tQ C1 HL HR HO HS
 go_wp2
 go_loopw[7] (fun _ wr=>TkR w wr y (w.heap.size+1) o R Q r l u) (fun _ wr=>PF wr y.heap.size)
 case atStart=>exact NC.Y
 case round =>
  obtain⟨a,F,A',t,n',q,bY,b6,b7,HH⟩:=hrel;obtain⟨aB,bp,aW⟩:=af.aM HH.blk;obtain⟨dR,dK,-⟩:=af.aM HH.res;have bz:=HH.res.lt;have H:=ae HH;clear HH;by_cases W:a.tag=0
  ·by_cases lR:t=0
   ·subst lR;have d1:(a.tag==0)=true:=by rw[W];rfl
    have O:=ae W;clear W;have HX:Hid (jO o a F q=(a,F,q)):=by have e0:=H.empty O;have e1:F=[]:=List.eq_nil_of_length_eq_zero (H.len.symm);unfold Hid jO;rw[au O.Y,e1];obtain⟨ox,og⟩:=a;have e2:og=0:=O.Y;dsimp only at e0;subst e0 e2;simp[dY,pO]
    have rR:Hid (0<=1000000):=aV _;go_wp2_with fail;go_fit (qo wr A' n' F H.len rR H.rd);rintro e S ⟨f,j,rfl,K,U,d⟩;have E:=H.blk.ai d;have yw:=H.res.ai d;have yx:=H.old.ai d;have X:=ai H.ext d;have C:=U.bD H.ext.size;obtain⟨G,I,DX⟩:=af.aM E;clear aB bp dR dK;go_wp2_with fail;have SN:=E.bj 2 (.slice f 0 j);have uk:=yw.bO (p:=⟨y,2,none⟩) (by have:=H.bO;show w.heap.size+1≠y;omega) (.slice f 0 j);have AR:aH _ w 203 3 km (.slice r l u) Q:=bK yx E ag 2 (.slice f 0 j);have yz:aH _ w 200 2 fI (.slice f 0 j) F:=bK C E ag 2 (.slice f 0 j);have qp:=X.setCell (p:=⟨y,2,none⟩) (by have:=H.bO;show w.heap.size<=y.heap.size;omega) (.slice f 0 j);generalize a7:S.setCell ⟨y,2,none⟩ (.slice f 0 j)=N at *;obtain⟨L,-,M⟩:=af.aM SN;obtain⟨GS,PH,GU⟩:=af.aM uk;obtain⟨jT,jr,um,cM,jI⟩:=dh uk AR yz qp K;have PJ:=H.bO;clear a7 E yw yx X C G I DX SN uk AR yz qp U d K;go_region;go_wp2_with fail;have hX:=(ja jT (.int .i64 a.ix) (.int .i64 a.tag) (.slice f 0 j) (.slice r l u) (.int .i64 q)).drewN 1;have e1:aH (World.drewN (iI N (w.heap.size+1) (.int .i64 a.ix) (.int .i64 a.tag) (.slice f 0 j) (.slice r l u) (.int .i64 q)) 1) w 200 2 fI (.slice f 0 j) F:=aH.drewN (dZ um jT ag _ _ _ _ _) 1;have e2:aH (World.drewN (iI N (w.heap.size+1) (.int .i64 a.ix) (.int .i64 a.tag) (.slice f 0 j) (.slice r l u) (.int .i64 q)) 1) w 203 3 km (.slice r l u) Q:=aH.drewN (dZ jr jT ag _ _ _ _ _) 1;have e3:Below w w (World.drewN (iI N (w.heap.size+1) (.int .i64 a.ix) (.int .i64 a.tag) (.slice f 0 j) (.slice r l u) (.int .i64 q)) 1):=bV (fL cM (cj _) _ _ _ _ _) 1;have Z:R=(a,F,q):=H.loop.symm.trans HX;have xu:=H.len;change bodyPost _ _ _ _ _ (World.drewN (iI N (w.heap.size+1) (.int .i64 a.ix) (.int .i64 a.tag) (.slice f 0 j) (.slice r l u) (.int .i64 q)) 1);generalize World.drewN (iI N (w.heap.size+1) (.int .i64 a.ix) (.int .i64 a.tag) (.slice f 0 j) (.slice r l u) (.int .i64 q)) 1=wz at *;have np:=fun i=>af.cell hX i;clear L M GS PH GU d1;subst Z;refine bodyPost_ret (v:=.tuple #[.agg #[.int .i64 a.ix,.int .i64 a.tag,.slice f 0 j,.slice r l u,.int .i64 q],.bool (a.tag !=0)]) ?_ rfl ?_
    ·simp[results,results203,go_sem,np]
    ·rw[<-xu];exact⟨_,rfl,f,j,r,u,rfl,e1,e2,e3⟩
   ·
    obtain⟨z,T,uo⟩:∃z T,F=z::T:=by
     rcases hq:F with _|⟨z,T⟩
     ·exfalso;have:=H.len;rw[hq]at this;exact lR this
     ·exact⟨z,T,rfl⟩
    have O:=ae W
    clear W
    subst uo
    have d1:(a.tag==0)=true:=by rw[O.Y];rfl
    have d2:0<t:=aa
    have d3:(0:Int)<t:=aa
    obtain⟨ad,c,hA,hc,hcell⟩:=dI.at_ oo ag H.rd (i:=0) aD
    simp at hc
    subst hc
    have c0:=hcell 0 _ rfl
    have c1:=hcell 1 _ rfl
    simp only[Nat.zero_mul,add_zero]at c0 c1
    rw[add_lit _ _ ag]at c1
    clear hcell
    subst hA
    have Jt:=kn (P:=prog) 36 200 underlying36 sr (some ad) t n' 1 1 rfl aa
    have HZ:=ae (H.small z List.mem_cons_self)
    go_wp2_with fail
    go_fit (KD _ z.ix z.tag o HZ)
    rintro e S ⟨rfl,d⟩
    have bg:=(H.blk.bj 2 (.slice (ny (some ad) n' 1 2) (t-1) (n'-1))).alloc (.cells #[.int .i64 z.ix,.int .i64 z.tag] 200)
    have E:=bg.ai d
    have Fj:=E.lt
    obtain⟨G,I,-⟩:=af.aM E
    have aq:w.heap.size<=y.heap.size:=by have:=H.bO;omega
    have X:Below w w S:=ai (ak (H.ext.setCell (p:=⟨y,2,none⟩) aq _) _) d
    have C:∀b,b<wr.heap.size->b≠y->S.heap[b]?=wr.heap[b]?:=fun b J D=>(d.block b (by simp;omega)).trans ((Below.heap_alloc _ _ _ (by simpa using J)).trans (dp _ _ _ _ D))
    have bo:wr.heap.size<=S.heap.size:=by have:=d.size;simp at this;omega
    obtain⟨Lg,bE,rT,zD,Y⟩:=dh E X C bo aq
    clear bg E X C d bo aq c0 c1 Jt aB bp dR dK bz
    obtain⟨nr,a6⟩:=aG (fy z o)
    have a8:fy ⟨z.ix,z.tag⟩ o=nr:=a6.symm
    rw[a8]
    have Xj:=ae a6
    clear a6 a8
    obtain⟨⟨rx,rt⟩,ok⟩:=nr
    dsimp only
    cases ok with
    |true =>
     go_wp2;go_roundw;case rel =>
      have uq:(fy z o).2=true:=by rw[<-Xj.Y]
      have oK:(fy z o).1=⟨rx,rt⟩:=by rw[<-Xj.Y]
      have h5:=Ld uq;have h6:=GR (fr:=T) (s:=q) O uq h5.1;rw[oK]at h5 h6;have BN:wr.heap.size<=S.heap.size:=zD.Y;exact⟨⟨rx,rt⟩,T,_,t-1,n'-1,q,bY,aa,aa,H.next (fun b J D=>by
       rw[Below.heap_alloc _ _ _ (by simp;omega),dp _ _ _ _ D,dp _ _ _ _ D];exact rT.Y b J D)
       (ak ((bE.setCell (p:=⟨y,0,none⟩) Y _).setCell (p:=⟨y,1,none⟩) Y _) _) (((Lg.bj 0 (.int .i64 rx)).bj 1 (.int .i64 rt)).alloc _) h6 (fun h0=>absurd h0 h5.1)⟩
     case measure=>rw[tR H.Y.blk,tR (((Lg.Y.bj 0 (.int .i64 rx)).bj 1 (.int .i64 rt)).alloc _)];omega
    |false =>
     have b5:q<=2000000:=aa;go_wp2;go_roundw;case rel =>
      have uq:(fy z o).2=false:=by rw[<-Xj.Y]
      have h6:=Lc (fr:=T) (s:=q) O uq;have BN:wr.heap.size<=S.heap.size:=zD.Y;exact⟨a,T,_,t-1,n'-1,q+1,aa,aa,aa,H.next (fun b J D=>by
       rw[Below.heap_alloc _ _ _ (by simp;omega),dp _ _ _ _ D];exact rT.Y b J D)
       (ak (bE.setCell (p:=⟨y,4,none⟩) Y _) _) ((Lg.bj 4 (.int .i64 (q+1))).alloc _) h6 H.empty⟩
     case measure=>rw[tR H.Y.blk,tR ((Lg.Y.bj 4 (.int .i64 (q+1))).alloc _)];omega
  ·have d1:(a.tag==0)=false:=by simpa using W
   have O:=ae W;clear W;have HX:Hid (jO o a F q=(a,F,q)):=by unfold Hid jO;rw[ah O.Y]
   have rR:Hid (t<=1000000):=by unfold Hid;omega
   go_wp2_with fail;go_fit (qo wr A' n' F H.len rR H.rd);rintro e S ⟨f,j,rfl,K,U,d⟩;have E:=H.blk.ai d;have yw:=H.res.ai d;have yx:=H.old.ai d;have X:=ai H.ext d;have C:=U.bD H.ext.size;obtain⟨G,I,DX⟩:=af.aM E;clear aB bp dR dK;go_wp2_with fail;have SN:=E.bj 2 (.slice f t j);have uk:=yw.bO (p:=⟨y,2,none⟩) (by have:=H.bO;show w.heap.size+1≠y;omega) (.slice f t j);have AR:aH _ w 203 3 km (.slice r l u) Q:=bK yx E ag 2 (.slice f t j);have yz:aH _ w 200 2 fI (.slice f t j) F:=bK C E ag 2 (.slice f t j);have qp:=X.setCell (p:=⟨y,2,none⟩) (by have:=H.bO;show w.heap.size<=y.heap.size;omega) (.slice f t j);generalize a7:S.setCell ⟨y,2,none⟩ (.slice f t j)=N at *;obtain⟨L,-,M⟩:=af.aM SN;obtain⟨GS,PH,GU⟩:=af.aM uk;obtain⟨jT,jr,um,cM,jI⟩:=dh uk AR yz qp K;have PJ:=H.bO;clear a7 E yw yx X C G I DX SN uk AR yz qp U d K;go_region;go_wp2_with fail;have hX:=(ja jT (.int .i64 a.ix) (.int .i64 a.tag) (.slice f t j) (.slice r l u) (.int .i64 q)).drewN 1;have e1:aH (World.drewN (iI N (w.heap.size+1) (.int .i64 a.ix) (.int .i64 a.tag) (.slice f t j) (.slice r l u) (.int .i64 q)) 1) w 200 2 fI (.slice f t j) F:=aH.drewN (dZ um jT ag _ _ _ _ _) 1;have e2:aH (World.drewN (iI N (w.heap.size+1) (.int .i64 a.ix) (.int .i64 a.tag) (.slice f t j) (.slice r l u) (.int .i64 q)) 1) w 203 3 km (.slice r l u) Q:=aH.drewN (dZ jr jT ag _ _ _ _ _) 1;have e3:Below w w (World.drewN (iI N (w.heap.size+1) (.int .i64 a.ix) (.int .i64 a.tag) (.slice f t j) (.slice r l u) (.int .i64 q)) 1):=bV (fL cM (cj _) _ _ _ _ _) 1;have Z:R=(a,F,q):=H.loop.symm.trans HX;have xu:=H.len;change bodyPost _ _ _ _ _ (World.drewN (iI N (w.heap.size+1) (.int .i64 a.ix) (.int .i64 a.tag) (.slice f t j) (.slice r l u) (.int .i64 q)) 1);generalize World.drewN (iI N (w.heap.size+1) (.int .i64 a.ix) (.int .i64 a.tag) (.slice f t j) (.slice r l u) (.int .i64 q)) 1=wz at *;have np:=fun i=>af.cell hX i;clear L M GS PH GU d1;subst Z;refine bodyPost_ret (v:=.tuple #[.agg #[.int .i64 a.ix,.int .i64 a.tag,.slice f t j,.slice r l u,.int .i64 q],.bool (a.tag !=0)]) ?_ rfl ?_
   ·simp[results,results203,go_sem,np]
   ·rw[<-xu];exact⟨_,rfl,f,j,r,u,rfl,e1,e2,e3⟩
end
structure PK (w wr:World) (g q:Nat) (x t s:Int) (fr:List Mo.Rf) (ol:List Mo.Od) (f:Mo.Od->Bool) (P0:Array Value) (k:Nat) (vF vO:Value) (LF:List Mo.Rf) (LO:List Mo.Od):Prop where
 blk:af wr g 39 #[x,t,vF,vO,s]
 res:af wr q 39 #[oZ,oZ,oN,oN,oZ]
 par:af wr w 39 P0
 oF:aH wr w 200 2 fI vF LF
 oO:aH wr w 203 3 km vO LO
 lf:LF=fr++((ol.take k).filter f).map (·.ref)
 lo:LO=(ol.take k).filter fun o=> !f o
 ext:Below w w wr
 bO:q<g
 fal:w.heap.size<q
section
variable{w wr w':World} {g q:Nat} {x t s:Int} {fr:List Mo.Rf} {ol:List Mo.Od} {f:Mo.Od->Bool} {P0:Array Value} {k:Nat} {vF vO:Value} {LF:List Mo.Rf} {LO:List Mo.Od}
theorem PK.more(h:PK w wr g q x t s fr ol f P0 k vF vO LF LO)(a:Below wr wr w'):PK w w' g q x t s fr ol f P0 k vF vO LF LO:=⟨h.blk.ai a,h.res.ai a,h.par.ai a,h.oF.ai a,h.oO.ai a,h.lf,h.lo,ai h.ext a,h.bO,h.fal⟩
theorem PK.abK{o:Od}(h:PK w wr g q x t s fr ol f P0 k vF vO LF LO)(u:ol[k]?=some o)(r:f o=true)(hown:aH w4 w 200 2 fI v4 (LF++[o.ref]))(a:wr.grownBy w4 vF.ownBlock) :
 PK w (w4.setCell ⟨g,2,none⟩ v4) g q x t s fr ol f P0 (k+1) v4 vO (LF++[o.ref]) LO:=by
 have c:=h.blk.grown a (aY h.oF h.blk ag)
 have j:=h.res.grown a (aY h.oF h.res ag)
 have i:=h.par.grown a (aY h.oF h.par ag)
 have e:=kI h.oO a (fun b l=>dH h.oO h.oF ag l)
 have m:=h.bO
 have d:=h.fal
 refine⟨c.bj 2 v4,j.bO (p:=⟨g,2,none⟩) (by show q≠g;omega) _,i.bO (p:=⟨g,2,none⟩) (by show w≠g;omega) _,bK hown c ag _ _,bK e c ag _ _,?_,?_,
  (aH.bh h.oF h.ext a (by have:=h.ext.size;omega) (aS _)).setCell (p:=⟨g,2,none⟩) (by show w.heap.size<=g;omega) _,h.bO,h.fal⟩
 ·rw[h.lf,gy u,List.filter_append,List.map_append,List.append_assoc];simp[r]
 ·rw[h.lo,gy u,List.filter_append];simp[r]
theorem PK.left{o:Od}(h:PK w wr g q x t s fr ol f P0 k vF vO LF LO)(u:ol[k]?=some o)(r:f o=false)(hown:aH w4 w 203 3 km v4 (LO++[o]))(a:wr.grownBy w4 vO.ownBlock) :
 PK w (w4.setCell ⟨g,3,none⟩ v4) g q x t s fr ol f P0 (k+1) vF v4 LF (LO++[o]):=by
 have c:=h.blk.grown a (aY h.oO h.blk ag)
 have j:=h.res.grown a (aY h.oO h.res ag)
 have i:=h.par.grown a (aY h.oO h.par ag)
 have e:=kI h.oF a (fun b l=>dH h.oF h.oO ag l)
 have m:=h.bO
 have d:=h.fal
 refine⟨c.bj 3 v4,j.bO (p:=⟨g,3,none⟩) (by show q≠g;omega) _,i.bO (p:=⟨g,3,none⟩) (by show w≠g;omega) _,bK e c ag _ _,bK hown c ag _ _,?_,?_,
  (aH.bh h.oO h.ext a (by have:=h.ext.size;omega) (aS _)).setCell (p:=⟨g,3,none⟩) (by show w.heap.size<=g;omega) _,h.bO,h.fal⟩
 ·rw[h.lf,gy u,List.filter_append];simp[r]
 ·rw[h.lo,gy u,List.filter_append];simp[r]
end
def vT(b:Bool)(w:World)(e:Ending)(a:World):Prop:=e=.returned b/\Below w w a
def PlN(p:Pl)(w:World)(e:Ending)(a:World):Prop:=∃v z,e=.returned (.tuple #[v,z])/\wV p w v a
section
variable(w:World)
theorem Lh:(prog.info? 203).map (fun i=>(i.zero,i.size,i.bytes))=some (some (.agg #[oZ,oZ,oZ]),3,24):=by kernel_rfl
theorem DY(f:FuncId)(hf:f=215\/f=218)(b5:Nat)(test:Od->Bool)(p:Pl)(A:Option Addr)(n:Nat)(B:Option Addr)(m:Nat)(h:PC w p A n B m)(HC:∀(o:Od) (G:World),Below w w G->Calls prog f #[.agg #[o.ref.ix,o.ref.tag,o.gF],.pointer b5] G (vT (test o) G)) :
 Calls prog 214 #[lZ p A n B m,.func (.func f) #[] #[.pointer b5]] w (PlN (lh p test) w):=by
 obtain⟨X,Q,rh,a6,HF⟩:=dh (fun G (F:Below w w G)=>pq G p A n B m (h.below F)) h.Uz h.UA (fun G (F:Below w w G)=>h.rdO.below F) HC
 unfold lZ
 unfold wV lZ at X
 clear h HC
 obtain⟨⟨x,g⟩,N,ol,s⟩:=p
 dsimp only at *
 obtain⟨l,V⟩:=aG ol.length
 obtain⟨k,U⟩:=aG N.length
 rw[<-V, <-U]
 rw[<-U, <-V]at X
 rw[<-U]at Q
 rw[<-V]at rh
 obtain⟨HK,HL⟩:=av U V
 have b8:=rh.Y
 clear V U
 have gK:Below w w ((w.alloc (rD x g A k n B l m s)).alloc vJ):=ak (ak (aj w) _) _
 have a7:af ((w.alloc (rD x g A k n B l m s)).alloc vJ) w 39 _:=(af.new _ _ _).alloc _
 have tQ:af ((w.alloc (rD x g A k n B l m s)).alloc vJ) (w.heap.size+1) 39 _:=af.newAt _ _ _ aD
 rcases hf with rfl|rfl
 all_goals
  go_enter func214,ntmps214;go_wp2_with fail;refine(X _ gK).mono ?_;rintro e w1 ⟨v,rfl,A1,n1,B1,m1,hv,fM,gX,F⟩;subst hv;have vd:=a7.ai F;obtain⟨aB,-,aW⟩:=af.aM vd;have T0:PK w (w1.alloc (rD x g A1 k n1 none 0 0 s)) w1 (w.heap.size+1) x g s N ol test #[x,g,.slice A k n,.slice B l m,s] 0 (.slice A1 k n1) oN N []:=⟨af.new _ _ _,(tQ.ai F).alloc _,vd.alloc _,(fM.bD gK.size).alloc _,aH.nil _ _ _ _ _,aD,aD,ak (ai gK F) _,(tQ.ai F).lt,Nat.lt_succ_self _⟩
  have NC:=ae T0;clear T0 F fM gX X vd;go_wp2;go_loopw[15] (fun i wr=>∃(j:Nat) (vF vO:Value) (c:List Rf) (a:List Od),j<=l/\i=j/\c.length<=100000+j/\a.length<=j/\Hid (PK w wr w1 (w.heap.size+1) x g s N ol test #[x,g,.slice A k n,.slice B l m,s] j vF vO c a)) (fun i _=>l-(intOf i).toNat);case atStart=>exact⟨0,_,_,N,[],aV _,rfl,by have:=Q.Y;have:=HK.Y;omega,aS _,NC⟩
  case round =>
   obtain⟨j,vF,vO,c,a,hj,rfl,cd,cn,H⟩:=hrel;clear aB aW;by_cases bo:j<l
   ·obtain⟨ad,o,hA,(HO:Hid _),hcell⟩:=dI.at_ tP ag (a6 wr H.ext) (i:=j) (by rw[<-HL.Y];exact bo);have c0:=hcell 0 _ rfl;have c1:=hcell 1 _ rfl;have c2:=hcell 2 _ rfl;simp only[add_zero]at c0;rw[add_lit _ _ ag]at c1 c2;subst hA;clear hcell;have Y:=ae (HF o _ (ak H.ext (.cells #[o.ref.ix,o.ref.tag,o.gF] 203)));rcases d:test o with _|_
    ·rw[d]at Y;have Li:=ae d;clear d;go_wp2_with fail;refine Y.mono ?_;rintro e W ⟨rfl,b⟩;have q:=H.more (ai (ak (aj wr) (.cells #[o.ref.ix,o.ref.tag,o.gF] 203)) b);have M:=(af.new wr 203 #[o.ref.ix,o.ref.tag,o.gF]).ai b;obtain⟨r,u,D⟩:=q.oF.shape;obtain⟨t,y,E⟩:=q.oO.shape;subst D;subst E;obtain⟨S,-,a8⟩:=af.aM M;obtain⟨Z,T,Fj⟩:=af.aM q.blk;have bz:=q.ext.size;obtain⟨I,aq⟩:=av q M;clear q M b c0 c1 c2;go_wp2_with(at_builtin;refine cG _ rfl _ _ 37 rfl w 203 3 24 (.agg #[oZ,oZ,oZ]) km tP yu underlying37 Lh rfl ag _ a rfl (I.oO.alloc _) W 1 1 [o] rfl rfl ?c4 ?c5 ?c6 ?c7 ?_)
     case c4=>exact Rd.lit W (km o) _
     case c5=>simp;omega
     case c6=>simp;omega
     case c7=>simp;omega
     intro v4 w4 J K L;obtain⟨A4,c4,C⟩:=J.shape;rw[eW,gL]at C;subst C;have lC:=ae ((I.more (ak (aj W) (.cells #[o.ref.ix,o.ref.tag,o.gF] 203))).left HO Li J K);have z:=(I.blk.alloc (.cells #[o.ref.ix,o.ref.tag,o.gF] 203)).grown K (aY (I.oO.alloc (.cells #[o.ref.ix,o.ref.tag,o.gF] 203)) (I.blk.alloc (.cells #[o.ref.ix,o.ref.tag,o.gF] 203)) ag);obtain⟨Aa,Ab,-⟩:=af.aM z;clear J K L Z T S;go_wp2;go_roundw;case rel=>exact⟨j+1,_,_,_,_,aa,by go_num,aa,by simp;omega,lC⟩
     case measure=>simp[intOf];omega
    ·rw[d]at Y;have Li:=ae d;clear d;go_wp2_with fail;refine Y.mono ?_;rintro e W ⟨rfl,b⟩;have q:=H.more (ai (ak (aj wr) (.cells #[o.ref.ix,o.ref.tag,o.gF] 203)) b);have M:=(af.new wr 203 #[o.ref.ix,o.ref.tag,o.gF]).ai b;obtain⟨r,u,D⟩:=q.oF.shape;obtain⟨t,y,E⟩:=q.oO.shape;subst D;subst E;obtain⟨S,-,a8⟩:=af.aM M;obtain⟨Z,T,Fj⟩:=af.aM q.blk;have bz:=q.ext.size;obtain⟨I,aq⟩:=av q M;clear q M b c0 c1 c2;go_wp2;go_region_law(first
      |(go_simp;go_at_call 240;refine(KE _ o.ref.ix o.ref.tag).mono ?_;rintro e w3 ⟨rfl,R⟩;have O:=I.more (ai (bV (n:=1) (aj W)) R);have bY:=fun i=>af.cell O.blk i;have b6:=fun i=>af.free O.blk i;have b7:=O.blk.lt;have Ox:=O.ext.size;have P:=ae O;clear O R;go_wp2_with fail)
      |(refine mh rfl _ _ 36 rfl w 200 2 16 (.agg #[oZ,oZ]) fI oo u7 underlying36 sr rfl ag _ c rfl ?_ w3 1 1 [o.ref] rfl rfl ?_ ?_ ?_ ?_ ?_;(exact P.oF.alloc _);(exact Rd.lit w3 (fI o.ref) _);(simp;omega);(simp;omega);(simp;omega);intro v4 w4 J K L;clear L;obtain⟨A4,c4,C⟩:=J.shape;rw[eW,gL]at C;subst C;have z:=(P.blk.alloc (.cells #[o.ref.ix,o.ref.tag] 200)).grown K (aY (P.oF.alloc (.cells #[o.ref.ix,o.ref.tag] 200)) (P.blk.alloc (.cells #[o.ref.ix,o.ref.tag] 200)) ag);have Aa:=fun i=>af.cell z i;have Ab:=fun i=>af.free z i;go_wp2_with fail))
     all_goals
      have lC:=ae ((P.more (ak (aj w3) (.cells #[o.ref.ix,o.ref.tag] 200))).abK HO Li J K);clear J K z;go_wp2;go_roundw;case rel=>exact⟨j+1,_,_,_,_,aa,by go_num,by simp;omega,aa,lC⟩
      case measure=>simp[intOf];omega
   ·have Ac:l=j:=aa;subst Ac;obtain⟨r,u,D⟩:=H.oF.shape;obtain⟨t,y,E⟩:=H.oO.shape;subst D;subst E;obtain⟨Z,-,Fj⟩:=af.aM H.blk;obtain⟨aB,-,aW⟩:=af.aM H.par;obtain⟨dR,dK,dN⟩:=af.aM H.res;have PJ:=H.bO;go_wp2;go_region;all_goals
     go_wp2_with fail;have hX:=(ja H.res x g (.slice r c.length u) (.slice t a.length y) s).drewN 1;have e1:aH (World.drewN (iI wr (w.heap.size+1) x g (.slice r c.length u) (.slice t a.length y) s) 1) w 200 2 fI (.slice r c.length u) c:=aH.drewN (dZ H.oF H.res ag _ _ _ _ _) 1;have e2:aH (World.drewN (iI wr (w.heap.size+1) x g (.slice r c.length u) (.slice t a.length y) s) 1) w 203 3 km (.slice t a.length y) a:=aH.drewN (dZ H.oO H.res ag _ _ _ _ _) 1;have e3:Below w w (World.drewN (iI wr (w.heap.size+1) x g (.slice r c.length u) (.slice t a.length y) s) 1):=bV (fL H.ext (cj _) _ _ _ _ _) 1;have hB:lh ⟨⟨x,g⟩,N,ol,s⟩ test=⟨⟨x,g⟩,c,a,s⟩:=by have q1:=H.lf;have q2:=H.lo;rw[List.take_of_length_le (by have:=HL.Y;omega)]at q1 q2;rw[q1,q2];rfl
     change bodyPost _ _ _ _ _ (World.drewN (iI wr (w.heap.size+1) x g (.slice r c.length u) (.slice t a.length y) s) 1);generalize World.drewN (iI wr (w.heap.size+1) x g (.slice r c.length u) (.slice t a.length y) s) 1=wz at *;have np:=fun i=>af.cell hX i;clear Z Fj aB aW dR dK dN;rw[hB];refine bodyPost_ret (v:=.tuple #[.agg #[x,g,.slice r c.length u,.slice t a.length y,s],((l:Int)-(a.length:Int))]) ?_ rfl ?_
     ·simp[results,results214,go_sem,np]
     ·exact⟨_,_,rfl,r,u,t,y,rfl,e1,e2,e3⟩
end
section
variable(w:World)
theorem Lj(A:Option Addr)(m:Nat)(a:List Int)(n:Nat)(o:n=a.length)(p:bJ w .u64 A a)(q:n<=100000)(v:Int) :
 Calls prog 241 #[.slice A n m,.int .u64 v] w fun e w'=>e=.returned (jC (fun x=>v==x) a)/\w=w':=by
 obtain⟨HN,HR⟩:=av o p
 clear o p
 go_enter func241,ntmps241
 go_wp2
 go_loop[5,8] (fun _ i=>∃k:Nat,k<=n/\i=k/\Hid (∀(j:Nat) (y),j<k->a[j]?=some y->(fun x=>v==x) y=false)) (fun _ i=>n-(intOf i).toNat)
 case atStart=>exact⟨0,aV _,rfl,fun j _ h=>absurd h (Nat.not_lt_zero _)⟩
 case round=>exact abL
theorem Cm(v:Int)(o:List Int):o.any (fun x=>v==x)=o.contains v:=by
 induction o with
 |nil=>rfl
 |cons a l b=>rw[List.any_cons,b,Bool.eq_iff_iff];simp
theorem Cn(A:Option Addr)(m:Nat)(a:List Int)(n:Nat)(o:n=a.length)(q:bJ w .u64 A a)(s:n<=100000)(v:Int) :
 Calls prog 219 #[.slice A n m,.int .u64 v] w fun e w'=>e=.returned (a.contains v)/\w=w':=by
 obtain⟨HI,HA⟩:=av (Lj w A m a n o q s v) (lW (fun x=>v==x) a)
 generalize jC (fun x=>v==x) a=r at HI HA
 clear o q
 go_enter func219,ntmps219
 exact Xk
theorem PL(s g:Int)(o:-4611686018427387904<=g/\g<=4611686018427387904):Calls prog 216 #[s,g] w fun e w'=>e=.returned (Mo.past s g)/\w=w':=by
 have a:Hid (Mo.past s g=decide (0<=s/\2<=g/\s<=g-2)):=rfl;generalize Mo.past s g=b at a ⊢;by_cases c:0<=s
 ·by_cases d:2<=g
  ·by_cases f:s<=g-2
   ·have hb:b=true:=by rw[a.Y];exact eE ⟨c,d,f⟩
    exact Xl
   ·have hb:b=false:=by rw[a.Y];exact bU (fun h=>f h.2.2)
    exact Xl
  ·have hb:b=false:=by rw[a.Y];exact bU (fun h=>d h.2.1)
   subst hb;have d2:decide (2<=g)=false:=bU d;exact Xm
 ·have hb:b=false:=by rw[a.Y];exact bU (fun h=>c h.1)
  subst hb;have d1:decide (0<=s)=false:=bU c;exact Xm
theorem Zr(b:Nat)(g:Int)(q:-4611686018427387904<=g/\g<=4611686018427387904)(hc:w.cell? ⟨b,0,none⟩=some g)(s:b<w.heap.size)(o:Od) :
 Calls prog 215 #[.agg #[o.ref.ix,o.ref.tag,o.gF],.pointer b] w (vT (Mo.past o.gF g) w):=by
 have a:=ae (PL (w.alloc (.cells #[o.ref.ix,o.ref.tag,o.gF] 203)) o.gF g q)
 clear q
 generalize Mo.past o.gF g=r at a ⊢
 go_enter func215,ntmps215
 go_wp2_with fail
 refine a.mono ?_
 rintro e c ⟨rfl,rfl⟩
 go_wp2
 go_ret
 exact⟨rfl,ak (aj w) _⟩
theorem Zs(b:Nat)(A:Option Addr)(n m:Nat)(s:List Int)(y:n=s.length)(u:n<=100000)(q:bJ w .u64 A s)(hc:w.cell? ⟨b,0,none⟩=some (.slice A n m))(t:b<w.heap.size)(o:Od) :
 Calls prog 218 #[.agg #[o.ref.ix,o.ref.tag,o.gF],.pointer b] w (vT (!s.contains (bF o.ref)) w):=by
 obtain⟨f,a⟩:=av (fun d (t:Below w w d)=>Cn d A m s n y (q.below t) u (bF o.ref)) (fun d=>gI d o.ref.ix o.ref.tag)
 clear y u q
 obtain⟨r,q⟩:∃r,r=s.contains (bF o.ref):=⟨_,rfl⟩
 obtain⟨v,h⟩:∃v,v=bF o.ref:=⟨_,rfl⟩
 have i:bF ⟨o.ref.ix,o.ref.tag⟩=v:=h.symm
 rw[<-q]at f ⊢
 rw[<-h]at f
 rw[i]at a
 clear q h i
 go_enter func218,ntmps218
 go_wp2_with fail
 have j:Below w w (w.alloc (.cells #[o.ref.ix,o.ref.tag,o.gF] 203)).drew:=(ak (aj w) _).drew
 go_region_law(first
  |(go_simp;go_at_call 103;(with_reducible go_fit (a.Y _));rintro e x ⟨rfl,g⟩;have c:=ai j g;have k:=(c.cell (p:=⟨b,0,none⟩) t).trans hc;have l:=ltW c t;go_wp2_with fail)
  |(go_simp;go_at_call 219;(with_reducible go_fit (f.Y _ c));rintro e z ⟨rfl,rfl⟩;go_wp2_with fail))
 all_goals
  go_wp2;go_ret;exact⟨rfl,c⟩
theorem vU(p:Pl)(A:Option Addr)(n:Nat)(B:Option Addr)(m:Nat)(g:Int)(Q:-4611686018427387904<=g/\g<=4611686018427387904)(h:PC w p A n B m) :
 Calls prog 177 #[lZ p A n B m,g] w (PlN (eU p g) w):=by
 obtain⟨J,O⟩:=av (fun E (a:Below w w E) U=>DY E 215 (.inl rfl) (w.heap.size+1) (fun o=>Mo.past o.gF g) p A n B m (h.below a) U) (fun E hc a o=>Zr E (w.heap.size+1) g Q hc a o)
 clear h Q
 unfold eU
 generalize lh p (fun o=>Mo.past o.gF g)=p' at *
 unfold lZ at *
 obtain⟨⟨x,t⟩,fr,ol,s⟩:=p
 dsimp only at *
 obtain⟨k,H⟩:=aG fr.length
 obtain⟨l,I⟩:=aG ol.length
 rw[<-H, <-I]at J ⊢
 clear H I
 have F:Below w w (((w.alloc (rD x t A k n B l m s)).alloc (.cells #[g] 3)).alloc vJ):=ak (ak (ak (aj w) _) _) _
 have L:af (((w.alloc (rD x t A k n B l m s)).alloc (.cells #[g] 3)).alloc vJ) (w.heap.size+1) 3 _:=(af.newAt _ _ _ aD).alloc _
 have R:af (((w.alloc (rD x t A k n B l m s)).alloc (.cells #[g] 3)).alloc vJ) (w.heap.size+1+1) 39 _:=af.newAt _ _ _ aD
 go_enter func177,ntmps177
 go_wp2_with fail
 go_fit (J _ F ?hc)
 case hc=>exact fun o E a=>O E (by rw[a.cell (p:=⟨w.heap.size+1,0,none⟩) aD,L.cell];rfl) (bL L.lt a.size) o
 rintro e S ⟨v,z,rfl,c,r,d,q,hv,M,N,a⟩
 subst hv
 obtain⟨⟨D,t2⟩,P,G,C⟩:=p'
 unfold lZ
 dsimp only at *
 obtain⟨u,f⟩:=aG P.length
 obtain⟨y,j⟩:=aG G.length
 rw[<-f]at M
 rw[<-j]at N
 rw[<-f, <-j]
 obtain⟨V,W⟩:=av f j
 clear f j
 have u9:=R.ai a
 obtain⟨Z,X,Y⟩:=af.aM u9
 obtain⟨kL,ft,T,K⟩:=bN (M.bD F.size) (N.bD F.size) (ai F a) u9
 clear M N a F R L u9 J O
 go_wp2_with fail
 have hX:=ja K D t2 (.slice c u r) (.slice d y q) C
 have np:=fun i=>af.cell hX i
 have e1:aH _ w 200 2 fI (.slice c u r) P:=dZ kL K ag D t2 (.slice c u r) (.slice d y q) C
 have e2:aH _ w 203 3 km (.slice d y q) G:=dZ ft K ag D t2 (.slice c u r) (.slice d y q) C
 have e3:=fL T (b:=w.heap.size+1+1) aa D t2 (.slice c u r) (.slice d y q) C
 change bodyPost _ _ _ _ _ (iI S (w.heap.size+1+1) D t2 (.slice c u r) (.slice d y q) C)
 generalize iI S (w.heap.size+1+1) D t2 (.slice c u r) (.slice d y q) C=wz at *
 clear Z X Y
 refine bodyPost_ret (v:=.tuple #[.agg #[D,t2,.slice c u r,.slice d y q,C],z]) ?_ rfl ?_
 ·simp[results,results177,go_sem,np]
 ·have H:=V.Y;have I:=W.Y;subst H I;exact⟨_,z,rfl,c,r,d,q,rfl,e1,e2,e3⟩
theorem DZ(p:Pl)(A:Option Addr)(n:Nat)(B:Option Addr)(m:Nat)(D:Option Addr)(y I:Nat)(H:List Int)(T:y=H.length)(V:y<=100000)(U:bJ w .u64 D H)(h:PC w p A n B m) :
 Calls prog 181 #[lZ p A n B m,.slice D y I] w (PlN (lU p H) w):=by
 obtain⟨M,R⟩:=av (fun E (a:Below w w E) Z=>DY E 218 (.inr rfl) (w.heap.size+1) (fun o=> !H.contains (bF o.ref)) p A n B m (h.below a) Z) (fun E (TL:Below w w E) hc a o=>Zs E (w.heap.size+1) D y I H T V (U.below TL) hc a o)
 clear h T V U
 unfold lU
 generalize lh p (fun o=> !H.contains (bF o.ref))=p' at *
 unfold lZ at *
 obtain⟨⟨x,t⟩,fr,ol,s⟩:=p
 dsimp only at *
 obtain⟨k,K⟩:=aG fr.length
 obtain⟨l,L⟩:=aG ol.length
 rw[<-K, <-L]at M ⊢
 clear K L
 have G:Below w w (((w.alloc (rD x t A k n B l m s)).alloc (.cells #[.slice D y I] 43)).alloc vJ):=ak (ak (ak (aj w) _) _) _
 have O:af (((w.alloc (rD x t A k n B l m s)).alloc (.cells #[.slice D y I] 43)).alloc vJ) (w.heap.size+1) 43 _:=(af.newAt _ _ _ aD).alloc _
 have W:af (((w.alloc (rD x t A k n B l m s)).alloc (.cells #[.slice D y I] 43)).alloc vJ) (w.heap.size+1+1) 39 _:=af.newAt _ _ _ aD
 go_enter func181,ntmps181
 go_wp2_with fail
 go_fit (M _ G ?hc)
 case hc=>exact fun o E a=>R E (ai G a) (by rw[a.cell (p:=⟨w.heap.size+1,0,none⟩) aD,O.cell];rfl) (bL O.lt a.size) o
 rintro e X ⟨v,z,rfl,c,q,d,j,hv,P,Q,a⟩
 subst hv
 obtain⟨⟨F,t2⟩,S,J,C⟩:=p'
 unfold lZ
 dsimp only at *
 obtain⟨r,f⟩:=aG S.length
 obtain⟨u,g⟩:=aG J.length
 rw[<-f]at P
 rw[<-g]at Q
 rw[<-f, <-g]
 obtain⟨HK,HL⟩:=av f g
 clear f g
 have u9:=W.ai a
 obtain⟨dR,dK,dN⟩:=af.aM u9
 obtain⟨kL,ft,Y,N⟩:=bN (P.bD G.size) (Q.bD G.size) (ai G a) u9
 clear P Q a G W O u9 M R
 go_wp2_with fail
 have hX:=ja N F t2 (.slice c r q) (.slice d u j) C
 have np:=fun i=>af.cell hX i
 have e1:aH _ w 200 2 fI (.slice c r q) S:=dZ kL N ag F t2 (.slice c r q) (.slice d u j) C
 have e2:aH _ w 203 3 km (.slice d u j) J:=dZ ft N ag F t2 (.slice c r q) (.slice d u j) C
 have e3:=fL Y (b:=w.heap.size+1+1) aa F t2 (.slice c r q) (.slice d u j) C
 change bodyPost _ _ _ _ _ (iI X (w.heap.size+1+1) F t2 (.slice c r q) (.slice d u j) C)
 generalize iI X (w.heap.size+1+1) F t2 (.slice c r q) (.slice d u j) C=wz at *
 clear dR dK dN
 refine bodyPost_ret (v:=.tuple #[.agg #[F,t2,.slice c r q,.slice d u j,C],z]) ?_ rfl ?_
 ·simp[results,results181,go_sem,np]
 ·have K:=HK.Y;have L:=HL.Y;subst K L;exact⟨_,z,rfl,c,q,d,j,rfl,e1,e2,e3⟩
theorem JK(p:Pl)(A:Option Addr)(n:Nat)(B:Option Addr)(m:Nat) :
 Calls prog 217 #[lZ p A n B m] w fun e w'=>e=.returned (zR p)/\Below w w w':=by
 have a:Hid (zR p=if p.own.tag≠0\/0<p.free.length then 0 else if 0<p.old.length then 6 else 7):=rfl
 generalize zR p=r at *
 unfold lZ
 obtain⟨⟨x,t⟩,c,h,s⟩:=p
 dsimp only at *
 generalize c.length=k at *
 generalize h.length=l at *
 by_cases h1:t=0
 ·have d1:(t !=0)=false:=by rw[h1];rfl
  by_cases d:0<k
  ·have d2:decide ((0:Int)<k)=true:=eE aa;have hr:r=0:=by rw[a.Y,au (.inr d)]
   exact Zu
  ·have f:k=0:=aa;subst f;by_cases b:0<l
   ·have d3:decide ((0:Int)<l)=true:=eE aa;have hr:r=6:=by rw[a.Y,ah aa,au b]
    exact Zu
   ·have g:l=0:=aa;have hr:r=7:=by rw[a.Y,ah aa,ah b]
    clear h1;subst hr g;go_enter func217,ntmps217;exact UD
 ·have d1:(t !=0)=true:=by simpa using h1
  have hr:r=0:=by rw[a.Y,au (.inl h1)]
  exact Zu
theorem ri(p:Pl)(A:Option Addr)(n:Nat)(B:Option Addr)(m:Nat)(a:Int) :
 Calls prog 178 #[lZ p A n B m,a] w fun e w'=>e=.returned (Mo.needs p a)/\Below w w w':=by
 have d:Hid (Mo.needs p a=(decide (0<p.old.length) && (decide (a<=p.old.length) || zR p !=0))):=rfl
 have h:=ae (fun q=>JK q p A n B m)
 generalize Mo.needs p a=r at *
 generalize zR p=y at *
 unfold lZ at *
 obtain⟨⟨x,t⟩,i,o,s⟩:=p
 dsimp only at *
 generalize i.length=k at *
 generalize o.length=l at *
 by_cases f:0<l
 ·have d2:decide ((0:Int)<l)=true:=eE aa;by_cases c:a<=(l:Int)
  ·have d3:decide (a<=(l:Int))=true:=eE c;have b:r=true:=by rw[d.Y];simp[f,c]
   subst b;exact Xn
  ·have d3:decide (a<=(l:Int))=false:=bU c;have b:r=(y !=0):=by rw[d.Y];simp[f,c]
   subst b;go_enter func178,ntmps178;go_wp2_with fail;go_fit (h _);rintro e u ⟨rfl,g⟩;go_wp2;go_ret;exact⟨rfl,ai (ak (aj w) _) g⟩
 ·have j:l=0:=aa;have b:r=false:=by rw[d.Y];simp[f]
  subst b j;exact Xn
end
theorem JL(h:aU c=true):(1<=c.kind/\c.kind<=3)/\(0<=c.cap/\c.cap<=16)/\(0<=c.chans/\c.chans<=8):=by
 obtain⟨_,_,_,_,_,_,b⟩:=aK h;rcases Dr b with a|a|a
 ·obtain⟨d,e,_⟩:=qZ b (.inl a);omega
 ·obtain⟨d,e,_⟩:=qZ b (.inr a);omega
 ·obtain⟨d,e,_⟩:=qb b a;omega
section
variable(w:World)
theorem AU(hc:aU c=true)(o:n=c.start.length)(q:bJ w .i64 A c.start) :
 Calls prog 194 #[.agg #[c.kind,c.threads,c.chans,c.cap,c.nodes,c.aL,c.aF,c.tags,c.bG,c.bt,.slice A n k]] w fun e w'=>e=.returned (eX c)/\Below w w w':=by
 have HC:=ae (gJ (w.alloc (dV c A n k)) hc o (q.alloc _) (k:=k))
 have a:=JL hc
 obtain⟨g,_⟩:=aK hc
 have b:c.chans*(1+c.cap)<=8*17:=Int.le_trans (Int.mul_le_mul_of_nonneg_right a.2.2.2 aa) (Int.mul_le_mul_of_nonneg_left aa ag)
 have f:0<=c.chans*(1+c.cap):=ly a.2.2.1 aa
 obtain⟨r,d⟩:=aG (c.chans*(1+c.cap))
 have h:IntKind.i64.wrap (1+c.cap)=1+c.cap:=cD _ aa
 have j:IntKind.i64.wrap (c.chans*(1+c.cap))=c.chans*(1+c.cap):=cD _ aa
 have l:IntKind.i64.wrap (1+c.chans*(1+c.cap))=1+c.chans*(1+c.cap):=cD _ aa
 have m:IntKind.i64.wrap (c.threads*4)=c.threads*4:=cD _ aa
 have p:IntKind.i64.wrap (1+c.chans*(1+c.cap)+c.threads*4)=1+c.chans*(1+c.cap)+c.threads*4:=cD _ aa
 have HS:Hid (eX c=if c.kind=3 then 1+c.chans*(1+c.cap)+c.threads*4 else 1+c.cap):=by unfold Hid eX;rw[hc];rfl
 clear a g b f d o q hc
 by_cases hk:c.kind=3
 ·have d1:(c.kind==3)=true:=by simpa using hk
  rw[au hk]at HS;exact abM
 ·have d1:(c.kind==3)=false:=by simpa using hk
  rw[ah hk]at HS;exact abM
theorem D1(a:aU c=true):0<=eX c/\eX c<=1000:=by have b:=JL a;obtain⟨f,_⟩:=aK a;have d:c.chans*(1+c.cap)<=8*17:=Int.le_trans (Int.mul_le_mul_of_nonneg_right b.2.2.2 aa) (Int.mul_le_mul_of_nonneg_left aa ag);have e:0<=c.chans*(1+c.cap):=ly b.2.2.1 aa;unfold eX;rw[a];simp only[Bool.true_eq_false,if_false];split<;>omega
theorem yB(a:aU c=true)(o:n=c.start.length)(r:bJ w .i64 A c.start) :
 Calls prog 143 #[.agg #[c.kind,c.threads,c.chans,c.cap,c.nodes,c.aL,c.aF,c.tags,c.bG,c.bt,.slice A n k]] w fun e w'=>e=.returned (bn c)/\Below w w w':=by
 have t:=ae (gJ (w.alloc (dV c A n k)) a o (r.alloc _) (k:=k))
 have m:Hid (bn c=eX c+c.threads):=by unfold Hid bn;rw[a];rfl
 have h:=D1 a
 obtain⟨x,_⟩:=aK a
 have f:=ae (fun w' (d:Below w w w')=>AU w' a o (r.below d) (k:=k))
 generalize eX c=s at m h f
 have B:IntKind.i64.wrap (s+c.threads)=s+c.threads:=cD _ aa
 clear o r a h x
 go_enter func143,ntmps143
 go_wp2_with fail
 refine t.mono ?_
 rintro e b ⟨rfl,d⟩
 have a:∀i,b.cell? ⟨w,i,none⟩=_:=fun i=>d.cell (p:=⟨w,i,none⟩) aD
 have q:w.heap.size<b.heap.size:=by have:=d.size;simp at this;omega
 have l:=ae (Below.trans (ak (aj w) (dV c A n k)) (d.mono aD))
 clear d
 go_wp2_with fail
 have j:Below b b b.drew:=bV (n:=1) (aj b)
 have u:∀i,b.drew.cell? ⟨w,i,none⟩=_:=fun i=>(j.cell (p:=⟨w,i,none⟩) q).trans (a i)
 go_region_law(first
  |(go_simp;go_at_call 194;go_fit (f _ (ai l j));rintro e z ⟨rfl,g⟩;have y:=ai (ai l j) g;have v:∀i,z.cell? ⟨w,i,none⟩=_:=fun i=>(g.cell (p:=⟨w,i,none⟩) q).trans (u i);go_wp2_with fail))
 all_goals
  go_wp2;go_ret;rw[m.Y];exact⟨rfl,y⟩
end
def ej(r:Rs):List Value:=[r.seq,r.cs,r.code,r.value]
theorem cX(r:Rs):(ej r).length=4:=rfl
theorem qs(r:Rs):∀u∈ej r,u.oneCell'=true:=by intro u a;simp[ej]at a;rcases a with rfl|rfl|rfl|rfl<;>rfl
theorem dI.res{q:List Rs}(h:dI w ej A q)(u:i<q.length) :
 ∃a x,A=some a/\q[i]?=some x/\w.cell? (a.add (i*4))=some x.seq/\w.cell? ((a.add (i*4)).add 1)=some x.cs/\w.cell? ((a.add (i*4)).add 2)=some x.code/\w.cell? ((a.add (i*4)).add 3)=some x.value:=by
 obtain⟨a,x,c,d,b⟩:=dI.at_ cX ag h u
 exact⟨a,x,c,d,b 0 _ rfl,b 1 _ rfl,b 2 _ rfl,b 3 _ rfl⟩
def Xr:sU Ch:=fun w S r x=>∃B d,r=[.int .i64 x.gen,.int .i64 x.cap,.bool x.used,.bool x.closed,.slice B x.buf.length d]/\x.buf.length<=d/\dx w S .i64 B x.buf
theorem cP:Good Xr:=⟨fun a ⟨B,d,h1,h2,h3⟩=>⟨B,d,h1,h2,h3.mono a⟩,fun a ⟨B,d,h1,h2,h3⟩=>⟨B,d,h1,h2,h3.same a⟩⟩
def Xs:sU Wt:=fun w S r x=>∃B d,r=[.bool x.on,.int .i64 x.az,.int .i64 x.seq,.slice B x.cases.length d]/\x.cases.length<=d/\dG w S bC B x.cases
theorem aR:Good Xs:=⟨fun a ⟨B,d,h1,h2,h3⟩=>⟨B,d,h1,h2,h3.mono a⟩,fun a ⟨B,d,h1,h2,h3⟩=>⟨B,d,h1,h2,h3.same a⟩⟩
section
variable(w:World)
theorem xw(p:α->Bool)(a:List α):(!(a.any fun x=> !p x))=a.all p:=by
 induction a with
 |nil=>rfl
 |cons x l b=>simp only[List.any_cons,List.all_cons,Bool.not_or,Bool.not_not,b]
theorem yC(A:Option Addr)(m:Nat)(a:List Int)(o:Int)(n:Nat)(q:n=a.length)(r:bJ w .i64 A a)(s:n<=100000) :
 Calls prog 230 #[.slice A n m,o] w fun e w'=>e=.returned (gA a o)/\Below w w w':=by
 have d:Hid (gA a o=(decide ((n:Int)<=o) && !a.any zW)):=by unfold Hid gA;rw[<-q];congr 1;exact(xw (fun x=>kD x 0 4294967295) a).symm
 have HH:=ae (Ou w A m a n q r s)
 rw[d.Y]
 generalize a.any zW=b at HH ⊢
 clear q r d
 by_cases c:(n:Int)<=o
 ·have d1:decide ((n:Int)<=o)=true:=eE c;rw[d1];clear c;go_enter func230,ntmps230;exact Xt
 ·have d1:decide ((n:Int)<=o)=false:=bU c;rw[d1];clear c;go_enter func230,ntmps230;go_wp2;go_ret;exact⟨aD,aj w⟩
end
def rU(r:Rs):Bool:= !ew r
section
variable(w:World)
theorem PM(z:Rs) :
 Calls prog 244 #[.agg #[z.seq,z.cs,z.code,z.value]] w fun e w'=>e=.returned (rU z)/\Below w w w':=by
 have c:=ae (xQ (w.alloc (qX z.seq z.cs z.code z.value)) z.seq z.cs z.code z.value)
 go_enter func244,ntmps244
 go_wp2_with fail
 refine c.mono ?_
 rintro e d ⟨rfl,a⟩
 have b:=ae (ai (ak (aj w) _) a)
 clear a
 go_wp2
 go_ret
 exact⟨rfl,b⟩
theorem Lk(z:Rs)(a:World)(_:Below w w a) :
 Calls prog 244 #[.agg #[z.seq,z.cs,z.code,z.value]] a fun e w2=>e=.returned (rU z)/\Below a a w2:=PM a z
theorem PN(A:Option Addr)(m:Nat)(a:List Rs)(n:Nat)(o:n=a.length)(p:dI w ej A a)(u:n<=100000) :
 Calls prog 252 #[.slice A n m,.func (.func 244) #[] #[]] w fun e w'=>e=.returned (jC rU a)/\Below w w w':=by
 obtain⟨HN,b,q⟩:=aZ o p (fun z w' (l:Below w w w')=>Lk w z w' l)
 clear o p
 go_enter func252,ntmps252
 go_wp2
 go_loopw[5,8] (fun _ i wr=>∃k:Nat,k<=n/\i=k/\Hid (Below w w wr)/\Hid (∀(j:Nat) (y),j<k->a[j]?=some y->rU y=false)) (fun _ i _=>n-(intOf i).toNat)
 case atStart=>exact⟨0,aV _,rfl,aj w,fun j _ h=>absurd h (Nat.not_lt_zero _)⟩
 case round =>
  obtain⟨k,t,rfl,HB,HX⟩:=hrel;by_cases hlt:k<n
  ·obtain⟨r,z,g,(HZ:Hid _),s,c,d,f⟩:=dI.res (b.below HB) (i:=k) (by rw[<-HN.Y];exact hlt);subst g;rw[add_lit _ _ ag]at c d f;have HC:=ae (q z wr HB);skip;rcases hp:rU z with _|_
   ·exact mk7
   ·exact mk8
  ·exact mk4
theorem PO(A:Option Addr)(m:Nat)(a:List Rs)(n:Nat)(o:n=a.length)(p:dI w ej A a)(q:n<=100000) :
 Calls prog 243 #[.slice A n m,.func (.func 244) #[] #[]] w fun e w'=>e=.returned (a.any rU)/\Below w w w':=by
 obtain⟨HI,HA⟩:=av (PN w A m a n o p q) (lW rU a)
 generalize jC rU a=r at HI HA
 clear o p
 go_enter func243,ntmps243
 exact Zv
end
section
variable(w:World)
theorem D4(A:Option Addr)(m:Nat)(o:List Rs)(a:Int)(n:Nat)(q:n=o.length)(r:dI w ej A o)(s:n<=100000) :
 Calls prog 223 #[.slice A n m,a] w fun e w'=>e=.returned (lO o a)/\Below w w w':=by
 have d:Hid (lO o a=(decide ((n:Int)=a) && !o.any rU)):=by unfold Hid lO;rw[<-q];congr 1;exact(xw ew o).symm
 have HH:=ae (PO w A m o n q r s)
 rw[d.Y]
 generalize o.any rU=b at HH ⊢
 clear q r d
 by_cases c:(n:Int)=a
 ·have d0:((n:Int)==a)=true:=by simpa using c
  have d1:decide ((n:Int)=a)=true:=eE c;rw[d1];clear c;go_enter func223,ntmps223;exact Xt
 ·have d0:((n:Int)==a)=false:=by simpa using c
  have d1:decide ((n:Int)=a)=false:=bU c;rw[d1];clear c;go_enter func223,ntmps223;go_wp2;go_ret;exact⟨aD,aj w⟩
end
section
variable(w:World)
theorem D5(c:bA)(A:Option Addr)(k n:Nat)(x:Ch)(B:Option Addr)(a d:Nat)(o:a=x.buf.length)(p:a<=100000)(q:bJ w .i64 B x.buf) :
 Calls prog 226 #[.agg #[c.kind,c.threads,c.chans,c.cap,c.nodes,c.aL,c.aF,c.tags,c.bG,c.bt,.slice A n k],.agg #[x.gen,x.cap,x.used,x.closed,.slice B a d]] w fun e w'=>e=.returned (k8 c x)/\Below w w w':=by
 obtain⟨HI1,HI2,HV⟩:=aZ (oU ((w.alloc (dV c A n k)).alloc (tz x B a d)) x.gen 0 4095) (oU ((w.alloc (dV c A n k)).alloc (tz x B a d)) x.cap 0 c.cap) (yC ((w.alloc (dV c A n k)).alloc (tz x B a d)) B d x.buf x.cap a o ((q.alloc _).alloc _) p)
 have h:Hid (k8 c x=(kD x.gen 0 4095 && kD x.cap 0 c.cap && gA x.buf x.cap && (x.used || (!x.closed && x.cap==0)))):=rfl
 rw[h.Y]
 obtain⟨s,i⟩:∃b,b=kD x.gen 0 4095:=⟨_,rfl⟩
 obtain⟨t,j⟩:∃b,b=kD x.cap 0 c.cap:=⟨_,rfl⟩
 obtain⟨u,l⟩:∃b,b=gA x.buf x.cap:=⟨_,rfl⟩
 rw[<-i]at HI1 ⊢
 rw[<-j]at HI2 ⊢
 rw[<-l]at HV ⊢
 have mn:Hid (Below w w ((w.alloc (dV c A n k)).alloc (tz x B a d))):=ak (ak (aj w) _) _
 have HK:Hid (af ((w.alloc (dV c A n k)).alloc (tz x B a d)) (w.heap.size+1) 83 #[x.gen,x.cap,x.used,x.closed,.slice B a d]):=af.newAt (w.alloc (dV c A n k)) _ _ aD
 obtain⟨y,g,f,closed,v⟩:=x
 dsimp only at HI1 HI2 HV HK mn ⊢
 clear i j l h o q p
 rcases s with _|_
 ·go_enter func226,ntmps226;exact Xu
 rcases t with _|_
 ·go_enter func226,ntmps226;exact Xv
 rcases u with _|_
 ·go_enter func226,ntmps226;go_wp2_with fail;refine HI1.mono ?_;rintro e r ⟨rfl,rfl⟩;go_wp2_with fail;refine HI2.mono ?_;rintro e r ⟨rfl,rfl⟩;go_wp2_with fail;refine HV.mono ?_;rintro e r ⟨rfl,m⟩;have HB:=ae (mn.trans (m.mono (by simp;omega)));clear m;go_wp2;go_ret;exact⟨rfl,HB⟩
 rcases f with _|_
 ·rcases closed with _|_
  ·rcases z:(g==0)with _|_
   all_goals
    exact Zw
  ·exact Zw
 ·exact Zw
end
def SP(c:bA)(x:Ch):Bool:= !k8 c x
def SQ(x:Wt):Bool:= !fU x
theorem PQ(ki ar va:Int)(df:Bool)(cs:List (Int×Int×Int)):bk ki ar va cs=Mo.bk ⟨ki,ar,va,df,cs⟩:=rfl
section
variable(w:World)
theorem PS(x:Wt)(B:Option Addr)(a d:Nat)(o:a=x.cases.length)(F:a<=100000)(u:dI w bC B x.cases) :
 Calls prog 229 #[.agg #[x.on,x.az,x.seq,.slice B a d]] w fun e w'=>e=.returned (fU x)/\Below w w w':=by
 obtain⟨HI1,HI2,f,j⟩:=bN (oU (w.alloc (.cells #[x.on,x.az,x.seq,.slice B a d] 79)) x.az 0 4294967295) (oU (w.alloc (.cells #[x.on,x.az,x.seq,.slice B a d] 79)) x.seq 0 1048575) (oU (w.alloc (.cells #[x.on,x.az,x.seq,.slice B a d] 79)) a 1 3) (mG (w:=(w.alloc (.cells #[x.on,x.az,x.seq,.slice B a d] 79))) (ki:=3) (ar:=0) (va:=0) (df:=false) (A:=B) (c:=d) (cs:=x.cases) aa (u.alloc _))
 rw[PQ 3 0 0 false, <-o]at j
 have m:Hid (fU x=if x.on=false then x.az==0 && x.seq==0 && decide (a=0)else kD x.az 0 4294967295 && kD x.seq 0 1048575 && kD a 1 3 && Mo.bk ⟨3,0,0,false,x.cases⟩):=by unfold Hid;rw[o];rfl
 rw[m.Y]
 obtain⟨y,n⟩:∃b,b=kD x.az 0 4294967295:=⟨_,rfl⟩
 obtain⟨z,p⟩:∃b,b=kD x.seq 0 1048575:=⟨_,rfl⟩
 obtain⟨C,q⟩:∃b,b=kD (a:Int) 1 3:=⟨_,rfl⟩
 obtain⟨E,r⟩:∃b,b=Mo.bk ⟨3,0,0,false,x.cases⟩:=⟨_,rfl⟩
 rw[<-n]at HI1 ⊢
 rw[<-p]at HI2 ⊢
 rw[<-q]at f ⊢
 rw[<-r]at j ⊢
 have mn:Hid (Below w w (w.alloc (.cells #[x.on,x.az,x.seq,.slice B a d] 79))):=ak (aj w) _
 obtain⟨D,l,g,cs⟩:=x
 dsimp only at HI1 HI2 f j mn ⊢
 clear n p q r m o u
 rcases D with _|_
 ·rw[au rfl];by_cases i:l=0;case neg =>
   have d1:(l==0)=false:=by simpa using i
   rw[d1];clear i;exact UE
  have d1:(l==0)=true:=by simpa using i
  rw[d1];by_cases k:g=0;case neg =>
   have d2:(g==0)=false:=by simpa using k
   rw[d2];clear i k;exact UE
  have d2:(g==0)=true:=by simpa using k
  rw[d2];clear i k;by_cases s:a=0
  ·subst s;exact UE
  ·have d3:((a:Int)==0)=false:=by simp;omega
   have d4:decide (a=0)=false:=bU s;rw[d4];exact UE
 ·rw[ah ag];rcases y with _|_
  ·skip;go_enter func229,ntmps229;exact Xu
  rcases z with _|_
  ·skip;go_enter func229,ntmps229;exact Xv
  rcases C with _|_
  ·skip;go_enter func229,ntmps229;go_wp2_with fail;refine HI1.mono ?_;rintro e h ⟨rfl,rfl⟩;go_wp2_with fail;refine HI2.mono ?_;rintro e h ⟨rfl,rfl⟩;go_wp2_with fail;refine f.mono ?_;rintro e h ⟨rfl,rfl⟩;go_wp2;go_ret;exact⟨rfl,mn⟩
  go_enter func229,ntmps229;go_wp2_with fail;refine HI1.mono ?_;rintro e h ⟨rfl,rfl⟩;go_wp2_with fail;refine HI2.mono ?_;rintro e h ⟨rfl,rfl⟩;go_wp2_with fail;refine f.mono ?_;rintro e h ⟨rfl,rfl⟩;go_wp2_with fail;refine j.mono ?_;rintro e h ⟨rfl,t⟩;have v:=ae (ai mn t);clear t;go_wp2;go_ret;exact⟨aD,v⟩
end
section
variable(w:World)
theorem Ll(c:bA)(g:Nat)(A:Option Addr)(k n:Nat)(p:af w g 24 #[c.kind,c.threads,c.chans,c.cap,c.nodes,c.aL,c.aF,c.tags,c.bG,c.bt,.slice A n k])(x:Ch)(B:Option Addr)(a d:Nat)(o:a=x.buf.length)(r:a<=100000)(q:bJ w .i64 B x.buf) :
 Calls prog 225 #[.agg #[x.gen,x.cap,x.used,x.closed,.slice B a d],.pointer g] w fun e w'=>e=.returned (SP c x)/\Below w w w':=by
 have HC:=ae (D5 (w.alloc (tz x B a d)) c A k n x B a d o r (q.alloc _))
 obtain⟨h,-,i⟩:=af.aM p
 have f:Hid (SP c x= !k8 c x):=rfl
 rw[f.Y]
 generalize k8 c x=b at HC ⊢
 clear p q o
 go_enter func225,ntmps225
 exact Xw
theorem Lm(x:Wt)(B:Option Addr)(a d:Nat)(o:a=x.cases.length)(q:a<=100000)(p:dI w bC B x.cases) :
 Calls prog 228 #[.agg #[x.on,x.az,x.seq,.slice B a d]] w fun e w'=>e=.returned (SQ x)/\Below w w w':=by
 have HC:=ae (PS (w.alloc (.cells #[x.on,x.az,x.seq,.slice B a d] 79)) x B a d o q (p.alloc _))
 have c:Hid (SQ x= !fU x):=rfl
 rw[c.Y]
 generalize fU x=b at HC ⊢
 clear p o
 go_enter func228,ntmps228
 exact Xw
end
section
variable(w:World) {c:Mo.bA} {g:Nat} {A0:Option Addr} {k0 n0:Nat} {S:Nat->Prop}
theorem PT(s:af w g 24 #[c.kind,c.threads,c.chans,c.cap,c.nodes,c.aL,c.aF,c.tags,c.bG,c.bt,.slice A0 n0 k0])(F:∀b,S b->b<w.heap.size)(A:Option Addr)(m:Nat)(p:List Ch)(n:Nat)(E:n=p.length)(q:kF 5 Xr w S A p)(D:n<=100000)(o:∀x∈p,x.buf.length<=100000) :
 Calls prog 245 #[.slice A n m,.func (.func 225) #[] #[.pointer g]] w fun e w'=>e=.returned (jC (SP c) p)/\Below w w w':=by
 obtain⟨HN,H,C,G,Q⟩:=dh E q F o (fun(z:Ch) (B:Option Addr) (l d:Nat) (f:l=z.buf.length) (D:l<=100000) (w':World) (O:Below w w w') (q:bJ w' .i64 B z.buf)=>Ll w' c g A0 k0 n0 (s.ai O) z B l d f D q)
 clear E q s F o
 go_enter func245,ntmps245
 go_wp2
 go_loopw[5,8] (fun _ i wr=>∃k:Nat,k<=n/\i=k/\Hid (Below w w wr)/\Hid (∀(j:Nat) (y),j<k->p[j]?=some y->(SP c) y=false)) (fun _ i _=>n-(intOf i).toNat)
 case atStart=>exact⟨0,aV _,rfl,aj w,fun j _ h=>absurd h (Nat.not_lt_zero _)⟩
 case round =>
  obtain⟨k,s,rfl,HB,HX⟩:=hrel;by_cases hlt:k<n
  ·obtain⟨I,z,r,M,t,N,_,a⟩:=kF.at_ ag (H.below cP C HB) (i:=k) (by rw[<-HN.Y];exact hlt);obtain⟨B,d,rfl,P,u⟩:=N;have R:wr.cell? (I.add (k*5))=_:=a 0 _ rfl;have J:=a 1 _ rfl;have K:=a 2 _ rfl;have L:=a 3 _ rfl;have v:=a 4 _ rfl;have o:=G.Y z (dB t);obtain⟨l,f⟩:=aG z.buf.length;rw[<-f]at v o;subst M;rw[add_lit _ _ ag]at J K L v;clear a;have HZ:=ae t;clear t;have HC:=ae (Q z B l d f o wr HB u.1);clear f u P o;rcases hp:(SP c) z with _|_
   ·exact mk7
   ·exact mk8
  ·exact mk4
theorem PU(o:af w g 24 #[c.kind,c.threads,c.chans,c.cap,c.nodes,c.aL,c.aF,c.tags,c.bG,c.bt,.slice A0 n0 k0])(y:∀b,S b->b<w.heap.size)(A:Option Addr)(m:Nat)(a:List Ch)(n:Nat)(q:n=a.length)(s:kF 5 Xr w S A a)(t:n<=100000)(u:∀x∈a,x.buf.length<=100000) :
 Calls prog 224 #[.slice A n m,.func (.func 225) #[] #[.pointer g]] w fun e w'=>e=.returned (a.any (SP c))/\Below w w w':=by
 obtain⟨HI,HA⟩:=av (PT w o y A m a n q s t u) (lW (SP c) a)
 generalize jC (SP c) a=r at HI HA
 clear q s o
 go_enter func224,ntmps224
 exact Zv
end
section
variable(w:World) {S:Nat->Prop}
theorem PV(_hk:True)(D:∀b,S b->b<w.heap.size)(A:Option Addr)(m:Nat)(p:List Wt)(n:Nat)(u:n=p.length)(q:kF 4 Xs w S A p)(t:n<=100000)(o:∀x∈p,x.cases.length<=100000) :
 Calls prog 246 #[.slice A n m,.func (.func 228) #[] #[]] w fun e w'=>e=.returned (jC SQ p)/\Below w w w':=by
 obtain⟨HN,E,v,C,L⟩:=dh u q D o (fun(z:Wt) (B:Option Addr) (f d:Nat) (a:f=z.cases.length) (t:f<=100000) (w':World) (q:dI w' bC B z.cases)=>Lm w' z B f d a t q)
 clear u q _hk D o
 go_enter func246,ntmps246
 go_wp2
 go_loopw[5,8] (fun _ i wr=>∃k:Nat,k<=n/\i=k/\Hid (Below w w wr)/\Hid (∀(j:Nat) (y),j<k->p[j]?=some y->SQ y=false)) (fun _ i _=>n-(intOf i).toNat)
 case atStart=>exact⟨0,aV _,rfl,aj w,fun j _ h=>absurd h (Nat.not_lt_zero _)⟩
 case round =>
  obtain⟨k,N,rfl,HB,HX⟩:=hrel;by_cases hlt:k<n
  ·obtain⟨F,z,r,I,g,J,_,c⟩:=kF.at_ ag (E.below aR v HB) (i:=k) (by rw[<-HN.Y];exact hlt);obtain⟨B,d,rfl,K,l⟩:=J;have M:wr.cell? (F.add (k*4))=_:=c 0 _ rfl;have G:=c 1 _ rfl;have H:=c 2 _ rfl;have s:=c 3 _ rfl;have o:=C.Y z (dB g);obtain⟨f,a⟩:=aG z.cases.length;rw[<-a]at s o;subst I;rw[add_lit _ _ ag]at G H s;clear c;have HZ:=ae g;clear g;have HC:=ae (L z B f d a o wr l.1);clear a l K o;rcases hp:SQ z with _|_
   ·exact mk7
   ·exact mk8
  ·exact mk4
theorem PY(_hk:True)(u:∀b,S b->b<w.heap.size)(A:Option Addr)(m:Nat)(a:List Wt)(n:Nat)(o:n=a.length)(q:kF 4 Xs w S A a)(s:n<=100000)(t:∀x∈a,x.cases.length<=100000) :
 Calls prog 227 #[.slice A n m,.func (.func 228) #[] #[]] w fun e w'=>e=.returned (a.any SQ)/\Below w w w':=by
 obtain⟨HI,HA⟩:=av (PV w _hk u A m a n o q s t) (lW SQ a)
 generalize jC SQ a=r at HI HA
 clear o q _hk
 go_enter func227,ntmps227
 exact Zv
end
section
variable(w:World)
theorem Ln(F:aU c=true)(Q:n=c.start.length)(R:bJ w .i64 A c.start)(h:Hl)(r s t:Option Addr)(a o q u y D:Nat)(H:a=h.chans.length)(I:o=h.waits.length)(Y:q=h.done.length)(E:∀b,S b->b<w.heap.size)(M:kF 5 Xr w S r h.chans)(N:kF 4 Xs w S s h.waits)(O:dI w ej t h.done)(T:a<=100000)(U:o<=100000)(V:q<=100000)(W:∀x∈h.chans,x.buf.length<=100000)(X:∀x∈h.waits,x.cases.length<=100000) :
 Calls prog 195 #[.agg #[c.kind,c.threads,c.chans,c.cap,c.nodes,c.aL,c.aF,c.tags,c.bG,c.bt,.slice A n k],.agg #[h.az,.slice r a u,.slice s o y,.slice t q D]] w fun e w'=>e=.returned (gq c h)/\Below w w w':=by
 obtain⟨JM,UF,HD,HFC,HFW⟩:=dh (gJ ((w.alloc (dV c A n k)).alloc (uB h.az r a u s o y t q D)) F Q ((R.alloc _).alloc _) (k:=k)) (fun w'=>oU w' h.az 0 4294967295) (fun w' (hb:Below w w w')=>D4 w' t D h.done c.threads q Y (O.below hb) V) (fun w' (hb:Below w w w') (hk:af w' w 24 #[c.kind,c.threads,c.chans,c.cap,c.nodes,c.aL,c.aF,c.tags,c.bG,c.bt,.slice A n k])=>PU w' hk (fun b v=>bL (E b v) hb.size) r u h.chans a H (M.below cP E hb) T W) (fun w' (hb:Below w w w')=>PY w' trivial (fun b v=>bL (E b v) hb.size) s y h.waits o I (N.below aR E hb) U X)
 have B:Hid (gq c h=(true && (c.kind==3) && kD h.az 0 4294967295 && decide ((a:Int)=c.chans) && decide ((o:Int)=c.threads) && lO h.done c.threads && (!h.chans.any (SP c)) && (!h.waits.any SQ))):=by
  unfold Hid gq;rw[F,H,I];congr 1
  ·congr 1;exact(xw (k8 c) h.chans).symm
  ·exact(xw fU h.waits).symm
 rw[B.Y]
 obtain⟨b1,C⟩:∃b,b=kD h.az 0 4294967295:=⟨_,rfl⟩
 obtain⟨b2,G⟩:∃b,b=lO h.done c.threads:=⟨_,rfl⟩
 obtain⟨b3,J⟩:∃b,b=h.chans.any (SP c):=⟨_,rfl⟩
 obtain⟨b4,K⟩:∃b,b=h.waits.any SQ:=⟨_,rfl⟩
 rw[<-C]at UF ⊢
 rw[<-G]at HD ⊢
 rw[<-J]at HFC ⊢
 rw[<-K]at HFW ⊢
 have mn:Hid (Below w w ((w.alloc (dV c A n k)).alloc (uB h.az r a u s o y t q D))):=ak (ak (aj w) _) _
 have jc:Hid (af ((w.alloc (dV c A n k)).alloc (uB h.az r a u s o y t q D)) w 24 #[c.kind,c.threads,c.chans,c.cap,c.nodes,c.aL,c.aF,c.tags,c.bG,c.bt,.slice A n k]):=(af.new w _ _).alloc _
 have fY:Hid (af ((w.alloc (dV c A n k)).alloc (uB h.az r a u s o y t q D)) (w.heap.size+1) 71 #[h.az,.slice r a u,.slice s o y,.slice t q D]):=af.newAt (w.alloc (dV c A n k)) _ _ aD
 obtain⟨az,chans,z,done⟩:=h
 dsimp only at JM UF mn jc fY ⊢
 clear C G J K B H I Y M N O T U V W X Q R F E
 by_cases d:c.kind=3
 case neg =>
  have d1:(c.kind==3)=false:=by simpa using d
  have Z:(c.kind !=3)=true:=by simpa using d
  rw[d1];clear d;go_enter func195,ntmps195;go_wp2_with fail;refine JM.mono ?_;rintro e j ⟨rfl,hb⟩;have lR:=jc.ai hb;have iR:=fY.ai hb;obtain⟨hc0,-,hz0⟩:=af.aM lR;obtain⟨hc1,-,hz1⟩:=af.aM iR;obtain⟨HK,br⟩:=av lR (ai mn hb);clear hb lR iR;go_wp2;go_ret;exact⟨aD,br⟩
 have d1:(c.kind==3)=true:=by simpa using d
 have Z:(c.kind !=3)=false:=by simpa using d
 rw[d1]
 clear d
 rcases b1 with _|_
 ·skip;exact Zx
 by_cases f:(a:Int)=c.chans
 case neg =>
  have d2:((a:Int) !=c.chans)=true:=by simpa using f
  rw[bU f];clear f;exact Zx
 have d2:((a:Int) !=c.chans)=false:=by simpa using f
 rw[eE f]
 clear f
 by_cases g:(o:Int)=c.threads
 case neg =>
  have d3:((o:Int) !=c.threads)=true:=by simpa using g
  rw[bU g];clear g;exact Zx
 have d3:((o:Int) !=c.threads)=false:=by simpa using g
 rw[eE g]
 clear g
 have aq:∀(L:Fn) (first m:Array Value) (w:World),(Instr.makeFunc L first m).run prog w=.ok (.func L first m) w:=fun _ _ _ _=>rfl
 rcases b2 with _|_
 ·skip;go_enter func195,ntmps195;go_wp2_with fail;refine JM.mono ?_;rintro e j ⟨rfl,hb⟩;have lR:=jc.ai hb;have iR:=fY.ai hb;obtain⟨hc0,-,hz0⟩:=af.aM lR;obtain⟨hc1,-,hz1⟩:=af.aM iR;obtain⟨HK,br⟩:=av lR (ai mn hb);clear hb lR iR;go_wp2_with fail;go_fit (UF j);rintro e w9 ⟨rfl,rfl⟩;go_wp2_with fail;go_fit (HD j br);rintro e l ⟨rfl,hb⟩;have wW:∀i,l.cell? ⟨w,i,none⟩=_:=fun i=>(hb.cell (p:=⟨w,i,none⟩) hz0).trans (hc0 i);have wX:∀i,l.cell? ⟨w.heap.size+1,i,none⟩=_:=fun i=>(hb.cell (p:=⟨w.heap.size+1,i,none⟩) hz1).trans (hc1 i);have HK:=ae (HK.ai hb);exact abN
 rcases b3 with _|_
 case true=>skip;go_enter func195,ntmps195;go_wp2_with fail;refine JM.mono ?_;rintro e j ⟨rfl,hb⟩;have lR:=jc.ai hb;have iR:=fY.ai hb;obtain⟨hc0,-,hz0⟩:=af.aM lR;obtain⟨hc1,-,hz1⟩:=af.aM iR;obtain⟨HK,br⟩:=av lR (ai mn hb);clear hb lR iR;go_wp2_with fail;go_fit (UF j);rintro e w9 ⟨rfl,rfl⟩;go_wp2_with fail;go_fit (HD j br);rintro e l ⟨rfl,hb⟩;have wW:∀i,l.cell? ⟨w,i,none⟩=_:=fun i=>(hb.cell (p:=⟨w,i,none⟩) hz0).trans (hc0 i);have wX:∀i,l.cell? ⟨w.heap.size+1,i,none⟩=_:=fun i=>(hb.cell (p:=⟨w.heap.size+1,i,none⟩) hz1).trans (hc1 i);have HK:=ae (HK.ai hb);have hz0:=bL hz0 hb.size;have hz1:=bL hz1 hb.size;have bE:=ae (ai br hb);clear hb hc0 hc1;have hc0:=wW;have hc1:=wX;clear wW wX;go_wp2_with fail;go_fit (HFC l bE HK);rintro e P ⟨rfl,hb⟩;have D6:∀i,P.cell? ⟨w,i,none⟩=_:=fun i=>(hb.cell (p:=⟨w,i,none⟩) hz0).trans (hc0 i);have D7:∀i,P.cell? ⟨w.heap.size+1,i,none⟩=_:=fun i=>(hb.cell (p:=⟨w.heap.size+1,i,none⟩) hz1).trans (hc1 i);have HK:=ae (HK.ai hb);have hz0:=bL hz0 hb.size;have hz1:=bL hz1 hb.size;have cM:=ae (ai bE hb);clear hb hc0 hc1;have hc0:=D6;have hc1:=D7;clear D6 D7;go_wp2;go_ret;exact⟨aD,cM⟩
 rcases b4 with _|_
 ·exact abO
 ·exact abO
end
section
variable(w:World)
theorem Lo(u:aU c=true)(E:n=c.start.length)(F:bJ w .i64 A c.start)(h:Cl)(q r:Option Addr)(a o s t:Nat)(J:a=h.list.length)(K:o=h.done.length)(y:bJ w .i64 q h.list)(D:dI w ej r h.done)(H:a<=100000)(I:o<=100000) :
 Calls prog 200 #[.agg #[c.kind,c.threads,c.chans,c.cap,c.nodes,c.aL,c.aF,c.tags,c.bG,c.bt,.slice A n k],.agg #[h.cap,.slice q a s,.slice r o t]] w fun e w'=>e=.returned (nZ c h)/\Below w w w':=by
 obtain⟨JM,Lp,HD⟩:=aZ (gJ ((w.alloc (dV c A n k)).alloc (mi h.cap q a s r o t)) u E ((F.alloc _).alloc _) (k:=k)) (fun w' (hb:Below w w w')=>yC w' q s h.list c.cap a J (y.below hb) H) (fun w' (hb:Below w w w')=>D4 w' r t h.done c.threads o K (D.below hb) I)
 have l:Hid (nZ c h=(true && (c.kind !=3) && (h.cap==c.cap) && gA h.list c.cap && lO h.done c.threads)):=by unfold Hid nZ;rw[u]
 rw[l.Y]
 obtain⟨z,m⟩:∃b,b=gA h.list c.cap:=⟨_,rfl⟩
 obtain⟨B,v⟩:∃b,b=lO h.done c.threads:=⟨_,rfl⟩
 rw[<-m]at Lp ⊢
 rw[<-v]at HD ⊢
 have mn:Hid (Below w w ((w.alloc (dV c A n k)).alloc (mi h.cap q a s r o t))):=ak (ak (aj w) _) _
 have jc:Hid (af ((w.alloc (dV c A n k)).alloc (mi h.cap q a s r o t)) w 24 #[c.kind,c.threads,c.chans,c.cap,c.nodes,c.aL,c.aF,c.tags,c.bG,c.bt,.slice A n k]):=(af.new w _ _).alloc _
 have fY:Hid (af ((w.alloc (dV c A n k)).alloc (mi h.cap q a s r o t)) (w.heap.size+1) 119 #[h.cap,.slice q a s,.slice r o t]):=af.newAt (w.alloc (dV c A n k)) _ _ aD
 obtain⟨d,list,done⟩:=h
 dsimp only at JM mn jc fY ⊢
 clear m v l J K y D H I E F u
 by_cases f:c.kind=3
 ·have j:(c.kind !=3)=false:=by simpa using f
  rw[j];clear f;exact abP
 have j:(c.kind !=3)=true:=by simpa using f
 rw[j]
 clear f
 by_cases g:d=c.cap
 case neg =>
  have d2:(d==c.cap)=false:=by simpa using g
  rw[d2];clear g;exact abP
 have d2:(d==c.cap)=true:=by simpa using g
 rw[d2]
 clear g
 rcases z with _|_
 ·skip;go_enter func200,ntmps200;go_wp2_with fail;refine JM.mono ?_;rintro e C ⟨rfl,hb⟩;have lR:=jc.ai hb;have iR:=fY.ai hb;obtain⟨hc0,-,hz0⟩:=af.aM lR;obtain⟨hc1,-,hz1⟩:=af.aM iR;have br:=ae (ai mn hb);clear hb lR iR;go_wp2_with fail;go_fit (Lp C br);rintro e x ⟨rfl,hb⟩;have wW:∀i,x.cell? ⟨w,i,none⟩=_:=fun i=>(hb.cell (p:=⟨w,i,none⟩) hz0).trans (hc0 i);have wX:∀i,x.cell? ⟨w.heap.size+1,i,none⟩=_:=fun i=>(hb.cell (p:=⟨w.heap.size+1,i,none⟩) hz1).trans (hc1 i);exact abN
 rcases B with _|_
 ·exact abQ
 ·exact abQ
theorem yD(b:Bool):Calls prog 198 #[b] w fun e w'=>e=.returned (.int .u64 (Mo.flag b))/\w=w':=by
 rcases b with _|_
 all_goals
  go_enter func198,ntmps198;go_wp2;go_ret;exact⟨rfl,rfl⟩
theorem o7(b:Bool):0<=Mo.flag b/\Mo.flag b<=1:=by cases b<;>decide
theorem PZ(x:Ch)(B:Option Addr)(o d:Nat)(q:o=x.buf.length)(r:0<=x.gen/\x.gen<=4095)(s:0<=x.cap/\x.cap<=15)(t:o<=15) :
 Calls prog 197 #[.agg #[x.gen,x.cap,x.used,x.closed,.slice B o d]] w fun e w'=>e=.returned (.int .u64 (rP x))/\Below w w w':=by
 have i:Hid (rP x=x.gen+x.cap*4096+Mo.flag x.used*65536+Mo.flag x.closed*131072+(o:Int)*1048576):=by unfold Hid;rw[q];rfl
 rw[i.Y]
 have j:=o7 x.used;have c:=o7 x.closed
 obtain⟨h,g⟩:=av (fun w'=>yD w' x.used) (fun w'=>yD w' x.closed)
 obtain⟨f1,k⟩:∃f,f=Mo.flag x.used:=⟨_,rfl⟩
 obtain⟨f2,l⟩:∃f,f=Mo.flag x.closed:=⟨_,rfl⟩
 rw[<-k]at j h ⊢
 rw[<-l]at c g ⊢
 obtain⟨b,a,m,closed,n⟩:=x
 dsimp only at r s h g ⊢
 clear k l i q
 have p:IntKind.u64.wrap b=b:=by simp only[iW];omega
 have u:IntKind.u64.wrap a=a:=by simp only[iW];omega
 have v:IntKind.u64.wrap (a*4096)=a*4096:=by simp only[iW];omega
 have y:IntKind.u64.wrap (f1*65536)=f1*65536:=by simp only[iW];omega
 have z:IntKind.u64.wrap (f2*131072)=f2*131072:=by simp only[iW];omega
 have A:IntKind.u64.wrap (o:Int)=o:=by simp only[iW];omega
 have C:IntKind.u64.wrap ((o:Int)*1048576)=(o:Int)*1048576:=by simp only[iW];omega
 have D:bits BinOp.or IntKind.u64 b (a*4096)=b+a*4096:=mF 12 _ _ aa aa aa aa aa aa
 have E:bits BinOp.or IntKind.u64 (b+a*4096) (f1*65536)=b+a*4096+f1*65536:=mF 16 _ _ aa aa aa aa aa aa
 have F:bits BinOp.or IntKind.u64 (b+a*4096+f1*65536) (f2*131072)=b+a*4096+f1*65536+f2*131072:=mF 17 _ _ aa aa aa aa aa aa
 have G:bits BinOp.or IntKind.u64 (b+a*4096+f1*65536+f2*131072) ((o:Int)*1048576)=b+a*4096+f1*65536+f2*131072+(o:Int)*1048576:=mF 20 _ _ aa aa aa aa aa aa
 clear r s t j c
 go_enter func197,ntmps197
 go_wp2_with fail
 go_quiet((go_at_call 198;first|exact r7 (h _)|exact r7 (g _)))
 go_wp2
 go_ret
 exact⟨rfl,bV (ak (aj w) _) _⟩
theorem Lq(l:List Int)(k:Nat):k9 l (k+1)=k9 l k++[if k<l.length then l.getD k 0 else 0]:=by
 unfold k9;by_cases h:k<l.length
 ·rw[au h,show k+1-l.length=0 by omega,show k-l.length=0 by omega];simp only[List.replicate_zero,List.append_nil];rw[gy (cY h),cZ,cY h];rfl
 ·rw[ah h,List.take_of_length_le aa,List.take_of_length_le aa,show k+1-l.length=(k-l.length)+1 by omega,List.replicate_succ',List.append_assoc]
theorem lx(l:List Int)(k:Nat):(k9 l k).length=k:=by unfold k9;rw[eW,fF,gp];omega
def rW(w o:World)(v a:Value):Prop:=(∀b,b<w.heap.size->some b≠v.ownBlock->o.heap[b]?=w.heap[b]?)/\(a.ownBlock=v.ownBlock\/∃g,a.ownBlock=some g/\w.heap.size<=g)/\w.heap.size<=o.heap.size
theorem rW.refl(w:World)(v:Value):rW w w v v:=⟨fun _ _ _=>rfl,.inl rfl,aS _⟩
theorem rW.step{w p:World}{o r:Value}(h:rW w wr v o)(q:Below wr wr p)(s:p.grownBy w2 o.ownBlock)(a:r.ownBlock=o.ownBlock\/r.ownBlock=some p.heap.size):rW w w2 v r:=by
 obtain⟨i,c,j⟩:=h;refine⟨fun b f d=>?_,?_,bq j (bq q.size s.size)⟩
 ·rw[s.block b (by have:=q.size;omega) ?_,q.block b aa,i b f d];rcases c with c|⟨g,c,k⟩
  ·rw[c];exact d
  ·rw[c];intro e;injection e with e;omega
 ·rcases a with a|a
  ·rw[a];exact c
  ·exact .inr ⟨_,a,by have:=q.size;omega⟩
def P2(k:IntKind)(e:TypeId)(base:Nat)(v:Value)(L:List Int)(w:World)(p:Ending)(o:World):Prop:=(∃a,p=.returned a/\aJ o base e k a L/\rW w o v a)/\Below base w o
theorem D8{w:World}(a:Below base w w'):Sm (fun b=>b<base) w w':=fun b h=>a.block b h
theorem UG(base:Nat)(v:Value)(L:List Int)(s:aJ w base 44 .u64 v L)(W:base<=w.heap.size)(J:L.length<=100000)(B:Option Addr)(l:List Int)(d p n:Nat)(q:p=l.length)(y:dx w (fun b=>b<base) .i64 B l)(V:p<=100000)(T:n<=1000)(r:∀z∈l,0<=z/\z<18446744073709551616) :
 Calls prog 196 #[v,.slice B p d,n] w (P2 .u64 44 base v (L++k9 l n) w):=by
 obtain⟨F,t,G⟩:=aZ y q r
 obtain⟨D,H,rfl⟩:=s.shape
 have x:=ae s
 obtain⟨A,a⟩:=aG L.length
 rw[<-a]at J x ⊢
 have E:=ae a
 clear y q r s a
 go_enter func196,ntmps196
 go_wp2
 go_loopw[0,7,8,10] (fun o _ _ i wr=>∃k:Nat,k<=n/\i=k/\Hid (aJ wr base 44 .u64 o (L++k9 l k))/\Hid (Below base w wr)/\Hid (rW w wr (.slice D A H) o)) (fun _ _ _ i _=>n-(intOf i).toNat)
 case atStart=>refine⟨0,aV _,rfl,?_,Below.refl _ _,rW.refl _ _⟩;show aJ _ _ _ _ _ _;have e:k9 l 0=[]:=List.eq_nil_of_length_eq_zero (lx l 0);rw[e,List.append_nil];exact x.Y
 case round =>
  obtain⟨k,S,rfl,HO,HB,HGR⟩:=hrel;have O:=HB.size;by_cases N:k<n
  ·have g:=Lq l k;have f:=lx l k;obtain⟨M,h⟩:=aG (L++k9 l k);have K:M.length=A+k:=by rw[h,eW,f,E.Y]
   rw[<-h]at HO;obtain⟨u,C⟩:=av h g;clear h g f;by_cases c:k<p
   ·obtain⟨Q,z,I,j,R⟩:=bJ.at_ (dx.same (D8 HB) F).1 (i:=k) (by rw[<-t.Y];exact c);subst I;have m:=G.Y z (dB j);have U:IntKind.u64.wrap z=z:=by simp only[iW];omega
    have d1:decide ((k:Int)<(p:Int))=true:=eE aa;have HE:Hid (L++k9 l (k+1)=M++[z]):=by unfold Hid;rw[C.Y,au (by rw[<-t.Y];exact c),cZ,j,u.Y,List.append_assoc];rfl
    clear j m;go_wp2_with(at_builtin;refine cH _ rfl _ _ 43 rfl base 44 .u64 underlying43 iy _ M rfl (HO.alloc _) wr 1 1 [z] rfl rfl (bJ.one _ .u64 z _) ?c4 ?c5 ?_)
    case c4=>simp;omega
    case c5=>simp;omega
    exact abR
   ·have d1:decide ((k:Int)<(p:Int))=false:=bU aa;have HE:Hid (L++k9 l (k+1)=M++[0]):=by
     unfold Hid;rw[C.Y,ah (by rw[<-t.Y];exact c),u.Y,List.append_assoc]
    go_wp2_with(at_builtin;refine cH _ rfl _ _ 43 rfl base 44 .u64 underlying43 iy _ M rfl (HO.alloc _) wr 1 1 [0] rfl rfl (bJ.one _ .u64 0 _) ?c6 ?c7 ?_)
    case c6=>simp;omega
    case c7=>simp;omega
    exact abR
  ·have P:k=n:=aa;subst P;go_wp2;go_ret;exact⟨⟨_,rfl,HO,HGR⟩,HB⟩
end
attribute [local go_sem ↓] Go.wp_at_zero Go.wp_at_succ
theorem map_take{β:Type}(f:α->β){l:List α}(h:l[k]?=some z):(l.take (k+1)).map f=(l.take k).map f++[f z]:=by rw[gy h,List.map_append];rfl
theorem aJ.abS(w:World)(e:TypeId)(k:IntKind)(z:Int):aJ (w.alloc (.cells #[.int k z] e)) w e k (.slice w 1 1) [z]:=World.ownsRow_lit w #[.int k z] 1 (aS _) (by unfold maxLen;omega) rfl
section
variable(w:World)
theorem vX(base:Nat)(v:Value)(L:List Int)(u:aJ w base 44 .u64 v L)(o9:base<=w.heap.size)(V:L.length<=100000)(B:Option Addr)(l:List Rs)(d n:Nat)(D:n=l.length)(E:dG w (fun b=>b<base) ej B l)(lK:n<=1000) :
 Calls prog 199 #[v,.slice B n d] w (P2 .u64 44 base v (L++l.map fG) w):=by
 obtain⟨O,y⟩:=av E D
 obtain⟨J,C,rfl⟩:=u.shape
 have A:=ae u
 obtain⟨H,a⟩:=aG L.length
 rw[<-a]at V A ⊢
 have N:=ae a
 clear E D u a
 go_enter func199,ntmps199
 go_wp2
 go_loopw[0,6,9] (fun o _ i wr=>∃k:Nat,k<=n/\i=k/\Hid (aJ wr base 44 .u64 o (L++(l.take k).map fG))/\Hid (Below base w wr)/\Hid (rW w wr (.slice J H C) o)) (fun _ _ i _=>n-(intOf i).toNat)
 case atStart=>refine⟨0,aV _,rfl,?_,Below.refl _ _,rW.refl _ _⟩;show aJ _ _ _ _ _ _;rw[List.take_zero,List.map_nil,List.append_nil];exact A.Y
 case round =>
  obtain⟨k,hk,rfl,r,j,c⟩:=hrel;have Y:=j.size;by_cases t:k<n
  ·obtain⟨ad,z,U,F,C,R,S,T⟩:=dI.res (dG.same (D8 j) O).1 (i:=k) (by rw[<-y.Y];exact t);subst U;rw[add_lit _ _ ag]at R S T;obtain⟨M,q⟩:=aG (L++(l.take k).map fG);have W:M.length<=H+k:=by rw[q,eW,cW,fF,N.Y];omega
   rw[<-q]at r;have x:Hid (L++(l.take (k+1)).map fG=M++[fG z]):=by unfold Hid;rw[map_take _ F,q,List.append_assoc]
   have m:=ae (r9 (wr.alloc (qX z.seq z.cs z.code z.value)) z.seq z.cs z.code z.value);rw[show FV z.seq z.cs z.code z.value=fG z from rfl]at m;generalize fG z=I at m x;clear F q;go_wp2_with fail;refine m.mono ?_;rintro e w1 ⟨rfl,g⟩;have p:=ae (ai (ak (aj wr) (qX z.seq z.cs z.code z.value)) g);have G:=ae (r.ai p);have X:=p.size;clear g m;go_wp2_with(at_builtin;refine cH _ rfl _ _ 43 rfl base 44 .u64 underlying43 iy _ M rfl (G.alloc _) w1 1 1 [I] rfl rfl (bJ.one _ .u64 I _) ?c4 ?c5 ?_)
   case c4=>simp;omega
   case c5=>simp;omega
   intro v' w2 hown' s f;have Q:=ae (c.step (p.alloc aa _) s (by simpa using f));have h:=(G.alloc _).bh ((j.trans (p.mono aa)).alloc aa _) s (by simp;omega) (aS _);obtain⟨K,P⟩:=av hown' h;clear hown' s h f;go_wp2;go_roundw;case rel=>exact⟨k+1,aa,by go_num,by rw[x.Y];exact K.Y,P,Q⟩
   case measure=>simp[intOf];omega
  ·have Z:k=n:=aa;subst Z;go_wp2;go_ret;have e:L++l.map fG=L++(l.take k).map fG:=by rw[tv y.Y (aS _)]
   rw[e];exact⟨⟨_,rfl,r,c⟩,j⟩
theorem GV(o:gq c h=true){x:Ch}(a:x∈h.chans):(0<=x.gen/\x.gen<=4095)/\(0<=x.cap/\x.cap<=c.cap/\c.cap<=8)/\((x.buf.length:Int)<=x.cap)/\(0<=c.cap)/\∀v∈x.buf,0<=v/\v<=4294967295:=by unfold gq at o;simp only[cA,beq_iff_eq]at o;obtain⟨⟨⟨⟨⟨⟨⟨i,j⟩,m⟩,n⟩,p⟩,q⟩,k⟩,r⟩:=o;have a:=List.all_eq_true.1 k x a;unfold k8 gA at a;simp only[cA,kD,bP,List.all_eq_true]at a;obtain⟨_,_,_,_,_,_,l⟩:=aK i;obtain⟨_,d,_⟩:=qb l j;obtain⟨⟨⟨e,b⟩,f,g⟩,_⟩:=a;exact⟨e,⟨b.1,b.2,d.2⟩,f,d.1,g⟩
theorem P3(base:Nat)(v:Value)(L:List Int)(D:aJ w base 44 .u64 v L)(F:base<=w.heap.size)(t:L.length<=100000)(B:Option Addr)(l:List Int)(d a n:Nat)(s:Int)(r:s=n)(o:a=l.length)(y:dx w (fun b=>b<base) .i64 B l)(E:a<=100000)(u:n<=1000)(q:∀z∈l,0<=z/\z<18446744073709551616) :
 Calls prog 196 #[v,.slice B a d,s] w (P2 .u64 44 base v (L++k9 l n) w):=by
 subst r
 exact UG w base v L D F t B l d a n o y E u q
theorem AW{f:α->List Int}(a:∀x,(f x).length=m)(l:List α):(l.flatMap f).length=l.length*m:=by
 induction l with
 |nil=>simp
 |cons x l b=>simp[a,b,Nat.add_mul,Nat.add_comm]
theorem AX(c:bA)(x:Ch):(kE c x).length=1+c.cap.toNat:=by unfold kE;rw[List.length_cons,lx];omega
theorem JN{a:Nat}(o:a<=8)(q:b<=9):a*b+1<=1000:=by have:=Nat.mul_le_mul o q;omega
theorem UI(a:gq c h=true):0<=c.cap/\c.cap<=8:=by unfold gq at a;simp only[cA,beq_iff_eq]at a;obtain⟨⟨⟨⟨⟨⟨⟨b,d⟩,_⟩,_⟩,_⟩,_⟩,_⟩,_⟩:=a;obtain⟨_,_,_,_,_,_,e⟩:=aK b;exact(qb e d).2.1
theorem yE(o:gq c h=true)(a:x∈h.waits):(0<=x.az/\x.az<=4294967295)/\(0<=x.seq/\x.seq<=1048575)/\x.cases.length<=3/\Mo.bk ⟨3,0,0,false,x.cases⟩=true:=by
 unfold gq at o;simp only[cA]at o;have a:=List.all_eq_true.1 o.2 x a;unfold fU at a;split at a
 ·simp only[cA,beq_iff_eq,bP]at a;obtain⟨⟨b,d⟩,e⟩:=a;rw[List.eq_nil_of_length_eq_zero e];exact⟨aa,aa,ag,ag⟩
 ·simp only[cA,kD,bP]at a;obtain⟨⟨⟨b,d⟩,e⟩,f⟩:=a;exact⟨b,d,aa,f⟩
theorem D9(x:Wt)(h:Mo.bk ⟨3,0,0,false,x.cases⟩=true):j8 x=(Mo.flag x.on+x.cases.length*2+x.seq*16+x.az*4294967296)::((iM ⟨3,0,0,false,x.cases⟩ 0).drop 1).take 3:=by
 have a:x.cases.length<=3:=by unfold Mo.bk at h;simp only[cA,bP]at h;exact h.1.2
 unfold j8 iM;rw[h,show Mo.fits 0 4294967296=true by decide];simp only[Bool.and_self,if_true,List.drop_succ_cons,List.drop_zero];congr 1;rw[List.take_left' (by rw[eW,cW,gp];omega)]
theorem AY(a:gq c h=true)(o:x∈h.waits):(j8 x).length=4:=by have:=(yE a o).2.2.1;unfold j8;rw[List.length_cons,eW,cW,gp];omega
theorem yF{f:α->List Int}(l:List α)(a:∀x∈l,(f x).length=m):(l.flatMap f).length=l.length*m:=by
 induction l with
 |nil=>simp
 |cons x l c=>simp[a x (List.mem_cons_self ..),c (fun y b=>a y (List.mem_cons_of_mem _ b)),Nat.add_mul,Nat.add_comm]
theorem Lr{a:List Cs}(h:Mo.bk ⟨3,0,0,false,a⟩=true):(iM ⟨3,0,0,false,a⟩ 0).length=5:=by
 have b:a.length<=3:=by unfold Mo.bk at h;simp only[cA,bP]at h;exact h.1.2
 unfold iM;rw[h,show Mo.fits 0 4294967296=true by decide];simp only[Bool.and_self,if_true,List.length_cons,eW,cW,gp,List.length_nil];omega
theorem P4(a:List Cs):lu 3 0 0 false a 0=iM ⟨3,0,0,false,a⟩ 0:=by unfold lu iM;simp only[cA];rfl
theorem yG(t e:TypeId)(u:P.underlying t=some (.slice e))(s:(P.info? e).map (fun i=>(i.zero,i.size,i.bytes))=some (some (.int .u64 0),1,8))(A:Option Addr)(n c a b:Nat)(X Y:Int)(q:X=(a:Int))(r:Y=(b:Int))(o:a<=b)(y:b<=c)(w:World) :
 (Instr.slice t (.slice A n c) (some X) (some Y) none).run P w=.ok (.slice (ng A c a) (b-a) (c-a)) w:=by
 subst q;subst r
 obtain⟨i,f,_,g,_⟩:=info_parts s
 have h:0<=(a:Int)/\(a:Int)<=(b:Int):=aa
 have d:0<=(b:Int)/\(b:Int)<=(c:Int):=aa
 simp[Instr.slice,Instr.sliceBounds,run_underlying u,sizeOf,typeInfo,f,run_sliceBound_if,d,g,ng,o]
theorem oq(a:gq c h=true):h.chans.length<=8/\(h.waits.length:Int)=c.threads/\(h.done.length:Int)=c.threads/\c.threads<=64:=by unfold gq lO at a;simp only[cA,beq_iff_eq,bP]at a;obtain⟨⟨⟨⟨⟨⟨⟨b,d⟩,k⟩,l⟩,e⟩,f,_⟩,m⟩,n⟩:=a;obtain⟨j,_,_,_,_,_,i⟩:=aK b;obtain⟨g,_⟩:=qb i d;exact⟨aa,e,f,j.2⟩
theorem AZ(f:α->List Int){l:List α}(h:l[k]?=some z):(l.take (k+1)).flatMap f=(l.take k).flatMap f++f z:=by rw[gy h,List.flatMap_append];simp
theorem Ea(hc:aU c=true)(hn:n=c.start.length)(hr:bJ w .i64 A c.start)(h:Hl)(A1 A2 A3:Option Addr)(T U Z m1 m2 m3:Nat)(oK:T=h.chans.length)(uq:U=h.waits.length)(vW:Z=h.done.length)(vV:∀b,S b->b<w.heap.size)(h1:kF 5 Xr w S A1 h.chans)(h2:kF 4 Xs w S A2 h.waits)(h3:dG w S ej A3 h.done)(l1:T<=100000)(l2:U<=100000)(l3:Z<=100000)(l4:∀x∈h.chans,x.buf.length<=100000)(l5:∀x∈h.waits,x.cases.length<=100000) :
 Calls prog 144 #[.agg #[c.kind,c.threads,c.chans,c.cap,c.nodes,c.aL,c.aF,c.tags,c.bG,c.bt,.slice A n k],.agg #[h.az,.slice A1 T m1,.slice A2 U m2,.slice A3 Z m3]] w (uG (lg c h) w):=by
 have HF:=ae (Ln ((w.alloc (dV c A n k)).alloc (uB h.az A1 T m1 A2 U m2 A3 Z m3)) hc hn ((hr.alloc _).alloc _) (k:=k) h A1 A2 A3 T U Z m1 m2 m3 oK uq vW (S:=S) (fun b hs=>by have:=vV b hs;simp;omega) (h1.below cP vV (ak (ak (aj w) _) _)) (h2.below aR vV (ak (ak (aj w) _) _)) ((h3.1.alloc _).alloc _) l1 l2 l3 l4 l5)
 have mn:Hid (Below w w ((w.alloc (dV c A n k)).alloc (uB h.az A1 T m1 A2 U m2 A3 Z m3))):=ak (ak (aj w) _) _
 have jc:Hid (af ((w.alloc (dV c A n k)).alloc (uB h.az A1 T m1 A2 U m2 A3 Z m3)) w 24 #[c.kind,c.threads,c.chans,c.cap,c.nodes,c.aL,c.aF,c.tags,c.bG,c.bt,.slice A n k]):=(af.new w _ _).alloc _
 have fY:Hid (af ((w.alloc (dV c A n k)).alloc (uB h.az A1 T m1 A2 U m2 A3 Z m3)) (w.heap.size+1) 71 #[h.az,.slice A1 T m1,.slice A2 U m2,.slice A3 Z m3]):=af.newAt (w.alloc (dV c A n k)) _ _ aD
 rcases Db:gq c h with _|_
 ·rw[Db]at HF;have H:Hid (lg c h=[]):=by unfold Hid lg;rw[Db];rfl
  rw[H.Y];obtain⟨az,chans,j,done⟩:=h;dsimp only at HF mn jc fY ⊢;clear Db H oK uq vW h1 h2 h3 l1 l2 l3 l4 l5 hn hr hc vV;go_enter func144,ntmps144;exact Xx
 ·rw[Db]at HF;have H:Hid (lg c h=h.az::(h.chans.flatMap (kE c)++h.waits.flatMap j8++h.done.map fG)):=by unfold Hid lg;rw[Db];rfl
  have wY:=ae Db;have ht:0<=h.az/\h.az<=4294967295:=by unfold gq at Db;simp only[cA,kD,bP]at Db;exact Db.1.1.1.1.1.2
  have tw:IntKind.u64.wrap h.az=h.az:=by simp only[iW];omega
  obtain⟨H1,H2,H3,aq,a7,SU⟩:=cT h1 h2 h3 oK uq vW;have AV:=ae vV;rw[H.Y];obtain⟨az,chans,j,done⟩:=h;dsimp only at HF mn jc fY tw H1 H2 H3 aq a7 SU ⊢;clear Db H oK uq vW h1 h2 h3 l4 l5 hn hr hc vV ht;go_enter func144,ntmps144;go_wp2_with fail;refine HF.mono ?_;rintro e D ⟨rfl,q⟩;have HB:=ae (ai mn q);have lR:=jc.ai q;have iR:=fY.ai q;obtain⟨bo,-,e8⟩:=af.aM lR;obtain⟨bz,-,dz⟩:=af.aM iR;obtain⟨Ls,cF⟩:=av lR iR;clear q lR iR jc fY;go_wp2_with fail;have Lt:=aJ.abS D 44 .u64 az;have cv:=ak (aj D) (.cells #[.int .u64 az] 44);generalize e7:D.alloc (.cells #[.int .u64 az] 44)=w2 at Lt cv ⊢;obtain⟨qu,br⟩:=av Lt cv;clear Lt cv e7;go_loopw[5,7,22] (fun o _ i wr=>∃k:Nat,k<=T/\i=k/\Hid (aJ wr D 44 .u64 o (az::(chans.take k).flatMap (kE c)))/\Hid (Below D D wr)) (fun _ _ i _=>T-(intOf i).toNat);case atStart=>exact⟨0,aV _,rfl,qu,br⟩
  case round =>
   obtain⟨k',hk,rfl,V,C⟩:=hrel;have b5:=C.size;have UJ:=ae (ai HB C);have bo:∀i,wr.cell? ⟨w,i,none⟩=_:=fun i=>(C.cell (p:=⟨w,i,none⟩) e8).trans (bo i);have bz:∀i,wr.cell? ⟨w.heap.size+1,i,none⟩=_:=fun i=>(C.cell (p:=⟨w.heap.size+1,i,none⟩) dz).trans (bz i);by_cases eQ:k'<T
   ·obtain⟨ad,z,r,hA,hz,hP,_,s⟩:=kF.at_ ag (H1.below cP AV UJ) (i:=k') (by rw[<-aq.Y];exact eQ);obtain⟨B,d,rfl,hd,Fl⟩:=hP;have c0:wr.cell? (ad.add (k'*5))=_:=s 0 _ rfl;have c1:=s 1 _ rfl;have c2:=s 2 _ rfl;have c3:=s 3 _ rfl;have c4:=s 4 _ rfl;obtain⟨m,t⟩:=aG z.buf.length;rw[<-t]at c4;subst hA;rw[add_lit _ _ ag]at c1 c2 c3 c4;obtain⟨q1,q2,q3,q4,q5⟩:=GV wY (dB hz);rw[<-t]at q3;obtain⟨M,hM⟩:=aG (az::(chans.take k').flatMap (kE c));have eo:M.length<=1000:=by rw[hM,List.length_cons,AW (AX c),fF];have:=aq.Y;have np:=(oq wY).1;dsimp only at np;have:=q2.2.2;exact JN aa aa
    rw[<-hM]at V;have H:Hid (az::(chans.take (k'+1)).flatMap (kE c)=(M++[rP z])++k9 z.buf c.cap.toNat):=by unfold Hid;rw[AZ _ hz,hM];unfold kE;simp
    obtain⟨HH,W⟩:=av (fun a=>PZ a z B m d t q1 aa aa) Fl;obtain⟨cc,dc⟩:∃cc:Nat,c.cap=cc:=⟨c.cap.toNat,aa⟩
    rw[show c.cap.toNat=cc by omega]at H;have e9:cc<=8:=aa;have rH:=ae dc;clear dc;have lD:=ae t;have en:m<=100000:=aa;have rI:=ae q5;obtain⟨J,X⟩:∃hd,hd=rP z:=⟨_,rfl⟩
    rw[<-X]at H HH;clear hM hz s Fl X q1 q2 q3 q4 q5 t;go_wp2_with fail;have UK:=af.new wr 83 #[z.gen,z.cap,z.used,z.closed,.slice B m d];have K:=ak (aj wr) (tz z B m d);generalize cy:(wr.alloc (tz z B m d))=u at UK K ⊢;obtain⟨Xy,I,b8,cC⟩:=bN K (V.ai K) UK (Ls.ai (C.trans (K.mono aa)));obtain⟨l,-,cz⟩:=af.aM UK;have e5:=K.size;have W9:u.cell? ⟨w,3,none⟩=some c.cap:=(K.cell (p:=⟨w,3,none⟩) (by show w.heap.size < _;omega)).trans (bo 3);have dM:w.heap.size<u.heap.size:=aa;have gK:Below u u u.drew:=bV (n:=1) (aj u);obtain⟨fZ,Zz⟩:=av (dx.mono (S':=fun b=>b<D.heap.size) (fun b q=>by have:=AV.Y b q;omega) W) (C.trans (K.mono aa));have N:(fun a:World=>a.cell? ⟨wr,0,none⟩=some z.gen/\a.cell? ⟨wr,1,none⟩=some z.cap/\a.cell? ⟨wr,2,none⟩=some z.used/\a.cell? ⟨wr,3,none⟩=some z.closed/\a.cell? ⟨wr,4,none⟩=some (.slice B m d)/\a.cell? ⟨w,3,none⟩=some c.cap) u:=⟨l 0,l 1,l 2,l 3,l 4,W9⟩
    have Xz:∀(a w2:World),Below a a w2->wr.heap.size<a.heap.size->w.heap.size<a.heap.size->(fun a:World=>a.cell? ⟨wr,0,none⟩=some z.gen/\a.cell? ⟨wr,1,none⟩=some z.cap/\a.cell? ⟨wr,2,none⟩=some z.used/\a.cell? ⟨wr,3,none⟩=some z.closed/\a.cell? ⟨wr,4,none⟩=some (.slice B m d)/\a.cell? ⟨w,3,none⟩=some c.cap) a->(fun a:World=>a.cell? ⟨wr,0,none⟩=some z.gen/\a.cell? ⟨wr,1,none⟩=some z.cap/\a.cell? ⟨wr,2,none⟩=some z.used/\a.cell? ⟨wr,3,none⟩=some z.closed/\a.cell? ⟨wr,4,none⟩=some (.slice B m d)/\a.cell? ⟨w,3,none⟩=some c.cap) w2:=by intro a w2 q l1 l2 h;obtain⟨a0,a1,a2,a3,a4,a5⟩:=h;exact⟨(q.cell (p:=⟨wr,0,none⟩) l1).trans a0,(q.cell (p:=⟨wr,1,none⟩) l1).trans a1,(q.cell (p:=⟨wr,2,none⟩) l1).trans a2,(q.cell (p:=⟨wr,3,none⟩) l1).trans a3,(q.cell (p:=⟨wr,4,none⟩) l1).trans a4,(q.cell (p:=⟨w,3,none⟩) l2).trans a5⟩
    have KB:=ae Xz;have a8:=KB.Y _ _ gK cz dM N;clear Xz cy K UK bo bz c0 c1 c2 c3 c4 W l W9;dsimp only at N a8;go_region_held3(fun a=>a.cell? ⟨wr,0,none⟩=some z.gen/\a.cell? ⟨wr,1,none⟩=some z.cap/\a.cell? ⟨wr,2,none⟩=some z.used/\a.cell? ⟨wr,3,none⟩=some z.closed/\a.cell? ⟨wr,4,none⟩=some (.slice B m d)/\a.cell? ⟨w,3,none⟩=some c.cap) (first|assumption|go_keep)
     (first
     |(go_at_call 197;go_fit (HH _);rintro e wA ⟨rfl,bY⟩;have XA:=ai gK bY;have gM:=XA.size;have cO:=KB.Y _ _ XA cz dM N;dsimp only at cO
       have gP:wr.heap.size<wA.heap.size:=aa
       have gQ:w.heap.size<wA.heap.size:=aa)
     |(refine kH rfl _ _ 43 rfl D 44 .u64 underlying43 iy _ M rfl ((I.ai XA).alloc _) wA 1 1 [J] rfl rfl (bJ.one _ .u64 J _) ?_ ?_ ?_
       ·simp;omega
       ·simp;omega
       intro v4 F bR bg _
       have y:=((I.ai XA).alloc _).bh ((Zz.trans (XA.mono aa)).alloc aa (.cells #[.int .u64 J] 44)) bg (by simp;omega) (aS _)
       have GW:=(b8.ai XA).alloc (.cells #[.int .u64 J] 44)
       have ZA:=(cC.ai XA).alloc (.cells #[.int .u64 J] 44)
       have R:=(I.ai XA).alloc (.cells #[.int .u64 J] 44)
       have Lu:=GW.grown bg (aY R GW ag)
       have ZB:=ZA.grown bg (aY R ZA ag)
       have E:=fun i=>af.cell Lu i
       have cd:=af.cell ZB 3
       have Q:=aY bR Lu ag
       have Ns:=aY bR ZB ag
       have ct:F.cell? ⟨wr,0,none⟩=some z.gen/\F.cell? ⟨wr,1,none⟩=some z.cap/\F.cell? ⟨wr,2,none⟩=some z.used/\F.cell? ⟨wr,3,none⟩=some z.closed/\F.cell? ⟨wr,4,none⟩=some (.slice B m d)/\F.cell? ⟨w,3,none⟩=some c.cap:=⟨E 0,E 1,E 2,E 3,E 4,cd⟩
       have b6:=bg.size
       obtain⟨A4,d4,dg⟩:=bR.shape
       rw[eW,gL]at dg
       subst dg)
     |(go_at_call 196;go_fit (P3 _ D _ (M++[J]) bR y.size (by simp;omega) B z.buf d m cc c.cap rH lD (dx.same (fun b q=>(y.block b q).trans (C.block b q).symm) fZ) en aa (fun v hv=>by have:=rI.Y v hv;omega));rintro e wR ⟨⟨v9,rfl,ZC,df⟩,Ad⟩
       have O:∀g i,g<F.heap.size->some g≠(Value.slice A4 (M.length+1) d4).ownBlock->wR.cell? ⟨g,i,none⟩=F.cell? ⟨g,i,none⟩:=fun g i h1 h2=>(Sm.cell (S:=fun b=>b=g) (fun b q=>by rw[q];exact df.1 g h1 h2) rfl)
       have Y:wr.heap.size<F.heap.size:=by have:=b6;simp at this;omega
       have eF:w.heap.size<F.heap.size:=by have:=b6;simp at this;omega
       have er:wR.cell? ⟨wr,0,none⟩=some z.gen/\wR.cell? ⟨wr,1,none⟩=some z.cap/\wR.cell? ⟨wr,2,none⟩=some z.used/\wR.cell? ⟨wr,3,none⟩=some z.closed/\wR.cell? ⟨wr,4,none⟩=some (.slice B m d)/\wR.cell? ⟨w,3,none⟩=some c.cap:=⟨(O _ _ Y Q).trans (E 0),(O _ _ Y Q).trans (E 1),(O _ _ Y Q).trans (E 2),(O _ _ Y Q).trans (E 3),(O _ _ Y Q).trans (E 4),(O _ _ eF Ns).trans cd⟩))
    obtain⟨BO,UH⟩:=av ZC (y.trans Ad);clear ZC Ad df y bR bg N a8 cO ct er GW ZA R Lu ZB E cd Q Ns;go_wp2;go_roundw;case rel=>exact⟨k'+1,aa,by go_num,by rw[H.Y];exact BO.Y,UH⟩
    case measure=>simp[intOf];omega
   ·have rE:k'=T:=aa;subst rE;have xx:Hid ((chans.take k')=chans):=tv aq (aS _);rw[xx.Y]at V;obtain⟨M1,P5⟩:=aG (az::chans.flatMap (kE c));have fg:M1.length<=1000:=by rw[P5,List.length_cons,AW (AX c)];have np:=(oq wY).1;dsimp only at np;have:=UI wY;exact JN aa aa
    rw[<-P5]at V;have rJ:=ae P5;clear P5;go_wp2_with fail;obtain⟨gS,rfl⟩:∃wo:World,wo=wr:=⟨_,rfl⟩
    go_loopw[5,9,10,40] (fun o _ _ i wr=>∃k:Nat,k<=U/\i=k/\Hid (aJ wr D 44 .u64 o (M1++(j.take k).flatMap j8))/\Hid (Below D D wr)) (fun _ _ _ i _=>U-(intOf i).toNat);case atStart=>exact⟨0,aV _,rfl,by show aJ _ _ _ _ _ _;rw[List.take_zero,List.flatMap_nil,List.append_nil];exact V.Y,C⟩
    case round =>
     clear V C UJ b5;obtain⟨k2,fP,rfl,V,C⟩:=hrel;have b5:=C.size;have UJ:=ae (ai HB C);by_cases tI:k2<U
     ·obtain⟨ad,z,r,hA,hz,hP,_,s⟩:=kF.at_ ag (H2.below aR AV UJ) (i:=k2) (by rw[<-a7.Y];exact tI);obtain⟨B,d,rfl,hd,Fl⟩:=hP;have c0:wr.cell? (ad.add (k2*4))=_:=s 0 _ rfl;have c1:=s 1 _ rfl;have c2:=s 2 _ rfl;have c3:=s 3 _ rfl;obtain⟨m,t⟩:=aG z.cases.length;rw[<-t]at c3;subst hA;rw[add_lit _ _ ag]at c1 c2 c3;obtain⟨q1,q2,q3,q4⟩:=yE wY (dB hz);rw[<-t]at q3;obtain⟨M,hM⟩:=aG (M1++(j.take k2).flatMap j8);have eo:M.length<=2000:=by rw[hM,eW,yF (j.take k2) (fun x hx=>AY wY.Y (List.mem_of_mem_take hx)),fF];have np:=oq wY;dsimp only at np;have:=a7.Y;omega
      rw[<-hM]at V;have cn:=D9 z;rw[<-t]at cn;have H:Hid (M1++(j.take (k2+1)).flatMap j8=(M++[Mo.flag z.on+(m:Int)*2+z.seq*16+z.az*4294967296])++((iM ⟨3,0,0,false,z.cases⟩ 0).drop 1).take 3):=by unfold Hid;rw[AZ _ hz, <-List.append_assoc, <-hM,cn q4,List.append_assoc];rfl
      have lD:=ae t;have Y8:=o7 z.on;have ur:=ae (fun a=>yD a z.on);obtain⟨f1,e1⟩:∃f,f=Mo.flag z.on:=⟨_,rfl⟩
      rw[<-e1]at Y8 ur H;obtain⟨m8,W⟩:=av q4 (dG.mono (S':=fun b=>b<D.heap.size) (fun b q=>by have:=AV.Y b q;have:=HB.size;omega) Fl);have nX:=Lr q4;obtain⟨ZD,L,G,dP⟩:=z;dsimp only at c0 c1 c2 c3 q1 q2 q3 ur H m8 W lD nX;have a1:IntKind.u64.wrap (m:Int)=m:=by simp only[iW];omega
      have a2:IntKind.u64.wrap ((m:Int)*2)=(m:Int)*2:=by simp only[iW];omega
      have a3:IntKind.u64.wrap G=G:=by simp only[iW];omega
      have a4:IntKind.u64.wrap (G*16)=G*16:=by simp only[iW];omega
      have a5:IntKind.u64.wrap L=L:=by simp only[iW];omega
      have a6:IntKind.u64.wrap (L*4294967296)=L*4294967296:=by simp only[iW];omega
      have o1:bits BinOp.or IntKind.u64 f1 ((m:Int)*2)=f1+(m:Int)*2:=mF 1 _ _ aa aa aa aa aa aa;have o2:bits BinOp.or IntKind.u64 (f1+(m:Int)*2) (G*16)=f1+(m:Int)*2+G*16:=mF 4 _ _ aa aa aa aa aa aa;have o3:bits BinOp.or IntKind.u64 (f1+(m:Int)*2+G*16) (L*4294967296)=f1+(m:Int)*2+G*16+L*4294967296:=mF 32 _ _ aa aa aa aa aa aa;obtain⟨J,X⟩:∃hd,hd=f1+(m:Int)*2+G*16+L*4294967296:=⟨_,rfl⟩
      rw[<-X]at H o3;clear hM hz s Fl X q1 q2 q4 t Y8 e1 cn hd;go_wp2_with fail;have UK:=af.new wr 79 #[ZD,L,G,.slice B m d];have K:=ak (aj wr) (.cells #[ZD,L,G,.slice B m d] 79);generalize cy:(wr.alloc (.cells #[ZD,L,G,.slice B m d] 79))=u at UK K ⊢;obtain⟨I,b8⟩:=av (V.ai K) UK;obtain⟨l,-,cz⟩:=af.aM UK;have e5:=K.size;have gK:Below u u u.drew:=bV (n:=1) (aj u);have Zz:=ae (C.trans (K.mono aa));have N:u.cell? ⟨wr,0,none⟩=some ZD/\u.cell? ⟨wr,1,none⟩=some L/\u.cell? ⟨wr,2,none⟩=some G/\u.cell? ⟨wr,3,none⟩=some (.slice B m d):=⟨l 0,l 1,l 2,l 3⟩
      have a8:u.drew.cell? ⟨wr,0,none⟩=some ZD/\u.drew.cell? ⟨wr,1,none⟩=some L/\u.drew.cell? ⟨wr,2,none⟩=some G/\u.drew.cell? ⟨wr,3,none⟩=some (.slice B m d):=⟨l 0,l 1,l 2,l 3⟩
      clear cy K UK c0 c1 c2 c3 l;go_region_held3(fun a=>a.cell? ⟨wr,0,none⟩=some ZD/\a.cell? ⟨wr,1,none⟩=some L/\a.cell? ⟨wr,2,none⟩=some G/\a.cell? ⟨wr,3,none⟩=some (.slice B m d)) (first|assumption|go_keep)
       (first
       |(go_at_call 198;go_fit (ur _);rintro e wA ⟨rfl,rfl⟩)
       |(refine kH rfl _ _ 43 rfl D 44 .u64 underlying43 iy _ M rfl ((I.ai gK).alloc _) u 1 1 [J] rfl rfl (bJ.one _ .u64 J _) ?_ ?_ ?_
         ·simp;omega
         ·simp;omega
         intro v4 F bR bg _
         have y:=((I.ai gK).alloc _).bh ((Zz.trans (gK.mono aa)).alloc (by simp;omega) (.cells #[.int .u64 J] 44)) bg (by simp;omega) (aS _)
         have GW:=(b8.ai gK).alloc (.cells #[.int .u64 J] 44)
         have R:=(I.ai gK).alloc (.cells #[.int .u64 J] 44)
         have Lu:=GW.grown bg (aY R GW ag)
         have E:=fun i=>af.cell Lu i
         have ct:F.cell? ⟨wr,0,none⟩=some ZD/\F.cell? ⟨wr,1,none⟩=some L/\F.cell? ⟨wr,2,none⟩=some G/\F.cell? ⟨wr,3,none⟩=some (.slice B m d):=⟨E 0,E 1,E 2,E 3⟩
         have b6:=bg.size))
      obtain⟨dT,DA⟩:=av bR (xV F 3 0 0 false B d dP 0 (by rw[<-lD.Y];omega) (dG.same (fun b q=>(y.block b q).trans (C.block b q).symm) W).1);rw[P4, <-lD.Y]at DA;have gC:=ae y;have e6:=y.size;generalize iM ⟨3,0,0,false,dP⟩ 0=cw at DA H nX;have fh:wr.heap.size<F.heap.size:=by have:=b6;simp at this;omega
      clear bR bg y N a8 ct GW R Lu;have fJ:=E;go_wp2_with fail;go_fit (DA.mono fun _ _ h=>h.J);rintro e w5 ⟨⟨B5,d5,rfl,ez,SV⟩,ei⟩;rw[nX]at ez ⊢;have Jt:=yG (P:=prog) 43 44 underlying43 iy B5 5 d5 1 4 1 4 rfl rfl ag aa;obtain⟨dU,b7,je⟩:=aZ ((SV.from aa 1).take 3:bJ w5 .u64 (ng B5 d5 1) ((cw.drop 1).take 3)) (dT.ai ei) (gC.trans (ei.mono e6));have gz:=ei.size;go_wp2_with(at_builtin;refine cH _ rfl _ _ 43 rfl D 44 .u64 underlying43 iy _ (M++[J]) rfl ?b1 (ng B5 d5 1) 3 (d5-1) ((cw.drop 1).take 3) rfl ?b0 ?b2 ?b3 ?b4 ?_)
      case b1=>exact b7.Y
      case b0=>rw[fF,ie];omega
      case b2=>exact dU.Y
      case b3=>rw[fF,ie];simp;omega
      case b4=>omega
      intro v6 w6 ea ZE _;have iF:=b7.bh je ZE aa (aS _);have BO:Hid (aJ w6 D 44 .u64 v6 ((M++[J])++(cw.drop 1).take 3)):=by unfold Hid;simpa using ea
      have UH:=ae iF;go_wp2;go_roundw;case rel=>exact⟨k2+1,aa,by go_num,by rw[H.Y];exact BO.Y,UH⟩
      case measure=>simp[intOf];omega
     ·have rE:k2=U:=aa;subst rE;have Fw:Hid ((j.take k2)=j):=tv a7 (aS _);rw[Fw.Y]at V;have b5:=C.size;have iR:=cF.below C dz;have bz:=fun i=>af.cell iR i;have fK:=iR.lt;obtain⟨M2,BP⟩:=aG (M1++j.flatMap j8);have fM:M2.length<=2000:=by rw[BP,eW,yF j (fun x hx=>AY wY.Y hx)];have np:=oq wY;dsimp only at np;omega
      rw[<-BP]at V;have XC:Z<=1000:=by have np:=oq wY;dsimp only at np;have:=SU.Y;omega
      have Co:=ae (vX wr D _ M2 V b5 aa A3 done m3 Z SU (dG.mono (S':=fun b=>b<D.heap.size) (fun b q=>by have:=AV.Y b q;have:=HB.size;omega) (dG.same (fun b q=>(ai HB C).block b (AV b q)) H3)) XC);have ZF:Hid (az::(chans.flatMap (kE c)++j.flatMap j8++done.map fG)=M2++done.map fG):=by unfold Hid;rw[BP,rJ.Y];simp
      go_wp2_with fail;refine Co.mono ?_;rintro e w9 ⟨⟨v9,rfl,ZC,_⟩,Ad⟩;obtain⟨dS,dQ⟩:=av ZC (ai HB (C.trans Ad));go_wp2;go_ret;exact(congrArg (fun z=>uG z w (.returned v9) w9) ZF).mpr (dS.TK dQ HB.size)
end
attribute [local go_sem ↓] Go.wp_at_zero Go.wp_at_succ
theorem Ec{h:Cl}(a:nZ c h=true):((h.list.length:Int)<=c.cap)/\(0<=c.cap/\c.cap<=16)/\(∀v∈h.list,0<=v/\v<=4294967295)/\(h.done.length:Int)=c.threads/\c.threads<=64:=by unfold nZ gA lO at a;simp only[cA,beq_iff_eq,bP,List.all_eq_true,kD]at a;obtain⟨⟨⟨⟨b,i⟩,j⟩,d,e⟩,f,k⟩:=a;obtain⟨g,_⟩:=aK b;exact⟨d,(JL b).2.1,e,f,g.2⟩
section
variable(w:World)
theorem Ed(hc:aU c=true)(hn:n=c.start.length)(hr:bJ w .i64 A c.start)(h:Cl)(r s:Option Addr)(a o t u:Nat)(H:a=h.list.length)(M:o=h.done.length)(vV:∀b,S b->b<w.heap.size)(J:dx w S .i64 r h.list)(K:dG w S ej s h.done)(l1:a<=100000)(l3:o<=100000) :
 Calls prog 146 #[.agg #[c.kind,c.threads,c.chans,c.cap,c.nodes,c.aL,c.aF,c.tags,c.bG,c.bt,.slice A n k],.agg #[h.cap,.slice r a t,.slice s o u]] w (uG (lS c h) w):=by
 have HF:=ae (Lo ((w.alloc (dV c A n k)).alloc (mi h.cap r a t s o u)) hc hn ((hr.alloc _).alloc _) (k:=k) h r s a o t u H M ((J.1.alloc _).alloc _) ((K.1.alloc _).alloc _) l1 l3)
 have mn:Hid (Below w w ((w.alloc (dV c A n k)).alloc (mi h.cap r a t s o u))):=ak (ak (aj w) _) _
 have L:Hid (af ((w.alloc (dV c A n k)).alloc (mi h.cap r a t s o u)) w 24 #[c.kind,c.threads,c.chans,c.cap,c.nodes,c.aL,c.aF,c.tags,c.bG,c.bt,.slice A n k]):=(af.new w _ _).alloc _
 have I:Hid (af ((w.alloc (dV c A n k)).alloc (mi h.cap r a t s o u)) (w.heap.size+1) 119 #[h.cap,.slice r a t,.slice s o u]):=af.newAt (w.alloc (dV c A n k)) _ _ aD
 rcases q:nZ c h with _|_
 ·rw[q]at HF;have y:Hid (lS c h=[]):=by unfold Hid lS;rw[q];rfl
  rw[y.Y];obtain⟨X,list,done⟩:=h;dsimp only at HF mn L I ⊢;clear q y H M J K l1 l3 hn hr hc vV;go_enter func146,ntmps146;exact Xx
 ·rw[q]at HF;obtain⟨q1,q2,q3,q4,q5⟩:=Ec q;obtain⟨j,C⟩:∃j:Nat,c.cap=j:=⟨c.cap.toNat,aa⟩
  have rH:=ae C;have y:Hid (lS c h=([(a:Int)]++k9 h.list j)++h.done.map fG):=by unfold Hid lS;rw[q,H,show c.cap.toNat=j by omega];rfl
  obtain⟨H1,H3,B,SU,G,jT⟩:=cT J K H M vV q3;have bg:a<=16:=aa;have a8:j<=16:=aa;have U:o<=1000:=aa;have e1:IntKind.u64.wrap (a:Int)=a:=by simp only[iW];omega
  generalize lS c h=bo at y ⊢;obtain⟨X,list,done⟩:=h;dsimp only at HF mn L I y H1 H3 B SU jT;clear q H M J K l1 l3 hn hr hc vV q1 q2 q3 q4 q5 C;go_enter func146,ntmps146;go_wp2_with fail;refine HF.mono ?_;rintro e d ⟨rfl,f⟩;have HB:=ae (ai mn f);have lR:=L.ai f;have iR:=I.ai f;obtain⟨l,-,a7⟩:=af.aM lR;obtain⟨g,-,F⟩:=af.aM iR;clear f lR iR L I;have Y:d.cell? ⟨w.heap.size+1,1,none⟩=some (.slice r a t)/\d.cell? ⟨w.heap.size+1,2,none⟩=some (.slice s o u)/\d.cell? ⟨w,3,none⟩=some c.cap:=⟨g 1,g 2,l 3⟩
  have a6:d.drew.cell? ⟨w.heap.size+1,1,none⟩=some (.slice r a t)/\d.drew.cell? ⟨w.heap.size+1,2,none⟩=some (.slice s o u)/\d.drew.cell? ⟨w,3,none⟩=some c.cap:=⟨g 1,g 2,l 3⟩
  have Lt:aJ (d.alloc (.cells #[.int .u64 a] 44)).drew d 44 .u64 (.slice d 1 1) [(a:Int)]:=(aJ.abS d 44 .u64 a).ai (bV (n:=1) (aj _));have XD:dx d (fun b=>b<d.heap.size) .i64 r list:=dx.mono (fun b f=>by have:=G.Y b f;have:=HB.size;omega) (dx.same (fun b f=>HB.block b (G b f)) H1);have mV:dG d (fun b=>b<d.heap.size) ej s done:=dG.mono (fun b f=>by have:=G.Y b f;have:=HB.size;omega) (dG.same (fun b f=>HB.block b (G b f)) H3);obtain⟨R,lX⟩:=av XD mV;have E:∀v∈list,0<=v/\v<18446744073709551616:=fun v hv=>by have:=jT.Y v hv;omega
  have Q:=ae E;have D:([(a:Int)]++k9 list j).length<=100000:=by rw[eW,lx];simp;omega
  have O:=ae D;have V:a<=100000:=aa;have W:j<=1000:=aa;clear XD mV E D;have T:Below d d (d.alloc (.cells #[.int .u64 a] 44)).drew:=bV (n:=1) (ak (aj d) _);have KB:∀m,Below d d m->m.cell? ⟨w.heap.size+1,1,none⟩=some (.slice r a t)/\m.cell? ⟨w.heap.size+1,2,none⟩=some (.slice s o u)/\m.cell? ⟨w,3,none⟩=some c.cap:=fun m f=>⟨(f.cell (p:=⟨w.heap.size+1,1,none⟩) F).trans (g 1),(f.cell (p:=⟨w.heap.size+1,2,none⟩) F).trans (g 2),(f.cell (p:=⟨w,3,none⟩) a7).trans (l 3)⟩
  obtain⟨P6,qu⟩:=av KB Lt;clear KB l g Lt;go_wp2;go_region_held3(fun m=>m.cell? ⟨w.heap.size+1,1,none⟩=some (.slice r a t)/\m.cell? ⟨w.heap.size+1,2,none⟩=some (.slice s o u)/\m.cell? ⟨w,3,none⟩=some c.cap) (first|assumption|go_keep)
   (first
   |(go_at_call 196;go_fit (P3 _ d _ [(a:Int)] qu T.size aD r list t a j c.cap rH B (dx.same (fun b f=>T.block b f) R) V W Q);rintro e wR ⟨⟨v9,rfl,ZC,_⟩,Ad⟩
     have i:=T.trans Ad
     have aq:=P6.Y wR i)
   |(go_at_call 199;go_fit (vX _ d _ ([(a:Int)]++k9 list j) ZC i.size O s done u o SU (dG.same (fun b f=>i.block b f) lX) U);rintro e wQ ⟨⟨v8,rfl,SX,_⟩,Dc⟩
     have x:=i.trans Dc
     have Z:=P6.Y wQ x))
  obtain⟨P,N⟩:=av SX (ai HB x);clear ZC Ad i aq SX Dc x Z Y a6;go_wp2;go_ret;exact(congrArg (fun z=>uG z w (.returned v8) wQ) y).mpr (P.TK N HB.size)
end
def jF(w:World)(S:Nat->Prop)(g:Nat)(l:List Int):Prop:=∃A c,af w g 280 #[.slice A l.length c]/\l.length<=c/\dx w S .u64 A l
def eM(w:World)(S:Nat->Prop)(g:Nat)(l:List Int)(a:World):Prop:=jF a S g l/\(∀b,b<w.heap.size->b≠g->a.heap[b]?=w.heap[b]?)/\Below g w a
theorem jF.lt(h:jF w S g l):g<w.heap.size:=by obtain⟨A,c,h,_⟩:=h;exact h.lt
theorem eM.refl(h:jF w S g l):eM w S g l w:=⟨h,fun _ _ _=>rfl,Below.refl _ _⟩
theorem eM.trans{r:List Int}(h:eM w S g l w1)(k:eM w1 S g r w2):eM w S g r w2:=⟨k.1,fun b a c=>(k.2.1 b (bL a h.2.2.size) c).trans (h.2.1 b a c),h.2.2.trans k.2.2⟩
theorem jF.ext(u:∀b,S b->b<w.heap.size)(r:Below w w w')(h:jF w S g l):jF w' S g l:=by obtain⟨A,c,d,e,f⟩:=h;exact⟨A,c,d.ai r,e,f.same fun b a=>r.block b (u b a)⟩
theorem eM.more(u:∀b,S b->b<w.heap.size)(h:eM w S g l w1)(r:Below w1 w1 w2):eM w S g l w2:=⟨h.1.ext (fun b a=>bL (u b a) h.2.2.size) r,fun b a c=>(r.block b (bL a h.2.2.size)).trans (h.2.1 b a c),h.2.2.trans (r.mono (Nat.le_of_lt h.1.lt))⟩
theorem yH(t e:TypeId)(r:P.underlying t=some (.slice e))(q:(P.info? e).map (fun i=>(i.zero,i.size,i.bytes))=some (some (.int .u64 0),1,8))(A:Option Addr)(n c m:Nat)(X:Int)(o:X=(m:Int))(s:m<=n)(w:World) :
 (Instr.slice t (.slice A n c) (some X) none none).run P w=.ok (.slice (ng A c m) (n-m) (c-m)) w:=by
 subst o
 obtain⟨i,b,_,d,_⟩:=info_parts q
 have a:0<=(m:Int)/\(m:Int)<=(n:Int):=aa
 simp[Instr.slice,Instr.sliceBounds,run_underlying r,sizeOf,typeInfo,b,run_sliceBound_if,a,d,ng]
theorem dx.from{k:IntKind}{c:Nat}(h:dx w S k A zs)(o:zs.length<=c)(m:Nat):dx w S k (ng A c m) (zs.drop m):=by
 refine⟨h.1.from o m,fun f b d=>?_⟩;have e:zs≠[]:=by rintro rfl;simp at d
 unfold ng at b;split at b
 ·exact h.2 f b e
 ·rcases A with _|a
  ·cases b
  ·simp at b;subst b;have g:(a.add m).block=a.block:=by unfold Addr.add;split<;>rfl
   rw[g];exact h.2 a rfl e
section
variable(w:World)
theorem mP(h:jF w S g l)(t:∀b,S b->b≠g)(I:l.length<=100000) :
 Calls prog 258 #[.pointer g] w fun e w'=>e=.returned (.int .u64 (l.getD 0 0))/\eM w S g (l.drop 1) w':=by
 have H:=ae h
 obtain⟨A,c,j,s,m⟩:=h
 obtain⟨f,F,J⟩:=af.aM j
 rcases l with _|⟨x,o⟩
 ·clear j m;dsimp only[List.length_nil]at f;go_enter func258,ntmps258;go_wp2;go_ret;exact⟨rfl,eM.refl H⟩
 ·obtain⟨i,E,d⟩:=m.1 0 (.int .u64 x) rfl;subst E;have C:w.cell? i=some (.int .u64 x):=d;obtain⟨n,k⟩:=aG ((x::o).length);have u:n=o.length+1:=by rw[k];rfl
  rw[<-k]at f s I;have G:=yH (P:=prog) 43 44 underlying43 iy (some i) n c 1 1 rfl aa;have q:(n:Int)≠0:=aa;have K:((n:Int)==0)=false:=by simpa using q
  have D:(0:Int)<n:=aa;obtain⟨v,z,y,a,B⟩:=dh j m k u t;clear j m k d u t;go_enter func258,ntmps258;go_wp2;go_ret;refine⟨rfl,⟨ng (some i) c 1,c-1,?_,?_,?_⟩,fun b _ r=>dp _ _ _ _ r,(Below.refl _ _).setCell (p:=⟨g,0,none⟩) (aS _) _⟩
  ·have:=v.bj 0 (.slice (ng (some i) c 1) (n-1) (c-1));have e:((x::o).drop 1).length=n-1:=by rw[a.Y];simp
   rw[e];exact this
  ·have e:((x::o).drop 1).length=n-1:=by rw[a.Y];simp
   rw[e];omega
  ·exact dx.same (fun b r=>dp _ _ _ _ (B b r)) (z.from (by rw[<-y.Y];exact s) 1)
end
theorem cJ{u:List Value}(h:w.ownsRow base e m v n u)(D:∀b,v.ownBlock=some b->w'.heap[b]?=w.heap[b]?):w'.ownsRow base e m v n u:=by
 obtain⟨i,d⟩:=h;refine⟨i,?_⟩;rcases d with d|⟨f,a,c,g,j,k,r⟩
 ·exact Or.inl d
 ·refine Or.inr ⟨f,a,c,g,j,?_,r⟩;rw[D f (by rw[g];rfl)];exact k
theorem eM.grow{q:Option Nat}(o:g<w.heap.size)(u:∀b,S b->b<w.heap.size)(h:eM w S g l w1)(r:w1.grownBy w2 q)(t:∀b,q=some b->w.heap.size<=b):eM w S g l w2:=by
 obtain⟨⟨A,c,i,j,k⟩,m,f⟩:=h;have d:∀b,b<w.heap.size->w2.heap[b]?=w1.heap[b]?:=fun b d=>r.block b (bL d f.size) (fun e=>by have:=t b e.symm;omega);refine⟨⟨A,c,?_,j,k.same fun b a=>d b (u b a)⟩,fun b a n=>(d b a).trans (m b a n),?_⟩
 ·unfold af at i ⊢;rw[d g o];exact i
 ·exact Below.grown f r (bq (Nat.le_of_lt o) f.size) (fun b e=>by have:=t b e;omega)
theorem Cp{k:IntKind}(h:aJ w base e k v zs):∀b,v.ownBlock=some b->base<=b:=fun _ a=>(aX h a).1
def qw(l:List Int)(s:Int)(k:Nat):List Int:=((l.take k).take s.toNat).map (·%4294967296)
theorem Lv{s:Int}{z:Int}(h:l[k]?=some z):qw l s (k+1)=qw l s k++(if(k:Int)<s then[z%4294967296]else[]):=by unfold qw;exact abV
section
variable(w:World)
theorem P7(h:jF w S g l)(E:∀b,S b->b≠g)(q:∀b,S b->b<w.heap.size)(W:l.length<=100000)(s:Int)(n:Nat)(X:n<=l.length)(F:∀z∈l,0<=z/\z<18446744073709551616) :
 Calls prog 266 #[.pointer (some ⟨g,0,none⟩),.int .i64 s,.int .i64 n] w fun e w'=>∃v,e=.returned v/\aJ w' w 3 .i64 v (qw l s n)/\eM w S g (l.drop n) w':=by
 obtain⟨H,J,G,K⟩:=bN h E q F
 have A:=h.lt
 clear h E q F
 go_enter func266,ntmps266
 go_wp2
 go_loopw[7,8,9,11] (fun o _ _ i wr=>∃k:Nat,k<=n/\i=.int .i64 k/\Hid (aJ wr w 3 .i64 o (qw l s k))/\Hid (eM w S g (l.drop k) wr)) (fun _ _ _ i _=>n-(intOf i).toNat)
 case atStart=>exact⟨0,aV _,rfl,by rw[show qw l s 0=[]by unfold qw;simp];exact aJ.nil _ _ _ _,eM.refl H⟩
 case round =>
  obtain⟨k,V,rfl,c,m⟩:=hrel;by_cases L:k<n
  ·obtain⟨z,u⟩:∃z,l[k]?=some z:=⟨l[k]'aa,cY _⟩
   have d:=K.Y z (dB u);have y:=ae (mP wr m.1 J (by rw[ie];omega));have r:(l.drop k).getD 0 0=z:=by rw[BG u];rfl
   rw[r,List.drop_drop]at y;have T:=BI z d.1 d.2;have U:IntKind.i64.wrap (z%4294967296)=z%4294967296:=cD _ aa;have f:=Lv (s:=s) u;have P:(qw l s k).length<=k:=by unfold qw;rw[cW,fF,fF];omega
   generalize qw l s k=M at f P c;have O:=m.2.2.size;clear u d r;by_cases j:(k:Int)<s
   ·have d1:decide ((k:Int)<s)=true:=eE j;rw[au j]at f;have C:=ae f;clear j f;go_wp2_with fail;refine y.mono ?_;rintro e t ⟨rfl,a⟩;have B:=ae (m.trans a);have x:Hid (aJ t w 3 .i64 _ M):=cJ c (fun b p=>a.2.1 b (aX c p).2 (by have:=Cp c b p;omega));have N:=a.2.2.size;clear a;go_wp2_with(at_builtin;refine cH _ rfl _ _ 22 rfl w 3 .i64 underlying22 mz _ M rfl (x.alloc _) (some ⟨t,0,none⟩) 1 1 [z%4294967296] rfl rfl (bJ.one _ .i64 (z%4294967296) _) ?c4 ?c5 ?_)
    case c4=>simp;omega
    case c5=>simp;omega
    intro Y Z hown' D _;obtain⟨Q,I⟩:=av ((B.more G (ak (aj t) (.cells #[.int .i64 (z%4294967296)] 3))).grow A G D (Cp x)) hown';clear hown' D;go_wp2;go_roundw;case rel=>exact⟨k+1,aa,by go_num,by rw[C.Y];exact I.Y,Q⟩
    case measure=>simp[intOf];omega
   ·have d1:decide ((k:Int)<s)=false:=bU j;rw[ah j,List.append_nil]at f;have C:=ae f;clear j f;go_wp2_with fail;refine y.mono ?_;rintro e t ⟨rfl,a⟩;have B:=ae (m.trans a);have x:Hid (aJ t w 3 .i64 _ M):=cJ c (fun b p=>a.2.1 b (aX c p).2 (by have:=Cp c b p;omega));clear a;go_wp2;go_roundw;case rel=>exact⟨k+1,aa,by go_num,by rw[C.Y];exact x.Y,B⟩
    case measure=>simp[intOf];omega
  ·have R:k=n:=aa;subst R;go_wp2;go_ret;exact⟨_,rfl,c,m⟩
def tS(l:List Int)(k:Nat):List Rs:=(l.take k).map cL
theorem UL:(prog.info? 48).map (fun i=>(i.zero,i.size,i.bytes))=some (some (.agg #[.int .i64 0,.int .i64 0,.int .i64 0,.int .i64 0]),4,32):=by kernel_rfl
theorem tT(h:jF w S g l)(N:∀b,S b->b≠g)(p:∀b,S b->b<w.heap.size)(hl:l.length<=100000)(n:Nat)(hn:n<=l.length)(O:∀z∈l,0<=z/\z<18446744073709551616) :
 Calls prog 261 #[.pointer (some ⟨g,0,none⟩),.int .i64 n] w fun e w'=>∃v,e=.returned v/\aH w' w 48 4 ej v (tS l n)/\eM w S g (l.drop n) w':=by
 obtain⟨H,U,C,V⟩:=bN h N p O
 have B:=h.lt
 clear h N p O
 go_enter func261,ntmps261
 go_wp2
 go_loopw[5,7] (fun o i wr=>∃k:Nat,k<=n/\i=.int .i64 k/\Hid (aH wr w 48 4 ej o (tS l k))/\Hid (eM w S g (l.drop k) wr)) (fun _ i _=>n-(intOf i).toNat)
 case atStart=>exact⟨0,aV _,rfl,aH.nil _ _ _ _ _,eM.refl H⟩
 case round =>
  obtain⟨k,hk,rfl,j,q⟩:=hrel;by_cases X:k<n
  ·obtain⟨z,s⟩:∃z,l[k]?=some z:=⟨l[k]'aa,cY _⟩
   have f:=V.Y z (dB s);have E:=ae (mP wr q.1 U (by rw[ie];omega));have m:(l.drop k).getD 0 0=z:=by rw[BG s];rfl
   rw[m,List.drop_drop]at E;have D:tS l (k+1)=tS l k++[⟨rS z,rC z,rO z,rV z⟩]:=by unfold tS;rw[gy s,List.map_append];rfl
   have jU:(tS l k).length<=k:=by unfold tS;rw[cW,fF];omega
   generalize tS l k=M at D jU j;have Z:=q.2.2.size;obtain⟨R,P⟩:=av D (fun w'=>lq w' z f.1 f.2);obtain⟨u,I⟩:∃a,a=rS z:=⟨_,rfl⟩
   obtain⟨x,J⟩:∃a,a=rC z:=⟨_,rfl⟩
   obtain⟨y,K⟩:∃a,a=rO z:=⟨_,rfl⟩
   obtain⟨A,L⟩:∃a,a=rV z:=⟨_,rfl⟩
   rw[<-I, <-J, <-K, <-L]at P R;clear s f m D I J K L;go_wp2_with fail;refine E.mono ?_;rintro e Q ⟨rfl,d⟩;have iT:=ae (q.trans d);have kL:Hid (aH Q w 48 4 ej _ M):=cJ j (fun b r=>d.2.1 b (aX j r).2 (by have:=(aX j r).1;omega));have Y:=d.2.2.size;clear d;go_wp2_with fail;go_fit (P Q);rintro e t ⟨rfl,c⟩;obtain⟨jh,G⟩:=av (iT.more C c) (kL.ai c);have p:=c.size;clear c;go_wp2_with(at_builtin;refine cG _ rfl _ _ 69 rfl w 48 4 32 (.agg #[.int .i64 0,.int .i64 0,.int .i64 0,.int .i64 0]) ej cX qs underlying69 UL rfl ag _ M rfl ?b1 (some ⟨t,0,none⟩) 1 1 [⟨u,x,y,A⟩] rfl rfl ?b2 ?c4 ?c5 ?c6 ?_)
   case b1=>exact G.ai (ak (aj t) _)
   case b2=>exact Rd.lit t (ej ⟨u,x,y,A⟩) _
   case c4=>simp;omega
   case c5=>simp;omega
   case c6=>simp;omega
   intro v' w3 hown' F _;obtain⟨W,T⟩:=av ((jh.more C (ak (aj t) (qX u x y A))).grow B C F (fun b r=>(aX G r).1)) hown';clear hown' F;go_wp2;go_roundw;case rel=>exact⟨k+1,aa,by go_num,by rw[R.Y];exact T.Y,W⟩
   case measure=>simp[intOf];omega
  ·have rE:k=n:=aa;subst rE;go_wp2;go_ret;exact⟨_,rfl,j,q⟩
end
theorem UM(x:Int)(a:0<=x)(o:x<18446744073709551616):bits BinOp.and IntKind.u64 x 4095=x%4096:=by rw[u64_and _ _ a o aa aa,show(4095:Int).toNat=2 ^ 12-1 from rfl,Nat.and_two_pow_sub_one_eq_mod];omega
theorem eM.set(r:g<w.heap.size)(D:∀b,S b->b<w.heap.size)(h:eM w S g l w1){p:Addr}(F:w.heap.size<=p.block)(u:Value):eM w S g l (w1.setCell p u):=by obtain⟨⟨A,c,e,f,i⟩,j,k⟩:=h;have d:∀b,b<w.heap.size->(w1.setCell p u).heap[b]?=w1.heap[b]?:=fun b d=>dp _ _ _ _ aa;refine⟨⟨A,c,?_,f,i.same fun b a=>d b (D b a)⟩,fun b a m=>(d b a).trans (j b a m),k.setCell aa _⟩;unfold af at e ⊢;rw[d g r];exact e
theorem abW{t:TypeId}{a:Value}(h:af w g t #[a0,a1,a2,a3,a])(u0 u1 u2 u3 u4:Value) :
 af (((((w.setCell ⟨g,0,none⟩ u0).setCell ⟨g,1,none⟩ u1).setCell ⟨g,2,none⟩ u2).setCell ⟨g,3,none⟩ u3).setCell ⟨g,4,none⟩ u4) g t #[u0,u1,u2,u3,u4] :=
 ((((h.bj 0 u0).bj 1 u1).bj 2 u2).bj 3 u3).bj 4 u4
theorem JQ(w:World)(h:jF w S g l)(y:∀b,S b->b≠g)(o:∀b,S b->b<w.heap.size)(t:l.length<=100000)(s:Int)(n:Nat)(r:Int)(a:r=n)(u:n<=l.length)(D:∀z∈l,0<=z/\z<18446744073709551616) :
 Calls prog 266 #[.pointer g,s,r] w fun e w'=>∃v,e=.returned v/\aJ w' w 3 .i64 v (qw l s n)/\eM w S g (l.drop n) w':=by
 subst a
 exact P7 w h y o t s n u D
def abX(x:Ch)(w:World)(S:Nat->Prop)(g:Nat)(l:List Int)(e:Ending)(a:World):Prop :=∃B d,e=.returned (.agg #[x.gen,x.cap,x.used,x.closed,.slice B x.buf.length d])/\x.buf.length<=d/\dx a (fun b=>w.heap.size<=b/\Ty a 3 b) .i64 B x.buf/\eM w S g l a
section
variable(w:World)
theorem Lz(hc:aU c=true)(h:jF w S g l)(X:∀b,S b->b≠g)(o:∀b,S b->b<w.heap.size)(hl:l.length<=100000)(hn:1+c.cap.toNat<=l.length)(Y:∀z∈l,0<=z/\z<18446744073709551616) :
 Calls prog 259 #[.pointer g,.agg #[c.kind,c.threads,c.chans,c.cap,c.nodes,c.aL,c.aF,c.tags,c.bG,c.bt,.slice A n k]] w (abX (jt c l) w S g (l.drop (1+c.cap.toNat))):=by
 have f:=h.lt
 obtain⟨W,aB,_⟩:=JL hc
 obtain⟨B,D⟩:∃B:Nat,c.cap=B:=⟨c.cap.toNat,aa⟩
 have rH:=ae D
 have r:c.cap.toNat=B:=aa
 obtain⟨x,Z⟩:∃x,l[0]?=some x:=⟨l[0]'aa,cY _⟩
 have F:=Y x (dB Z)
 have E:l.getD 0 0=x:=by rw[cZ,Z];rfl
 have HV:Hid (jt c l=⟨x%4096,x/4096%16,x/65536%2==1,x/131072%2==1,qw (l.drop 1) (x/1048576%16) B⟩):=by unfold Hid jt qw;rw[E,r]
 rw[HV.Y,r]
 have O:Below w w ((w.alloc (dV c A n k)).alloc rB):=ak (ak (aj w) _) _
 have rX:=ae (mP ((w.alloc (dV c A n k)).alloc rB) (h.ext o O) X hl)
 rw[E]at rX
 have GY:=ae (fun(w':World) (hr:jF w' S g (l.drop 1)) (hz:w.heap.size<=w'.heap.size)=>JQ w' hr X (fun b d=>by have:=o b d;omega) (by rw[ie];omega) (x/1048576%16) B c.cap D (by rw[ie];omega) (fun z hz=>Y z (List.mem_of_mem_drop hz)))
 have e1:=UM x F.1 F.2
 have e2:=Jb (x/4096) aa aa
 have e3:=Tu (x/65536) aa aa
 have e4:=Tu (x/131072) aa aa
 have e5:=Jb (x/1048576) aa aa
 have f1:IntKind.i64.wrap (x%4096)=x%4096:=cD _ aa
 have f2:IntKind.i64.wrap (x/4096%16)=x/4096%16:=cD _ aa
 have f3:IntKind.i64.wrap (x/1048576%16)=x/1048576%16:=cD _ aa
 have mn:=ae O
 have jc:Hid (af ((w.alloc (dV c A n k)).alloc rB) w 24 #[c.kind,c.threads,c.chans,c.cap,c.nodes,c.aL,c.aF,c.tags,c.bG,c.bt,.slice A n k]):=(af.new w _ _).alloc _
 have U:Hid (af ((w.alloc (dV c A n k)).alloc rB) (w.heap.size+1) 83 #[oZ,oZ,false,false,oN]):=af.newAt (w.alloc (dV c A n k)) _ _ aD
 obtain⟨G,NC⟩:=av o (eM.more o (eM.refl h) O)
 clear Z F E HV Y X o h O hc D r hn hl W aB
 go_enter func259,ntmps259
 go_wp2_with fail
 refine rX.mono ?_
 rintro e a ⟨rfl,m⟩
 have fP:=ae (NC.trans m)
 have lR:af a w 24 #[c.kind,c.threads,c.chans,c.cap,c.nodes,c.aL,c.aF,c.tags,c.bG,c.bt,.slice A n k]:=(m.2.1 _ jc.lt aa).trans jc
 have q:af a (w.heap.size+1) 83 #[oZ,oZ,false,false,oN]:=(m.2.1 _ U.lt aa).trans U
 obtain⟨V,-,aq⟩:=af.aM lR
 have L:=q.lt
 obtain⟨Ls,t⟩:=av lR q
 have Ee:w.heap.size+2<=a.heap.size:=by have:=m.2.2.size;simp at this;omega
 clear m lR q jc U rX
 go_wp2_with fail
 have N:=fP.more G (ak (aj a) (.cells #[.int .i64 (x%4096),.int .i64 (x/4096%16),.bool (x/65536%2==1),.bool (x/131072%2==1),oN] 83))
 obtain⟨K,Q⟩:=av (GY _ N.1 N.2.2.size) N
 have j:=af.new a 83 #[.int .i64 (x%4096),.int .i64 (x/4096%16),.bool (x/65536%2==1),.bool (x/131072%2==1),oN]
 have q:=t.alloc (.cells #[.int .i64 (x%4096),.int .i64 (x/4096%16),.bool (x/65536%2==1),.bool (x/131072%2==1),oN] 83)
 have T:a.heap.size+1=(a.alloc (.cells #[.int .i64 (x%4096),.int .i64 (x/4096%16),.bool (x/65536%2==1),.bool (x/131072%2==1),oN] 83)).heap.size:=aD
 obtain⟨ko,u⟩:=av j q
 clear N j q V aq L Ls t GY
 refine K.mono ?_
 rintro e M ⟨v2,rfl,I,s⟩
 obtain⟨B2,d2,rfl⟩:=I.shape
 have tU:=I.cap.2
 obtain⟨bf,P⟩:=aG (qw (l.drop 1) (x/1048576%16) B)
 rw[<-P]at I tU ⊢
 obtain⟨bl,C⟩:=aG bf.length
 rw[<-C]at I tU ⊢
 have j:af M a 83 #[.int .i64 (x%4096),.int .i64 (x/4096%16),.bool (x/65536%2==1),.bool (x/131072%2==1),oN]:=(s.2.1 _ ko.lt aa).trans ko
 have q:af M (w.heap.size+1) 83 #[oZ,oZ,false,false,oN]:=(s.2.1 _ u.lt aa).trans u
 obtain⟨r,a8,bo⟩:=af.aM j
 obtain⟨a7,Y8,L⟩:=af.aM q
 have bg:a≠w.heap.size+1:=aa
 have Cq:w.heap.size+1≠a:=aa
 obtain⟨a6,J,ft,jh,lD,y⟩:=cT j q I (Q.trans s) C P
 clear I s j q P C K
 go_wp2_with fail
 have Dn:=abW (J.bO (p:=⟨a,4,none⟩) Cq (.slice B2 bl d2)) (.int .i64 (x%4096)) (.int .i64 (x/4096%16)) (.bool (x/65536%2==1)) (.bool (x/131072%2==1)) (.slice B2 bl d2)
 have R:eM w S g ((l.drop 1).drop B) ((((((M.setCell ⟨a,4,none⟩ (.slice B2 bl d2)).setCell ⟨w.heap.size+1,0,none⟩ (.int .i64 (x%4096))).setCell ⟨w.heap.size+1,1,none⟩ (.int .i64 (x/4096%16))).setCell ⟨w.heap.size+1,2,none⟩ (.bool (x/65536%2==1))).setCell ⟨w.heap.size+1,3,none⟩ (.bool (x/131072%2==1))).setCell ⟨w.heap.size+1,4,none⟩ (.slice B2 bl d2)):=((((((jh.set f G (p:=⟨a,4,none⟩) (by show _<=a.heap.size;omega) _).set f G (p:=⟨w.heap.size+1,0,none⟩) (cj _) _).set f G (p:=⟨w.heap.size+1,1,none⟩) (cj _) _).set f G (p:=⟨w.heap.size+1,2,none⟩) (cj _) _).set f G (p:=⟨w.heap.size+1,3,none⟩) (cj _) _).set f G (p:=⟨w.heap.size+1,4,none⟩) (cj _) _)
 have XE:aJ ((((((M.setCell ⟨a,4,none⟩ (.slice B2 bl d2)).setCell ⟨w.heap.size+1,0,none⟩ (.int .i64 (x%4096))).setCell ⟨w.heap.size+1,1,none⟩ (.int .i64 (x/4096%16))).setCell ⟨w.heap.size+1,2,none⟩ (.bool (x/65536%2==1))).setCell ⟨w.heap.size+1,3,none⟩ (.bool (x/131072%2==1))).setCell ⟨w.heap.size+1,4,none⟩ (.slice B2 bl d2)) (a.heap.size+1) 3 .i64 (.slice B2 bl d2) bf:=by
  have H:∀b,(Value.slice B2 bl d2).ownBlock=some b->a.heap.size+1<=b:=fun b d=>by have:=Cp ft b d;omega
  have ho:=ft.Y;rw[<-T]at ho;exact(dw (dw (dw (dw (dw (dw ho (p:=⟨a,4,none⟩) (fun b d=>by have:=H b d;show b≠a;omega) _) (p:=⟨w.heap.size+1,0,none⟩) (fun b d=>by have:=H b d;show b≠w.heap.size+1;omega) _) (p:=⟨w.heap.size+1,1,none⟩) (fun b d=>by have:=H b d;show b≠w.heap.size+1;omega) _) (p:=⟨w.heap.size+1,2,none⟩) (fun b d=>by have:=H b d;show b≠w.heap.size+1;omega) _) (p:=⟨w.heap.size+1,3,none⟩) (fun b d=>by have:=H b d;show b≠w.heap.size+1;omega) _) (p:=⟨w.heap.size+1,4,none⟩) (fun b d=>by have:=H b d;show b≠w.heap.size+1;omega) _)
 generalize((((((M.setCell ⟨a,4,none⟩ (.slice B2 bl d2)).setCell ⟨w.heap.size+1,0,none⟩ (.int .i64 (x%4096))).setCell ⟨w.heap.size+1,1,none⟩ (.int .i64 (x/4096%16))).setCell ⟨w.heap.size+1,2,none⟩ (.bool (x/65536%2==1))).setCell ⟨w.heap.size+1,3,none⟩ (.bool (x/131072%2==1))).setCell ⟨w.heap.size+1,4,none⟩ (.slice B2 bl d2))=wf at Dn R XE ⊢
 have np:=fun i=>af.cell Dn i
 refine bodyPost_ret (v:=.agg #[.int .i64 (x%4096),.int .i64 (x/4096%16),.bool (x/65536%2==1),.bool (x/131072%2==1),.slice B2 bl d2]) ?_ rfl ?_
 ·simp[results,results259,go_sem,np]
 ·refine⟨B2,d2,?_,?_,⟨?_,?_⟩,?_⟩
  ·rw[<-y.Y, <-lD.Y]
  ·rw[<-y.Y, <-lD.Y];exact tU
  ·rw[<-y.Y];exact XE.pP.2
  ·exact abZ
  ·rw[List.drop_drop]at R;exact R
end
theorem GZ(x:Int)(a:0<=x)(o:x<18446744073709551616):bits BinOp.and IntKind.u64 x 1048575=x%1048576:=by rw[u64_and _ _ a o aa aa,show(1048575:Int).toNat=2 ^ 20-1 from rfl,Nat.and_two_pow_sub_one_eq_mod];omega
theorem aeu(x:Int)(a:0<=x)(o:x<18446744073709551616):bits BinOp.and IntKind.u64 x 7=x%8:=by rw[u64_and _ _ a o aa aa,show(7:Int).toNat=2 ^ 3-1 from rfl,Nat.and_two_pow_sub_one_eq_mod];omega
theorem ab0{t:TypeId}(h:af w g t #[a0,a1,a2,a3])(u0 u1 u2 u3:Value) :
 af ((((w.setCell ⟨g,0,none⟩ u0).setCell ⟨g,1,none⟩ u1).setCell ⟨g,2,none⟩ u2).setCell ⟨g,3,none⟩ u3) g t #[u0,u1,u2,u3] :=
 (((h.bj 0 u0).bj 1 u1).bj 2 u2).bj 3 u3
def ks(l:List Int)(s:Int)(k:Nat):List Cs:=((l.take k).take s.toNat).map Mo.pZ
theorem Ef{s:Int}{z:Int}(h:l[k]?=some z):ks l s (k+1)=ks l s k++(if(k:Int)<s then[Mo.pZ z]else[]):=by unfold ks;exact abV
theorem UN:(prog.info? 110).map (fun i=>(i.zero,i.size,i.bytes))=some (some (.agg #[.int .i64 0,.int .i64 0,.int .i64 0]),3,24):=by kernel_rfl
def ab1(x:Wt)(w:World)(S:Nat->Prop)(g:Nat)(l:List Int)(e:Ending)(a:World):Prop :=∃B d,e=.returned (.agg #[.bool x.on,.int .i64 x.az,.int .i64 x.seq,.slice B x.cases.length d])/\x.cases.length<=d/\dG a (fun b=>w.heap.size<=b/\Ty a 110 b) bC B x.cases/\eM w S g l a
section
variable(w:World)
theorem LA(h:jF w S g l)(hs:∀b,S b->b≠g)(y:∀b,S b->b<w.heap.size)(hl:l.length<=100000)(hn:4<=l.length)(hu:∀z∈l,0<=z/\z<18446744073709551616) :
 Calls prog 260 #[.pointer (some ⟨g,0,none⟩)] w (ab1 (jL l) w S g (l.drop 4)):=by
 have n:=h.lt
 obtain⟨x,hx⟩:∃x,l[0]?=some x:=⟨l[0]'aa,cY _⟩
 have E:=hu x (dB hx)
 have D:l.getD 0 0=x:=by rw[cZ,hx];rfl
 have HV:Hid (jL l=⟨x%2==1,x/4294967296,x/16%1048576,ks (l.drop 1) (x/2%8) 3⟩):=by unfold Hid jL ks;rw[D]
 rw[HV.Y]
 have pX:Below w w (w.alloc (.cells #[.bool false,.int .i64 0,.int .i64 0,.slice none 0 0] 79)):=ak (aj w) _
 have rX:=ae (mP (w.alloc (.cells #[.bool false,.int .i64 0,.int .i64 0,.slice none 0 0] 79)) (h.ext y pX) hs hl)
 rw[D]at rX
 have e1:=Tu x E.1 E.2
 have e2:=GZ (x/16) aa aa
 have e3:=aeu (x/2) aa aa
 have f1:IntKind.i64.wrap (x/16%1048576)=x/16%1048576:=cD _ aa
 have f2:IntKind.i64.wrap (x/4294967296)=x/4294967296:=cD _ aa
 have f3:IntKind.i64.wrap (x/2%8)=x/2%8:=cD _ aa
 have jc:Hid (af (w.alloc (.cells #[.bool false,.int .i64 0,.int .i64 0,.slice none 0 0] 79)) w 79 #[.bool false,.int .i64 0,.int .i64 0,.slice none 0 0]):=af.new w _ _
 obtain⟨HS,A,HU,NC⟩:=bN hs y hu (eM.more y (eM.refl h) pX)
 generalize x/2%8=m at e3 f3 ⊢
 clear hx E D HV hu hs y h pX
 go_enter func260,ntmps260
 go_wp2_with fail
 refine rX.mono ?_
 rintro e a ⟨rfl,u⟩
 have fP:=ae (NC.trans u)
 have lR:af a w 79 #[.bool false,.int .i64 0,.int .i64 0,.slice none 0 0]:=(u.2.1 _ jc.lt aa).trans jc
 have Ee:w.heap.size+1<=a.heap.size:=by have:=u.2.2.size;simp at this;omega
 have Ls:=ae lR
 clear u lR jc rX
 go_wp2_with fail
 have P8:=fP.more A (ak (aj a) (.cells #[.bool (x%2==1),.int .i64 (x/4294967296),.int .i64 (x/16%1048576),.slice none 0 0] 79))
 have P:=af.new a 79 #[.bool (x%2==1),.int .i64 (x/4294967296),.int .i64 (x/16%1048576),.slice none 0 0]
 have iR:=Ls.alloc (.cells #[.bool (x%2==1),.int .i64 (x/4294967296),.int .i64 (x/16%1048576),.slice none 0 0] 79)
 have b7:a.heap.size+1=(a.alloc (.cells #[.bool (x%2==1),.int .i64 (x/4294967296),.int .i64 (x/16%1048576),.slice none 0 0] 79)).heap.size:=aD
 obtain⟨Z,ko,fY⟩:=aZ P8 P iR
 clear P8 P iR Ls
 go_loopw[6,7,25] (fun _ _ i wr=>∃(k:Nat) (v:Value),k<=3/\i=.int .i64 k/\Hid (aH wr (a.heap.size+1) 110 3 bC v (ks (l.drop 1) m k))/\Hid (af wr a 79 #[.bool (x%2==1),.int .i64 (x/4294967296),.int .i64 (x/16%1048576),v])/\Hid (af wr w 79 #[.bool false,.int .i64 0,.int .i64 0,.slice none 0 0])/\Hid (eM w S g ((l.drop 1).drop k) wr)) (fun _ _ i _=>3-(intOf i).toNat)
 case atStart=>exact⟨0,.slice none 0 0,aV _,rfl,by rw[show ks (l.drop 1) m 0=[]by unfold ks;simp];exact aH.nil _ _ _ _ _,ko,fY,Z⟩
 case round =>
  obtain⟨k,v2,hk,rfl,t,o,f,J⟩:=hrel;obtain⟨B2,d2,Q,uO⟩:=t.rd;obtain⟨bl,C⟩:=aG ((ks (l.drop 1) m k).length);rw[<-C]at Q;subst Q;have tU:bl<=d2:=by
   rcases t.2 with⟨h',h0⟩|⟨g',cap',cur,h',_,_,hc,_⟩
   ·injection h' with _ h1 h2;omega
   ·injection h' with _ h1 h2;omega
  obtain⟨lD,bR⟩:=av C uO;clear C uO;obtain⟨aT,lz,bo⟩:=af.aM o;obtain⟨fH,a8,bz⟩:=af.aM f;have r:∀b,(Value.slice B2 bl d2).ownBlock=some b->a.heap.size+1<=b:=fun b d=>(aX t d).1;by_cases b8:k<3
  ·obtain⟨z,Y⟩:∃z,(l.drop 1)[k]?=some z:=⟨(l.drop 1)[k]'(by rw[ie];omega),cY _⟩
   have F:=HU.Y z (List.mem_of_mem_drop (dB Y));have HX:=ae (mP wr J.1 HS (by rw[ie,ie];omega));have V:((l.drop 1).drop k).getD 0 0=z:=by rw[BG Y];rfl
   have O:((l.drop 1).drop k).drop 1=(l.drop 1).drop (k+1):=by rw[List.drop_drop]
   rw[V,O]at HX;have a1:=BJ z F.1 F.2;have a2:=xP (z/256) aa aa;have b1:IntKind.i64.wrap (z%256)=z%256:=cD _ aa;have b2:IntKind.i64.wrap (z/256%65536)=z/256%65536:=cD _ aa;have b3:IntKind.i64.wrap (z/4294967296)=z/4294967296:=cD _ aa;have G:=Ef (s:=m) Y;have jU:(ks (l.drop 1) m k).length<=3:=by unfold ks;rw[cW,fF,fF];omega
   generalize ks (l.drop 1) m k=M at G jU t;have cd:=J.2.2.size;clear Y F V O;by_cases I:(k:Int)<m
   ·have d1:decide ((k:Int)<m)=true:=eE I;rw[au I]at G;have xb:=ae G;clear I G;go_wp2_with fail;refine HX.mono ?_;rintro e q ⟨rfl,c⟩;have fZ:=ae (J.trans c);have jr:Hid (aH q (a.heap.size+1) 110 3 bC (.slice B2 bl d2) M):=cJ t (fun b d=>c.2.1 b (aX t d).2 (by have:=r b d;omega));have ZI:af q a 79 #[.bool (x%2==1),.int .i64 (x/4294967296),.int .i64 (x/16%1048576),.slice B2 bl d2]:=(c.2.1 _ o.lt aa).trans o;have K:af q w 79 #[.bool false,.int .i64 0,.int .i64 0,.slice none 0 0]:=(c.2.1 _ f.lt aa).trans f;obtain⟨N,-,W⟩:=af.aM ZI;obtain⟨ZJ,ZK⟩:=av ZI K;clear c ZI K aT lz bo fH a8 bz;go_wp2_with(at_builtin;refine cG _ rfl _ _ 40 rfl (a.heap.size+1) 110 3 24 (.agg #[.int .i64 0,.int .i64 0,.int .i64 0]) bC iD uE underlying40 UN rfl ag _ M rfl ?q1 (some ⟨q,0,none⟩) 1 1 [(z%256,z/256%65536,z/4294967296)] rfl rfl ?q2 ?c4 ?c5 ?c6 ?_)
    case q1=>exact jr.ai (ak (aj q) _)
    case q2=>exact Rd.lit q (bC (z%256,z/256%65536,z/4294967296)) _
    case c4=>simp;omega
    case c5=>simp;omega
    case c6=>simp;omega
    intro v' w4 hown' X _;have hrow:∀b,(Value.slice B2 bl d2).ownBlock=some b->w.heap.size<=b:=fun b d=>by have:=r b d;omega
    have lC:=ae ((fZ.more A (ak (aj q) (.cells #[.int .i64 (z%256),.int .i64 (z/256%65536),.int .i64 (z/4294967296)] 110))).grow n A X hrow);have ZL:=(ZJ.alloc (.cells #[.int .i64 (z%256),.int .i64 (z/256%65536),.int .i64 (z/4294967296)] 110)).grown X (fun e=>by have:=r _ e.symm;omega);have L:=(ZK.alloc (.cells #[.int .i64 (z%256),.int .i64 (z/256%65536),.int .i64 (z/4294967296)] 110)).grown X (fun e=>by have:=r _ e.symm;omega);obtain⟨H,d4,R,_⟩:=hown'.rd;generalize(M++[(z%256,z/256%65536,z/4294967296)]).length=j at R;subst R;obtain⟨bY,b5,b6⟩:=af.aM ZL;have T:=ZL.bj 3 (.slice H j d4);have U:af (w4.setCell ⟨a.heap.size,3,none⟩ (.slice H j d4)) w.heap.size 79 #[.bool false,.int .i64 0,.int .i64 0,.slice none 0 0]:=L.bO (p:=⟨a.heap.size,3,none⟩) (by show w.heap.size≠a.heap.size;omega) _;have Fp:aH (w4.setCell ⟨a,3,none⟩ (.slice H j d4)) (a.heap.size+1) 110 3 bC (.slice H j d4) (M++[(z%256,z/256%65536,z/4294967296)]):=dw hown' (p:=⟨a,3,none⟩) (fun b d=>by have:=(aX hown' d).1;show b≠a;omega) _;obtain⟨xy,aq,rK,jV⟩:=bN T U Fp (lC.set n A (p:=⟨a,3,none⟩) (by show _<=a.heap.size;omega) (.slice H j d4));clear hown' X ZL L T U Fp N W;go_wp2;go_roundw;case rel=>exact⟨k+1,.slice H j d4,aa,by go_num,by rw[xb.Y];exact rK.Y,xy,aq,jV⟩
    case measure=>simp[intOf];omega
   ·have d1:decide ((k:Int)<m)=false:=bU I;rw[ah I,List.append_nil]at G;have xb:=ae G;clear I G;go_wp2_with fail;refine HX.mono ?_;rintro e q ⟨rfl,c⟩;have fZ:=ae (J.trans c);have jr:Hid (aH q (a.heap.size+1) 110 3 bC (.slice B2 bl d2) M):=cJ t (fun b d=>c.2.1 b (aX t d).2 (by have:=r b d;omega));have ZJ:Hid (af q a 79 #[.bool (x%2==1),.int .i64 (x/4294967296),.int .i64 (x/16%1048576),.slice B2 bl d2]):=(c.2.1 _ o.lt aa).trans o;have ZK:Hid (af q w 79 #[.bool false,.int .i64 0,.int .i64 0,.slice none 0 0]):=(c.2.1 _ f.lt aa).trans f;clear c;go_wp2;go_roundw;case rel=>exact⟨k+1,.slice B2 bl d2,aa,by go_num,by rw[xb.Y];exact jr.Y,ZJ,ZK,fZ⟩
    case measure=>simp[intOf];omega
  ·have rE:k=3:=aa;subst rE;rw[show((3:Nat):Int)=3 from rfl];go_wp2_with fail;have Dn:=ab0 f (.bool (x%2==1)) (.int .i64 (x/4294967296)) (.int .i64 (x/16%1048576)) (.slice B2 bl d2);have ZH:eM w S g ((l.drop 1).drop 3) ((((wr.setCell ⟨w,0,none⟩ (.bool (x%2==1))).setCell ⟨w,1,none⟩ (.int .i64 (x/4294967296))).setCell ⟨w,2,none⟩ (.int .i64 (x/16%1048576))).setCell ⟨w,3,none⟩ (.slice B2 bl d2)):=((((J.set n A (p:=⟨w,0,none⟩) (aS _) _).set n A (p:=⟨w,1,none⟩) (aS _) _).set n A (p:=⟨w,2,none⟩) (aS _) _).set n A (p:=⟨w,3,none⟩) (aS _) _)
   have XE:aH ((((wr.setCell ⟨w,0,none⟩ (.bool (x%2==1))).setCell ⟨w,1,none⟩ (.int .i64 (x/4294967296))).setCell ⟨w,2,none⟩ (.int .i64 (x/16%1048576))).setCell ⟨w,3,none⟩ (.slice B2 bl d2)) (a.heap.size+1) 110 3 bC (.slice B2 bl d2) (ks (l.drop 1) m 3):=(dw (dw (dw (dw t (p:=⟨w,0,none⟩) (fun b d=>by have:=r b d;show b≠w;omega) _) (p:=⟨w,1,none⟩) (fun b d=>by have:=r b d;show b≠w;omega) _) (p:=⟨w,2,none⟩) (fun b d=>by have:=r b d;show b≠w;omega) _) (p:=⟨w,3,none⟩) (fun b d=>by have:=r b d;show b≠w;omega) _)
   generalize((((wr.setCell ⟨w,0,none⟩ (.bool (x%2==1))).setCell ⟨w,1,none⟩ (.int .i64 (x/4294967296))).setCell ⟨w,2,none⟩ (.int .i64 (x/16%1048576))).setCell ⟨w,3,none⟩ (.slice B2 bl d2))=wf at Dn ZH XE ⊢;have np:=fun i=>af.cell Dn i;refine bodyPost_ret (v:=.agg #[.bool (x%2==1),.int .i64 (x/4294967296),.int .i64 (x/16%1048576),.slice B2 bl d2]) ?_ rfl ?_
   ·simp[results,results260,go_sem,np]
   ·obtain⟨cs,a7⟩:=aG (ks (l.drop 1) m 3);have B:=lD.Y;rw[<-a7]at XE B ⊢;obtain⟨B3,d3,bg,a6⟩:=XE.rd;injection bg with q1 q2 q3
    subst q1 q3;refine⟨B2,d2,?_,?_,⟨a6,?_⟩,?_⟩
    ·rw[<-B]
    ·rw[<-B];exact tU
    ·exact abZ
    ·rw[List.drop_drop]at ZH;exact ZH
end
section
variable(w:World)
theorem Ba(A B:Option Addr)(c d:Nat)(o p:List Int)(R:o.length<=100000)(D:p.length<=100000)(J:bJ w .u64 A o)(K:bJ w .u64 B p) :
 Calls prog 262 #[.slice A o.length c,.slice B p.length d] w fun e w'=>e=.returned (decide (o=p))/\jy w w':=by
 obtain⟨n,F⟩:=aG o.length
 obtain⟨m,E⟩:=aG p.length
 rw[<-F]at R ⊢
 rw[<-E]at D ⊢
 obtain⟨C,z,M,N⟩:=bN F E J K
 clear F E J K
 by_cases l:n=m
 case neg =>
  have d1:((n:Int) !=(m:Int))=true:=by simp;omega
  have v:Hid (decide (o=p)=false):=bU (by rintro rfl;exact l (C.trans z.symm));rw[v.Y];clear l;go_enter func262,ntmps262;go_wp2;go_ret;exact⟨rfl,jy.refl w⟩
 subst l
 have d1:((n:Int) !=(n:Int))=false:=aD
 go_enter func262,ntmps262
 go_wp2
 go_loopw[5,13] (fun _ i wr=>∃k:Nat,k<=n/\i=k/\Hid (jy w wr)/\Hid (∀(j:Nat) (x y:Int),j<k->o[j]?=some x->p[j]?=some y->x=y)) (fun _ i _=>n-(intOf i).toNat)
 case atStart=>exact⟨0,aV _,rfl,jy.refl w,fun j _ _ h=>absurd h (Nat.not_lt_zero _)⟩
 case round =>
  obtain⟨k,X,rfl,r,G⟩:=hrel;by_cases g:k<n
  ·obtain⟨S,x,P,(s:Hid _),U⟩:=bJ.at_ (M.drew r) (i:=k) (by rw[<-C.Y];exact g);obtain⟨T,y,Q,L,V⟩:=bJ.at_ (N.drew r) (i:=k) (by rw[<-z.Y];exact g);subst P;subst Q;have t:=ae L;clear L;have Y:(0:Int)<=(k:Int):=aa;have Z:(k:Int)<(n:Int):=aa;by_cases q:x=y
   ·have d2:(x !=y)=false:=by simpa using q
    have O:=ae q;clear q;go_wp2_with fail;go_quiet(fail);go_wp2;go_roundw;case rel=>exact⟨k+1,aa,by go_num,r.more _,fun j a b W H I=>by
     by_cases e:j=k
     ·subst e;have f:=s.Y;have u:=t.Y;rw[H]at f;rw[I]at u;injection f with f;injection u with u
      rw[f,u];exact O.Y
     ·exact G.Y j a b aa H I⟩
    case measure=>simp[intOf];omega
   ·have d2:(x !=y)=true:=by simpa using q
    have v:Hid (decide (o=p)=false):=bU (by rintro rfl;have f:=s.Y;rw[t.Y]at f;injection f with f;exact q f.symm);clear q;go_wp2_with fail;go_quiet(fail);go_wp2;go_ret;rw[v.Y];exact⟨rfl,r.more _⟩
  ·go_wp2;go_ret;rw[eE (Dk C.Y z.Y g G.Y)];exact⟨rfl,r⟩
end
attribute [local go_sem ↓] Go.wp_at_zero Go.wp_at_succ
theorem size_le(o:aU c=true):0<=bn c/\bn c<=1064:=by have:=D1 o;obtain⟨a,_⟩:=aK o;unfold bn;rw[o];simp only[Bool.true_eq_false,if_false];omega
theorem JR{a b A B:Int}(p:0<=a)(q:a<=A)(o:0<=b)(r:b<=B):0<=a*b/\a*b<=A*B:=⟨ly p o,Int.le_trans (Int.mul_le_mul_of_nonneg_right q o) (Int.mul_le_mul_of_nonneg_left r aa)⟩
def ju(c:bA)(s:Int):Int:=if s=4 then 3 else if s=5 then 3+c.threads else if s=6 then 3+c.threads*6 else if s=7 then 3+c.threads*7 else if s=8 then 3+c.threads*8 else 3+c.threads*9
theorem mo(a:aU c=true)(s:Int):0<=ju c s/\ju c s<=1000:=by
 obtain⟨b,_⟩:=aK a;unfold ju;split; · omega
 split; · omega
 split; · omega
 split; · omega
 split<;>omega
section
variable(w:World)
theorem kN(a:aU c=true)(A:Option Addr)(k n:Nat)(s:Int)(o:s=4\/s=5\/s=6\/s=7\/s=8\/s=9) :
 Calls prog 142 #[.agg #[c.kind,c.threads,c.chans,c.cap,c.nodes,c.aL,c.aF,c.tags,c.bG,c.bt,.slice A n k],s] w fun e w'=>e=.returned (ju c s)/\Below w w w':=by
 obtain⟨b,_⟩:=aK a
 have d:IntKind.i64.wrap (3+c.threads)=3+c.threads:=cD _ aa
 have f:IntKind.i64.wrap (c.threads*6)=c.threads*6:=cD _ aa
 have g:IntKind.i64.wrap (c.threads*7)=c.threads*7:=cD _ aa
 have h:IntKind.i64.wrap (c.threads*8)=c.threads*8:=cD _ aa
 have i:IntKind.i64.wrap (c.threads*9)=c.threads*9:=cD _ aa
 have f6:IntKind.i64.wrap (3+c.threads*6)=3+c.threads*6:=cD _ aa
 have f7:IntKind.i64.wrap (3+c.threads*7)=3+c.threads*7:=cD _ aa
 have f8:IntKind.i64.wrap (3+c.threads*8)=3+c.threads*8:=cD _ aa
 have f9:IntKind.i64.wrap (3+c.threads*9)=3+c.threads*9:=cD _ aa
 clear a b
 rcases o with rfl|rfl|rfl|rfl|rfl|rfl
 all_goals
  go_enter func142,ntmps142;go_wp2;go_ret;exact⟨rfl,ak (aj w) _⟩
theorem yI(p:aU c=true)(A:Option Addr)(k n:Nat)(t:Int)(q:0<=t)(r:t<=100) :
 Calls prog 161 #[.agg #[c.kind,c.threads,c.chans,c.cap,c.nodes,c.aL,c.aF,c.tags,c.bG,c.bt,.slice A n k],t] w fun e w'=>e=.returned (lJ c t)/\Below w w w':=by
 have HF:=ae (kN (w.alloc (dV c A n k)) p A k n 4 ag)
 have a:=mo p 4
 have b:Hid (lJ c t=ju c 4+t):=by unfold Hid;rfl
 rw[b.Y]
 generalize ju c 4=f at HF a ⊢
 have d:IntKind.i64.wrap (t*5)=t*5:=cD _ aa
 have g:IntKind.i64.wrap (f+t)=f+t:=cD _ aa
 clear b p a
 go_enter func161,ntmps161
 exact mk9
theorem Bb(o:aU c=true)(A:Option Addr)(k n:Nat)(t:Int)(p:0<=t)(q:t<=100) :
 Calls prog 163 #[.agg #[c.kind,c.threads,c.chans,c.cap,c.nodes,c.aL,c.aF,c.tags,c.bG,c.bt,.slice A n k],t] w fun e w'=>e=.returned (iY c t)/\Below w w w':=by
 have HF:=ae (kN (w.alloc (dV c A n k)) o A k n 5 ag)
 have a:=mo o 5
 have b:Hid (iY c t=ju c 5+t*5):=by unfold Hid;rfl
 rw[b.Y]
 generalize ju c 5=f at HF a ⊢
 have d:IntKind.i64.wrap (t*5)=t*5:=cD _ aa
 have g:IntKind.i64.wrap (f+t*5)=f+t*5:=cD _ aa
 clear b o a
 go_enter func163,ntmps163
 exact mk9
theorem qz(o:aU c=true)(A:Option Addr)(k n:Nat)(t:Int)(p:0<=t)(q:t<=100) :
 Calls prog 155 #[.agg #[c.kind,c.threads,c.chans,c.cap,c.nodes,c.aL,c.aF,c.tags,c.bG,c.bt,.slice A n k],t] w fun e w'=>e=.returned (iq c t)/\Below w w w':=by
 have HF:=ae (kN (w.alloc (dV c A n k)) o A k n 6 ag)
 have a:=mo o 6
 have b:Hid (iq c t=ju c 6+t):=by unfold Hid;rfl
 rw[b.Y]
 generalize ju c 6=f at HF a ⊢
 have d:IntKind.i64.wrap (t*5)=t*5:=cD _ aa
 have g:IntKind.i64.wrap (f+t)=f+t:=cD _ aa
 clear b o a
 go_enter func155,ntmps155
 exact mk9
theorem tV(o:aU c=true)(A:Option Addr)(k n:Nat)(t:Int)(p:0<=t)(q:t<=100) :
 Calls prog 151 #[.agg #[c.kind,c.threads,c.chans,c.cap,c.nodes,c.aL,c.aF,c.tags,c.bG,c.bt,.slice A n k],t] w fun e w'=>e=.returned (nL c t)/\Below w w w':=by
 have HF:=ae (kN (w.alloc (dV c A n k)) o A k n 7 ag)
 have a:=mo o 7
 have b:Hid (nL c t=ju c 7+t):=by unfold Hid;rfl
 rw[b.Y]
 generalize ju c 7=f at HF a ⊢
 have d:IntKind.i64.wrap (t*5)=t*5:=cD _ aa
 have g:IntKind.i64.wrap (f+t)=f+t:=cD _ aa
 clear b o a
 go_enter func151,ntmps151
 exact mk9
theorem jW(p:aU c=true)(A:Option Addr)(k n:Nat)(t:Int)(q:0<=t)(r:t<=100) :
 Calls prog 167 #[.agg #[c.kind,c.threads,c.chans,c.cap,c.nodes,c.aL,c.aF,c.tags,c.bG,c.bt,.slice A n k],t] w fun e w'=>e=.returned (bZ c t)/\Below w w w':=by
 have HF:=ae (kN (w.alloc (dV c A n k)) p A k n 8 ag)
 have a:=mo p 8
 have b:Hid (bZ c t=ju c 8+t):=by unfold Hid;rfl
 rw[b.Y]
 generalize ju c 8=f at HF a ⊢
 have d:IntKind.i64.wrap (t*5)=t*5:=cD _ aa
 have g:IntKind.i64.wrap (f+t)=f+t:=cD _ aa
 clear b p a
 go_enter func167,ntmps167
 exact mk9
theorem ot(o:aU c=true):cN c=1+c.threads*c.nodes/\1<=cN c/\cN c<=4097:=by
 obtain⟨e,d,_⟩:=aK o;have:=JR (a:=c.threads) (b:=c.nodes) (A:=64) (B:=64) aa e.2 aa d.2;have f:cN c=1+c.threads*c.nodes:=by unfold cN;rw[o];rfl
 rw[f];exact⟨rfl,aa,aa⟩
theorem LB(a:aU c=true)(o:n=c.start.length)(q:bJ w .i64 A c.start) :
 Calls prog 140 #[.agg #[c.kind,c.threads,c.chans,c.cap,c.nodes,c.aL,c.aF,c.tags,c.bG,c.bt,.slice A n k]] w fun e w'=>e=.returned (cN c)/\Below w w w':=by
 have j:=ae (gJ (w.alloc (dV c A n k)) a o (q.alloc _) (k:=k))
 obtain⟨g,d,f⟩:=ot a
 rw[g]at d f ⊢
 have m:IntKind.i64.wrap (c.threads*c.nodes)=c.threads*c.nodes:=cD _ aa
 have r:IntKind.i64.wrap (1+c.threads*c.nodes)=1+c.threads*c.nodes:=cD _ aa
 clear g d f o q a
 go_enter func140,ntmps140
 go_wp2_with fail
 refine j.mono ?_
 rintro e l ⟨rfl,b⟩
 have a:∀i,l.cell? ⟨w,i,none⟩=_:=fun i=>b.cell (p:=⟨w,i,none⟩) aD
 have h:=ae (ai (ak (aj w) (dV c A n k)) b)
 clear b
 go_wp2
 go_ret
 exact⟨rfl,h⟩
theorem lA(q:aU c=true){i:Int}(o:0<=i)(p:i<=70000):0<=i*(1+bn c)/\i*(1+bn c)<=74550000:=by have d:=size_le q;exact JR (a:=i) (b:=1+bn c) (A:=70000) (B:=1065) o p aa aa
theorem qB(o:aU c=true)(J:n=c.start.length)(K:bJ w .i64 A c.start)(i:Int)(H:0<=i)(I:i<=70000) :
 Calls prog 104 #[.agg #[c.kind,c.threads,c.chans,c.cap,c.nodes,c.aL,c.aF,c.tags,c.bG,c.bt,.slice A n k],i] w fun e w'=>e=.returned (bu c i)/\Below w w w':=by
 have B:=ae (kN (w.alloc (dV c A n k)) o A k n 9 ag)
 have m:=mo o 9
 have F:=lA o H I
 have M:=size_le o
 have C:=ae (fun w' (P:Below w w w')=>yB w' o J (K.below P) (k:=k))
 have D:Hid (bu c i=ju c 9+i*(1+bn c)):=by unfold Hid;rfl
 rw[D.Y]
 obtain⟨f,v⟩:=aG (ju c 9)
 obtain⟨s,L⟩:=aG (bn c)
 rw[<-v]at B m ⊢
 rw[<-L]at C F M ⊢
 have R:IntKind.i64.wrap (1+s)=1+s:=cD _ aa
 have S:IntKind.i64.wrap (i*(1+s))=i*(1+s):=cD _ aa
 have T:IntKind.i64.wrap (f+i*(1+s))=f+i*(1+s):=cD _ aa
 have l:=v;have j:=o
 clear v L D o m F M J K H I
 have p:(w.alloc (dV c A n k)).cell? ⟨w,0,none⟩=some c.kind/\(w.alloc (dV c A n k)).cell? ⟨w,1,none⟩=some c.threads/\(w.alloc (dV c A n k)).cell? ⟨w,2,none⟩=some c.chans/\(w.alloc (dV c A n k)).cell? ⟨w,3,none⟩=some c.cap/\(w.alloc (dV c A n k)).cell? ⟨w,4,none⟩=some c.nodes/\(w.alloc (dV c A n k)).cell? ⟨w,5,none⟩=some c.aL/\(w.alloc (dV c A n k)).cell? ⟨w,6,none⟩=some c.aF/\(w.alloc (dV c A n k)).cell? ⟨w,7,none⟩=some c.tags/\(w.alloc (dV c A n k)).cell? ⟨w,8,none⟩=some c.bG/\(w.alloc (dV c A n k)).cell? ⟨w,9,none⟩=some c.bt/\(w.alloc (dV c A n k)).cell? ⟨w,10,none⟩=some (.slice A n k):=aD
 have E:∀a b:World,w.heap.size<a.heap.size->Below a a b->(a.cell? ⟨w,0,none⟩=some c.kind/\a.cell? ⟨w,1,none⟩=some c.threads/\a.cell? ⟨w,2,none⟩=some c.chans/\a.cell? ⟨w,3,none⟩=some c.cap/\a.cell? ⟨w,4,none⟩=some c.nodes/\a.cell? ⟨w,5,none⟩=some c.aL/\a.cell? ⟨w,6,none⟩=some c.aF/\a.cell? ⟨w,7,none⟩=some c.tags/\a.cell? ⟨w,8,none⟩=some c.bG/\a.cell? ⟨w,9,none⟩=some c.bt/\a.cell? ⟨w,10,none⟩=some (.slice A n k))->(b.cell? ⟨w,0,none⟩=some c.kind/\b.cell? ⟨w,1,none⟩=some c.threads/\b.cell? ⟨w,2,none⟩=some c.chans/\b.cell? ⟨w,3,none⟩=some c.cap/\b.cell? ⟨w,4,none⟩=some c.nodes/\b.cell? ⟨w,5,none⟩=some c.aL/\b.cell? ⟨w,6,none⟩=some c.aF/\b.cell? ⟨w,7,none⟩=some c.tags/\b.cell? ⟨w,8,none⟩=some c.bG/\b.cell? ⟨w,9,none⟩=some c.bt/\b.cell? ⟨w,10,none⟩=some (.slice A n k)):=by exact XF
 have u:=ae E
 have y:Below w w (w.alloc (dV c A n k)):=ak (aj w) _
 have Q:w.heap.size<(w.alloc (dV c A n k)).heap.size:=aD
 have N:Below (w.alloc (dV c A n k)).heap.size (w.alloc (dV c A n k)) (w.alloc (dV c A n k)).drew:=bV (n:=1) (aj _)
 have q:=u.Y _ _ Q N p
 have h:=ae (kN (w.alloc (dV c A n k)).drew j A k n 9 ag)
 rw[<-l]at h
 clear E B j l
 go_enter func104,ntmps104
 go_wp2
 go_region_held3(fun w'=>w'.cell? ⟨w,0,none⟩=some c.kind/\w'.cell? ⟨w,1,none⟩=some c.threads/\w'.cell? ⟨w,2,none⟩=some c.chans/\w'.cell? ⟨w,3,none⟩=some c.cap/\w'.cell? ⟨w,4,none⟩=some c.nodes/\w'.cell? ⟨w,5,none⟩=some c.aL/\w'.cell? ⟨w,6,none⟩=some c.aF/\w'.cell? ⟨w,7,none⟩=some c.tags/\w'.cell? ⟨w,8,none⟩=some c.bG/\w'.cell? ⟨w,9,none⟩=some c.bt/\w'.cell? ⟨w,10,none⟩=some (.slice A n k)) (first|assumption|go_keep)
  (first
  |(go_at_call 142;refine h.mono ?_;rintro e a ⟨rfl,d⟩
    have t:=ai y (ai N d)
    have z:w.heap.size<a.heap.size:=by have:=t.size;have:=d.size;simp at this;omega
    have r:=u.Y _ _ aD d q)
  |(go_at_call 143;refine(C a t).mono ?_;rintro e b ⟨rfl,g⟩
    have G:=ai t g
    have x:=u.Y _ _ z g r))
 have O:=ae G
 clear p q r x t G d g
 go_wp2
 go_ret
 exact⟨rfl,O⟩
theorem ve(o:aU c=true)(r:n=c.start.length)(s:bJ w .i64 A c.start) :
 Calls prog 101 #[.agg #[c.kind,c.threads,c.chans,c.cap,c.nodes,c.aL,c.aF,c.tags,c.bG,c.bt,.slice A n k]] w fun e w'=>e=.returned (bB c)/\Below w w w':=by
 obtain⟨I,x⟩:=av (gJ (w.alloc (dV c A n k)) o r (s.alloc _) (k:=k)) (fun w' (d:Below w w w')=>LB w' o r (s.below d) (k:=k))
 have C:=ot o
 have t:=ae (fun w' (d:Below w w w')=>qB w' o r (s.below d) (k:=k) (cN c) aa aa)
 have J:Hid (bB c=bu c (cN c)):=by unfold Hid bB;rw[o];rfl
 rw[J.Y]
 obtain⟨v,O⟩:=aG (bu c (cN c))
 obtain⟨u,N⟩:=aG (cN c)
 rw[<-O]at t ⊢
 rw[<-N]at t x
 clear J O N r s C o
 have j:(w.alloc (dV c A n k)).cell? ⟨w,0,none⟩=some c.kind/\(w.alloc (dV c A n k)).cell? ⟨w,1,none⟩=some c.threads/\(w.alloc (dV c A n k)).cell? ⟨w,2,none⟩=some c.chans/\(w.alloc (dV c A n k)).cell? ⟨w,3,none⟩=some c.cap/\(w.alloc (dV c A n k)).cell? ⟨w,4,none⟩=some c.nodes/\(w.alloc (dV c A n k)).cell? ⟨w,5,none⟩=some c.aL/\(w.alloc (dV c A n k)).cell? ⟨w,6,none⟩=some c.aF/\(w.alloc (dV c A n k)).cell? ⟨w,7,none⟩=some c.tags/\(w.alloc (dV c A n k)).cell? ⟨w,8,none⟩=some c.bG/\(w.alloc (dV c A n k)).cell? ⟨w,9,none⟩=some c.bt/\(w.alloc (dV c A n k)).cell? ⟨w,10,none⟩=some (.slice A n k):=aD
 have K:∀a b:World,w.heap.size<a.heap.size->Below a a b->(a.cell? ⟨w,0,none⟩=some c.kind/\a.cell? ⟨w,1,none⟩=some c.threads/\a.cell? ⟨w,2,none⟩=some c.chans/\a.cell? ⟨w,3,none⟩=some c.cap/\a.cell? ⟨w,4,none⟩=some c.nodes/\a.cell? ⟨w,5,none⟩=some c.aL/\a.cell? ⟨w,6,none⟩=some c.aF/\a.cell? ⟨w,7,none⟩=some c.tags/\a.cell? ⟨w,8,none⟩=some c.bG/\a.cell? ⟨w,9,none⟩=some c.bt/\a.cell? ⟨w,10,none⟩=some (.slice A n k))->(b.cell? ⟨w,0,none⟩=some c.kind/\b.cell? ⟨w,1,none⟩=some c.threads/\b.cell? ⟨w,2,none⟩=some c.chans/\b.cell? ⟨w,3,none⟩=some c.cap/\b.cell? ⟨w,4,none⟩=some c.nodes/\b.cell? ⟨w,5,none⟩=some c.aL/\b.cell? ⟨w,6,none⟩=some c.aF/\b.cell? ⟨w,7,none⟩=some c.tags/\b.cell? ⟨w,8,none⟩=some c.bG/\b.cell? ⟨w,9,none⟩=some c.bt/\b.cell? ⟨w,10,none⟩=some (.slice A n k)):=by exact XF
 obtain⟨q,L⟩:=av K j
 have E:Below w w (w.alloc (dV c A n k)):=ak (aj w) _
 have P:w.heap.size<(w.alloc (dV c A n k)).heap.size:=aD
 have h:=ae P
 clear K j P
 go_enter func101,ntmps101
 go_wp2_with fail
 refine I.mono ?_
 rintro e a ⟨rfl,d⟩
 have o:∀i,a.cell? ⟨w,i,none⟩=_:=fun i=>d.cell (p:=⟨w,i,none⟩) aD
 have S:=ai E d
 have F:w.heap.size<a.heap.size:=by have:=d.size;have:=h.Y;omega
 have z:Below a a a.drew:=bV (n:=1) (aj _)
 have l:=q.Y _ _ F z (q _ _ h d L)
 have Q:=ai S z
 have G:w.heap.size<a.drew.heap.size:=by have:=z.size;omega
 have y:=ae (x a.drew Q)
 clear d I x L
 go_wp2
 go_region_held3(fun w'=>w'.cell? ⟨w,0,none⟩=some c.kind/\w'.cell? ⟨w,1,none⟩=some c.threads/\w'.cell? ⟨w,2,none⟩=some c.chans/\w'.cell? ⟨w,3,none⟩=some c.cap/\w'.cell? ⟨w,4,none⟩=some c.nodes/\w'.cell? ⟨w,5,none⟩=some c.aL/\w'.cell? ⟨w,6,none⟩=some c.aF/\w'.cell? ⟨w,7,none⟩=some c.tags/\w'.cell? ⟨w,8,none⟩=some c.bG/\w'.cell? ⟨w,9,none⟩=some c.bt/\w'.cell? ⟨w,10,none⟩=some (.slice A n k)) (first|assumption|go_keep)
  (first
  |(go_at_call 140;refine y.mono ?_;rintro e b ⟨rfl,f⟩
    have B:=ai Q f
    have H:w.heap.size<b.heap.size:=by have:=f.size;omega
    have m:=q.Y _ _ G f l)
  |(go_at_call 104;refine(t b B).mono ?_;rintro e T ⟨rfl,g⟩
    have M:=ai B g
    have D:=q.Y _ _ H g m))
 have R:=ae M
 clear l m D B M f g
 go_wp2
 go_ret
 exact⟨rfl,R⟩
end
def nQ(start:Int)(n:Nat):List Rf:=(List.range n).map fun(i:Nat)=>⟨start+i,0⟩
theorem Eg(start:Int)(n:Nat):nQ start (n+1)=nQ start n++[⟨start+n,0⟩]:=by unfold nQ;rw[List.range_succ,List.map_append];rfl
theorem pw(start:Int)(n:Nat):(nQ start n).length=n:=by simp[nQ]
section
variable(w:World)
theorem P9(start n:Int)(h0:0<=n)(h1:n<=64)(hs:0<=start)(U:start<=1000000) :
 Calls prog 148 #[start,n] w fun e w'=>∃v,e=.returned v/\wV (wK start n) w v w':=by
 have a0:¬n<0:=aa
 have a1:¬64<n:=aa
 have y:Hid (wK start n=⟨⟨0,0⟩,nQ start n.toNat,[],0⟩):=by unfold Hid wK pO nQ;rw[show(min (max n 0) 64).toNat=n.toNat by omega]
 rw[y.Y]
 clear y
 unfold wV lZ
 dsimp only
 obtain⟨N,rfl⟩:∃N:Nat,n=(N:Int):=⟨n.toNat,aa⟩
 rw[gu]
 have E:Below w w ((w.alloc vJ).alloc vJ):=ak (ak (aj w) _) _
 have F:af ((w.alloc vJ).alloc vJ) w 39 _:=(af.new _ _ _).alloc _
 have a:af ((w.alloc vJ).alloc vJ) (w.heap.size+1) 39 _:=af.newAt _ _ _ aD
 obtain⟨K,V,q⟩:=aZ E F a
 clear E F a
 go_enter func148,ntmps148
 go_wp2
 go_loopw[10] (fun i wr=>∃(j:Nat) (A:Option Addr) (c:Nat),j<=N/\i=j/\Hid (aH wr w 200 2 fI (.slice A j c) (nQ start j))/\Hid (Below w w wr)/\Hid (af wr w 39 #[oZ,oZ,oN,oN,oZ])/\Hid (af wr (w.heap.size+1) 39 #[oZ,oZ,.slice A j c,oN,oZ])) (fun i _=>N-(intOf i).toNat)
 case atStart=>exact⟨0,none,0,aV _,rfl,aH.nil _ _ _ _ _,K,V,q⟩
 case round =>
  obtain⟨j,A,c,hj,rfl,o,f,g,z⟩:=hrel;obtain⟨C,D,J⟩:=af.aM z;by_cases T:j<N
  ·have s:IntKind.i64.wrap (start+(j:Int))=start+j:=cD _ aa;go_wp2_with(at_builtin;refine cG _ rfl _ _ 36 rfl w 200 2 16 (.agg #[oZ,oZ]) fI oo u7 underlying36 sr rfl ag _ (nQ start j) rfl (o.alloc _) wr 1 1 [⟨start+j,0⟩] rfl rfl ?c4 ?c5 ?c6 ?c7 ?_)
   case c4=>exact Rd.lit wr (fI ⟨start+j,0⟩) _
   case c5=>rw[pw];simp;omega
   case c6=>rw[pw];simp;omega
   case c7=>have:=f.size;simp;omega
   intro v4 w4 h k u;clear u;rw[<-Eg]at h;obtain⟨H,L,d⟩:=h.shape;rw[pw]at d;subst d;have t:=f.size;have l:=o.alloc (.cells #[.int .i64 (start+j),oZ] 200);have m:=z.alloc (.cells #[.int .i64 (start+j),oZ] 200);have x:=g.alloc (.cells #[.int .i64 (start+j),oZ] 200);have r:=m.grown k (aY l m ag);have G:=x.grown k (aY l x ag);have b:=aH.bh l (ak f (.cells #[.int .i64 (start+j),oZ] 200)) k (by simp;omega) (aS _);obtain⟨Z,Ab,-⟩:=af.aM r;obtain⟨W,B,X,R⟩:=bN h r G b;clear h k l m x r G b C D t s;go_wp2;go_roundw;case rel=>exact⟨j+1,H,L,aa,by go_num,bK W B ag _ _,R.setCell (p:=⟨w.heap.size+1,2,none⟩) (cj _) _,X.bO (p:=⟨w.heap.size+1,2,none⟩) (by show w≠w.heap.size+1;omega) _,B.bj 2 _⟩
   case measure=>simp[intOf];omega
  ·have I:N=j:=aa;subst I;obtain⟨P,M,O⟩:=af.aM g;go_wp2_with fail;have S:=ja g oZ oZ (.slice A N c) oN oZ;have Y:=fun i=>af.cell S i;have s:aH _ w 200 2 fI (.slice A N c) (nQ start N):=dZ o g ag oZ oZ (.slice A N c) oN oZ;have Q:=fL f (aS _) oZ oZ (.slice A N c) oN oZ;change bodyPost _ _ _ _ _ (iI wr w oZ oZ (.slice A N c) oN oZ);generalize iI wr w oZ oZ (.slice A N c) oN oZ=wz at *;clear C D P M O J;refine bodyPost_ret (v:=.agg #[oZ,oZ,.slice A N c,oN,oZ]) ?_ rfl ?_
   ·simp[results,results148,go_sem,Y]
   ·rw[pw];exact⟨_,rfl,A,c,none,0,rfl,s,aH.nil _ _ _ _ _,Q⟩
end
def zF(c:bA)(A:Option Addr)(n k:Nat):Value:=.agg #[c.kind,c.threads,c.chans,c.cap,c.nodes,c.aL,c.aF,c.tags,c.bG,c.bt,.slice A n k]
section
variable(w:World) {c:Mo.bA} {A:Option Addr} {n k:Nat}
theorem yJ(o:aU c=true)(u:bB c<=1048576)(p:n=c.start.length)(q:bJ w .i64 A c.start) :
 Calls prog 99 #[zF c A n k] w fun e w'=>e=.returned oZ/\Below w w w':=by
 unfold zF
 obtain⟨j,l⟩:=av (fun w' (d:Below w w w')=>gJ w' o p (q.below d) (k:=k)) (fun w' (d:Below w w w')=>ve w' o p (q.below d) (k:=k))
 generalize bB c=T at *
 clear o p q
 have i:Below w w (w.alloc (dV c A n k)):=ak (aj w) _
 have f:af (w.alloc (dV c A n k)) w 24 _:=af.new _ _ _
 obtain⟨g,s⟩:=av i f
 clear i f
 go_enter func99,ntmps99
 go_wp2_with fail
 go_fit (j _ g)
 rintro e x ⟨rfl,a⟩
 obtain⟨h,r⟩:=av (ai g a) (s.ai a)
 clear a
 obtain⟨t,-,v⟩:=af.aM r
 go_wp2_with fail
 go_fit (l _ h)
 rintro e y ⟨rfl,b⟩
 have m:=ae (ai h b)
 clear b
 go_wp2
 go_ret
 exact⟨rfl,m⟩
end
section
variable(w:World)
theorem LC(x:Int):Calls prog 231 #[.int .u64 x] w fun e w'=>e=.returned (.tuple #[.int .u64 x,.bool true])/\w=w':=by go_enter func231,ntmps231;go_wp2;go_ret2;exact⟨rfl,rfl⟩
theorem G1(x y:Int)(b:Nat)(a:w.cell? ⟨b,0,none⟩=some (.int .u64 y)):Calls prog 232 #[.int .u64 x,.pointer (some ⟨b,0,none⟩)] w fun e w'=>e=.returned (.tuple #[.int .u64 y,.bool true])/\w=w':=by go_enter func232,ntmps232;go_wp2;go_ret2;exact⟨rfl,rfl⟩
theorem Qb(x y:Int)(b:Nat)(a:w.cell? ⟨b,0,none⟩=some (.int .u64 y)):Calls prog 212 #[.int .u64 x,.pointer (some ⟨b,0,none⟩)] w fun e w'=>e=.returned (.tuple #[.int .u64 (IntKind.u64.wrap (x+y)),.bool true])/\w=w':=by go_enter func212,ntmps212;go_wp2;go_ret2;exact⟨rfl,rfl⟩
theorem LD(x a y:Int)(b c:Nat)(o:w.cell? ⟨b,0,none⟩=some (.int .u64 a))(p:w.cell? ⟨c,0,none⟩=some (.int .u64 y)):Calls prog 238 #[.int .u64 x,.pointer (some ⟨b,0,none⟩),.pointer (some ⟨c,0,none⟩)] w fun e w' =>
 e=.returned (.tuple #[.int .u64 (if x=a then y else x),.bool (x==a)])/\w=w':=by
 by_cases h:x=a
 ·subst h;go_enter func238,ntmps238;go_wp2;go_ret2;exact⟨aD,rfl⟩
 ·have d:(x !=a)=true:=by simpa using h
  have H:=ae h;clear h;go_enter func238,ntmps238;go_wp2;go_ret2;have:=H.Y;exact⟨by simp[this],rfl⟩
theorem Qc(x a y:Int)(b c:Nat)(o:Int)(q:Bool)(h:Hid ((if x=a then y else x)=o/\(x==a)=q))(r:w.cell? ⟨b,0,none⟩=some (.int .u64 a))(s:w.cell? ⟨c,0,none⟩=some (.int .u64 y)):Calls prog 238 #[.int .u64 x,.pointer (some ⟨b,0,none⟩),.pointer (some ⟨c,0,none⟩)] w fun e w' =>
 e=.returned (.tuple #[.int .u64 o,.bool q])/\w=w':=by
 have k:=LD w x a y b c r s
 rw[h.Y.1,h.Y.2]at k
 exact k
def tX(w:World)(base g:Nat)(s r q:Value)(L:List Int)(G:List Acc)(C:List Int)(t:Bool)(o:World):Prop :=∃a c,eu o base g s a c L G C t/\(∀b,a.ownBlock=some b->r.ownBlock=some b\/w.heap.size<=b)/\(∀b,c.ownBlock=some b->q.ownBlock=some b\/w.heap.size<=b)/\Rest w o g s r q/\Below base w o
def tY(o:Bool)(G:List Acc)(a:Acc):List Acc:=if o=true then G++[a]else G
def ab5(w:World)(o:FuncId)(a:Array Value)(x q:Int)(r:Bool):Prop :=
 (o=231/\a=#[]/\Hid (x=q/\true=r))\/(∃b,o=232/\a=#[.pointer (some ⟨b,0,none⟩)]/\w.cell? ⟨b,0,none⟩=some (.int .u64 q)/\Hid (true=r)) \/
 (∃b y,o=212/\a=#[.pointer (some ⟨b,0,none⟩)]/\w.cell? ⟨b,0,none⟩=some (.int .u64 y)/\Hid (IntKind.u64.wrap (x+y)=q/\true=r)) \/
 (∃b c d y,o=238/\a=#[.pointer (some ⟨b,0,none⟩),.pointer (some ⟨c,0,none⟩)]/\w.cell? ⟨b,0,none⟩=some (.int .u64 d)/\w.cell? ⟨c,0,none⟩=some (.int .u64 y)/\Hid ((if x=d then y else x)=q/\(x==d)=r))
theorem Qd(x a:Int)(o:Bool)(h:Hid (x=a/\true=o)):Calls prog 231 #[.int .u64 x] w fun e w'=>e=.returned (.tuple #[.int .u64 a,.bool o])/\w=w':=by obtain⟨b,c⟩:=h.Y;subst b c;exact LC w _
theorem LG(x y:Int)(b:Nat)(a:Bool)(h:Hid (true=a))(o:w.cell? ⟨b,0,none⟩=some (.int .u64 y)):Calls prog 232 #[.int .u64 x,.pointer (some ⟨b,0,none⟩)] w fun e w'=>e=.returned (.tuple #[.int .u64 y,.bool a])/\w=w':=by have c:=h.Y;subst c;exact G1 w x y b o
theorem UO(x y a:Int)(b:Nat)(o:Bool)(h:Hid (IntKind.u64.wrap (x+y)=a/\true=o))(q:w.cell? ⟨b,0,none⟩=some (.int .u64 y)):Calls prog 212 #[.int .u64 x,.pointer (some ⟨b,0,none⟩)] w fun e w'=>e=.returned (.tuple #[.int .u64 a,.bool o])/\w=w':=by obtain⟨c,d⟩:=h.Y;subst c d;exact Qb w x y b q
theorem xz(base g:Nat)(vl u D:Value)(L:List Int)(G:List Acc)(C:List Int)(R:Bool)(q r t ol V:Int)(k:Nat)(X:Bool)(x o:Int)(s:Bool)(fn:FuncId)(cp:Array Value)(h:eu w base g vl u D L G C R)(hC:C.length<=64)(hG:G.length<=1000000)(hL:L.length<=2000000)(hx:L[k]?=some x)(hf:ab5 w fn cp x o s) :
 Calls prog 211 #[.pointer (some ⟨g,0,none⟩),.agg #[.int .i64 q,.int .i64 r,.int .i64 k,.int .u64 t,.int .u64 ol,.int .u64 V,.bool X],.func (.func fn) #[] cp] w fun e w' =>
  e=.returned (.tuple #[.agg #[.int .i64 q,.int .i64 r,.int .i64 k,.int .u64 t,.int .u64 x,.int .u64 o,.bool s],.int .i64 0])/\tX w base g vl u D (L.set k o) (tY R G ⟨q,r,k,t,x,o,s⟩) (js C q) R w':=by
 unfold tY
 have aq:L≠[]:=by rintro rfl;simp at hx
 obtain⟨f,m,rfl,Z,cw⟩:=h.form aq
 obtain⟨n,hn⟩:=aG L.length
 have rE:k<n:=by rw[hn];exact(List.getElem?_eq_some_iff.1 hx).1
 rw[<-hn]at h hL ⊢
 have aT:=h.words.cell hx
 have lz:=h.words.frozen k
 obtain⟨j,cd,WW⟩:=af.aM h.blk
 obtain⟨H,HX,HN,a⟩:=bN h hx hn h.wH
 have o9:base<=w.heap.size:=bq h.low (Nat.le_of_lt WW)
 clear h hx hn aq
 have zE:decide ((k:Int)<0)=false:=bU aa
 have Ju:decide ((n:Int)<=(k:Int))=false:=bU aa
 have Ua:decide (n<=k)=false:=bU aa
 generalize b6:(Obj.cells #[.int .i64 q,.int .i64 r,.int .i64 k,.int .u64 t,.int .u64 ol,.int .u64 V,.bool X] 246)=oA
 clear b6
 have bz:=ae (qc ((w.alloc (.cells #[.int .i64 q,.int .i64 r,.int .i64 k,.int .u64 t,.int .u64 ol,.int .u64 V,.bool X] 246)).alloc (.cells #[.int .i64 0,.int .i64 0,.int .i64 0,.int .u64 0,.int .u64 0,.int .u64 0,.bool false] 246)) g ⟨f,0,none⟩ n m (((H.blk.alloc _).alloc _).cell 0))
 rcases hf with⟨rfl,rfl,E⟩|⟨b,rfl,rfl,T,E⟩|⟨b,y,rfl,rfl,T,E⟩|⟨b,c,wb,y,rfl,rfl,T,hz,E⟩
 all_goals
  try have c3:=bb T
  try have nX:=bb hz
  go_enter func211,ntmps211;go_wp2_with fail;refine bz.mono ?_;rintro e w' ⟨rfl,rfl⟩;go_wp2_with fail;go_quiet(fail);go_wp2;go_region;go_wp2_with fail;first
   |refine((Qd _ x o s E).mono fun _ _ h=>(⟨h.1,h.2⟩:_/\Same _ _)).mono ?_
   |refine((LG _ x o b s E (by exact(World.cell?_setCell_other _ _ _ _ (by first|(simp;done)|(simp;omega))).trans (((World.cell?_alloc_lt _ _ _ (by first|(simp;done)|(simp;omega)|omega)).trans (World.cell?_alloc_lt _ _ _ (by first|(simp;done)|(simp;omega)|omega))).trans T))).mono fun _ _ h=>(⟨h.1,h.2⟩:_/\Same _ _)).mono ?_
   |refine((UO _ x y o b s E (by exact(World.cell?_setCell_other _ _ _ _ (by first|(simp;done)|(simp;omega))).trans (((World.cell?_alloc_lt _ _ _ (by first|(simp;done)|(simp;omega)|omega)).trans (World.cell?_alloc_lt _ _ _ (by first|(simp;done)|(simp;omega)|omega))).trans T))).mono fun _ _ h=>(⟨h.1,h.2⟩:_/\Same _ _)).mono ?_
   |refine((Qc _ x wb y b c o s E (by exact(World.cell?_setCell_other _ _ _ _ (by first|(simp;done)|(simp;omega))).trans (((World.cell?_alloc_lt _ _ _ (by first|(simp;done)|(simp;omega)|omega)).trans (World.cell?_alloc_lt _ _ _ (by first|(simp;done)|(simp;omega)|omega))).trans T)) (by exact(World.cell?_setCell_other _ _ _ _ (by first|(simp;done)|(simp;omega))).trans (((World.cell?_alloc_lt _ _ _ (by first|(simp;done)|(simp;omega)|omega)).trans (World.cell?_alloc_lt _ _ _ (by first|(simp;done)|(simp;omega)|omega))).trans hz))).mono fun _ _ h=>(⟨h.1,h.2⟩:_/\Same _ _)).mono ?_
  rintro e P ⟨rfl,S⟩;have rJ:Hid (eu P base g (.slice (some ⟨f,0,none⟩) n m) u D L G C R):=S.to (Q:=fun W=>eu W base g (.slice (some ⟨f,0,none⟩) n m) u D L G C R) ((((H.alloc _).alloc _).drew _).bO a (aS _) _);have JT:Hid (af P w.heap.size 246 #[.int .i64 q,.int .i64 r,.int .i64 k,.int .u64 t,.int .u64 x,.int .u64 V,.bool X]):=S.to (Q:=fun W=>af W w.heap.size 246 #[.int .i64 q,.int .i64 r,.int .i64 k,.int .u64 t,.int .u64 x,.int .u64 V,.bool X]) ((((af.new w _ _).alloc _).drewN _).bj 4 (.int .u64 x));have Qe:Hid (af P (w.heap.size+1) 246 #[.int .i64 0,.int .i64 0,.int .i64 0,.int .u64 0,.int .u64 0,.int .u64 0,.bool false]):=S.to (Q:=fun W=>af W (w.heap.size+1) 246 #[.int .i64 0,.int .i64 0,.int .i64 0,.int .u64 0,.int .u64 0,.int .u64 0,.bool false]) (((af.newAt _ _ _ aD).drewN _).bO aD _);have iT:Hid (Rest w P g (.slice (some ⟨f,0,none⟩) n m) u D):=S.to (Q:=fun W=>Rest w W g (.slice (some ⟨f,0,none⟩) n m) u D) (((((Rest.refl w g _ u D).alloc (aS _) _).alloc aD _).drew _).kS (aS _) _);have br:Hid (Below base w P):=S.to (Q:=fun W=>Below base w W) ((bV (((Below.refl base w).alloc o9 _).alloc (by simp;omega) _) _).setCell (p:=⟨w.heap.size,4,none⟩) o9 _);have dc:w.heap.size+1<P.heap.size:=Qe.lt;clear S aT lz j cd;have aT:=rJ.words.cell HX;have lz:=rJ.words.frozen k;have j:=fun i=>af.cell rJ.blk i;obtain⟨O,b8,-⟩:=af.aM JT;have UP:g≠w.heap.size:=aa;have UQ:f≠w.heap.size:=aa;go_wp2;go_region;go_wp2_with fail;refine(KM _ base g (.slice (some ⟨f,0,none⟩) n m) u D (L.set k o) G C R q ?hM hC).mono ?_;case hM=>exact(((rJ.bO a (aS _) _).bO a (aS _) _).drew _).store k _
  rintro e A ⟨rfl,⟨uA,(z:Hid _),bo⟩,JU,qp⟩;have bY:w.heap.size≠f:=aa;have b7:w.heap.size+1≠f:=aa;have Qf:Hid (af A w.heap.size 246 #[.int .i64 q,.int .i64 r,.int .i64 k,.int .u64 t,.int .u64 x,.int .u64 o,.bool s]):=eu.free JU a ((((JT.bj 5 _).bj 6 _).bO (p:=⟨f,k,none⟩) bY _).drewN 1) (aS _);have G2:Hid (af A (w.heap.size+1) 246 #[.int .i64 0,.int .i64 0,.int .i64 0,.int .u64 0,.int .u64 0,.int .u64 0,.bool false]):=eu.free JU a ((((Qe.bO (p:=⟨w.heap.size,5,none⟩) aD _).bO (p:=⟨w.heap.size,6,none⟩) aD _).bO (p:=⟨f,k,none⟩) b7 _).drewN 1) aa;have Y:∀b,uA.ownBlock=some b->D.ownBlock=some b\/w.heap.size+1<b:=fun b d=>(bo b d).imp id (fun h=>by simp at h;omega);have df:w.heap.size+1<A.heap.size:=G2.lt;have fZ:Hid (Rest w A g (.slice (some ⟨f,0,none⟩) n m) u D):=Rest.trans ((((iT.kS (p:=⟨w.heap.size,5,none⟩) (aS _) _).kS (p:=⟨w.heap.size,6,none⟩) (aS _) _).Kz (p:=⟨f,k,none⟩) rfl _).drew 1) (by simp;omega) JU (fun b d=>.inl d) (fun b d=>.inl d);have K:Hid (Below base w A):=(bV (n:=1) (((br.setCell (p:=⟨w.heap.size,5,none⟩) o9 _).setCell (p:=⟨w.heap.size,6,none⟩) o9 _).setCell (p:=⟨f,k,none⟩) Z _)).trans qp;have F:=ae Y;have n1:g≠w.heap.size+1:=aa;have n2:(Value.slice (some ⟨f,0,none⟩) n m).ownBlock≠some (w.heap.size+1):=by intro l;simp[Value.ownBlock]at l;omega
  have n3:u.ownBlock≠some (w.heap.size+1):=by intro l;have:=a.2.2.1 _ l;omega
  have n4:uA.ownBlock≠some (w.heap.size+1):=by
   intro l;rcases F.Y _ l with h|h
   ·have:=a.2.2.2 _ h;omega
   ·omega
  obtain⟨N1,N2,N3,N4⟩:=bN n1 n2 n3 n4;clear aT lz j O b8 bo Y JU qp n1 n2 n3 n4;have cF:g<A.heap.size:=z.blk.lt;have j:=fun i=>af.cell z.blk i;have O:=fun i=>af.cell Qf i;obtain⟨fH,cn,-⟩:=af.aM G2;rcases R with _|_
  ·go_wp2;refine bodyPost_ret (v:=?_) ?_ rfl ?_;rotate_left
   ·obtain⟨k0,k1,k2,k3,k4,k5,k6⟩:=xL G2 (.int .i64 q) (.int .i64 r) (.int .i64 k) (.int .u64 t) (.int .u64 x) (.int .u64 o) (.bool s);exact XJ
   ·exact⟨rfl,u,uA,At z N1 N2 N3 N4 (.int .i64 q) (.int .i64 r) (.int .i64 k) (.int .u64 t) (.int .u64 x) (.int .u64 o) (.bool s),fun _ d=>.inl d,fun b d=>(F b d).imp id (fun h=>by omega),Ar fZ aa (.int .i64 q) (.int .i64 r) (.int .i64 k) (.int .u64 t) (.int .u64 x) (.int .u64 o) (.bool s),r8 K aa (.int .i64 q) (.int .i64 r) (.int .i64 k) (.int .u64 t) (.int .u64 x) (.int .u64 o) (.bool s)⟩
  ·go_wp2;go_region_law(first
    |(refine mh rfl _ _ 137 rfl base 246 7 56 (.agg #[.int .i64 0,.int .i64 0,.int .i64 0,.int .u64 0,.int .u64 0,.int .u64 0,.bool false]) FO N7 N8 underlying137 Oa rfl ag u G rfl ?_ (some ⟨A.heap.size,0,none⟩) 1 1 [⟨q,r,k,t,x,o,s⟩] rfl rfl ?_ ?_ ?_ ?_ ?_;(exact z.log.alloc _);(exact Rd.lit A [.int .i64 q,.int .i64 r,.int .i64 k,.int .u64 t,.int .u64 x,.int .u64 o,.bool s] _);(simp;omega);(simp;omega);(have:=K.size;simp;omega);intro v4 U bR I Eh;obtain⟨B,J,a6,_⟩:=bR.rd;rw[eW,gL]at a6;subst a6;have UR:af U g 139 #[.slice (some ⟨f,0,none⟩) n m,u,uA,.bool true]:=af.grown (by exact z.blk.alloc _) I (by exact aY (z.log.alloc (.cells #[.int .i64 q,.int .i64 r,.int .i64 k,.int .u64 t,.int .u64 x,.int .u64 o,.bool s] 246)) (z.blk.alloc _) ag);have cO:=fun i=>af.cell UR i;have c0:=fun i=>af.free UR i;have c2:=UR.lt))
   all_goals
    have a7:some w.heap.size≠u.ownBlock:=fun l=>by have:=a.2.2.1 _ l.symm;omega
    have a8:some (w.heap.size+1)≠u.ownBlock:=fun l=>by have:=a.2.2.1 _ l.symm;omega
    have M:af U w.heap.size 246 #[.int .i64 q,.int .i64 r,.int .i64 k,.int .u64 t,.int .u64 x,.int .u64 o,.bool s]:=af.grown (by exact Qf.alloc _) I a7;have N:af U (w.heap.size+1) 246 #[.int .i64 0,.int .i64 0,.int .i64 0,.int .u64 0,.int .u64 0,.int .u64 0,.bool false]:=af.grown (by exact G2.alloc _) I a8;have Qg:=((z.alloc (.cells #[.int .i64 q,.int .i64 r,.int .i64 k,.int .u64 t,.int .u64 x,.int .u64 o,.bool s] 246)).drew 1).Ob bR I;obtain⟨cz,b5,pG⟩:=aZ (M.bO (p:=⟨g,1,none⟩) (by simp;omega) (.slice B (G.length+1) J)) (N.bO (p:=⟨g,1,none⟩) (by simp;omega) (.slice B (G.length+1) J)) Qg;have je:Hid (Below base w (U.setCell ⟨g,1,none⟩ (.slice B (G.length+1) J))):=(((bV (n:=1) (K.alloc (by have:=K.size;omega) _)).grown I (by have:=K.size;simp;omega) (fun b d=>(aX z.log d).1))).setCell (p:=⟨g,1,none⟩) z.low _;have Af:∀b,(Value.slice B (G.length+1) J).ownBlock=some b->u.ownBlock=some b\/w.heap.size+1<b:=by
     intro b d;rcases Eh with h|h
     ·exact .inl (h.symm.trans d)
     ·rw[h]at d;injection d with d;right;rw[<-d];simp;omega
    have jV:Hid (Rest w (U.setCell ⟨g,1,none⟩ (.slice B (G.length+1) J)) g (.slice (some ⟨f,0,none⟩) n m) u D):=(Rest.grown (vg':=u) (((fZ.alloc K.size _).drew 1)) (by have:=K.size;simp;omega) I (fun b d=>.inl d)).I9 _;have n3:(Value.slice B (G.length+1) J).ownBlock≠some (w.heap.size+1):=by
     intro l;rcases Af _ l with h|h
     ·have:=a.2.2.1 _ h;omega
     ·omega
    obtain⟨N5,yK⟩:=av n3 Af;have cC:=fun i=>af.cell M i;obtain⟨ct,cv,cy⟩:=af.aM N;clear I bR Eh M N Qg Af n3 a7 a8 j O fH cn UR;go_wp2;refine bodyPost_ret (v:=?_) ?_ rfl ?_;rotate_left
    ·obtain⟨k0,k1,k2,k3,k4,k5,k6⟩:=xL b5 (.int .i64 q) (.int .i64 r) (.int .i64 k) (.int .u64 t) (.int .u64 x) (.int .u64 o) (.bool s);exact XJ
    ·exact⟨rfl,.slice B (G.length+1) J,uA,At pG N1 N2 N5 N4 (.int .i64 q) (.int .i64 r) (.int .i64 k) (.int .u64 t) (.int .u64 x) (.int .u64 o) (.bool s),fun b d=>(yK b d).imp id (fun h=>by omega),fun b d=>(F b d).imp id (fun h=>by omega),Ar jV aa (.int .i64 q) (.int .i64 r) (.int .i64 k) (.int .u64 t) (.int .u64 x) (.int .u64 o) (.bool s),r8 je aa (.int .i64 q) (.int .i64 r) (.int .i64 k) (.int .u64 t) (.int .u64 x) (.int .u64 o) (.bool s)⟩
theorem tX.back{w p:World}(h:tX p base g vl vg vc L G C kp w1)(o:Below w w p)(r:base<=w.heap.size):tX w base g vl vg vc L G C kp w1:=by obtain⟨c,s,j,l,m,n,q⟩:=h;refine⟨c,s,j,fun b a=>(l b a).imp id (fun k=>bq o.size k),fun b a=>(m b a).imp id (fun k=>bq o.size k),fun b a d e f i=>(n b (bL a o.size) d e f i).trans (o.block b a),(o.mono r).trans q⟩
theorem tX.more{w:World}(h:tX w base g vl vg vc L G C kp w1)(o:Obj):tX w base g vl vg vc L G C kp (w1.alloc o):=by obtain⟨d,q,a,l,m,n,e⟩:=h;have r:=e.size;have p:=bq a.low (Nat.le_of_lt a.blk.lt);exact⟨d,q,a.alloc o,l,m,fun b c f i j k=>(Below.heap_alloc w1 o b aa).trans (n b c f i j k),e.alloc p o⟩
section
variable(base g:Nat) (vl vg vc:Value) (L:List Int) (G:List Acc) (C:List Int) (kp:Bool)
theorem Qh(o:Int)(k:Nat)(x:Int)(h:eu w base g vl vg vc L G C kp)(q:C.length<=64)(r:G.length<=1000000)(s:L.length<=2000000)(p:L[k]?=some x) :
 Calls prog 201 #[.pointer (some ⟨g,0,none⟩),.int .i64 o,.int .i64 k] w fun e w' =>
  e=.returned (.tuple #[.int .u64 x,.int .i64 0])/\tX w base g vl vg vc (L.set k (x)) (tY kp G ⟨o,1,k,0,x,x,true⟩) (js C o) kp w':=by
 have b:Below w w w:=aj w
 obtain⟨HD,HB,H⟩:=aZ (xz w base g vl vg vc L G C kp o 1 0 0 0 k false x x true 231 #[] (h.ai b) q r s p (.inl ⟨rfl,rfl,rfl,rfl⟩)) b h
 have o9:base<=w.heap.size:=bq h.low (Nat.le_of_lt h.blk.lt)
 have d:∀(c:Fn) (first a:Array Value) (w:World),(Instr.makeFunc c first a).run prog w=.ok (.func c first a) w:=fun _ _ _ _=>rfl
 clear h p b
 go_enter func201,ntmps201
 exact ZM
theorem LH(o:Int)(k:Nat)(x:Int)(y:Int)(h:eu w base g vl vg vc L G C kp)(q:C.length<=64)(r:G.length<=1000000)(s:L.length<=2000000)(p:L[k]?=some x) :
 Calls prog 202 #[.pointer (some ⟨g,0,none⟩),.int .i64 o,.int .i64 k,.int .u64 y] w fun e w' =>
  e=.returned (.int .i64 0)/\tX w base g vl vg vc (L.set k (y)) (tY kp G ⟨o,2,k,0,x,y,true⟩) (js C o) kp w':=by
 have b:Below w w (w.alloc (.cells #[.int .u64 y] 44)):=(ak (aj w) (.cells #[.int .u64 y] 44))
 obtain⟨i,f,H⟩:=aZ (xz (w.alloc (.cells #[.int .u64 y] 44)) base g vl vg vc L G C kp o 2 0 0 0 k false x y true 232 #[.pointer (some ⟨w,0,none⟩)] (h.ai b) q r s p (.inr (.inl ⟨w,rfl,rfl,aD,rfl⟩))) b h
 have m:base<=w.heap.size:=bq h.low (Nat.le_of_lt h.blk.lt)
 have l:∀(c:Fn) (first a:Array Value) (w:World),(Instr.makeFunc c first a).run prog w=.ok (.func c first a) w:=fun _ _ _ _=>rfl
 clear h p b
 go_enter func202,ntmps202
 go_wp2_with fail
 refine i.mono ?_
 rintro e n ⟨rfl,d⟩
 have j:=ae ((d.back f m))
 clear d
 go_wp2
 go_ret
 exact⟨rfl,j.more _⟩
theorem US(o:Int)(k:Nat)(x:Int)(y:Int)(h:eu w base g vl vg vc L G C kp)(q:C.length<=64)(r:G.length<=1000000)(s:L.length<=2000000)(p:L[k]?=some x) :
 Calls prog 171 #[.pointer (some ⟨g,0,none⟩),.int .i64 o,.int .i64 k,.int .u64 y] w fun e w' =>
  e=.returned (.tuple #[.int .u64 x,.int .i64 0])/\tX w base g vl vg vc (L.set k ((IntKind.u64.wrap (x+y)))) (tY kp G ⟨o,4,k,0,x,(IntKind.u64.wrap (x+y)),true⟩) (js C o) kp w':=by
 have b:Below w w (w.alloc (.cells #[.int .u64 y] 44)):=(ak (aj w) (.cells #[.int .u64 y] 44))
 obtain⟨HD,HB,H⟩:=aZ (xz (w.alloc (.cells #[.int .u64 y] 44)) base g vl vg vc L G C kp o 4 0 0 0 k false x (IntKind.u64.wrap (x+y)) true 212 #[.pointer (some ⟨w,0,none⟩)] (h.ai b) q r s p (.inr (.inr (.inl ⟨w,y,rfl,rfl,aD,rfl,rfl⟩)))) b h
 have o9:base<=w.heap.size:=bq h.low (Nat.le_of_lt h.blk.lt)
 have d:∀(c:Fn) (first a:Array Value) (w:World),(Instr.makeFunc c first a).run prog w=.ok (.func c first a) w:=fun _ _ _ _=>rfl
 clear h p b
 go_enter func171,ntmps171
 exact ZM
theorem Qi(q:Int)(k:Nat)(x:Int)(p y a:Int)(o:Bool)(h:eu w base g vl vg vc L G C kp)(t:C.length<=64)(u:G.length<=1000000)(D:L.length<=2000000)(r:L[k]?=some x)(s:Hid ((if x=p then y else x)=a/\(x==p)=o)) :
 Calls prog 210 #[.pointer (some ⟨g,0,none⟩),.int .i64 q,.int .i64 k,.int .u64 p,.int .u64 y] w fun e w' =>
  e=.returned (.tuple #[.bool o,.int .i64 0])/\tX w base g vl vg vc (L.set k (a)) (tY kp G ⟨q,3,k,p,x,a,o⟩) (js C q) kp w':=by
 have c:Below w w ((w.alloc (.cells #[.int .u64 p] 44)).alloc (.cells #[.int .u64 y] 44)):=(ak ((ak (aj w) (.cells #[.int .u64 p] 44))) (.cells #[.int .u64 y] 44))
 obtain⟨HD,HB,H⟩:=aZ (xz ((w.alloc (.cells #[.int .u64 p] 44)).alloc (.cells #[.int .u64 y] 44)) base g vl vg vc L G C kp q 3 p 0 0 k false x a o 238 #[.pointer (some ⟨w,0,none⟩),.pointer (some ⟨w.heap.size+1,0,none⟩)] (h.ai c) t u D r (.inr (.inr (.inr ⟨w,w.heap.size+1,p,y,rfl,rfl,aD,aD,s⟩)))) c h
 have o9:base<=w.heap.size:=bq h.low (Nat.le_of_lt h.blk.lt)
 have f:∀(d:Fn) (first b:Array Value) (w:World),(Instr.makeFunc d first b).run prog w=.ok (.func d first b) w:=fun _ _ _ _=>rfl
 clear h r c
 go_enter func210,ntmps210
 exact ZM
end
end
section
variable(w:World) (base g:Nat) (vl vg vc:Value) (L:List Int) (G:List Acc) (C:List Int) (kp:Bool)
theorem Qj(b:Bool)(h:eu w base g vl vg vc L G C kp)(o:L≠[]) :
 Calls prog 45 #[.pointer g,b] w fun e w'=>e=.returned (.tuple #[])/\tX w base g vl vg vc L G C b w':=by
 obtain⟨k,j,rfl,d,f⟩:=h.form o
 have i:=ae (qc w g ⟨k,0,none⟩ L.length j (h.blk.cell 0))
 obtain⟨l,m,n⟩:=af.aM h.blk
 have H:=ae h
 clear h
 go_enter func45,ntmps45
 go_wp2_with fail
 refine i.mono ?_
 rintro e w' ⟨rfl,rfl⟩
 go_wp2
 go_end0
 have a:=H.Y
 exact⟨rfl,vg,vc,⟨af.bj a.blk 3 b,bK a.words a.blk ag _ _,bK a.log a.blk ag _ _,bK a.counts a.blk ag _ _,a.low⟩,fun _ c=>.inl c,fun _ c=>.inl c,(Rest.refl w g _ vg vc).I9 _,(Below.refl _ _).setCell (p:=⟨g,3,none⟩) a.low _⟩
theorem qE{a o q:Nat}:∀(ys:List Int) (w:World) (L:List Int) (k:Nat),eu w base g (.slice a q o) vg vc L G C kp->(∀b,b≠a->(w.setCells a k (ys.map (Value.int .u64))).heap[b]?=w.heap[b]?)/\(w.setCells a k (ys.map (Value.int .u64))).heap.size=w.heap.size/\(base<=a->Below base w (w.setCells a k (ys.map (Value.int .u64))))/\eu (w.setCells a k (ys.map (Value.int .u64))) base g (.slice a q o) vg vc (lj L k ys) G C kp
 |[],w,L,k,h=>⟨fun _ _=>rfl,rfl,fun _=>Below.refl _ _,h⟩
 |y::ys,w,L,k,h=>by
  have j:=h.store k y
  obtain⟨d,e,f,i⟩:=qE ys _ _ (k+1) j
  refine⟨fun b c=>(d b c).trans (dp _ _ _ _ c),e.trans aD,fun c=>((Below.refl base w).setCell (p:=⟨a,k,none⟩) c _).trans (f c),?_⟩
  unfold lj Mo.setAt
  rw[ah aa,gu]
  exact i
theorem Ei(k:Nat)(o:List Int)(A:Option Addr)(m c:Nat)(y:m=o.length)(h:eu w base g vl vg vc L G C kp)(O:L.length<=2000000)(E:k+o.length<=L.length)(p:o≠[])(D:bJ w .u64 A o) :
 Calls prog 102 #[.pointer g,k,.slice A m c] w fun e w'=>e=.returned oZ/\tX w base g vl vg vc (lj L k o) G C kp w':=by
 have q:0<o.length:=List.length_pos_iff.2 p
 have v:L≠[]:=by rintro rfl;rw[List.length_nil]at E;omega
 obtain⟨x,r,rfl,f,B⟩:=h.form v
 obtain⟨n,F⟩:=aG L.length
 rw[<-F]at h O E ⊢
 have nX:n<=r:=h.words.cap.2
 obtain⟨Q,-,Y⟩:=af.aM h.blk
 obtain⟨a,z,rfl,_,_⟩:=D.at_ (i:=0) q
 have I:=ae (qc w g ⟨x,0,none⟩ n r (h.blk.cell 0))
 have zE:decide ((k:Int)<0)=false:=bU aa
 have W:decide ((n:Int)<(k:Int))=false:=bU aa
 have X:decide (n<k)=false:=bU aa
 have Z:decide ((n:Int)-(k:Int)<(m:Int))=false:=bU aa
 have R:k<r:=aa
 have aB:=run_copy_cells (P:=prog) w 43 43 3 44 x k (n-k) (r-k) a m c (o.map (Value.int .u64)) underlying43 (by kernel_rfl) (by rw[cW, <-y];exact(Nat.min_eq_left aa).symm)
  (by
    intro j u s;obtain⟨a',d,N⟩:=D j u s;injection d with d;subst d;exact N)
  (by
    intro j s;rw[cW]at s;obtain⟨z,T⟩:∃z,L[k+j]?=some z:=⟨_,cY aa⟩
    rw[h.words.cell T];rfl)
  (by intro j s;exact h.words.frozen _)
  (by
    intro u S;obtain⟨z,_,rfl⟩:=List.mem_map.1 S;rfl)
 have l:=qE base g vg vc G C kp o w L k h
 obtain⟨H,U,V⟩:=aZ h l y
 clear h F p v D q l y
 go_enter func102,ntmps102
 go_wp2_with fail
 refine I.mono ?_
 rintro e w' ⟨rfl,rfl⟩
 go_wp2
 go_ret
 obtain⟨J,a2,K,M⟩:=U.Y
 exact⟨rfl,vg,vc,M,fun _ t=>.inl t,fun _ t=>.inl t,fun b _ _ d _ _=>J b (fun e=>d (by rw[e];rfl)),K f⟩
theorem ZN(t r a u s p:Int)(q:Bool)(f:Value)(h:eu w base g vl vg vc L G C kp)(o:L≠[])(y:a<0\/(L.length:Int)<=a) :
 Calls prog 211 #[.pointer g,.agg #[t,r,a,.int .u64 u,.int .u64 s,.int .u64 p,q],f] w fun e w' =>
  e=.returned (.tuple #[.agg #[oZ,oZ,oZ,.int .u64 0,.int .u64 0,.int .u64 0,false],.int .i64 5])/\Below w w w':=by
 obtain⟨i,d,rfl,b,c⟩:=h.form o
 generalize L.length=n at h y
 obtain⟨k,-,m⟩:=af.aM h.blk
 have HMY:=ae (qc ((w.alloc (.cells #[t,r,a,.int .u64 u,.int .u64 s,.int .u64 p,q] 246)).alloc (.cells #[oZ,oZ,oZ,.int .u64 0,.int .u64 0,.int .u64 0,false] 246)) g ⟨i,0,none⟩ n d (((h.blk.alloc _).alloc _).cell 0))
 clear h o
 by_cases j:a<0
 ·exact ab7
 ·have v:decide (a<0)=false:=bU j;have l:decide ((n:Int)<=a)=true:=eE aa;exact ab7
theorem Qk(r p:Int)(h:eu w base g vl vg vc L G C kp)(o:L≠[])(q:p<0\/(L.length:Int)<=p) :
 Calls prog 201 #[.pointer g,r,p] w fun e w'=>e=.returned (.tuple #[.int .u64 0,.int .i64 5])/\Below w w w':=by
 have f:=ae (ZN w base g vl vg vc L G C kp r 1 p 0 0 0 false (.func (.func 231) #[] #[]) h o q)
 have i:∀(b:Fn) (first a:Array Value) (w:World),(Instr.makeFunc b first a).run prog w=.ok (.func b first a) w:=fun _ _ _ _=>rfl
 clear h o q
 go_enter func201,ntmps201
 go_wp2_with fail
 refine f.mono ?_
 rintro e j ⟨rfl,c⟩
 have d:=ae (ak c (.cells #[oZ,oZ,oZ,.int .u64 0,.int .u64 0,.int .u64 0,false] 246))
 clear c
 go_wp2
 go_ret2
 exact⟨rfl,d⟩
end
def iU(w:World)(b:Nat):Prop:=Ty w 3 b\/Ty w 110 b
theorem iU.lt(h:iU w b):b<w.heap.size:=h.elim Ty.lt Ty.lt
theorem iU.below(a:Below w w w')(h:iU w b):iU w' b:=h.elim (fun h=>.inl (h.below a)) (fun h=>.inr (h.below a))
theorem Ty.bj(p:Addr)(u:Value)(h:Ty w e b):Ty (w.setCell p u) e b:=by
 obtain⟨c,a,h⟩:=h;by_cases d:p.block=b
 ·subst d;cases f:p.spot with
  |none=>exact⟨c.setIfInBounds p.off u,a,by simp[World.setCell,Array.getElem?_modify,h,f]⟩
  |some q=>exact⟨c,a,by simp[World.setCell,Array.getElem?_modify,h,f]⟩
 ·exact⟨c,a,(dp _ _ _ _ (fun h=>d h.symm)).trans h⟩
theorem iU.bj(p:Addr)(u:Value)(h:iU w b):iU (w.setCell p u) b:=h.elim (fun h=>.inl (h.bj p u)) (fun h=>.inr (h.bj p u))
theorem iU.not{t:TypeId}{o:Nat×Nat}(a:w.heap[g]?=some (.cells ys t o))(q:t≠3)(r:t≠110):¬iU w g:=by
 rintro(⟨b,f,h⟩|⟨b,f,h⟩)
 ·rw[a]at h;injection h with h;injection h with _ h _;exact q h
 ·rw[a]at h;injection h with h;injection h with _ h _;exact r h
def aw(w:World)(g:Nat):Nat->List Value->World
 |_,[]=>w
 |o,v::vs=>aw (w.setCell ⟨g,o,none⟩ v) g (o+1) vs
def gN{α:Type}(L:List α):Nat->List α->List α
 |_,[]=>L
 |o,v::vs=>gN (L.set o v) (o+1) vs
theorem aO(q:b≠g):∀(a:List Value) (o:Nat),(aw w g o a).heap[b]?=w.heap[b]?:=by
 intro a;induction a generalizing w with
 |nil=>intro o;rfl
 |cons v a c=>intro o;exact(c (o+1)).trans (dp _ _ _ _ q)
theorem bH:∀(a:List Value) (w:World) (o:Nat),(aw w g o a).heap.size=w.heap.size:=by
 intro a;induction a with
 |nil=>intro w o;rfl
 |cons v a b=>intro w o;rw[aw,b];simp[World.setCell]
theorem ax{B:Nat}{a:World}(r:B<=g):∀(b:List Value) (w:World) (o:Nat),Below B a w->Below B a (aw w g o b):=by
 intro b;induction b with
 |nil=>intro w o h;exact h
 |cons v b c=>intro w o h;exact c _ _ (h.setCell (p:=⟨g,o,none⟩) r v)
theorem tZ{c:Nat}:∀(a:List Value) (w:World) (o:Nat) (xs:List Value),w.ownsRow base e m (.slice g n c) n xs->(aw w g o a).ownsRow base e m (.slice g n c) n (gN xs o a):=by
 intro a;induction a with
 |nil=>intro w o xs h;exact h
 |cons v a b=>intro w o xs h;exact b _ _ _ (World.ownsRow.stored h o v).1
theorem cm(q:∀b,v.ownBlock=some b->b≠g):∀(a:List Value) (w:World) (o:Nat) (xs:List Value),w.ownsRow base e m v n xs->(aw w g o a).ownsRow base e m v n xs:=by
 intro a;induction a with
 |nil=>intro w o xs h;exact h
 |cons u a c=>intro w o xs h;exact c _ _ _ (dw h (p:=⟨g,o,none⟩) q u)
theorem JV:∀(a:List Value) (w:World) (o:Nat),Ty w e b->Ty (aw w g o a) e b:=by
 intro a;induction a with
 |nil=>intro w o h;exact h
 |cons v a c=>intro w o h;exact c _ _ (h.bj _ v)
theorem fN(a:List Value)(w:World)(o:Nat)(h:iU w b):iU (aw w g o a) b:=h.elim (fun h=>.inl (JV a w o h)) (fun h=>.inr (JV a w o h))
theorem ba{t:TypeId}{r:Array Value}(h:af w b t r)(a:b≠g)(vs:List Value)(o:Nat):af (aw w g o vs) b t r:=(aO a vs o).trans h
theorem Ql(o L:List α)(h:L.length=o.length):gN L 0 o=o:=by
 have:∀(o A B:List α),A.length=o.length->gN (B++A) B.length o=B++o:=by
  intro o;induction o with
  |nil=>intro A B h;rw[List.eq_nil_of_length_eq_zero h];rfl
  |cons v o b =>
   intro A B h;rcases A with _|⟨a,A⟩
   ·simp at h
   ·simp at h;have e:(B++a::A).set B.length v=(B++[v])++A:=aD;show gN ((B++a::A).set B.length v) (B.length+1) o=_;rw[e];have:=b A (B++[v]) h;rw[eW,gL]at this;rw[this];simp
 simpa using this o L [] h
theorem dL{t:TypeId}:∀(a:List Value) (w:World) (o:Nat) (b:List Value),af w g t b.toArray->af (aw w g o a) g t (gN b o a).toArray:=by
 intro a;induction a with
 |nil=>intro w o b h;exact h
 |cons v a c=>intro w o b h;have:=h.bj o v;exact c _ _ _ (by simpa using this)
theorem aQ{t:TypeId}{cs vs:List Value}(h:af w g t cs.toArray)(a:cs.length=vs.length):af (aw w g 0 vs) g t vs.toArray:=by have:=dL vs w 0 cs h;rw[Ql vs cs a]at this;exact this
theorem LI:∀(a L:List α) (o:Nat),(gN L o a).length=L.length:=by
 intro a;induction a with
 |nil=>intro L o;rfl
 |cons v a b=>intro L o;rw[gN,b,cq]
theorem vk:∀(a A B:List α) (o:Nat),A.length<=o->gN (A++B) o a=A++gN B (o-A.length) a:=by
 intro a;induction a with
 |nil=>intro A B o _;rfl
 |cons v a b=>intro A B o h;rw[gN,List.set_append_right _ _ h,b _ _ _ aa,gN];rw[show o+1-A.length=o-A.length+1 by omega]
theorem Bc:∀(b A B:List α),A.length=b.length->gN (A++B) 0 b=b++B:=by
 intro b;induction b with
 |nil=>intro A B h;rw[List.eq_nil_of_length_eq_zero h];rfl
 |cons v b c =>
  intro A B h;rcases A with _|⟨a,A⟩
  ·simp at h
  ·simp at h;show gN ((v::A)++B) 1 b=_;have:=vk b [v] (A++B) 1 aD;simp at this;rw[List.cons_append,this,c A B h];rfl
theorem vn:∀(rows:List (Row m)) (i:Nat) (r:Row m),i<rows.length->gN (rows.flatMap eA) (i*m) r.val=(rows.set i r).flatMap eA:=by
 intro rows;induction rows with
 |nil=>intro i r h;simp at h
 |cons x l a =>
  intro i r h;rcases i with _|i
  ·rw[List.flatMap_cons,Nat.zero_mul,Bc _ _ _ (by rw[b9];exact r.property.1.symm)];rfl
  ·rw[List.flatMap_cons,vk _ _ _ _ (by rw[b9,Nat.add_mul];omega),b9,show(i+1)*m-m=i*m by rw[Nat.add_mul];omega,a i r (by simpa using h)];rfl
section
variable{α:Type} {m:Nat} {P:sU α} {w w':World} {S S':Nat->Prop} {xs:List α} {e:TypeId} {base g n c:Nat} {v:Value}
theorem aI.shape(h:aI e m P w base S v xs):∃A c,v=.slice A xs.length c:=by obtain⟨A,c,a,_⟩:=h.rdX;exact⟨A,c,a⟩
theorem aI.len(h:aI e m P w base S (.slice g n c) xs):n=xs.length:=by obtain⟨A,b,a,_⟩:=h.rdX;injection a
theorem aI.form(h:aI e m P w base S v xs)(r:xs≠[]):∃g c,v=.slice (some ⟨g,0,none⟩) xs.length c/\base<=g/\g<w.heap.size:=by obtain⟨rows,a,d,_⟩:=h;rw[<-a];exact d.form (by intro b;rw[b]at a;exact r (List.eq_nil_of_length_eq_zero a.symm))
theorem aI.at_(h:aI e m P w base S (.slice g n c) xs){x:α}(D:xs[i]?=some x) :
 ∃r,P w S r x/\r.length=m/\∀(j:Nat) (u:Value),r[j]?=some u->w.cell? ⟨g,i*m+j,none⟩=some u:=by
 obtain⟨rows,b,d,f⟩:=h
 have k:i<rows.length:=by rw[b];exact dv D
 have a:=cY k
 exact⟨rows[i].val,f i _ x a D,rows[i].property.1,fun j u l=>d.cells b9 a l⟩
theorem aI.cR(h:aI e m P w base S (.slice g n c) xs)(i:Nat):w.frozen? ⟨g,i,none⟩=false:=by obtain⟨rows,b,a,d⟩:=h;exact a.frozen i
theorem aI.ty(h:aI e m P w base S (.slice g n c) xs):∃ys,w.heap[g]?=some (.cells ys e (0,0))/\base<=g:=by
 obtain⟨rows,a,d,j⟩:=h;rcases d.2 with⟨i,_⟩|⟨p,f,b,o,k,l,_⟩
 ·cases i
 ·injection o with a d j;injection a with a;injection a with a
  subst a;exact⟨b,l,k⟩
theorem aI.LJ(gd:Good P)(h:aI e m P w base S (.slice g n c) xs)(F:i<xs.length)(a:List Value)(t:a.length=m)(q:∀u∈a,u.oneCell'=true)(E:¬S g){y:α}(D:P w S a y) :
 aI e m P (aw w g (i*m) a) base S (.slice g n c) (xs.set i y):=by
 have hlen:=h.len
 obtain⟨rows,l,o,p⟩:=h
 have v:i<rows.length:=aa
 have k:Sm S w (aw w g (i*m) a):=fun b z=>aO (fun A=>by subst A;exact E z) a _
 refine⟨rows.set i ⟨a,t,q⟩,by simp[l],?_,?_⟩
 ·have B:n=rows.length:=aa;subst B;have:=tZ a w (i*m) _ o;unfold aH;rw[cq, <-vn rows i ⟨a,t,q⟩ v];exact this
 ·intro j r x d f;by_cases s:j=i
  ·subst s;rw[List.getElem?_set_self v]at d;rw[List.getElem?_set_self F]at f;injection d with d;injection f with f
   subst d f;exact gd.same k D
  ·rw[List.getElem?_set_ne (fun h=>s h.symm)]at d f;exact gd.same k (p j r x d f)
theorem aI.aev(gd:Good P)(h:aI e m P w base S (.slice g n c) xs){x:α}(D:xs[i]?=some x)(j:Nat)(I:j<m)(u:Value)(E:u.oneCell'=true)(H:¬S g){y:α}(F:∀r,r.length=m->P w S r x->P w S (r.set j u) y) :
 aI e m P (w.setCell ⟨g,i*m+j,none⟩ u) base S (.slice g n c) (xs.set i y):=by
 have hlen:=h.len
 obtain⟨rows,p,q,f⟩:=h
 have C:i<xs.length:=dv D
 have v:i<rows.length:=aa
 have l:Sm S w (w.setCell ⟨g,i*m+j,none⟩ u):=fun b B=>dp _ _ _ _ (fun o=>by have o:b=g:=o;subst o;exact H B)
 have s:=cY v
 have A:∀z∈rows[i].val.set j u,z.oneCell'=true:=fun z a=>by
  rcases List.mem_or_eq_of_mem_set a with a|a
  ·exact rows[i].property.2 z a
  ·rw[a];exact E
 refine⟨rows.set i ⟨rows[i].val.set j u,by rw[cq];exact rows[i].property.1,A⟩,by simp[p],?_,?_⟩
 ·exact q.stored b9 s I rfl
 ·intro k r z d a;by_cases t:k=i
  ·subst t;rw[List.getElem?_set_self v]at d;rw[List.getElem?_set_self C]at a;injection d with d;injection a with a
   subst d a;exact gd.same l (F _ rows[k].property.1 (f k _ x s D))
  ·rw[List.getElem?_set_ne (fun h=>t h.symm)]at d a;exact gd.same l (f k r z d a)
theorem aI.move(gd:Good P)(h:aI e m P w base S v xs)(t:Sm S w w')(s:∀g,v.ownBlock=some g->w'.heap[g]?=w.heap[g]?):aI e m P w' base S v xs:=by
 obtain⟨rows,l,c,n⟩:=h;refine⟨rows,l,⟨c.1,?_⟩,fun i r x a b=>gd.same t (n i r x a b)⟩;rcases c.2 with c|⟨j,d,f,k,o,p,r⟩
 ·exact .inl c
 ·exact .inr ⟨j,d,f,k,o,by rw[s j (by rw[k];rfl)];exact p,r⟩
theorem aI.j6(gd:Good P)(h:aI e m P w base (iU w) v xs)(a:Below w w w'):aI e m P w' base (iU w') v xs:=(h.ai gd (fun _ h=>h.lt) a).mono gd (fun _ h=>h.below a)
theorem aI.bD{base':Nat}(h:aI e m P w base S v xs)(o:base'<=base):aI e m P w base' S v xs:=by obtain⟨rows,a,b,c⟩:=h;exact⟨rows,a,b.bD o,c⟩
theorem kF.j6(gd:Good P)(h:kF m P w (iU w) A xs)(a:Below w w w'):kF m P w' (iU w') A xs:=(h.below gd (fun _ h=>h.lt) a).mono gd (fun _ h=>h.below a)
theorem aI.other(h:aI e m P w base S v xs){g:Nat}{t:TypeId}(q:af w g t ys)(o:e≠t):∀a,v.ownBlock=some a->a≠g:=by obtain⟨rows,f,b,i⟩:=h;exact fun a d c=>aY b q o (by rw[d,c])
end
theorem yL{L:List α}(h:L[k]?=some z):L.set k z=L:=by
 apply List.ext_getElem?;intro i;by_cases a:i=k
 ·subst a;rw[List.getElem?_set_self (dv h),h]
 ·rw[List.getElem?_set_ne (fun h=>a h.symm)]
theorem qF(w:World)(A:Option Addr)(c:Nat)(a:List (Int×Int×Int))(q:n=a.length)(o:n<=1000000)(r:dI w bC A a) :
 Calls prog 96 #[.slice A n c] w (tB 110 3 bC w a n) :=
 (F2 w A c (a.map (jD bC iD uE)) (by simpa using q) o (dI.rows.2 r)).mono fun _ _ h=>h.toF
theorem su(w:World)(A:Option Addr)(c:Nat)(a:List Rs)(r:n=a.length)(o:n<=1000000)(s:dI w ej A a) :
 Calls prog 267 #[.slice A n c] w (tB 48 4 ej w a n) :=
 (KJ w A c (a.map (jD ej cX qs)) (by simpa using r) o (dI.rows.2 s)).mono fun _ _ h=>h.toF
abbrev iu (w:World) (A:Option Addr) (xs:List Wt):Prop:=kF 4 Xs w (iU w) A xs
abbrev lB (w:World) (base:Nat) (v:Value) (xs:List Wt):Prop:=aI 79 4 Xs w base (iU w) v xs
abbrev pU (w:World) (A:Option Addr) (a:List Ch):Prop:=kF 5 Xr w (iU w) A a
abbrev Qm (w:World) (base:Nat) (v:Value) (a:List Ch):Prop:=aI 83 5 Xr w base (iU w) v a
theorem Ej(w:World)(A:Option Addr)(c:Nat)(a:List Wt)(q:n=a.length)(o:n<=1000000)(r:iu w A a) :
 Calls prog 281 #[.slice A n c] w fun e w'=>∃B d,e=.returned (.slice B n d)/\lB w' w (.slice B n d) a/\Below w w w':=by
 obtain⟨rows,b,g,i⟩:=r
 refine(F4 w A c rows (by rw[b];exact q) o g).mono fun _ w' h=>?_
 obtain⟨B,d,j,_,k,f⟩:=fD.toX aR (fun _ h=>h.lt) b i h
 exact⟨B,d,j,k.mono aR (fun _ h=>h.below f),f⟩
theorem Ek(w:World)(A:Option Addr)(c:Nat)(a:List Ch)(r:n=a.length)(o:n<=1000000)(s:pU w A a) :
 Calls prog 271 #[.slice A n c] w fun e w'=>∃B d,e=.returned (.slice B n d)/\Qm w' w (.slice B n d) a/\Below w w w':=by
 obtain⟨rows,b,g,i⟩:=s
 refine(F3 w A c rows (by rw[b];exact r) o g).mono fun _ w' h=>?_
 obtain⟨B,d,j,_,k,f⟩:=fD.toX cP (fun _ h=>h.lt) b i h
 exact⟨B,d,j,k.mono cP (fun _ h=>h.below f),f⟩
def ZP(o:List Wt)(n:Nat)(w:World)(v:Value)(a:World):Prop:=∃A c,v=.slice A n c/\lB a w (.slice A n c) o/\Below w w a
theorem lB.LK{c:Nat}{o:List Wt}(h:lB w base (.slice g n c) o)(q:o[j]?=some x)(t:x.cases.length<=d)(u:dI w bC B x.cases)(s:∀b,B=some b->Ty w 110 b.block):lB (w.setCell ⟨g,j*4+3,none⟩ (.slice B x.cases.length d)) base (.slice g n c) o:=by
 obtain⟨v,k,_⟩:=h.ty
 have:=h.aev aR q 3 ag (.slice B x.cases.length d) rfl (iU.not k ag ag) (y:=x) (fun r l a=>by
  obtain⟨m,p,rfl,_,_⟩:=a
  exact⟨B,d,rfl,t,u,fun e f _=>.inr (s e f)⟩)
 rw[yL q]at this
 exact this.mono aR fun b i=>i.bj _ _
section
variable(w:World)
theorem ji(A:Option Addr)(c:Nat)(xs:List Wt)(u:n=xs.length)(hl:n<=100000)(K:iu w A xs)(J:∀x∈xs,x.cases.length<=100000) :
 Calls prog 272 #[.slice A n c] w fun e w'=>∃v,e=.returned v/\ZP xs n w v w':=by
 obtain⟨L,E,P⟩:=aZ (Ej w A c xs u aa K) u J
 clear u K J
 go_enter func272,ntmps272
 go_wp2_with fail
 refine L.mono ?_
 rintro e w1 ⟨B,d,rfl,H,k⟩
 obtain⟨kL,S⟩:=av H k
 clear H k L
 go_wp2
 go_loopw[4,9] (fun _ i wr=>∃j:Nat,j<=n/\i=j/\Hid (lB wr w (.slice B n d) xs)/\Hid (Below w w wr)) (fun _ i _=>n-(intOf i).toNat)
 case atStart=>exact⟨0,aV _,rfl,kL,S⟩
 case round =>
  obtain⟨j,hj,rfl,f,C⟩:=hrel;by_cases t:j<n
  ·have l:xs≠[]:=by have:=E.Y;rintro rfl;simp at this;omega
   obtain⟨g,c',y,s,M⟩:=f.form l;injection y with e1 e2 e3
   have jv:=ae e2;subst e1 e3;clear e2 l;obtain⟨x,m⟩:∃x,xs[j]?=some x:=⟨_,cY (by rw[<-E.Y];exact t)⟩
   obtain⟨r,Z,jU,hcell⟩:=f.at_ m;obtain⟨D,V,rfl,q,h⟩:=Z;have G:=hcell 3 _ rfl;have f3:=f.cR (j*4+3);obtain⟨Q,N⟩:=av m (qF wr D V x.cases rfl (by have:=P.Y x (bX m);omega) h.1);clear hcell m h q jU;go_wp2_with fail;refine N.mono ?_;rintro e w2 ⟨B2,d2,rfl,F,I,a⟩;have z:=f.j6 aR a;have W:=z.cR (j*4+3);have T:=(a.cell (p:=⟨g,j*4+3,none⟩) M).trans G;have aq:=ltW a M;obtain⟨X,O,R,yM⟩:=bN z I (ai C a) F;clear G f3 z I a F N;go_wp2;go_roundw;case rel =>
    refine⟨j+1,aa,by go_num,lB.LK X Q yM O.zX.2 (fun b hb=>?_),R.setCell (p:=⟨g,j*4+3,none⟩) s _⟩;subst hb;rcases O.2 with⟨Y,_⟩|⟨g',U,o,y,_,hh,_⟩
    ·cases Y
    ·injection y with h1;injection h1 with h1;subst h1
     exact⟨o,_,hh⟩
   case measure=>simp[intOf];omega
  ·go_wp2;go_ret;exact⟨_,rfl,B,d,rfl,f,C⟩
theorem UT(A:Option Addr)(n c:Nat)(t:Int):Calls prog 295 #[.slice A n c,t] w fun e w'=>e=.returned (decide (0<=t/\t<n))/\w=w':=by
 by_cases a:0<=t
 ·go_enter func295,ntmps295;go_wp2;go_ret;exact⟨cr (by simp[a]),rfl⟩
 ·have d1:decide (0<=t)=false:=bU a;have d2:decide (0<=t/\t<n)=false:=bU (fun h=>a h.1);rw[d2];clear a d2;go_enter func295,ntmps295;go_wp2;go_ret;exact⟨rfl,rfl⟩
theorem Cr(A:Option Addr)(n c:Nat)(t:Int)(h:0<=t/\t<n):Calls prog 295 #[.slice A n c,t] w fun e w'=>e=.returned true/\w=w':=by have:=UT w A n c t;rw[eE h]at this;exact this
theorem iu.row{w:World}{xs:List Wt}(h:iu w A xs)(o:xs[j]?=some x):∃a B d,A=some a/\x.cases.length<=d/\dI w bC B x.cases /\
 w.cell? (a.add (j*4))=some (.bool x.on)/\w.cell? ⟨(a.add (j*4)).block,(a.add (j*4)).off+1,none⟩=some (.int .i64 x.az)/\w.cell? ⟨(a.add (j*4)).block,(a.add (j*4)).off+2,none⟩=some (.int .i64 x.seq)/\w.cell? ⟨(a.add (j*4)).block,(a.add (j*4)).off+3,none⟩=some (.slice B x.cases.length d):=by
 obtain⟨a,p,r,i,b,k,n,hcell⟩:=kF.at_ ag h (dv o)
 rw[o]at b
 injection b with b
 subst b
 obtain⟨B,d,rfl,m,l⟩:=k
 have g:=hcell 0 _ rfl
 have c:=hcell 1 _ rfl
 have e:=hcell 2 _ rfl
 have f:=hcell 3 _ rfl
 rw[add_lit _ _ ag]at c e f
 exact⟨a,B,d,i,m,l.1,g,c,e,f⟩
theorem vo{w:World}{c:Nat}{b:Addr}(h:aH w base e m f (.slice (some b) n c) xs):Ty w e b.block:=by exact XK
theorem lB.put{w:World}{c:Nat}{o:List Wt}{y:Wt}(h:lB w base (.slice g n c) o)(t:j<o.length)(s:y.cases.length<=d)(D:dI w bC B y.cases)(r:∀b,B=some b->y.cases≠[]->Ty w 110 b.block):lB (aw w g (j*4) [y.on,y.az,y.seq,.slice B y.cases.length d]) base (.slice g n c) (o.set j y):=by
 obtain⟨m,l,_⟩:=h.ty
 have:=h.LJ aR t [y.on,y.az,y.seq,.slice B y.cases.length d] rfl (by intro u e;simp at e;rcases e with rfl|rfl|rfl|rfl<;>rfl) (iU.not l ag ag) (y:=y) ⟨B,d,rfl,s,D,fun f i a=>.inr (r f i a)⟩
 exact this.mono aR fun b k=>fN _ _ _ k
theorem ua(A:Option Addr)(c:Nat)(xs:List Wt)(s:n=xs.length)(J:n<=100000)(u:iu w A xs)(E:∀x∈xs,x.cases.length<=100000)(o:xs[j]?=some x)(F:x.on=true) :
 Calls prog 291 #[.slice A n c,j] w fun e w'=>∃v,e=.returned (.tuple #[v,true])/\ZP (gY xs j) n w v w':=by
 obtain⟨z,C,p⟩:=aZ (ji w A c xs s J u E) s o
 have K:j<n:=by rw[s];exact dv o
 obtain⟨k,G⟩:=av (fun w'=>Cr w' A n c j aa) (fun w' (l:Below w w w')=>iu.row (u.j6 aR l) o)
 obtain⟨H,_,_,f,_⟩:=iu.row u o
 subst f
 clear s u E o
 go_enter func291,ntmps291
 go_wp2_with fail
 refine z.mono ?_
 rintro e P ⟨v,rfl,Q,T,rfl,t,h⟩
 obtain⟨a,q⟩:=av t h
 clear t h z
 go_wp2_with fail
 go_fit (k _)
 rintro e w2 ⟨rfl,rfl⟩
 obtain⟨R,_,_,f,_,_,N,_⟩:=G.Y P q
 injection f with f
 subst f
 rw[F]at N
 have i:xs≠[]:=by have:=C.Y;rintro rfl;simp at this;omega
 obtain⟨g,S,L,m,W⟩:=a.form i
 injection L with e1 e2 e3
 have V:=ae e2
 subst e1 e3
 clear e2 i
 obtain⟨r,I,M,hcell⟩:=a.at_ p
 obtain⟨D,U,rfl,_,_⟩:=I
 have O:=hcell 0 _ rfl
 rw[Nat.add_zero]at O
 have X:=hcell 1 _ rfl
 have Y:=hcell 2 _ rfl
 have Z:=hcell 3 _ rfl
 have f0:=a.cR (j*4)
 have f1:=a.cR (j*4+1)
 have f2:=a.cR (j*4+2)
 have f3:=a.cR (j*4+3)
 clear hcell M F
 go_wp2
 go_ret2
 refine⟨_,rfl,_,_,rfl,lB.put (y:=iz) (B:=none) (d:=0) a (dv p) (aS _) (dI.nil _ _ _) (fun b l=>by cases l),ax m [false,.int .i64 0,.int .i64 0,.slice none 0 0] _ _ q⟩
theorem Qn(A:Option Addr)(c:Nat)(F:List Wt)(K:n=F.length)(hl:n<=100000)(M:iu w A F)(X:∀x∈F,x.cases.length<=100000)(I:F[j]?=some x)(Z:x.on=false)(E u:Int)(o:List Cs)(D:Option Addr)(s H:Nat)(J:s=o.length)(a6:s<=100000)(V:dI w bC D o) :
 Calls prog 288 #[.slice A n c,j,.agg #[false,E,u,.slice D s H]] w fun e w'=>∃v,e=.returned (.tuple #[v,true])/\ZP (F.set j ⟨true,E,u,o⟩) n w v w':=by
 obtain⟨pH,HN,P,G⟩:=bN (ji (w.alloc (.cells #[false,E,u,.slice D s H] 79)) A c F K hl (M.j6 aR (ak (aj w) _)) X) K I J
 have a7:j<n:=by rw[K];exact dv I
 obtain⟨C,HR,rH⟩:=aZ (fun w'=>Cr w' A n c j aa) (fun w' (a:Below w w w')=>iu.row (M.j6 aR a) I) (fun w' (a:Below w w w')=>qF w' D H o J aa (V.below a))
 obtain⟨aq,_,_,q,_⟩:=iu.row M I
 subst q
 have bM:Hid (Below w w (w.alloc (.cells #[false,E,u,.slice D s H] 79))):=ak (aj w) _
 have jc:Hid (af (w.alloc (.cells #[false,E,u,.slice D s H] 79)) w 79 #[false,E,u,.slice D s H]):=af.new _ _ _
 clear K M X I J V
 go_enter func288,ntmps288
 go_wp2_with fail
 refine pH.mono ?_
 rintro e w1 ⟨v,rfl,A1,c1,rfl,R,i⟩
 obtain⟨kL,L,S⟩:=aZ R (ai bM i) (jc.ai i)
 clear R i pH
 go_wp2_with fail
 go_fit (C _)
 rintro e l ⟨rfl,rfl⟩
 obtain⟨ad,_,_,q,_,_,Y,_⟩:=HR.Y w1 L
 injection q with q
 subst q
 rw[Z]at Y
 obtain⟨T,t,kW⟩:=af.aM S
 clear Z
 go_wp2_with fail
 go_fit (rH _ L)
 rintro e l ⟨m,d2,rfl,Q,U,d⟩
 have yx:=kL.j6 aR d
 obtain⟨B,bE,rT,yM,h⟩:=dh (S.ai d) (ai L d) U Q yx
 clear Y T t kW U d Q yx
 have z:F≠[]:=by have:=HN.Y;rintro rfl;simp at this;omega
 obtain⟨g,c',hv,N,pS⟩:=h.form z
 injection hv with e1 e2 e3
 have jv:=ae e2
 subst e1 e3
 clear e2 z
 obtain⟨r,hP,jU,hcell⟩:=h.at_ P
 obtain⟨D,H,rfl,_,_⟩:=hP
 have q0:=hcell 0 _ rfl
 rw[Nat.add_zero]at q0
 have q1:=hcell 1 _ rfl
 have q2:=hcell 2 _ rfl
 have q3:=hcell 3 _ rfl
 have f0:=h.cR (j*4)
 have f1:=h.cR (j*4+1)
 have f2:=h.cR (j*4+2)
 have f3:=h.cR (j*4+3)
 have LL:w.heap.size<g:=by simp at N;omega
 obtain⟨T,t,kW⟩:=af.aM B
 clear hcell jU
 go_wp2
 go_ret2
 have W:¬iU l w:=iU.not B ag ag
 have hM:Sm (iU l) l ((l.setCell ⟨w,0,none⟩ true).setCell ⟨w,3,none⟩ (.slice m s d2)):=fun b a=>(dp _ _ _ _ (fun k=>by have k:b=w.heap.size:=k;subst k;exact W a)).trans (dp _ _ _ _ (fun k=>by have k:b=w.heap.size:=k;subst k;exact W a))
 have AR:lB ((l.setCell ⟨w,0,none⟩ true).setCell ⟨w,3,none⟩ (.slice m s d2)) _ (.slice g n c1) F:=(aI.move aR h hM (fun g' O=>by
  have O:g=g':=by simpa[Value.ownBlock]using O
  subst O
  exact(dp _ _ _ _ (by show g≠w;omega)).trans (dp _ _ _ _ (by show g≠w;omega)))).mono aR (fun b a=>(a.bj _ _).bj _ _)
 have J:=G.Y
 subst J
 have hF:dI ((l.setCell ⟨w,0,none⟩ true).setCell ⟨w,3,none⟩ (.slice m o.length d2)) bC m o:=(aH.zX (f:=bC) (bK (bK rT B ag 0 true) (B.bj 0 true) ag 3 (.slice m o.length d2))).2
 refine⟨_,rfl,_,_,rfl,(lB.put (y:=⟨true,E,u,o⟩) AR (dv P) yM hF (fun b a _=>?_)).bD aD,ax aa [true,E,u,.slice m o.length d2] _ _ ((bE.setCell (p:=⟨w,0,none⟩) (aS _) _).setCell (p:=⟨w,3,none⟩) (aS _) _)⟩
 subst a
 exact((vo rT).bj _ _).bj _ _
end
def XL(k:Cs):Value:=.agg #[k.1,k.2.1,k.2.2]
def XM(i:Int)(w:World)(e:Ending)(a:World):Prop:=e=.returned i/\Below w w a
section
variable(w:World)
theorem UU(a b:Nat)(o p:Int)(s:w.cell? ⟨a,0,none⟩=some o)(t:w.cell? ⟨b,0,none⟩=some p)(q:a<w.heap.size)(r:b<w.heap.size)(k:Cs) :
 Calls prog 309 #[XL k,.pointer a,.pointer b] w (vT (k.1==o && k.2.1==p) w):=by
 unfold XL
 obtain⟨c,d,e⟩:=k
 dsimp only
 rcases h:(c==o)with _|_
 ·go_enter func309,ntmps309;exact UD
 ·go_enter func309,ntmps309;go_wp2;go_ret;exact⟨cr aD,ak (aj w) _⟩
theorem ZQ(a:Nat)(o:Int)(r:w.cell? ⟨a,0,none⟩=some o)(q:a<w.heap.size)(k:Cs) :
 Calls prog 300 #[XL k,.pointer a] w (vT (k.2.1==o) w):=by
 unfold XL
 go_enter func300,ntmps300
 exact UD
theorem ZR(a:Nat)(o:Int)(q:w.cell? ⟨a,0,none⟩=some o)(p:a<w.heap.size)(k:Cs) :
 Calls prog 297 #[XL k,.pointer a] w (vT (k.2.1==o) w):=by
 unfold XL
 go_enter func297,ntmps297
 exact UD
theorem yN(f:FuncId)(q:Array Value)(a b:Nat)(F:(f=309/\q=#[.pointer a,.pointer b])\/(f=300/\q=#[.pointer a])\/(f=297/\q=#[.pointer a]))(p:Cs->Bool)(o:∀(k:Cs) (u:World),Below w w u->Calls prog f (#[XL k]++q) u (vT (p k) u))(A:Option Addr)(m:Nat)(xs:List Cs)(n:Nat)(D:n=xs.length)(E:dI w bC A xs)(J:n<=100000) :
 Calls prog 296 #[.slice A n m,.func (.func f) #[] q] w (XM (jC p xs) w):=by
 obtain⟨HN,B,v⟩:=aZ D E o
 clear D E o
 unfold XL at v
 rcases F with⟨rfl,rfl⟩|⟨rfl,rfl⟩|⟨rfl,rfl⟩
 all_goals
  go_enter func296,ntmps296;go_wp2;go_loopw[5,8] (fun _ i wr=>∃k:Nat,k<=n/\i=k/\Hid (Below w w wr)/\Hid (∀(j:Nat) (y),j<k->xs[j]?=some y->p y=false)) (fun _ i _=>n-(intOf i).toNat);case atStart=>exact⟨0,aV _,rfl,aj w,fun j _ h=>absurd h (Nat.not_lt_zero _)⟩
  case round =>
   obtain⟨k,I,rfl,HB,HX⟩:=hrel;by_cases hlt:k<n
   ·obtain⟨H,z,C,(x:Hid _),hcell⟩:=dI.at_ iD ag (B.below HB) (i:=k) (by rw[<-HN.Y];exact hlt);have r:=hcell 0 _ rfl;have s:=hcell 1 _ rfl;have t:=hcell 2 _ rfl;simp only[add_zero]at r;rw[add_lit _ _ ag]at s t;subst C;clear hcell;have o:=ae (v z wr HB);rcases d:p z with _|_
    ·have g:=ae d;rw[d]at o;clear d;go_wp2_with fail;refine o.mono ?_;rintro e G ⟨rfl,c⟩;have l:=ae (ai HB c);clear c r s t;go_wp2;go_roundw;case rel=>exact⟨k+1,aa,by go_num,l,xS x HX g⟩
     case measure=>simp[intOf];omega
    ·have g:=ae d;rw[d]at o;clear d;go_wp2_with fail;refine o.mono ?_;rintro e G ⟨rfl,c⟩;have l:=ae (ai HB c);clear c r s t;go_wp2;go_ret;rw[BM x.Y HX.Y g.Y];exact⟨rfl,l⟩
   ·exact mk4
end
end Go.Proofs.YtjcjjiieblineaaGreat
