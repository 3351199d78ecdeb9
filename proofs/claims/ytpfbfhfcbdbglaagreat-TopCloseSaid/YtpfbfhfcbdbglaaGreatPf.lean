/- Walks and plain facts. No condition. -/
import Derived.Test.YtpfbfhfcbdbglaaGreatSb
import Derived.Test.YtpfbfhfcbdbglaaGreatPb
namespace Go.Proofs.YtpfbfhfcbdbglaaGreat
open Go.RowKit Go.Proofs.Tryz Mo
set_option maxHeartbeats 8000000
set_option maxRecDepth 100000
set_option linter.all false
variable {g n k base m b j i sz q k0 n0 d:Nat}{w w' wr w2 w1 w4:World}{α:Type}{c:Mo.dG}{S S':Nat->Prop}{A B A0:Option Addr}{l zs:List Int}{e t:TypeId}{x:Mo.Wt}{s tags dir hd T W:Int}{v a0 a1 a2 a3 vF vO v4:Value}{fr LF:List Mo.Rf}{h:Mo.Hl}{P:Program}{ol LO:List Mo.Od}{ys P0:Array Value}{o:Mo.Od}{ok:Bool}{f:α->List Value}{xs L D:List α}{z y:α}
def fL(r:Rf):List Value:=[r.ix,r.tag]
theorem oC(r:Rf):(fL r).length=2:=rfl
theorem uU(r:Rf):∀u∈fL r,u.oneCell'=true:=by intro u a;simp[fL]at a;rcases a with rfl|rfl<;>rfl
def kt(o:Od):List Value:=[o.ref.ix,o.ref.tag,o.iI]
theorem tP(r:Od):(kt r).length=3:=rfl
theorem yb(r:Od):∀u∈kt r,u.oneCell'=true:=by intro u a;simp[kt]at a;rcases a with rfl|rfl|rfl<;>rfl
theorem qF(w:World)(A:Option Addr)(c:Nat)(a:List Rf)(u:n=a.length)(r:n<=1000000)(C:cN w fL A a) :
 Calls prog 172 #[.slice A n c] w (tK 219 2 fL w a n) :=
 (F3 w A c (a.map (jJ fL oC uU)) (by simpa using u) r (cN.rows.2 C)).mono λ_ _ h=>h.toF
theorem Gh(w:World)(A:Option Addr)(c:Nat)(a:List Od)(u:n=a.length)(r:n<=1000000)(C:cN w kt A a) :
 Calls prog 173 #[.slice A n c] w (tK 222 3 kt w a n) :=
 (Kv w A c (a.map (jJ kt tP yb)) (by simpa using u) r (cN.rows.2 C)).mono λ_ _ h=>h.toF
def mo(p:Pl)(A:Option Addr)(n:Nat)(B:Option Addr)(m:Nat):Value:=.agg #[p.own.ix,p.own.tag,.slice A p.free.length n,.slice B p.old.length m,p.spent]
structure OH (w:World) (p:Mo.Pl) (A:Option Addr) (n:Nat) (B:Option Addr) (m:Nat):Prop where
 acJ:p.free.length<=n
 acK:p.old.length<=m
 xS:cN w fL A p.free
 rdO:cN w kt B p.old
 Tw:p.free.length<=100000
 Tx:p.old.length<=100000
theorem OH.below{p:Pl}(h:OH w p A n B m)(a:Below w w w'):OH w' p A n B m:=⟨h.acJ,h.acK,h.xS.below a,h.rdO.below a,h.Tw,h.Tx⟩
def wU(p:Pl)(w:World)(v:Value)(a:World):Prop :=∃A n B m,v=mo p A n B m/\aH a w 219 2 fL (.slice A p.free.length n) p.free/\aH a w 222 3 kt (.slice B p.old.length m) p.old/\Below w w a
section
variable(w:World)
theorem pE(p:Pl)(A:Option Addr)(n:Nat)(B:Option Addr)(m:Nat)(h:OH w p A n B m) :
 Calls prog 118 #[mo p A n B m] w λe w'=>∃v,e=.returned v/\wU p w v w':=by
 obtain⟨G,H⟩:=av (λC (O:Below w w C)=>qF C A n p.free rfl (bm h.Tw aa) (h.xS.below O)) (λC (O:Below w w C)=>Gh C B m p.old rfl (bm h.Tx aa) (h.rdO.below O))
 unfold mo wU mo
 clear h
 obtain⟨⟨x,g⟩,V,Z,s⟩:=p
 dsimp only at *
 obtain⟨k,X⟩:=aw V.length
 obtain⟨l,Y⟩:=aw Z.length
 rw[<-X]at G ⊢
 rw[<-Y]at H ⊢
 clear X Y
 have D:Below w w (((w.alloc (rU x g A k n B l m s)).alloc vG).drew):=(aj (aj (ai w) _) _).drew
 have S:ag (((w.alloc (rU x g A k n B l m s)).alloc vG).drew) w 73 _:=(ag.new _ _ _).alloc _
 have vQ:ag (((w.alloc (rU x g A k n B l m s)).alloc vG).drew) (w.heap.size+1) 73 _:=ag.newAt _ _ _ aA
 go_enter func118,ntmps118
 go_wp2
 go_region_law(first
  |(go_simp;go_at_call 172;go_fit (G _ D);rintro e w1 ⟨a,c,rfl,u,U,q⟩;have E:=ah D q;have Q:=S.ah q;have xh:=vQ.ah q;have Tz:=λi=>ag.cell Q i;go_wp2_with fail)
  |(go_simp;go_at_call 173;go_fit (H _ E);rintro e F ⟨b,d,rfl,y,W,j⟩;have vR:=ah E j;have f:=Q.ah j;have z:=xh.ah j;have K:=λi=>ag.cell f i;have L:=λi=>ag.free f i;have M:=λi=>ag.cell z i;have N:=λi=>ag.free z i;have eB:=f.lt;have cu:=z.lt;go_wp2_with fail))
 all_goals
  have o:=f.bp 2 (.slice a k c);have r:=o.bp 3 (.slice b l d);have t:aH ((F.setCell ⟨w,2,none⟩ (.slice a k c)).setCell ⟨w,3,none⟩ (.slice b l d)) w 219 2 fL (.slice a k c) V:=bu (bu ((U.bL D.size).ah j) f af _ _) o af _ _;have uA:aH ((F.setCell ⟨w,2,none⟩ (.slice a k c)).setCell ⟨w,3,none⟩ (.slice b l d)) w 222 3 kt (.slice b l d) Z:=bu (bu (W.bL E.size) f af _ _) o af _ _;have J:ag ((F.setCell ⟨w,2,none⟩ (.slice a k c)).setCell ⟨w,3,none⟩ (.slice b l d)) (w.heap.size+1) 73 _:=(z.b9 (p:=⟨w,2,none⟩) aA _).b9 (p:=⟨w,3,none⟩) aA _;have T:=(vR.setCell (p:=⟨w,2,none⟩) (aR _) (.slice a k c)).setCell (p:=⟨w,3,none⟩) (aR _) (.slice b l d);generalize P:(F.setCell ⟨w,2,none⟩ (.slice a k c)).setCell ⟨w,3,none⟩ (.slice b l d)=R at *;obtain⟨aq,-,bz⟩:=ag.aF r;obtain⟨a6,a7,a8⟩:=ag.aF J;clear P S Q f o vQ xh z D E vR q j U W Tz K L M N eB cu G H;obtain⟨iU,eN,HB,I,H1,H2⟩:=cS t uA T J u y;clear t uA T u y J r;go_wp2_with fail;have hX:=iK I x g (.slice a k c) (.slice b l d) s;have nB:=λi=>ag.cell hX i;have e1:=dV iU I af x g (.slice a k c) (.slice b l d) s;have e2:=dV eN I af x g (.slice a k c) (.slice b l d) s;have e3:Below w w (iz R (w.heap.size+1) x g (.slice a k c) (.slice b l d) s):=fx HB (bM _) x g (.slice a k c) (.slice b l d) s;change bodyPost _ _ _ _ _ (iz R (w.heap.size+1) x g (.slice a k c) (.slice b l d) s);generalize iz R (w.heap.size+1) x g (.slice a k c) (.slice b l d) s=wz at *;refine bodyPost_ret (v:=.agg #[x,g,.slice a k c,.slice b l d,s]) ?_ rfl ?_
  .simp[results,results118,go_sem,nB]
  .exact⟨_,rfl,a,c,b,d,rfl,e1,e2,e3⟩
theorem AK(p:Pl)(A:Option Addr)(n:Nat)(B:Option Addr)(m:Nat)(h:OH w p A n B m) :
 Calls prog 78 #[mo p A n B m] w λe w'=>∃v,e=.returned v/\wU (gX p) w v w':=by
 have o:=ae (λK (j:Below w w K)=>pE K p A n B m (h.below j))
 unfold mo wU mo gX wP
 unfold wU mo at o
 clear h
 obtain⟨⟨x,g⟩,N,Q,s⟩:=p
 dsimp only at *
 obtain⟨k,F⟩:=aw N.length
 obtain⟨l,G⟩:=aw Q.length
 rw[<-F, <-G]at o ⊢
 clear F G
 have f:Below w w ((w.alloc (rU x g A k n B l m s)).alloc vG):=aj (aj (ai w) _) _
 have J:ag ((w.alloc (rU x g A k n B l m s)).alloc vG) (w.heap.size+1) 73 _:=ag.newAt _ _ _ aA
 go_enter func78,ntmps78
 go_wp2_with fail
 go_fit (o _ f)
 rintro e z ⟨v,rfl,a,d,b,c,O,D,E,j⟩
 subst O
 have I:=ah f j
 have C:=J.ah j
 obtain⟨R,S,T⟩:=ag.aF C
 obtain⟨P,M,L,r⟩:=bh (D.bL f.size) (E.bL f.size) I C
 clear D E j I C f J o
 go_wp2_with fail
 have q:=iK r oZ oZ (.slice a k d) (.slice b l c) s
 have H:=λi=>ag.cell q i
 have t:=dV P r af oZ oZ (.slice a k d) (.slice b l c) s
 have u:=dV M r af oZ oZ (.slice a k d) (.slice b l c) s
 have y:Below w w (iz z (w.heap.size+1) oZ oZ (.slice a k d) (.slice b l c) s):=fx L (bM _) oZ oZ (.slice a k d) (.slice b l c) s
 have q:=q.alloc (rU 0 0 a k d b l c s)
 have H:=λi=>ag.cell q i
 have t:=aH.alloc t (rU 0 0 a k d b l c s)
 have u:=aH.alloc u (rU 0 0 a k d b l c s)
 have y:=aj y (rU 0 0 a k d b l c s)
 change bodyPost _ _ _ _ _ ((iz z (w.heap.size+1) oZ oZ (.slice a k d) (.slice b l c) s).alloc (rU 0 0 a k d b l c s))
 generalize(iz z (w.heap.size+1) oZ oZ (.slice a k d) (.slice b l c) s).alloc (rU 0 0 a k d b l c s)=U at *
 refine bodyPost_ret (v:=.agg #[oZ,oZ,.slice a k d,.slice b l c,s]) ?_ rfl ?_
 .simp[results,results78,go_sem,H]
 .exact⟨_,rfl,a,d,b,c,rfl,t,u,y⟩
theorem KN:(prog.info? 222).map (λi=>(i.zero,i.size,i.bytes))=some (some (.agg #[oZ,oZ,oZ]),3,24):=by kernel_rfl
theorem OI(p:Pl)(A:Option Addr)(n:Nat)(B:Option Addr)(m:Nat)(h:OH w p A n B m)(u r z:Int) :
 Calls prog 159 #[mo p A n B m,.agg #[u,r],z] w λe w'=>∃v,e=.returned v/\wU (tB p ⟨u,r⟩ z) w v w':=by
 obtain⟨N,HL⟩:=av (λwx (y:Below w w wx)=>pE wx p A n B m (h.below y)) h.Tx
 unfold mo wU mo tB
 unfold wU mo at N
 clear h
 obtain⟨⟨x,g⟩,S,O,s⟩:=p
 dsimp only at *
 obtain⟨d,C⟩:=aw ((O++[(⟨⟨u,r⟩,z⟩:Od)]).length)
 rw[<-C]
 have X5:=ae C
 clear C
 obtain⟨k,hk⟩:=aw S.length
 obtain⟨l,T⟩:=aw O.length
 rw[<-hk, <-T]at N ⊢
 have CU:=ae T
 clear hk T
 have H:Below w w (((w.alloc (rU x g A k n B l m s)).alloc (.cells #[u,r] 68)).alloc vG):=aj (aj (aj (ai w) _) _) _
 have vQ:ag (((w.alloc (rU x g A k n B l m s)).alloc (.cells #[u,r] 68)).alloc vG) (w.heap.size+1+1) 73 _:=ag.newAt _ _ _ aA
 have gq:ag (((w.alloc (rU x g A k n B l m s)).alloc (.cells #[u,r] 68)).alloc vG) (w.heap.size+1) 68 _:=(ag.newAt _ _ _ aA).alloc _
 go_enter func159,ntmps159
 go_wp2_with fail
 go_fit (N _ H)
 rintro e o ⟨v,rfl,f,j,F,M,hv,E,t,y⟩
 subst hv
 have qE:=ah H y
 have X:=vQ.ah y
 have I:=gq.ah y
 obtain⟨gB,-,a8⟩:=ag.aF I
 obtain⟨bN,cj,cu⟩:=ag.aF X
 have U:w.heap.size<=o.heap.size:=aa
 obtain⟨iU,R,HB,HQ⟩:=bh (E.bL H.size) (t.bL H.size) qE X
 clear E t y qE X I H vQ gq N
 go_wp2_with(at_builtin;refine bR _ rfl _ _ 71 rfl w 222 3 24 (.agg #[oZ,oZ,oZ]) kt tP yb underlying71 KN rfl af _ O rfl ?q1 (some ⟨o.heap.size+1,0,none⟩) 1 1 [⟨⟨u,r⟩,z⟩] rfl rfl ?q2 ?c4 ?c5 ?c6 ?_)
 case q1=>exact(R.alloc _).alloc _
 case q2=>exact Rd.Dm _ (kt ⟨⟨u,r⟩,z⟩) _ aA
 case c4=>have:=HL.Y;simp;omega
 case c5=>have:=HL.Y;simp;omega
 case c6=>simp;omega
 intro v' D hown' G V
 clear V
 obtain⟨a,c,L⟩:=hown'.shape
 rw[<-X5.Y]at L
 subst L
 have W:ag ((o.alloc (rU x g f k j F l M s)).alloc (.cells #[u,r,z] 222)) o 73 _:=(ag.new _ _ _).alloc _
 have Y:ag ((o.alloc (rU x g f k j F l M s)).alloc (.cells #[u,r,z] 222)) (w.heap.size+1+1) 73 _:=(HQ.alloc _).alloc _
 have t:=(R.alloc (rU x g f k j F l M s)).alloc (.cells #[u,r,z] 222)
 have E:=(iU.alloc (rU x g f k j F l M s)).alloc (.cells #[u,r,z] 222)
 have J:=aj (aj HB (rU x g f k j F l M s)) (.cells #[u,r,z] 222)
 have q:=W.grown G (ba t W af)
 have Q:=Y.grown G (ba t Y af)
 have Jr:aH D w 219 2 fL (.slice f k j) S:=kX E G (λb y=>cL E t af y)
 have K:=aH.aW t J G (by simp;omega) (aR _)
 have X6:=q.bp 3 (.slice a d c)
 have VV:ag (D.setCell ⟨o,3,none⟩ (.slice a d c)) (w.heap.size+1+1) 73 _:=Q.b9 (p:=⟨o,3,none⟩) (by show w.heap.size+2≠o;omega) _
 have Z:aH (D.setCell ⟨o,3,none⟩ (.slice a d c)) w 219 2 fL (.slice f k j) S:=bu Jr q af _ _
 have TA:aH (D.setCell ⟨o,3,none⟩ (.slice a d c)) w 222 3 kt (.slice a d c) (O++[⟨⟨u,r⟩,z⟩]):=bu hown' q af _ _
 have dJ:=K.setCell (p:=⟨o,3,none⟩) U (.slice a d c)
 obtain⟨aC,bC,bb⟩:=ag.aF q
 obtain⟨aq,a6,a7⟩:=ag.aF Q
 obtain⟨P,H6,H7,H8⟩:=bh VV Z TA dJ
 clear hown' G W Y E t J q Q Jr K X6 VV Z TA dJ bN cj gB iU R HB HQ
 have bz:w.heap.size+1+1<o.heap.size:=cu
 clear cu
 go_wp2_with fail
 have hX:=iK P x g (.slice f k j) (.slice a d c) s
 have nB:=λi=>ag.cell hX i
 have e1:=dV H6 P af x g (.slice f k j) (.slice a d c) s
 have e2:=dV H7 P af x g (.slice f k j) (.slice a d c) s
 have e3:Below w w (iz (D.setCell ⟨o,3,none⟩ (.slice a d c)) (w.heap.size+1+1) x g (.slice f k j) (.slice a d c) s):=fx H8 (Nat.le_add_right _ 2) x g (.slice f k j) (.slice a d c) s
 change bodyPost _ _ _ _ _ (iz (D.setCell ⟨o,3,none⟩ (.slice a d c)) (w.heap.size+1+1) x g (.slice f k j) (.slice a d c) s)
 generalize iz (D.setCell ⟨o,3,none⟩ (.slice a d c)) (w.heap.size+1+1) x g (.slice f k j) (.slice a d c) s=wz at *
 refine bodyPost_ret (v:=.agg #[x,g,.slice f k j,.slice a d c,s]) ?_ rfl ?_
 .simp[results,results159,go_sem,nB]
 .exact⟨_,rfl,f,j,a,c,rfl,e1,e2,e3⟩
end
def jS(a:Int)(r:Rf)(fr:List Rf)(s:Int):Rf×List Rf×Int:=if r.tag=0 then((jb a fr).1,(jb a fr).2.1,s+(jb a fr).2.2)else(r,fr,s)
theorem Gj{a x:Rf}(r:a.tag=0)(h:(gW x tags).2=true)(u:(gW x tags).1.tag≠0):jS tags a (x::fr) s=jS tags (gW x tags).1 fr s:=by
 unfold jS;rw[ay r,au u];have e:jb tags (x::fr)=((gW x tags).1,fr,0):=by show(if(gW x tags).2=true then _ else _)=_;rw[ay h]
 rw[e];simp
theorem KO{a x:Rf}(r:a.tag=0)(h:(gW x tags).2=false):jS tags a (x::fr) s=jS tags a fr (s+1):=by
 unfold jS;rw[ay r,ay r];have e:jb tags (x::fr)=((jb tags fr).1,(jb tags fr).2.1,(jb tags fr).2.2+1):=by show(if(gW x tags).2=true then _ else _)=_;rw[au (by rw[h];decide)]
 rw[e];simp;omega
theorem KP{x:Rf}(h:(gW x tags).2=true):(gW x tags).1.tag≠0/\(gW x tags).1.tag<=4294967295:=by
 unfold gW at h ⊢;split at h
 .cases h
 .rename_i b;rw[au b];split at h
  .rename_i a;rw[ay a];unfold kO at a;simp at a;dsimp only;omega
  .cases h
def OJ(w:World)(g:Nat):Nat:=match w.cell? ⟨g,2,none⟩with|some (.slice _ n _)=>n|_=>0
theorem tQ{a b d e:Value}(h:ag w g t #[a,b,.slice A k n,d,e]):OJ w g=k:=by unfold OJ;rw[h.cell];rfl
structure TkL (w wr:World) (g q:Nat) (tags:Int) (R:Mo.Rf×List Mo.Rf×Int) (ol:List Mo.Od) (B:Option Addr) (l m:Nat) (own:Mo.Rf) (fr:List Mo.Rf) (A:Option Addr) (k n:Nat) (s:Int):Prop where
 blk:ag wr g 73 #[.int .i64 own.ix,.int .i64 own.tag,.slice A k n,.slice B l m,.int .i64 s]
 res:ag wr q 73 #[.int .i64 0,.int .i64 0,.slice none 0 0,.slice none 0 0,.int .i64 0]
 len:k=fr.length
 cap:k<=n
 rd:cN wr fL A fr
 loop:jS tags own fr s=R
 old:aH wr w 222 3 kt (.slice B l m) ol
 ext:Below w w wr
 small:∀s∈fr,s.tag<=4294967295
 empty:own.tag=0->own.ix=0
 b9:q<g
 off:∀ad,A=some ad->ad.block≠g
def TkR(w wr:World)(g q:Nat)(a:Int)(R:Rf×List Rf×Int)(r:List Od)(B:Option Addr)(l m:Nat):Prop:=∃(b:Rf) (fr:List Rf) (A:Option Addr) (k n:Nat) (s:Int),0<=s/\s+(k:Int)<=2000000/\k<=100000/\TkL w wr g q a R r B l m b fr A k n s
def kS(A:Option Addr)(c m a:Nat):Option Addr:=if c=m then A else A.map (·.add (m*a))
theorem KQ(a:∀c,(f c).length=sz):∀(m:Nat) (xs:List α),(xs.drop m).flatMap f=(xs.flatMap f).drop (m*sz):=by
 intro m;induction m with
 |zero=>intro xs;simp
 |succ m b =>
  intro xs;rcases xs with _|⟨x,xs⟩
  .simp
  .rw[List.drop_succ_cons,b,List.flatMap_cons,Nat.add_mul,Nat.one_mul,Nat.add_comm, <-List.drop_drop,List.drop_left' (a x)]
theorem cN.drop(r:∀c,(f c).length=sz){c:Nat}(h:cN w f A xs)(C:xs.length<=c)(m:Nat):cN w f (kS A c m sz) (xs.drop m):=by
 by_cases e:c=m
 .have:xs.drop m=[]:=List.drop_of_length_le aa;rw[this];exact cN.nil _ _ _
 .unfold kS;rw[au e];unfold cN;rw[KQ r];intro j u a;rw[List.getElem?_drop]at a;obtain⟨g,b,d⟩:=h (m*sz+j) u a;subst b;exact⟨_,rfl,by rw[tG];exact d⟩
theorem ib(t e:TypeId){z:Value}{a:Nat}(C:P.underlying t=some (.slice e))(u:(P.info? e).map (λi=>(i.zero,i.size,i.bytes))=some (some z,sz,a))(A:Option Addr)(n c m:Nat)(X:Int)(r:X=(m:Int))(E:m<=n)(w:World) :
 (Instr.slice t (.slice A n c) (some (.int .i64 X)) none none).run P w=.ok (.slice (kS A c m sz) (n-m) (c-m)) w:=by
 subst r
 obtain⟨i,d,_,f,_⟩:=info_parts u
 have b:0<=(m:Int)/\(m:Int)<=(n:Int):=aa
 simp[Instr.slice,Instr.sliceBounds,run_underlying C,sizeOf,typeInfo,d,run_sliceBound_if,b,f,kS]
theorem Rd.move{U:Nat->Prop}{r:List Value}(h:Rd w A r)(C:∀b,b<w.heap.size->¬U b->w'.heap[b]?=w.heap[b]?)(E:∀a,A=some a->r≠[]->¬U a.block):Rd w' A r:=by
 intro i u f;obtain⟨a,e,c⟩:=h i u f;have d:r≠[]:=by rintro rfl;simp at f
 refine⟨a,e,?_⟩;have j:(a.add i).block=a.block:=by unfold Addr.add;split<;>rfl
 have g:=C (a.add i).block (bc c) (by rw[j];exact E a e d);unfold World.cell? at c ⊢;rw[g];exact c
theorem vT{c:Nat}{p:Addr}(h:kS A c m sz=some p):∃a,A=some a/\a.block=p.block:=by
 unfold kS at h;split at h
 .exact⟨p,h,rfl⟩
 .rcases A with _|a
  .cases h
  .simp at h;subst h;refine⟨a,rfl,?_⟩;unfold Addr.add;split<;>rfl
theorem TkL.next{R:Rf×List Rf×Int}{l:Nat}{own u z:Rf}{E:Int}(h:TkL w wr g q tags R ol B l m own (z::fr) A k n s)(C:∀b,b<wr.heap.size->b≠g->w2.heap[b]?=wr.heap[b]?)(F:Below w w w2)(hblk:ag w2 g 73 #[.int .i64 u.ix,.int .i64 u.tag,.slice (kS A n 1 2) (k-1) (n-1),.slice B l m,.int .i64 E])(H:jS tags own (z::fr) s=jS tags u fr E)(G:u.tag=0->u.ix=0):TkL w w2 g q tags R ol B l m u fr (kS A n 1 2) (k-1) (n-1) E:=by
 have t:=h.len
 have y:=h.cap
 refine⟨hblk,(C _ h.res.lt (by have:=h.b9;omega)).trans h.res,by rw[t];rfl,aa,?_,by rw[<-H];exact h.loop,?_,F,λx I=>h.small x (List.mem_cons_of_mem _ I),G,h.b9,?_⟩
 .have:=h.rd.drop oC (c:=n) (by rw[<-t];exact y) 1;refine Rd.move (U:=λb=>b=g) this C (λad j _=>?_);obtain⟨a,d,e⟩:=vT j;rw[<-e];exact h.off a d
 .obtain⟨v,i⟩:=h.old;refine⟨v,?_⟩;rcases i with i|⟨p,cap,f,D,J,o,r⟩
  .exact .inl i
  .refine .inr ⟨p,cap,f,D,J,?_,r⟩;rw[C p (ag.FU o) ?_]
   .exact o
   .rintro rfl;have:=h.blk;unfold ag at this;rw[o]at this;injection this with this
    injection this with _ ht
    exact absurd ht af
 .intro ad j;obtain⟨a,d,e⟩:=vT j;rw[<-e];exact h.off a d
theorem aH.drewN{a:List α}(h:aH w base e m f v a)(q:Nat):aH (w.drewN q) base e m f v a:=h.ah (bZ (ai w) q)
theorem sG:(prog.info? 219).map (λi=>(i.zero,i.size,i.bytes))=some (some (.agg #[.int .i64 0,.int .i64 0]),2,16):=by kernel_rfl
theorem OK(w:World)(p:Pl)(A:Option Addr)(n:Nat)(B:Option Addr)(m:Nat)(r:Int)(h:OH w p A n B m)(ho:p.own.tag=0->p.own=wP)(hs:∀s∈p.free,s.tag<=4294967295)(h0:0<=p.spent)(h1:p.spent<=1000000) :
 Calls prog 187 #[mo p A n B m,.int .i64 r] w λe w'=>∃v,e=.returned (.tuple #[v,.bool (vH p r).2])/\wU (vH p r).1 w v w':=by
 obtain⟨C1,HL⟩:=av (λwx (J:Below w w wx)=>pE wx p A n B m (h.below J)) h.Tw
 unfold mo wU mo
 unfold wU mo at C1
 clear h
 obtain⟨⟨x,g⟩,fr,V,s⟩:=p
 dsimp only at *
 obtain⟨R,hR⟩:=aw (jS r ⟨x,g⟩ fr s)
 have HT:Hid (vH ⟨⟨x,g⟩,fr,V,s⟩ r=(⟨R.1,R.2.1,V,R.2.2⟩,R.1.tag !=0)):=by
  unfold Hid;rw[hR];unfold vH jS;dsimp only;by_cases hg:g=0
  .rw[ay hg,ay hg]
  .rw[au hg,au hg];have:(g !=0)=true:=by simpa using hg
   rw[this]
 rw[HT.Y]
 dsimp only
 have HR:=ae hR.symm
 have HO:Hid (g=0->x=0):=λhg=>congrArg Rf.ix (ho hg)
 clear ho HT hR
 obtain⟨l,hl⟩:=aw V.length
 obtain⟨k,Z⟩:=aw fr.length
 rw[<-hl, <-Z]
 rw[<-Z, <-hl]at C1
 obtain⟨HK,HS⟩:=av Z hs
 rw[<-Z]at HL
 clear hl Z hs
 have dO:Below w w ((w.alloc (rU x g A k n B l m s)).alloc vG):=aj (aj (ai w) _) _
 have vQ:ag ((w.alloc (rU x g A k n B l m s)).alloc vG) (w.heap.size+1) 73 _:=ag.newAt _ _ _ aA
 go_enter func187,ntmps187
 go_wp2_with fail
 go_fit (C1 _ dO)
 rintro e y ⟨v,rfl,A1,n1,q,u,hv,fe,Y,J⟩
 subst hv
 have qE:=ah dO J
 have xh:=vQ.ah J
 have cu:=xh.lt
 have T0:TkR w (y.alloc (rU x g A1 k n1 q l u s)) y (w.heap.size+1) r R V q l u:=by
  have Z:=HK.Y;have TC:=fe;rw[Z]at TC;obtain⟨c1,c2⟩:=TC.xS;have mX:k<=n1:=by have:=TC.cap.2;omega
  exact⟨⟨x,g⟩,fr,A1,k,n1,s,h0,by have:=HL.Y;omega,HL,ag.new _ _ _,xh.alloc _,Z,mX,(c2.alloc _),HR,(Y.bL dO.size).alloc _,aj qE _,HS,HO,cu,λad b8=>by subst b8;have:=(bk TC (g:=ad.block) rfl).2;omega⟩
 have Nm:=ae T0
 clear T0 J xh qE fe Y dO vQ C1 HL HR HO HS
 go_wp2
 go_loopw[7] (λ_ wr=>TkR w wr y (w.heap.size+1) r R V q l u) (λ_ wr=>OJ wr y.heap.size)
 case atStart=>exact Nm.Y
 case round =>
  obtain⟨a,F,A',t,n',o,ct,cw,cy,HH⟩:=hrel;obtain⟨aC,bC,bb⟩:=ag.aF HH.blk;obtain⟨bN,cj,-⟩:=ag.aF HH.res;have b7:=HH.res.lt;have H:=ae HH;clear HH;by_cases ht:a.tag=0
  .by_cases qi:t=0
   .subst qi;have d1:(a.tag==0)=true:=by rw[ht];rfl
    have T:=ae ht;clear ht;have HX:Hid (jS r a F o=(a,F,o)):=by have e0:=H.empty T;have e1:F=[]:=List.eq_nil_of_length_eq_zero (H.len.symm);unfold Hid jS;rw[ay T.Y,e1];obtain⟨ox,og⟩:=a;have e2:og=0:=T.Y;dsimp only at e0;subst e0 e2;simp[jb,wP]
    have Gk:Hid (0<=1000000):=aZ _;go_wp2_with fail;go_fit (qF wr A' n' F H.len Gk H.rd);rintro e W ⟨f,j,rfl,K,Y,d⟩;have E:=H.blk.ah d;have vS:=H.res.ah d;have uA:=H.old.ah d;have vR:=ah H.ext d;have C:=Y.bL H.ext.size;obtain⟨G,I,DB⟩:=ag.aF E;clear aC bC bN cj;go_wp2_with fail;have RV:=E.bp 2 (.slice f 0 j);have zx:=vS.b9 (p:=⟨y,2,none⟩) (by have:=H.b9;show w.heap.size+1≠y;omega) (.slice f 0 j);have AL:aH _ w 222 3 kt (.slice q l u) V:=bu uA E af 2 (.slice f 0 j);have BV:aH _ w 219 2 fL (.slice f 0 j) F:=bu C E af 2 (.slice f 0 j);have xi:=vR.setCell (p:=⟨y,2,none⟩) (by have:=H.b9;show w.heap.size<=y.heap.size;omega) (.slice f 0 j);generalize bz:W.setCell ⟨y,2,none⟩ (.slice f 0 j)=S at *;obtain⟨L,-,O⟩:=ag.aF RV;obtain⟨M,N,Q⟩:=ag.aF zx;obtain⟨iG,j5,rW,bU,jm⟩:=bQ zx AL BV xi K;have OL:=H.b9;clear bz E vS uA vR C G I DB RV zx AL BV xi Y d K;go_region;go_wp2_with fail;have hX:=(iK iG (.int .i64 a.ix) (.int .i64 a.tag) (.slice f 0 j) (.slice q l u) (.int .i64 o)).drewN 1;have e1:aH (World.drewN (iz S (w.heap.size+1) (.int .i64 a.ix) (.int .i64 a.tag) (.slice f 0 j) (.slice q l u) (.int .i64 o)) 1) w 219 2 fL (.slice f 0 j) F:=aH.drewN (dV rW iG af _ _ _ _ _) 1;have e2:aH (World.drewN (iz S (w.heap.size+1) (.int .i64 a.ix) (.int .i64 a.tag) (.slice f 0 j) (.slice q l u) (.int .i64 o)) 1) w 222 3 kt (.slice q l u) V:=aH.drewN (dV j5 iG af _ _ _ _ _) 1;have e3:Below w w (World.drewN (iz S (w.heap.size+1) (.int .i64 a.ix) (.int .i64 a.tag) (.slice f 0 j) (.slice q l u) (.int .i64 o)) 1):=bZ (fx bU (bM _) _ _ _ _ _) 1;have a6:R=(a,F,o):=H.loop.symm.trans HX;have Gl:=H.len;change bodyPost _ _ _ _ _ (World.drewN (iz S (w.heap.size+1) (.int .i64 a.ix) (.int .i64 a.tag) (.slice f 0 j) (.slice q l u) (.int .i64 o)) 1);generalize World.drewN (iz S (w.heap.size+1) (.int .i64 a.ix) (.int .i64 a.tag) (.slice f 0 j) (.slice q l u) (.int .i64 o)) 1=wz at *;have nB:=λi=>ag.cell hX i;clear L O M N Q d1;subst a6;refine bodyPost_ret (v:=.tuple #[.agg #[.int .i64 a.ix,.int .i64 a.tag,.slice f 0 j,.slice q l u,.int .i64 o],.bool (a.tag !=0)]) ?_ rfl ?_
    .simp[results,results187,go_sem,nB]
    .rw[<-Gl];exact⟨_,rfl,f,j,q,u,rfl,e1,e2,e3⟩
   .
    obtain⟨z,X,nQ⟩:∃z X,F=z::X:=by
     rcases hq:F with _|⟨z,X⟩
     .exfalso;have:=H.len;rw[hq]at this;exact qi this
     .exact⟨z,X,rfl⟩
    have T:=ae ht
    clear ht
    subst nQ
    have d1:(a.tag==0)=true:=by rw[T.Y];rfl
    have d2:0<t:=aa
    have d3:(0:Int)<t:=aa
    obtain⟨ad,c,hA,hc,hcell⟩:=cN.at_ oC af H.rd (i:=0) aA
    simp at hc
    subst hc
    have c0:=hcell 0 _ rfl
    have c1:=hcell 1 _ rfl
    simp only[Nat.zero_mul,add_zero]at c0 c1
    rw[add_lit _ _ af]at c1
    clear hcell
    subst hA
    have Jp:=ib (P:=prog) 70 219 underlying70 sG (some ad) t n' 1 1 rfl aa
    have HZ:=ae (H.small z List.mem_cons_self)
    go_wp2_with fail
    go_fit (Kp _ z.ix z.tag r HZ)
    rintro e W ⟨rfl,d⟩
    have b5:=(H.blk.bp 2 (.slice (kS (some ad) n' 1 2) (t-1) (n'-1))).alloc (.cells #[.int .i64 z.ix,.int .i64 z.tag] 219)
    have E:=b5.ah d
    have Dp:=E.lt
    obtain⟨G,I,-⟩:=ag.aF E
    have a7:w.heap.size<=y.heap.size:=by have:=H.b9;omega
    have vR:Below w w W:=ah (aj (H.ext.setCell (p:=⟨y,2,none⟩) a7 _) _) d
    have C:∀b,b<wr.heap.size->b≠y->W.heap[b]?=wr.heap[b]?:=λb J D=>(d.block b (by simp;omega)).trans ((Below.heap_alloc _ _ _ (by simpa using J)).trans (dE _ _ _ _ D))
    have b6:wr.heap.size<=W.heap.size:=by have:=d.size;simp at this;omega
    obtain⟨U,bB,qG,DC,aq⟩:=bQ E vR C b6 a7
    clear b5 E vR C d b6 a7 c0 c1 Jp aC bC bN cj b7
    obtain⟨nr,a8⟩:=aw (gW z r)
    have bE:gW ⟨z.ix,z.tag⟩ r=nr:=a8.symm
    rw[bE]
    have KS:=ae a8
    clear a8 bE
    obtain⟨⟨rx,rt⟩,ok⟩:=nr
    dsimp only
    cases ok with
    |true =>
     go_wp2;go_roundw;case rel =>
      have pG:(gW z r).2=true:=by rw[<-KS.Y]
      have mI:(gW z r).1=⟨rx,rt⟩:=by rw[<-KS.Y]
      have h5:=KP pG;have h6:=Gj (fr:=X) (s:=o) T pG h5.1;rw[mI]at h5 h6;have BO:wr.heap.size<=W.heap.size:=DC.Y;exact⟨⟨rx,rt⟩,X,_,t-1,n'-1,o,ct,aa,aa,H.next (λb J D=>by
       rw[Below.heap_alloc _ _ _ (by simp;omega),dE _ _ _ _ D,dE _ _ _ _ D];exact qG.Y b J D)
       (aj ((bB.setCell (p:=⟨y,0,none⟩) aq _).setCell (p:=⟨y,1,none⟩) aq _) _) (((U.bp 0 (.int .i64 rx)).bp 1 (.int .i64 rt)).alloc _) h6 (λh0=>absurd h0 h5.1)⟩
     case measure=>rw[tQ H.Y.blk,tQ (((U.Y.bp 0 (.int .i64 rx)).bp 1 (.int .i64 rt)).alloc _)];omega
    |false =>
     have cv:o<=2000000:=aa;go_wp2;go_roundw;case rel =>
      have pG:(gW z r).2=false:=by rw[<-KS.Y]
      have h6:=KO (fr:=X) (s:=o) T pG;have BO:wr.heap.size<=W.heap.size:=DC.Y;exact⟨a,X,_,t-1,n'-1,o+1,aa,aa,aa,H.next (λb J D=>by
       rw[Below.heap_alloc _ _ _ (by simp;omega),dE _ _ _ _ D];exact qG.Y b J D)
       (aj (bB.setCell (p:=⟨y,4,none⟩) aq _) _) ((U.bp 4 (.int .i64 (o+1))).alloc _) h6 H.empty⟩
     case measure=>rw[tQ H.Y.blk,tQ ((U.Y.bp 4 (.int .i64 (o+1))).alloc _)];omega
  .have d1:(a.tag==0)=false:=by simpa using ht
   have T:=ae ht;clear ht;have HX:Hid (jS r a F o=(a,F,o)):=by unfold Hid jS;rw[au T.Y]
   have Gk:Hid (t<=1000000):=by unfold Hid;omega
   go_wp2_with fail;go_fit (qF wr A' n' F H.len Gk H.rd);rintro e W ⟨f,j,rfl,K,Y,d⟩;have E:=H.blk.ah d;have vS:=H.res.ah d;have uA:=H.old.ah d;have vR:=ah H.ext d;have C:=Y.bL H.ext.size;obtain⟨G,I,DB⟩:=ag.aF E;clear aC bC bN cj;go_wp2_with fail;have RV:=E.bp 2 (.slice f t j);have zx:=vS.b9 (p:=⟨y,2,none⟩) (by have:=H.b9;show w.heap.size+1≠y;omega) (.slice f t j);have AL:aH _ w 222 3 kt (.slice q l u) V:=bu uA E af 2 (.slice f t j);have BV:aH _ w 219 2 fL (.slice f t j) F:=bu C E af 2 (.slice f t j);have xi:=vR.setCell (p:=⟨y,2,none⟩) (by have:=H.b9;show w.heap.size<=y.heap.size;omega) (.slice f t j);generalize bz:W.setCell ⟨y,2,none⟩ (.slice f t j)=S at *;obtain⟨L,-,O⟩:=ag.aF RV;obtain⟨M,N,Q⟩:=ag.aF zx;obtain⟨iG,j5,rW,bU,jm⟩:=bQ zx AL BV xi K;have OL:=H.b9;clear bz E vS uA vR C G I DB RV zx AL BV xi Y d K;go_region;go_wp2_with fail;have hX:=(iK iG (.int .i64 a.ix) (.int .i64 a.tag) (.slice f t j) (.slice q l u) (.int .i64 o)).drewN 1;have e1:aH (World.drewN (iz S (w.heap.size+1) (.int .i64 a.ix) (.int .i64 a.tag) (.slice f t j) (.slice q l u) (.int .i64 o)) 1) w 219 2 fL (.slice f t j) F:=aH.drewN (dV rW iG af _ _ _ _ _) 1;have e2:aH (World.drewN (iz S (w.heap.size+1) (.int .i64 a.ix) (.int .i64 a.tag) (.slice f t j) (.slice q l u) (.int .i64 o)) 1) w 222 3 kt (.slice q l u) V:=aH.drewN (dV j5 iG af _ _ _ _ _) 1;have e3:Below w w (World.drewN (iz S (w.heap.size+1) (.int .i64 a.ix) (.int .i64 a.tag) (.slice f t j) (.slice q l u) (.int .i64 o)) 1):=bZ (fx bU (bM _) _ _ _ _ _) 1;have a6:R=(a,F,o):=H.loop.symm.trans HX;have Gl:=H.len;change bodyPost _ _ _ _ _ (World.drewN (iz S (w.heap.size+1) (.int .i64 a.ix) (.int .i64 a.tag) (.slice f t j) (.slice q l u) (.int .i64 o)) 1);generalize World.drewN (iz S (w.heap.size+1) (.int .i64 a.ix) (.int .i64 a.tag) (.slice f t j) (.slice q l u) (.int .i64 o)) 1=wz at *;have nB:=λi=>ag.cell hX i;clear L O M N Q d1;subst a6;refine bodyPost_ret (v:=.tuple #[.agg #[.int .i64 a.ix,.int .i64 a.tag,.slice f t j,.slice q l u,.int .i64 o],.bool (a.tag !=0)]) ?_ rfl ?_
   .simp[results,results187,go_sem,nB]
   .rw[<-Gl];exact⟨_,rfl,f,j,q,u,rfl,e1,e2,e3⟩
def eP(w:World)(b:Nat):Prop:=Ty w 3 b\/Ty w 101 b
theorem eP.lt(h:eP w b):b<w.heap.size:=h.elim Ty.lt Ty.lt
theorem eP.below(a:Below w w w')(h:eP w b):eP w' b:=h.elim (λh=>.inl (h.below a)) (λh=>.inr (h.below a))
theorem Ty.bp(p:Addr)(u:Value)(h:Ty w e b):Ty (w.setCell p u) e b:=by
 obtain⟨c,a,h⟩:=h;by_cases d:p.block=b
 .subst d;cases f:p.spot with
  |none=>exact⟨c.setIfInBounds p.off u,a,by simp[World.setCell,Array.getElem?_modify,h,f]⟩
  |some q=>exact⟨c,a,by simp[World.setCell,Array.getElem?_modify,h,f]⟩
 .exact⟨c,a,(dE _ _ _ _ (λh=>d h.symm)).trans h⟩
theorem eP.bp(p:Addr)(u:Value)(h:eP w b):eP (w.setCell p u) b:=h.elim (λh=>.inl (h.bp p u)) (λh=>.inr (h.bp p u))
theorem eP.not{r:Nat×Nat}(a:w.heap[g]?=some (.cells ys t r))(u:t≠3)(C:t≠101):¬eP w g:=by
 rintro(⟨b,f,h⟩|⟨b,f,h⟩)
 .rw[a]at h;injection h with h;injection h with _ h _;exact u h
 .rw[a]at h;injection h with h;injection h with _ h _;exact C h
def ax(w:World)(g:Nat):Nat->List Value->World
 |_,[]=>w
 |o,v::vs=>ax (w.setCell ⟨g,o,none⟩ v) g (o+1) vs
def ic{α:Type}(L:List α):Nat->List α->List α
 |_,[]=>L
 |o,v::vs=>ic (L.set o v) (o+1) vs
theorem aM(r:b≠g):∀(a:List Value) (o:Nat),(ax w g o a).heap[b]?=w.heap[b]?:=by
 intro a;induction a generalizing w with
 |nil=>intro o;rfl
 |cons v a c=>intro o;exact(c (o+1)).trans (dE _ _ _ _ r)
theorem bO:∀(a:List Value) (w:World) (o:Nat),(ax w g o a).heap.size=w.heap.size:=by
 intro a;induction a with
 |nil=>intro w o;rfl
 |cons v a b=>intro w o;rw[ax,b];simp[World.setCell]
theorem az{B:Nat}{a:World}(r:B<=g):∀(b:List Value) (w:World) (o:Nat),Below B a w->Below B a (ax w g o b):=by
 intro b;induction b with
 |nil=>intro w o h;exact h
 |cons v b c=>intro w o h;exact c _ _ (h.setCell (p:=⟨g,o,none⟩) r v)
theorem tR{c:Nat}:∀(a:List Value) (w:World) (o:Nat) (xs:List Value),w.ownsRow base e m (.slice g n c) n xs->(ax w g o a).ownsRow base e m (.slice g n c) n (ic xs o a):=by
 intro a;induction a with
 |nil=>intro w o xs h;exact h
 |cons v a b=>intro w o xs h;exact b _ _ _ (World.ownsRow.stored h o v).1
theorem eV(r:∀b,v.ownBlock=some b->b≠g):∀(a:List Value) (w:World) (o:Nat) (xs:List Value),w.ownsRow base e m v n xs->(ax w g o a).ownsRow base e m v n xs:=by
 intro a;induction a with
 |nil=>intro w o xs h;exact h
 |cons u a c=>intro w o xs h;exact c _ _ _ (dH h (p:=⟨g,o,none⟩) r u)
theorem Jt:∀(a:List Value) (w:World) (o:Nat),Ty w e b->Ty (ax w g o a) e b:=by
 intro a;induction a with
 |nil=>intro w o h;exact h
 |cons v a c=>intro w o h;exact c _ _ (h.bp _ v)
theorem fB(a:List Value)(w:World)(o:Nat)(h:eP w b):eP (ax w g o a) b:=h.elim (λh=>.inl (Jt a w o h)) (λh=>.inr (Jt a w o h))
theorem aX{xs:Array Value}(h:ag w b t xs)(a:b≠g)(vs:List Value)(o:Nat):ag (ax w g o vs) b t xs:=(aM a vs o).trans h
theorem OM(p L:List α)(h:L.length=p.length):ic L 0 p=p:=by
 have:∀(p A B:List α),A.length=p.length->ic (B++A) B.length p=B++p:=by
  intro p;induction p with
  |nil=>intro A B h;rw[List.eq_nil_of_length_eq_zero h];rfl
  |cons v p b =>
   intro A B h;rcases A with _|⟨a,A⟩
   .simp at h
   .simp at h;have e:(B++a::A).set B.length v=(B++[v])++A:=aA;show ic ((B++a::A).set B.length v) (B.length+1) p=_;rw[e];have:=b A (B++[v]) h;rw[fM,iw]at this;rw[this];simp
 simpa using this p L [] h
theorem dW:∀(a:List Value) (w:World) (o:Nat) (b:List Value),ag w g t b.toArray->ag (ax w g o a) g t (ic b o a).toArray:=by
 intro a;induction a with
 |nil=>intro w o b h;exact h
 |cons v a c=>intro w o b h;have:=h.bp o v;exact c _ _ _ (by simpa using this)
theorem aY{cs vs:List Value}(h:ag w g t cs.toArray)(a:cs.length=vs.length):ag (ax w g 0 vs) g t vs.toArray:=by have:=dW vs w 0 cs h;rw[OM vs cs a]at this;exact this
theorem KT:∀(a L:List α) (o:Nat),(ic L o a).length=L.length:=by
 intro a;induction a with
 |nil=>intro L o;rfl
 |cons v a b=>intro L o;rw[ic,b,dN]
theorem uV:∀(a A B:List α) (o:Nat),A.length<=o->ic (A++B) o a=A++ic B (o-A.length) a:=by
 intro a;induction a with
 |nil=>intro A B o _;rfl
 |cons v a b=>intro A B o h;rw[ic,List.set_append_right _ _ h,b _ _ _ aa,ic];rw[show o+1-A.length=o-A.length+1 by omega]
theorem AM:∀(b A B:List α),A.length=b.length->ic (A++B) 0 b=b++B:=by
 intro b;induction b with
 |nil=>intro A B h;rw[List.eq_nil_of_length_eq_zero h];rfl
 |cons v b c =>
  intro A B h;rcases A with _|⟨a,A⟩
  .simp at h
  .simp at h;show ic ((v::A)++B) 1 b=_;have:=uV b [v] (A++B) 1 aA;simp at this;rw[List.cons_append,this,c A B h];rfl
theorem uW:∀(rows:List (Row m)) (i:Nat) (r:Row m),i<rows.length->ic (rows.flatMap dF) (i*m) r.val=(rows.set i r).flatMap dF:=by
 intro rows;induction rows with
 |nil=>intro i r h;simp at h
 |cons x l a =>
  intro i r h;rcases i with _|i
  .rw[List.flatMap_cons,Nat.zero_mul,AM _ _ _ (by rw[bY];exact r.property.1.symm)];rfl
  .rw[List.flatMap_cons,uV _ _ _ _ (by rw[bY,Nat.add_mul];omega),bY,show(i+1)*m-m=i*m by rw[Nat.add_mul];omega,a i r (by simpa using h)];rfl
section
variable{P:ux α}{c:Nat}
theorem aD.shape(h:aD e m P w base S v xs):∃A c,v=.slice A xs.length c:=by obtain⟨A,c,a,_⟩:=h.rdX;exact⟨A,c,a⟩
theorem aD.len(h:aD e m P w base S (.slice g n c) xs):n=xs.length:=by obtain⟨A,b,a,_⟩:=h.rdX;injection a
theorem aD.form(h:aD e m P w base S v xs)(r:xs≠[]):∃g c,v=.slice (some ⟨g,0,none⟩) xs.length c/\base<=g/\g<w.heap.size:=by obtain⟨rows,a,d,_⟩:=h;rw[<-a];exact d.form (by intro b;rw[b]at a;exact r (List.eq_nil_of_length_eq_zero a.symm))
theorem aD.at_(h:aD e m P w base S (.slice g n c) xs){x:α}(C:xs[i]?=some x) :
 ∃r,P w S r x/\r.length=m/\∀(j:Nat) (u:Value),r[j]?=some u->w.cell? ⟨g,i*m+j,none⟩=some u:=by
 obtain⟨rows,b,d,f⟩:=h
 have k:i<rows.length:=by rw[b];exact bT C
 have a:=cq k
 exact⟨rows[i].val,f i _ x a C,rows[i].property.1,λj u l=>d.cells bY a l⟩
theorem aD.bq(h:aD e m P w base S (.slice g n c) xs)(i:Nat):w.frozen? ⟨g,i,none⟩=false:=by obtain⟨rows,b,a,d⟩:=h;exact a.frozen i
theorem aD.ty(h:aD e m P w base S (.slice g n c) xs):∃ys,w.heap[g]?=some (.cells ys e (0,0))/\base<=g:=by
 obtain⟨rows,a,d,j⟩:=h;rcases d.2 with⟨i,_⟩|⟨p,f,b,o,k,l,_⟩
 .cases i
 .injection o with a d j;injection a with a;injection a with a
  subst a;exact⟨b,l,k⟩
theorem aD.Gm(C:Good P)(h:aD e m P w base S (.slice g n c) xs)(I:i<xs.length)(a:List Value)(F:a.length=m)(E:∀u∈a,u.oneCell'=true)(H:¬S g)(G:P w S a y) :
 aD e m P (ax w g (i*m) a) base S (.slice g n c) (xs.set i y):=by
 have hlen:=h.len
 obtain⟨rows,l,o,p⟩:=h
 have s:i<rows.length:=aa
 have k:Sm S w (ax w g (i*m) a):=λb t=>aM (λv=>by subst v;exact H t) a _
 refine⟨rows.set i ⟨a,F,E⟩,by simp[l],?_,?_⟩
 .have z:n=rows.length:=aa;subst z;have:=tR a w (i*m) _ o;unfold aH;rw[dN, <-uW rows i ⟨a,F,E⟩ s];exact this
 .intro j r x d f;by_cases q:j=i
  .subst q;rw[List.getElem?_set_self s]at d;rw[List.getElem?_set_self I]at f;injection d with d;injection f with f
   subst d f;exact C.same k G
  .rw[List.getElem?_set_ne (λh=>q h.symm)]at d f;exact C.same k (p j r x d f)
theorem aD.acP(C:Good P)(h:aD e m P w base S (.slice g n c) xs){x:α}(E:xs[i]?=some x)(j:Nat)(I:j<m)(u:Value)(F:u.oneCell'=true)(H:¬S g)(G:∀r,r.length=m->P w S r x->P w S (r.set j u) y) :
 aD e m P (w.setCell ⟨g,i*m+j,none⟩ u) base S (.slice g n c) (xs.set i y):=by
 have hlen:=h.len
 obtain⟨rows,q,s,f⟩:=h
 have D:i<xs.length:=bT E
 have v:i<rows.length:=aa
 have o:Sm S w (w.setCell ⟨g,i*m+j,none⟩ u):=λb B=>dE _ _ _ _ (λp=>by have p:b=g:=p;subst p;exact H B)
 have l:=cq v
 have A:∀z∈rows[i].val.set j u,z.oneCell'=true:=λz a=>by
  rcases List.mem_or_eq_of_mem_set a with a|a
  .exact rows[i].property.2 z a
  .rw[a];exact F
 refine⟨rows.set i ⟨rows[i].val.set j u,by rw[dN];exact rows[i].property.1,A⟩,by simp[q],?_,?_⟩
 .exact s.stored bY l I rfl
 .intro k r z d a;by_cases t:k=i
  .subst t;rw[List.getElem?_set_self v]at d;rw[List.getElem?_set_self D]at a;injection d with d;injection a with a
   subst d a;exact C.same o (G _ rows[k].property.1 (f k _ x l E))
  .rw[List.getElem?_set_ne (λh=>t h.symm)]at d a;exact C.same o (f k r z d a)
theorem aD.move(u:Good P)(h:aD e m P w base S v xs)(E:Sm S w w')(C:∀g,v.ownBlock=some g->w'.heap[g]?=w.heap[g]?):aD e m P w' base S v xs:=by
 obtain⟨rows,l,c,n⟩:=h;refine⟨rows,l,⟨c.1,?_⟩,λi r x a b=>u.same E (n i r x a b)⟩;rcases c.2 with c|⟨j,d,f,k,o,p,r⟩
 .exact .inl c
 .exact .inr ⟨j,d,f,k,o,by rw[C j (by rw[k];rfl)];exact p,r⟩
theorem aD.gK(a:Good P)(h:aD e m P w base (eP w) v xs)(r:Below w w w'):aD e m P w' base (eP w') v xs:=(h.ah a (λ_ h=>h.lt) r).mono a (λ_ h=>h.below r)
theorem aD.bL{base':Nat}(h:aD e m P w base S v xs)(r:base'<=base):aD e m P w base' S v xs:=by obtain⟨rows,a,b,c⟩:=h;exact⟨rows,a,b.bL r,c⟩
theorem jv.gK(a:Good P)(h:jv m P w (eP w) A xs)(r:Below w w w'):jv m P w' (eP w') A xs:=(h.below a (λ_ h=>h.lt) r).mono a (λ_ h=>h.below r)
theorem aD.other(h:aD e m P w base S v xs)(u:ag w g t ys)(r:e≠t):∀a,v.ownBlock=some a->a≠g:=by obtain⟨rows,f,b,i⟩:=h;exactλa d c=>ba b u r (by rw[d,c])
end
theorem Ju(h:aV c=true):(1<=c.kind/\c.kind<=3)/\(0<=c.cap/\c.cap<=16)/\(0<=c.chans/\c.chans<=8):=by
 obtain⟨_,_,_,_,_,_,b⟩:=aO h;rcases Dx b with a|a|a
 .obtain⟨d,e,_⟩:=ru b (.inl a);omega
 .obtain⟨d,e,_⟩:=ru b (.inr a);omega
 .obtain⟨d,e,_⟩:=qz b a;omega
theorem AP(w:World)(hc:aV c=true)(r:n=c.start.length)(u:bD w .i64 A c.start) :
 Calls prog 178 #[.agg #[c.kind,c.threads,c.chans,c.cap,c.nodes,c.aP,c.aB,c.tags,c.bw,c.bn,.slice A n k]] w λe w'=>e=.returned (eC c)/\Below w w w':=by
 have HC:=ae (ji (w.alloc (dB c A n k)) hc r (u.alloc _) (k:=k))
 have a:=Ju hc
 obtain⟨g,_⟩:=aO hc
 have d:c.chans*(1+c.cap)<=8*17:=Int.le_trans (Int.mul_le_mul_of_nonneg_right a.2.2.2 aa) (Int.mul_le_mul_of_nonneg_left aa af)
 have b:0<=c.chans*(1+c.cap):=lI a.2.2.1 aa
 obtain⟨p,f⟩:=aw (c.chans*(1+c.cap))
 have h:IntKind.i64.wrap (1+c.cap)=1+c.cap:=bH _ aa
 have j:IntKind.i64.wrap (c.chans*(1+c.cap))=c.chans*(1+c.cap):=bH _ aa
 have l:IntKind.i64.wrap (1+c.chans*(1+c.cap))=1+c.chans*(1+c.cap):=bH _ aa
 have m:IntKind.i64.wrap (c.threads*4)=c.threads*4:=bH _ aa
 have o:IntKind.i64.wrap (1+c.chans*(1+c.cap)+c.threads*4)=1+c.chans*(1+c.cap)+c.threads*4:=bH _ aa
 have HS:Hid (eC c=if c.kind=3 then 1+c.chans*(1+c.cap)+c.threads*4 else 1+c.cap):=by unfold Hid eC;rw[hc];rfl
 clear a g d b f r u hc
 by_cases hk:c.kind=3
 .have d1:(c.kind==3)=true:=by simpa using hk
  rw[ay hk]at HS;exact aaG
 .have d1:(c.kind==3)=false:=by simpa using hk
  rw[au hk]at HS;exact aaG
theorem tS(a:aV c=true):0<=eC c/\eC c<=1000:=by have b:=Ju a;obtain⟨f,_⟩:=aO a;have e:c.chans*(1+c.cap)<=8*17:=Int.le_trans (Int.mul_le_mul_of_nonneg_right b.2.2.2 aa) (Int.mul_le_mul_of_nonneg_left aa af);have d:0<=c.chans*(1+c.cap):=lI b.2.2.1 aa;unfold eC;rw[a];simp only[Bool.true_eq_false,if_false];split<;>omega
theorem DD(w:World)(a:aV c=true)(r:n=c.start.length)(u:bD w .i64 A c.start) :
 Calls prog 128 #[.agg #[c.kind,c.threads,c.chans,c.cap,c.nodes,c.aP,c.aB,c.tags,c.bw,c.bn,.slice A n k]] w λe w'=>e=.returned (bA c)/\Below w w w':=by
 have q:=ae (ji (w.alloc (dB c A n k)) a r (u.alloc _) (k:=k))
 have m:Hid (bA c=eC c+c.threads):=by unfold Hid bA;rw[a];rfl
 have h:=tS a
 obtain⟨x,_⟩:=aO a
 have f:=ae (λw' (d:Below w w w')=>AP w' a r (u.below d) (k:=k))
 generalize eC c=s at m h f
 have B:IntKind.i64.wrap (s+c.threads)=s+c.threads:=bH _ aa
 clear r u a h x
 go_enter func128,ntmps128
 go_wp2_with fail
 refine q.mono ?_
 rintro e b ⟨rfl,d⟩
 have a:∀i,b.cell? ⟨w,i,none⟩=_:=λi=>d.cell (p:=⟨w,i,none⟩) aA
 have o:w.heap.size<b.heap.size:=by have:=d.size;simp at this;omega
 have l:=ae (Below.trans (aj (ai w) (dB c A n k)) (d.mono aA))
 clear d
 go_wp2_with fail
 have j:Below b b b.drew:=bZ (n:=1) (ai b)
 have t:∀i,b.drew.cell? ⟨w,i,none⟩=_:=λi=>(j.cell (p:=⟨w,i,none⟩) o).trans (a i)
 go_region_law(first
  |(go_simp;go_at_call 178;go_fit (f _ (ah l j));rintro e z ⟨rfl,g⟩;have y:=ah (ah l j) g;have v:∀i,z.cell? ⟨w,i,none⟩=_:=λi=>(g.cell (p:=⟨w,i,none⟩) o).trans (t i);go_wp2_with fail))
 all_goals
  go_wp2;go_ret;rw[m.Y];exact⟨rfl,y⟩
def fD(r:Rs):List Value:=[r.seq,r.cs,r.code,r.value]
theorem dC(r:Rs):(fD r).length=4:=rfl
theorem qH(r:Rs):∀u∈fD r,u.oneCell'=true:=by intro u a;simp[fD]at a;rcases a with rfl|rfl|rfl|rfl<;>rfl
theorem cN.res{u:List Rs}(h:cN w fD A u)(C:i<u.length) :
 ∃a x,A=some a/\u[i]?=some x/\w.cell? (a.add (i*4))=some x.seq/\w.cell? ((a.add (i*4)).add 1)=some x.cs/\w.cell? ((a.add (i*4)).add 2)=some x.code/\w.cell? ((a.add (i*4)).add 3)=some x.value:=by
 obtain⟨a,x,c,d,b⟩:=cN.at_ dC af h C
 exact⟨a,x,c,d,b 0 _ rfl,b 1 _ rfl,b 2 _ rfl,b 3 _ rfl⟩
def TD:ux Ch:=λw S r x=>∃B d,r=[.int .i64 x.gen,.int .i64 x.cap,.bool x.used,.bool x.closed,.slice B x.buf.length d]/\x.buf.length<=d/\dL w S .i64 B x.buf
theorem cd:Good TD:=⟨λa ⟨B,d,h1,h2,h3⟩=>⟨B,d,h1,h2,h3.mono a⟩,λa ⟨B,d,h1,h2,h3⟩=>⟨B,d,h1,h2,h3.same a⟩⟩
def OO:ux Wt:=λw S r x=>∃B d,r=[.bool x.on,.int .i64 x.ak,.int .i64 x.seq,.slice B x.cases.length d]/\x.cases.length<=d/\eo w S bj B x.cases
theorem aI:Good OO:=⟨λa ⟨B,d,h1,h2,h3⟩=>⟨B,d,h1,h2,h3.mono a⟩,λa ⟨B,d,h1,h2,h3⟩=>⟨B,d,h1,h2,h3.same a⟩⟩
theorem xj(p:α->Bool)(a:List α):(!(a.any λx=> !p x))=a.all p:=by
 induction a with
 |nil=>rfl
 |cons x l b=>simp only[List.any_cons,List.all_cons,Bool.not_or,Bool.not_not,b]
theorem Gp(w:World)(A:Option Addr)(m:Nat)(a:List Int)(p:Int)(n:Nat)(r:n=a.length)(u:bD w .i64 A a)(C:n<=100000) :
 Calls prog 214 #[.slice A n m,p] w λe w'=>e=.returned (jN a p)/\Below w w w':=by
 have d:Hid (jN a p=(decide ((n:Int)<=p) && !a.any zY)):=by unfold Hid jN;rw[<-r];congr 1;exact(xj (λx=>iN x 0 4294967295) a).symm
 have HH:=ae (Oh w A m a n r u C)
 rw[d.Y]
 generalize a.any zY=b at HH ⊢
 clear r u d
 by_cases c:(n:Int)<=p
 .have d1:decide ((n:Int)<=p)=true:=cg c;rw[d1];clear c;go_enter func214,ntmps214;exact VY
 .have d1:decide ((n:Int)<=p)=false:=bF c;rw[d1];clear c;go_enter func214,ntmps214;go_wp2;go_ret;exact⟨aA,ai w⟩
def r8(r:Rs):Bool:= !iR r
section
variable(w:World)
theorem OP(z:Rs) :
 Calls prog 228 #[.agg #[z.seq,z.cs,z.code,z.value]] w λe w'=>e=.returned (r8 z)/\Below w w w':=by
 have c:=ae (xQ (w.alloc (qh z.seq z.cs z.code z.value)) z.seq z.cs z.code z.value)
 go_enter func228,ntmps228
 go_wp2_with fail
 refine c.mono ?_
 rintro e d ⟨rfl,a⟩
 have b:=ae (ah (aj (ai w) _) a)
 clear a
 go_wp2
 go_ret
 exact⟨rfl,b⟩
theorem KU(z:Rs)(a:World)(_:Below w w a) :
 Calls prog 228 #[.agg #[z.seq,z.cs,z.code,z.value]] a λe w2=>e=.returned (r8 z)/\Below a a w2:=OP a z
theorem OQ(A:Option Addr)(m:Nat)(a:List Rs)(n:Nat)(p:n=a.length)(r:cN w fD A a)(u:n<=100000) :
 Calls prog 236 #[.slice A n m,.func (.func 228) #[] #[]] w λe w'=>e=.returned (il r8 a)/\Below w w w':=by
 obtain⟨HN,b,o⟩:=aS p r (λz w' (l:Below w w w')=>KU w z w' l)
 clear p r
 go_enter func236,ntmps236
 go_wp2
 go_loopw[5,8] (λ_ i wr=>∃k:Nat,k<=n/\i=k/\Hid (Below w w wr)/\Hid (∀(j:Nat) (y),j<k->a[j]?=some y->r8 y=false)) (λ_ i _=>n-(intOf i).toNat)
 case atStart=>exact⟨0,aZ _,rfl,ai w,λj _ h=>absurd h (Nat.not_lt_zero _)⟩
 case round =>
  obtain⟨k,t,rfl,HB,HX⟩:=hrel;by_cases hlt:k<n
  .obtain⟨q,z,g,(HZ:Hid _),s,c,d,f⟩:=cN.res (b.below HB) (i:=k) (by rw[<-HN.Y];exact hlt);subst g;rw[add_lit _ _ af]at c d f;have HC:=ae (o z wr HB);skip;rcases hp:r8 z with _|_
   .exact mk7
   .exact mk8
  .exact mk4
theorem OS(A:Option Addr)(m:Nat)(a:List Rs)(n:Nat)(p:n=a.length)(u:cN w fD A a)(C:n<=100000) :
 Calls prog 227 #[.slice A n m,.func (.func 228) #[] #[]] w λe w'=>e=.returned (a.any r8)/\Below w w w':=by
 obtain⟨HI,HA⟩:=av (OQ w A m a n p u C) (ly r8 a)
 generalize il r8 a=r at HI HA
 clear p u
 go_enter func227,ntmps227
 exact X8
end
theorem OT(w:World)(A:Option Addr)(m:Nat)(r:List Rs)(a:Int)(n:Nat)(u:n=r.length)(C:cN w fD A r)(E:n<=100000) :
 Calls prog 207 #[.slice A n m,a] w λe w'=>e=.returned (pN r a)/\Below w w w':=by
 have d:Hid (pN r a=(decide ((n:Int)=a) && !r.any r8)):=by unfold Hid pN;rw[<-u];congr 1;exact(xj iR r).symm
 have HH:=ae (OS w A m r n u C E)
 rw[d.Y]
 generalize r.any r8=b at HH ⊢
 clear u C d
 by_cases c:(n:Int)=a
 .have d0:((n:Int)==a)=true:=by simpa using c
  have d1:decide ((n:Int)=a)=true:=cg c;rw[d1];clear c;go_enter func207,ntmps207;exact VY
 .have d0:((n:Int)==a)=false:=by simpa using c
  have d1:decide ((n:Int)=a)=false:=bF c;rw[d1];clear c;go_enter func207,ntmps207;go_wp2;go_ret;exact⟨aA,ai w⟩
theorem DF(w:World)(c:dG)(A:Option Addr)(k n:Nat)(x:Ch)(B:Option Addr)(a d:Nat)(p:a=x.buf.length)(r:a<=100000)(u:bD w .i64 B x.buf) :
 Calls prog 210 #[.agg #[c.kind,c.threads,c.chans,c.cap,c.nodes,c.aP,c.aB,c.tags,c.bw,c.bn,.slice A n k],.agg #[x.gen,x.cap,x.used,x.closed,.slice B a d]] w λe w'=>e=.returned (lG c x)/\Below w w w':=by
 obtain⟨vM,zv,HV⟩:=aS (pq ((w.alloc (dB c A n k)).alloc (oW x B a d)) x.gen 0 4095) (pq ((w.alloc (dB c A n k)).alloc (oW x B a d)) x.cap 0 c.cap) (Gp ((w.alloc (dB c A n k)).alloc (oW x B a d)) B d x.buf x.cap a p ((u.alloc _).alloc _) r)
 have h:Hid (lG c x=(iN x.gen 0 4095 && iN x.cap 0 c.cap && jN x.buf x.cap && (x.used || (!x.closed && x.cap==0)))):=rfl
 rw[h.Y]
 obtain⟨q,i⟩:∃b,b=iN x.gen 0 4095:=⟨_,rfl⟩
 obtain⟨s,j⟩:∃b,b=iN x.cap 0 c.cap:=⟨_,rfl⟩
 obtain⟨t,l⟩:∃b,b=jN x.buf x.cap:=⟨_,rfl⟩
 rw[<-i]at vM ⊢
 rw[<-j]at zv ⊢
 rw[<-l]at HV ⊢
 have p6:Hid (Below w w ((w.alloc (dB c A n k)).alloc (oW x B a d))):=aj (aj (ai w) _) _
 have HK:Hid (ag ((w.alloc (dB c A n k)).alloc (oW x B a d)) (w.heap.size+1) 50 #[x.gen,x.cap,x.used,x.closed,.slice B a d]):=ag.newAt (w.alloc (dB c A n k)) _ _ aA
 obtain⟨y,g,f,closed,v⟩:=x
 dsimp only at vM zv HV HK p6 ⊢
 clear i j l h p u r
 rcases q with _|_
 .go_enter func210,ntmps210;exact VZ
 rcases s with _|_
 .go_enter func210,ntmps210;exact V0
 rcases t with _|_
 .go_enter func210,ntmps210;go_wp2_with fail;refine vM.mono ?_;rintro e o ⟨rfl,rfl⟩;go_wp2_with fail;refine zv.mono ?_;rintro e o ⟨rfl,rfl⟩;go_wp2_with fail;refine HV.mono ?_;rintro e o ⟨rfl,m⟩;have HB:=ae (p6.trans (m.mono (by simp;omega)));clear m;go_wp2;go_ret;exact⟨rfl,HB⟩
 rcases f with _|_
 .rcases closed with _|_
  .rcases z:(g==0)with _|_
   all_goals
    exact X9
  .exact X9
 .exact X9
def RZ(c:dG)(x:Ch):Bool:= !lG c x
def R4(x:Wt):Bool:= !fX x
theorem OU(ki ar va:Int)(df:Bool)(cs:List (Int×Int×Int)):bt ki ar va cs=Mo.bt ⟨ki,ar,va,df,cs⟩:=rfl
theorem OV(w:World)(x:Wt)(B:Option Addr)(a d:Nat)(p:a=x.cases.length)(F:a<=100000)(u:cN w bj B x.cases) :
 Calls prog 213 #[.agg #[x.on,x.ak,x.seq,.slice B a d]] w λe w'=>e=.returned (fX x)/\Below w w w':=by
 obtain⟨vM,zv,i,j⟩:=bh (pq (w.alloc (.cells #[x.on,x.ak,x.seq,.slice B a d] 99)) x.ak 0 4294967295) (pq (w.alloc (.cells #[x.on,x.ak,x.seq,.slice B a d] 99)) x.seq 0 1048575) (pq (w.alloc (.cells #[x.on,x.ak,x.seq,.slice B a d] 99)) a 1 3) (mZ (w:=(w.alloc (.cells #[x.on,x.ak,x.seq,.slice B a d] 99))) (ki:=3) (ar:=0) (va:=0) (df:=false) (A:=B) (c:=d) (cs:=x.cases) aa (u.alloc _))
 rw[OU 3 0 0 false, <-p]at j
 have m:Hid (fX x=if x.on=false then x.ak==0 && x.seq==0 && decide (a=0)else iN x.ak 0 4294967295 && iN x.seq 0 1048575 && iN a 1 3 && Mo.bt ⟨3,0,0,false,x.cases⟩):=by unfold Hid;rw[p];rfl
 rw[m.Y]
 obtain⟨y,n⟩:∃b,b=iN x.ak 0 4294967295:=⟨_,rfl⟩
 obtain⟨z,o⟩:∃b,b=iN x.seq 0 1048575:=⟨_,rfl⟩
 obtain⟨C,q⟩:∃b,b=iN (a:Int) 1 3:=⟨_,rfl⟩
 obtain⟨E,r⟩:∃b,b=Mo.bt ⟨3,0,0,false,x.cases⟩:=⟨_,rfl⟩
 rw[<-n]at vM ⊢
 rw[<-o]at zv ⊢
 rw[<-q]at i ⊢
 rw[<-r]at j ⊢
 have p6:Hid (Below w w (w.alloc (.cells #[x.on,x.ak,x.seq,.slice B a d] 99))):=aj (ai w) _
 obtain⟨D,l,f,cs⟩:=x
 dsimp only at vM zv i j p6 ⊢
 clear n o q r m p u
 rcases D with _|_
 .rw[ay rfl];by_cases h:l=0;case neg =>
   have d1:(l==0)=false:=by simpa using h
   rw[d1];clear h;exact TE
  have d1:(l==0)=true:=by simpa using h
  rw[d1];by_cases k:f=0;case neg =>
   have d2:(f==0)=false:=by simpa using k
   rw[d2];clear h k;exact TE
  have d2:(f==0)=true:=by simpa using k
  rw[d2];clear h k;by_cases s:a=0
  .subst s;exact TE
  .have d3:((a:Int)==0)=false:=by simp;omega
   have d4:decide (a=0)=false:=bF s;rw[d4];exact TE
 .rw[au af];rcases y with _|_
  .skip;go_enter func213,ntmps213;exact VZ
  rcases z with _|_
  .skip;go_enter func213,ntmps213;exact V0
  rcases C with _|_
  .skip;go_enter func213,ntmps213;go_wp2_with fail;refine vM.mono ?_;rintro e g ⟨rfl,rfl⟩;go_wp2_with fail;refine zv.mono ?_;rintro e g ⟨rfl,rfl⟩;go_wp2_with fail;refine i.mono ?_;rintro e g ⟨rfl,rfl⟩;go_wp2;go_ret;exact⟨rfl,p6⟩
  go_enter func213,ntmps213;go_wp2_with fail;refine vM.mono ?_;rintro e g ⟨rfl,rfl⟩;go_wp2_with fail;refine zv.mono ?_;rintro e g ⟨rfl,rfl⟩;go_wp2_with fail;refine i.mono ?_;rintro e g ⟨rfl,rfl⟩;go_wp2_with fail;refine j.mono ?_;rintro e g ⟨rfl,t⟩;have v:=ae (ah p6 t);clear t;go_wp2;go_ret;exact⟨aA,v⟩
theorem KV(w:World)(c:dG)(g:Nat)(A:Option Addr)(k n:Nat)(r:ag w g 24 #[c.kind,c.threads,c.chans,c.cap,c.nodes,c.aP,c.aB,c.tags,c.bw,c.bn,.slice A n k])(x:Ch)(B:Option Addr)(a d:Nat)(p:a=x.buf.length)(C:a<=100000)(u:bD w .i64 B x.buf) :
 Calls prog 209 #[.agg #[x.gen,x.cap,x.used,x.closed,.slice B a d],.pointer g] w λe w'=>e=.returned (RZ c x)/\Below w w w':=by
 have HC:=ae (DF (w.alloc (oW x B a d)) c A k n x B a d p C (u.alloc _))
 obtain⟨h,-,i⟩:=ag.aF r
 have f:Hid (RZ c x= !lG c x):=rfl
 rw[f.Y]
 generalize lG c x=b at HC ⊢
 clear r u p
 go_enter func209,ntmps209
 exact V4
theorem KW(w:World)(x:Wt)(B:Option Addr)(a d:Nat)(p:a=x.cases.length)(u:a<=100000)(r:cN w bj B x.cases) :
 Calls prog 212 #[.agg #[x.on,x.ak,x.seq,.slice B a d]] w λe w'=>e=.returned (R4 x)/\Below w w w':=by
 have HC:=ae (OV (w.alloc (.cells #[x.on,x.ak,x.seq,.slice B a d] 99)) x B a d p u (r.alloc _))
 have c:Hid (R4 x= !fX x):=rfl
 rw[c.Y]
 generalize fX x=b at HC ⊢
 clear r p
 go_enter func212,ntmps212
 exact V4
theorem OX(w:World)(E:ag w g 24 #[c.kind,c.threads,c.chans,c.cap,c.nodes,c.aP,c.aB,c.tags,c.bw,c.bn,.slice A0 n0 k0])(H:∀b,S b->b<w.heap.size)(A:Option Addr)(m:Nat)(u:List Ch)(n:Nat)(G:n=u.length)(C:jv 5 TD w S A u)(F:n<=100000)(p:∀x∈u,x.buf.length<=100000) :
 Calls prog 229 #[.slice A n m,.func (.func 209) #[] #[.pointer g]] w λe w'=>e=.returned (il (RZ c) u)/\Below w w w':=by
 obtain⟨HN,v,D,o,Q⟩:=bQ G C H p (λ(z:Ch) (B:Option Addr) (l d:Nat) (f:l=z.buf.length) (F:l<=100000) (w':World) (O:Below w w w') (C:bD w' .i64 B z.buf)=>KV w' c g A0 k0 n0 (E.ah O) z B l d f F C)
 clear G C E H p
 go_enter func229,ntmps229
 go_wp2
 go_loopw[5,8] (λ_ i wr=>∃k:Nat,k<=n/\i=k/\Hid (Below w w wr)/\Hid (∀(j:Nat) (y),j<k->u[j]?=some y->(RZ c) y=false)) (λ_ i _=>n-(intOf i).toNat)
 case atStart=>exact⟨0,aZ _,rfl,ai w,λj _ h=>absurd h (Nat.not_lt_zero _)⟩
 case round =>
  obtain⟨k,E,rfl,HB,HX⟩:=hrel;by_cases hlt:k<n
  .obtain⟨I,z,r,M,q,N,_,a⟩:=jv.at_ af (v.below cd D HB) (i:=k) (by rw[<-HN.Y];exact hlt);obtain⟨B,d,rfl,P,s⟩:=N;have R:wr.cell? (I.add (k*5))=_:=a 0 _ rfl;have J:=a 1 _ rfl;have K:=a 2 _ rfl;have L:=a 3 _ rfl;have t:=a 4 _ rfl;have p:=o.Y z (cH q);obtain⟨l,f⟩:=aw z.buf.length;rw[<-f]at t p;subst M;rw[add_lit _ _ af]at J K L t;clear a;have HZ:=ae q;clear q;have HC:=ae (Q z B l d f p wr HB s.1);clear f s P p;rcases hp:(RZ c) z with _|_
   .exact mk7
   .exact mk8
  .exact mk4
theorem OY(w:World)(u:ag w g 24 #[c.kind,c.threads,c.chans,c.cap,c.nodes,c.aP,c.aB,c.tags,c.bw,c.bn,.slice A0 n0 k0])(H:∀b,S b->b<w.heap.size)(A:Option Addr)(m:Nat)(a:List Ch)(n:Nat)(C:n=a.length)(E:jv 5 TD w S A a)(F:n<=100000)(G:∀x∈a,x.buf.length<=100000) :
 Calls prog 208 #[.slice A n m,.func (.func 209) #[] #[.pointer g]] w λe w'=>e=.returned (a.any (RZ c))/\Below w w w':=by
 obtain⟨HI,HA⟩:=av (OX w u H A m a n C E F G) (ly (RZ c) a)
 generalize il (RZ c) a=r at HI HA
 clear C E u
 go_enter func208,ntmps208
 exact X8
theorem OZ(w:World)(_hk:True)(G:∀b,S b->b<w.heap.size)(A:Option Addr)(m:Nat)(u:List Wt)(n:Nat)(F:n=u.length)(C:jv 4 OO w S A u)(E:n<=100000)(p:∀x∈u,x.cases.length<=100000) :
 Calls prog 230 #[.slice A n m,.func (.func 212) #[] #[]] w λe w'=>e=.returned (il R4 u)/\Below w w w':=by
 obtain⟨HN,s,t,g,L⟩:=bQ F C G p (λ(z:Wt) (B:Option Addr) (f d:Nat) (a:f=z.cases.length) (E:f<=100000) (w':World) (C:cN w' bj B z.cases)=>KW w' z B f d a E C)
 clear F C _hk G p
 go_enter func230,ntmps230
 go_wp2
 go_loopw[5,8] (λ_ i wr=>∃k:Nat,k<=n/\i=k/\Hid (Below w w wr)/\Hid (∀(j:Nat) (y),j<k->u[j]?=some y->R4 y=false)) (λ_ i _=>n-(intOf i).toNat)
 case atStart=>exact⟨0,aZ _,rfl,ai w,λj _ h=>absurd h (Nat.not_lt_zero _)⟩
 case round =>
  obtain⟨k,N,rfl,HB,HX⟩:=hrel;by_cases hlt:k<n
  .obtain⟨v,z,r,I,l,J,_,c⟩:=jv.at_ af (s.below aI t HB) (i:=k) (by rw[<-HN.Y];exact hlt);obtain⟨B,d,rfl,K,o⟩:=J;have M:wr.cell? (v.add (k*4))=_:=c 0 _ rfl;have D:=c 1 _ rfl;have H:=c 2 _ rfl;have q:=c 3 _ rfl;have p:=g.Y z (cH l);obtain⟨f,a⟩:=aw z.cases.length;rw[<-a]at q p;subst I;rw[add_lit _ _ af]at D H q;clear c;have HZ:=ae l;clear l;have HC:=ae (L z B f d a p wr o.1);clear a o K p;rcases hp:R4 z with _|_
   .exact mk7
   .exact mk8
  .exact mk4
theorem O0(w:World)(_hk:True)(G:∀b,S b->b<w.heap.size)(A:Option Addr)(m:Nat)(a:List Wt)(n:Nat)(u:n=a.length)(C:jv 4 OO w S A a)(E:n<=100000)(F:∀x∈a,x.cases.length<=100000) :
 Calls prog 211 #[.slice A n m,.func (.func 212) #[] #[]] w λe w'=>e=.returned (a.any R4)/\Below w w w':=by
 obtain⟨HI,HA⟩:=av (OZ w _hk G A m a n u C E F) (ly R4 a)
 generalize il R4 a=r at HI HA
 clear u C _hk
 go_enter func211,ntmps211
 exact X8
theorem KY(w:World)(K:aV c=true)(U:n=c.start.length)(V:bD w .i64 A c.start)(h:Hl)(C E F:Option Addr)(a r u G H I:Nat)(M:a=h.chans.length)(N:r=h.waits.length)(sH:u=h.done.length)(J:∀b,S b->b<w.heap.size)(O:jv 5 TD w S C h.chans)(Q:jv 4 OO w S E h.waits)(R:cN w fD F h.done)(X:a<=100000)(Y:r<=100000)(Z:u<=100000)(l4:∀x∈h.chans,x.buf.length<=100000)(l5:∀x∈h.waits,x.cases.length<=100000) :
 Calls prog 179 #[.agg #[c.kind,c.threads,c.chans,c.cap,c.nodes,c.aP,c.aB,c.tags,c.bw,c.bn,.slice A n k],.agg #[h.ak,.slice C a G,.slice E r H,.slice F u I]] w λe w'=>e=.returned (jF c h)/\Below w w w':=by
 obtain⟨V5,TF,HD,HFC,HFW⟩:=bQ (ji ((w.alloc (dB c A n k)).alloc (sY h.ak C a G E r H F u I)) K U ((V.alloc _).alloc _) (k:=k)) (λw'=>pq w' h.ak 0 4294967295) (λw' (hb:Below w w w')=>OT w' F I h.done c.threads u sH (R.below hb) Z) (λw' (hb:Below w w w') (hk:ag w' w 24 #[c.kind,c.threads,c.chans,c.cap,c.nodes,c.aP,c.aB,c.tags,c.bw,c.bn,.slice A n k])=>OY w' hk (λb q=>bW (J b q) hb.size) C G h.chans a M (O.below cd J hb) X l4) (λw' (hb:Below w w w')=>O0 w' trivial (λb q=>bW (J b q) hb.size) E H h.waits r N (Q.below aI J hb) Y l5)
 have t:Hid (jF c h=(true && (c.kind==3) && iN h.ak 0 4294967295 && decide ((a:Int)=c.chans) && decide ((r:Int)=c.threads) && pN h.done c.threads && (!h.chans.any (RZ c)) && (!h.waits.any R4))):=by
  unfold Hid jF;rw[K,M,N];congr 1
  .congr 1;exact(xj (lG c) h.chans).symm
  .exact(xj fX h.waits).symm
 rw[t.Y]
 obtain⟨P,v⟩:∃b,b=iN h.ak 0 4294967295:=⟨_,rfl⟩
 obtain⟨T,y⟩:∃b,b=pN h.done c.threads:=⟨_,rfl⟩
 obtain⟨W,z⟩:∃b,b=h.chans.any (RZ c):=⟨_,rfl⟩
 obtain⟨b4,B⟩:∃b,b=h.waits.any R4:=⟨_,rfl⟩
 rw[<-v]at TF ⊢
 rw[<-y]at HD ⊢
 rw[<-z]at HFC ⊢
 rw[<-B]at HFW ⊢
 have p6:Hid (Below w w ((w.alloc (dB c A n k)).alloc (sY h.ak C a G E r H F u I))):=aj (aj (ai w) _) _
 have eW:Hid (ag ((w.alloc (dB c A n k)).alloc (sY h.ak C a G E r H F u I)) w 24 #[c.kind,c.threads,c.chans,c.cap,c.nodes,c.aP,c.aB,c.tags,c.bw,c.bn,.slice A n k]):=(ag.new w _ _).alloc _
 have eZ:Hid (ag ((w.alloc (dB c A n k)).alloc (sY h.ak C a G E r H F u I)) (w.heap.size+1) 45 #[h.ak,.slice C a G,.slice E r H,.slice F u I]):=ag.newAt (w.alloc (dB c A n k)) _ _ aA
 obtain⟨ak,chans,s,done⟩:=h
 dsimp only at V5 TF p6 eW eZ ⊢
 clear v y z B t M N sH O Q R X Y Z l4 l5 U V K J
 by_cases d:c.kind=3
 case neg =>
  have d1:(c.kind==3)=false:=by simpa using d
  have o:(c.kind !=3)=true:=by simpa using d
  rw[d1];clear d;go_enter func179,ntmps179;go_wp2_with fail;refine V5.mono ?_;rintro e j ⟨rfl,hb⟩;have qi:=eW.ah hb;have oD:=eZ.ah hb;obtain⟨hc0,-,hz0⟩:=ag.aF qi;obtain⟨hc1,-,hz1⟩:=ag.aF oD;obtain⟨HK,br⟩:=av qi (ah p6 hb);clear hb qi oD;go_wp2;go_ret;exact⟨aA,br⟩
 have d1:(c.kind==3)=true:=by simpa using d
 have o:(c.kind !=3)=false:=by simpa using d
 rw[d1]
 clear d
 rcases P with _|_
 .skip;exact Ya
 by_cases f:(a:Int)=c.chans
 case neg =>
  have d2:((a:Int) !=c.chans)=true:=by simpa using f
  rw[bF f];clear f;exact Ya
 have d2:((a:Int) !=c.chans)=false:=by simpa using f
 rw[cg f]
 clear f
 by_cases g:(r:Int)=c.threads
 case neg =>
  have d3:((r:Int) !=c.threads)=true:=by simpa using g
  rw[bF g];clear g;exact Ya
 have d3:((r:Int) !=c.threads)=false:=by simpa using g
 rw[cg g]
 clear g
 have aq:∀(D:Fn) (first m:Array Value) (w:World),(Instr.makeFunc D first m).run prog w=.ok (.func D first m) w:=λ_ _ _ _=>rfl
 rcases T with _|_
 .skip;go_enter func179,ntmps179;go_wp2_with fail;refine V5.mono ?_;rintro e j ⟨rfl,hb⟩;have qi:=eW.ah hb;have oD:=eZ.ah hb;obtain⟨hc0,-,hz0⟩:=ag.aF qi;obtain⟨hc1,-,hz1⟩:=ag.aF oD;obtain⟨HK,br⟩:=av qi (ah p6 hb);clear hb qi oD;go_wp2_with fail;go_fit (TF j);rintro e w9 ⟨rfl,rfl⟩;go_wp2_with fail;go_fit (HD j br);rintro e l ⟨rfl,hb⟩;have DG:∀i,l.cell? ⟨w,i,none⟩=_:=λi=>(hb.cell (p:=⟨w,i,none⟩) hz0).trans (hc0 i);have Aa:∀i,l.cell? ⟨w.heap.size+1,i,none⟩=_:=λi=>(hb.cell (p:=⟨w.heap.size+1,i,none⟩) hz1).trans (hc1 i);have HK:=ae (HK.ah hb);exact acQ
 rcases W with _|_
 case true=>skip;go_enter func179,ntmps179;go_wp2_with fail;refine V5.mono ?_;rintro e j ⟨rfl,hb⟩;have qi:=eW.ah hb;have oD:=eZ.ah hb;obtain⟨hc0,-,hz0⟩:=ag.aF qi;obtain⟨hc1,-,hz1⟩:=ag.aF oD;obtain⟨HK,br⟩:=av qi (ah p6 hb);clear hb qi oD;go_wp2_with fail;go_fit (TF j);rintro e w9 ⟨rfl,rfl⟩;go_wp2_with fail;go_fit (HD j br);rintro e l ⟨rfl,hb⟩;have DG:∀i,l.cell? ⟨w,i,none⟩=_:=λi=>(hb.cell (p:=⟨w,i,none⟩) hz0).trans (hc0 i);have Aa:∀i,l.cell? ⟨w.heap.size+1,i,none⟩=_:=λi=>(hb.cell (p:=⟨w.heap.size+1,i,none⟩) hz1).trans (hc1 i);have HK:=ae (HK.ah hb);have hz0:=bW hz0 hb.size;have hz1:=bW hz1 hb.size;have bB:=ae (ah br hb);clear hb hc0 hc1;have hc0:=DG;have hc1:=Aa;clear DG Aa;go_wp2_with fail;go_fit (HFC l bB HK);rintro e L ⟨rfl,hb⟩;have O1:∀i,L.cell? ⟨w,i,none⟩=_:=λi=>(hb.cell (p:=⟨w,i,none⟩) hz0).trans (hc0 i);have O2:∀i,L.cell? ⟨w.heap.size+1,i,none⟩=_:=λi=>(hb.cell (p:=⟨w.heap.size+1,i,none⟩) hz1).trans (hc1 i);have HK:=ae (HK.ah hb);have hz0:=bW hz0 hb.size;have hz1:=bW hz1 hb.size;have bU:=ae (ah bB hb);clear hb hc0 hc1;have hc0:=O1;have hc1:=O2;clear O1 O2;go_wp2;go_ret;exact⟨aA,bU⟩
 rcases b4 with _|_
 .exact aaH
 .exact aaH
section
variable(w:World)
theorem yc(b:Bool):Calls prog 182 #[b] w λe w'=>e=.returned (.int .u64 (Mo.flag b))/\w=w':=by
 rcases b with _|_
 all_goals
  go_enter func182,ntmps182;go_wp2;go_ret;exact⟨rfl,rfl⟩
theorem pB(b:Bool):0<=Mo.flag b/\Mo.flag b<=1:=by cases b<;>decide
theorem O3(x:Ch)(B:Option Addr)(r d:Nat)(u:r=x.buf.length)(C:0<=x.gen/\x.gen<=4095)(E:0<=x.cap/\x.cap<=15)(F:r<=15) :
 Calls prog 181 #[.agg #[x.gen,x.cap,x.used,x.closed,.slice B r d]] w λe w'=>e=.returned (.int .u64 (r5 x))/\Below w w w':=by
 have i:Hid (r5 x=x.gen+x.cap*4096+Mo.flag x.used*65536+Mo.flag x.closed*131072+(r:Int)*1048576):=by unfold Hid;rw[u];rfl
 rw[i.Y]
 have j:=pB x.used;have c:=pB x.closed
 obtain⟨h,g⟩:=av (λw'=>yc w' x.used) (λw'=>yc w' x.closed)
 obtain⟨f1,k⟩:∃f,f=Mo.flag x.used:=⟨_,rfl⟩
 obtain⟨f2,l⟩:∃f,f=Mo.flag x.closed:=⟨_,rfl⟩
 rw[<-k]at j h ⊢
 rw[<-l]at c g ⊢
 obtain⟨b,a,m,closed,n⟩:=x
 dsimp only at C E h g ⊢
 clear k l i u
 have o:IntKind.u64.wrap b=b:=by simp only[cA];omega
 have p:IntKind.u64.wrap a=a:=by simp only[cA];omega
 have q:IntKind.u64.wrap (a*4096)=a*4096:=by simp only[cA];omega
 have s:IntKind.u64.wrap (f1*65536)=f1*65536:=by simp only[cA];omega
 have t:IntKind.u64.wrap (f2*131072)=f2*131072:=by simp only[cA];omega
 have v:IntKind.u64.wrap (r:Int)=r:=by simp only[cA];omega
 have y:IntKind.u64.wrap ((r:Int)*1048576)=(r:Int)*1048576:=by simp only[cA];omega
 have z:bits BinOp.or IntKind.u64 b (a*4096)=b+a*4096:=mY 12 _ _ aa aa aa aa aa aa
 have A:bits BinOp.or IntKind.u64 (b+a*4096) (f1*65536)=b+a*4096+f1*65536:=mY 16 _ _ aa aa aa aa aa aa
 have D:bits BinOp.or IntKind.u64 (b+a*4096+f1*65536) (f2*131072)=b+a*4096+f1*65536+f2*131072:=mY 17 _ _ aa aa aa aa aa aa
 have G:bits BinOp.or IntKind.u64 (b+a*4096+f1*65536+f2*131072) ((r:Int)*1048576)=b+a*4096+f1*65536+f2*131072+(r:Int)*1048576:=mY 20 _ _ aa aa aa aa aa aa
 clear C E F j c
 go_enter func181,ntmps181
 go_wp2_with fail
 go_quiet((go_at_call 182;first|exact sw (h _)|exact sw (g _)))
 go_wp2
 go_ret
 exact⟨rfl,bZ (aj (ai w) _) _⟩
theorem KZ(l:List Int)(k:Nat):kH l (k+1)=kH l k++[if k<l.length then l.getD k 0 else 0]:=by
 unfold kH;by_cases h:k<l.length
 .rw[ay h,show k+1-l.length=0 by omega,show k-l.length=0 by omega];simp only[List.replicate_zero,List.append_nil];rw[eM (cq h),ew,cq h];rfl
 .rw[au h,List.take_of_length_le aa,List.take_of_length_le aa,show k+1-l.length=(k-l.length)+1 by omega,List.replicate_succ',List.append_assoc]
theorem oz(l:List Int)(k:Nat):(kH l k).length=k:=by unfold kH;rw[fM,fK,jI];omega
def r9(w p:World)(v a:Value):Prop:=(∀b,b<w.heap.size->some b≠v.ownBlock->p.heap[b]?=w.heap[b]?)/\(a.ownBlock=v.ownBlock\/∃g,a.ownBlock=some g/\w.heap.size<=g)/\w.heap.size<=p.heap.size
theorem r9.refl(w:World)(v:Value):r9 w w v v:=⟨λ_ _ _=>rfl,.inl rfl,aR _⟩
theorem r9.step{w p:World}{o u:Value}(h:r9 w wr v o)(r:Below wr wr p)(C:p.grownBy w2 o.ownBlock)(a:u.ownBlock=o.ownBlock\/u.ownBlock=some p.heap.size):r9 w w2 v u:=by
 obtain⟨i,c,j⟩:=h;refine⟨λb f d=>?_,?_,bm j (bm r.size C.size)⟩
 .rw[C.block b (by have:=r.size;omega) ?_,r.block b aa,i b f d];rcases c with c|⟨g,c,k⟩
  .rw[c];exact d
  .rw[c];intro e;injection e with e;omega
 .rcases a with a|a
  .rw[a];exact c
  .exact .inr ⟨_,a,by have:=r.size;omega⟩
def O4(k:IntKind)(e:TypeId)(base:Nat)(v:Value)(L:List Int)(w:World)(r:Ending)(p:World):Prop:=(∃a,r=.returned a/\aK p base e k a L/\r9 w p v a)/\Below base w p
theorem DI{w:World}(a:Below base w w'):Sm (λb=>b<base) w w':=λb h=>a.block b h
theorem TG(base:Nat)(v:Value)(L:List Int)(C:aK w base 69 .u64 v L)(X:base<=w.heap.size)(J:L.length<=100000)(B:Option Addr)(l:List Int)(d p n:Nat)(r:p=l.length)(E:dL w (λb=>b<base) .i64 B l)(V:p<=100000)(U:n<=1000)(u:∀z∈l,0<=z/\z<18446744073709551616) :
 Calls prog 180 #[v,.slice B p d,n] w (O4 .u64 69 base v (L++kH l n) w):=by
 obtain⟨F,j,G⟩:=aS E r u
 obtain⟨A,H,rfl⟩:=C.shape
 have t:=ae C
 obtain⟨x,a⟩:=aw L.length
 rw[<-a]at J t ⊢
 have D:=ae a
 clear E r u C a
 go_enter func180,ntmps180
 go_wp2
 go_loopw[0,7,8,10] (λo _ _ i wr=>∃k:Nat,k<=n/\i=k/\Hid (aK wr base 69 .u64 o (L++kH l k))/\Hid (Below base w wr)/\Hid (r9 w wr (.slice A x H) o)) (λ_ _ _ i _=>n-(intOf i).toNat)
 case atStart=>refine⟨0,aZ _,rfl,?_,Below.refl _ _,r9.refl _ _⟩;show aK _ _ _ _ _ _;have e:kH l 0=[]:=List.eq_nil_of_length_eq_zero (oz l 0);rw[e,List.append_nil];exact t.Y
 case round =>
  obtain⟨k,S,rfl,HO,HB,HGR⟩:=hrel;have O:=HB.size;by_cases N:k<n
  .have f:=KZ l k;have c:=oz l k;obtain⟨M,g⟩:=aw (L++kH l k);have K:M.length=x+k:=by rw[g,fM,c,D.Y]
   rw[<-g]at HO;obtain⟨s,y⟩:=av g f;clear g f c;by_cases h:k<p
   .obtain⟨Q,z,I,m,R⟩:=bD.at_ (dL.same (DI HB) F).1 (i:=k) (by rw[<-j.Y];exact h);subst I;have q:=G.Y z (cH m);have T:IntKind.u64.wrap z=z:=by simp only[cA];omega
    have d1:decide ((k:Int)<(p:Int))=true:=cg aa;have HE:Hid (L++kH l (k+1)=M++[z]):=by unfold Hid;rw[y.Y,ay (by rw[<-j.Y];exact h),ew,m,s.Y,List.append_assoc];rfl
    clear m q;go_wp2_with(at_builtin;refine bS _ rfl _ _ 30 rfl base 69 .u64 underlying30 gZ _ M rfl (HO.alloc _) wr 1 1 [z] rfl rfl (bD.one _ .u64 z _) ?c4 ?c5 ?_)
    case c4=>simp;omega
    case c5=>simp;omega
    exact aaI
   .have d1:decide ((k:Int)<(p:Int))=false:=bF aa;have HE:Hid (L++kH l (k+1)=M++[0]):=by
     unfold Hid;rw[y.Y,au (by rw[<-j.Y];exact h),s.Y,List.append_assoc]
    go_wp2_with(at_builtin;refine bS _ rfl _ _ 30 rfl base 69 .u64 underlying30 gZ _ M rfl (HO.alloc _) wr 1 1 [0] rfl rfl (bD.one _ .u64 0 _) ?c6 ?c7 ?_)
    case c6=>simp;omega
    case c7=>simp;omega
    exact aaI
  .have P:k=n:=aa;subst P;go_wp2;go_ret;exact⟨⟨_,rfl,HO,HGR⟩,HB⟩
end
attribute [local go_sem ↓] Go.wp_at_zero Go.wp_at_succ
theorem map_take{β:Type}(f:α->β){l:List α}(h:l[k]?=some z):(l.take (k+1)).map f=(l.take k).map f++[f z]:=by rw[eM h,List.map_append];rfl
theorem aK.aaJ(w:World)(e:TypeId)(k:IntKind)(z:Int):aK (w.alloc (.cells #[.int k z] e)) w e k (.slice w 1 1) [z]:=World.ownsRow_lit w #[.int k z] 1 (aR _) (by unfold maxLen;omega) rfl
section
variable(w:World)
theorem DJ(base:Nat)(v:Value)(L:List Int)(u:aK w base 69 .u64 v L)(pD:base<=w.heap.size)(V:L.length<=100000)(B:Option Addr)(l:List Rs)(d n:Nat)(E:n=l.length)(F:eo w (λb=>b<base) fD B l)(n7:n<=1000) :
 Calls prog 183 #[v,.slice B n d] w (O4 .u64 69 base v (L++l.map fj) w):=by
 obtain⟨O,y⟩:=av F E
 obtain⟨J,C,rfl⟩:=u.shape
 have A:=ae u
 obtain⟨H,a⟩:=aw L.length
 rw[<-a]at V A ⊢
 have N:=ae a
 clear F E u a
 go_enter func183,ntmps183
 go_wp2
 go_loopw[0,6,9] (λo _ i wr=>∃k:Nat,k<=n/\i=k/\Hid (aK wr base 69 .u64 o (L++(l.take k).map fj))/\Hid (Below base w wr)/\Hid (r9 w wr (.slice J H C) o)) (λ_ _ i _=>n-(intOf i).toNat)
 case atStart=>refine⟨0,aZ _,rfl,?_,Below.refl _ _,r9.refl _ _⟩;show aK _ _ _ _ _ _;rw[List.take_zero,List.map_nil,List.append_nil];exact A.Y
 case round =>
  obtain⟨k,hk,rfl,r,j,c⟩:=hrel;have Y:=j.size;by_cases t:k<n
  .obtain⟨ad,z,U,D,C,R,S,T⟩:=cN.res (eo.same (DI j) O).1 (i:=k) (by rw[<-y.Y];exact t);subst U;rw[add_lit _ _ af]at R S T;obtain⟨M,q⟩:=aw (L++(l.take k).map fj);have W:M.length<=H+k:=by rw[q,fM,fP,fK,N.Y];omega
   rw[<-q]at r;have x:Hid (L++(l.take (k+1)).map fj=M++[fj z]):=by unfold Hid;rw[map_take _ D,q,List.append_assoc]
   have m:=ae (sD (wr.alloc (qh z.seq z.cs z.code z.value)) z.seq z.cs z.code z.value);rw[show zW z.seq z.cs z.code z.value=fj z from rfl]at m;generalize fj z=I at m x;clear D q;go_wp2_with fail;refine m.mono ?_;rintro e w1 ⟨rfl,g⟩;have p:=ae (ah (aj (ai wr) (qh z.seq z.cs z.code z.value)) g);have G:=ae (r.ah p);have X:=p.size;clear g m;go_wp2_with(at_builtin;refine bS _ rfl _ _ 30 rfl base 69 .u64 underlying30 gZ _ M rfl (G.alloc _) w1 1 1 [I] rfl rfl (bD.one _ .u64 I _) ?c4 ?c5 ?_)
   case c4=>simp;omega
   case c5=>simp;omega
   intro v' w2 hown' s f;have Q:=ae (c.step (p.alloc aa _) s (by simpa using f));have h:=(G.alloc _).aW ((j.trans (p.mono aa)).alloc aa _) s (by simp;omega) (aR _);obtain⟨K,P⟩:=av hown' h;clear hown' s h f;go_wp2;go_roundw;case rel=>exact⟨k+1,aa,by go_num,by rw[x.Y];exact K.Y,P,Q⟩
   case measure=>simp[intOf];omega
  .have Z:k=n:=aa;subst Z;go_wp2;go_ret;have e:L++l.map fj=L++(l.take k).map fj:=by rw[tI y.Y (aR _)]
   rw[e];exact⟨⟨_,rfl,r,c⟩,j⟩
theorem Gq(r:jF c h=true){x:Ch}(a:x∈h.chans):(0<=x.gen/\x.gen<=4095)/\(0<=x.cap/\x.cap<=c.cap/\c.cap<=8)/\((x.buf.length:Int)<=x.cap)/\(0<=c.cap)/\∀v∈x.buf,0<=v/\v<=4294967295:=by unfold jF at r;simp only[eT,beq_iff_eq]at r;obtain⟨⟨⟨⟨⟨⟨⟨i,j⟩,m⟩,n⟩,o⟩,p⟩,k⟩,q⟩:=r;have a:=List.all_eq_true.1 k x a;unfold lG jN at a;simp only[eT,iN,eI,List.all_eq_true]at a;obtain⟨_,_,_,_,_,_,l⟩:=aO i;obtain⟨_,d,_⟩:=qz l j;obtain⟨⟨⟨e,b⟩,f,g⟩,_⟩:=a;exact⟨e,⟨b.1,b.2,d.2⟩,f,d.1,g⟩
theorem Yc(base:Nat)(v:Value)(L:List Int)(I:aK w base 69 .u64 v L)(K:base<=w.heap.size)(F:L.length<=100000)(B:Option Addr)(l:List Int)(d a n:Nat)(E:Int)(C:E=n)(r:a=l.length)(H:dL w (λb=>b<base) .i64 B l)(J:a<=100000)(G:n<=1000)(u:∀z∈l,0<=z/\z<18446744073709551616) :
 Calls prog 180 #[v,.slice B a d,E] w (O4 .u64 69 base v (L++kH l n) w):=by
 subst C
 exact TG w base v L I K F B l d a n r H J G u
theorem AQ{f:α->List Int}(a:∀x,(f x).length=m)(l:List α):(l.flatMap f).length=l.length*m:=by
 induction l with
 |nil=>simp
 |cons x l b=>simp[a,b,Nat.add_mul,Nat.add_comm]
theorem AR(c:dG)(x:Ch):(iZ c x).length=1+c.cap.toNat:=by unfold iZ;rw[List.length_cons,oz];omega
theorem Jv{a:Nat}(r:a<=8)(u:b<=9):a*b+1<=1000:=by have:=Nat.mul_le_mul r u;omega
theorem xk(a:jF c h=true):0<=c.cap/\c.cap<=8:=by unfold jF at a;simp only[eT,beq_iff_eq]at a;obtain⟨⟨⟨⟨⟨⟨⟨b,d⟩,_⟩,_⟩,_⟩,_⟩,_⟩,_⟩:=a;obtain⟨_,_,_,_,_,_,e⟩:=aO b;exact(qz e d).2.1
theorem sI(r:jF c h=true)(a:x∈h.waits):(0<=x.ak/\x.ak<=4294967295)/\(0<=x.seq/\x.seq<=1048575)/\x.cases.length<=3/\Mo.bt ⟨3,0,0,false,x.cases⟩=true:=by
 unfold jF at r;simp only[eT]at r;have a:=List.all_eq_true.1 r.2 x a;unfold fX at a;split at a
 .simp only[eT,beq_iff_eq,eI]at a;obtain⟨⟨b,d⟩,e⟩:=a;rw[List.eq_nil_of_length_eq_zero e];exact⟨aa,aa,af,af⟩
 .simp only[eT,iN,eI]at a;obtain⟨⟨⟨b,d⟩,e⟩,f⟩:=a;exact⟨b,d,aa,f⟩
theorem DK(x:Wt)(h:Mo.bt ⟨3,0,0,false,x.cases⟩=true):iJ x=(Mo.flag x.on+x.cases.length*2+x.seq*16+x.ak*4294967296)::((kg ⟨3,0,0,false,x.cases⟩ 0).drop 1).take 3:=by
 have a:x.cases.length<=3:=by unfold Mo.bt at h;simp only[eT,eI]at h;exact h.1.2
 unfold iJ kg;rw[h,show Mo.fits 0 4294967296=true by decide];simp only[Bool.and_self,if_true,List.drop_succ_cons,List.drop_zero];congr 1;rw[List.take_left' (by rw[fM,fP,jI];omega)]
theorem AU(a:jF c h=true)(r:x∈h.waits):(iJ x).length=4:=by have:=(sI a r).2.2.1;unfold iJ;rw[List.length_cons,fM,fP,jI];omega
theorem ye{f:α->List Int}(l:List α)(a:∀x∈l,(f x).length=m):(l.flatMap f).length=l.length*m:=by
 induction l with
 |nil=>simp
 |cons x l c=>simp[a x (List.mem_cons_self ..),c (λy b=>a y (List.mem_cons_of_mem _ b)),Nat.add_mul,Nat.add_comm]
theorem K0{a:List Cs}(h:Mo.bt ⟨3,0,0,false,a⟩=true):(kg ⟨3,0,0,false,a⟩ 0).length=5:=by
 have b:a.length<=3:=by unfold Mo.bt at h;simp only[eT,eI]at h;exact h.1.2
 unfold kg;rw[h,show Mo.fits 0 4294967296=true by decide];simp only[Bool.and_self,if_true,List.length_cons,fM,fP,jI,List.length_nil];omega
theorem O6(a:List Cs):lK 3 0 0 false a 0=kg ⟨3,0,0,false,a⟩ 0:=by unfold lK kg;simp only[eT];rfl
theorem yf(t e:TypeId)(F:P.underlying t=some (.slice e))(E:(P.info? e).map (λi=>(i.zero,i.size,i.bytes))=some (some (.int .u64 0),1,8))(A:Option Addr)(n c a b:Nat)(X Y:Int)(u:X=(a:Int))(C:Y=(b:Int))(r:a<=b)(G:b<=c)(w:World) :
 (Instr.slice t (.slice A n c) (some X) (some Y) none).run P w=.ok (.slice (nO A c a) (b-a) (c-a)) w:=by
 subst u;subst C
 obtain⟨i,f,_,g,_⟩:=info_parts E
 have h:0<=(a:Int)/\(a:Int)<=(b:Int):=aa
 have d:0<=(b:Int)/\(b:Int)<=(c:Int):=aa
 simp[Instr.slice,Instr.sliceBounds,run_underlying F,sizeOf,typeInfo,f,run_sliceBound_if,d,g,nO,r]
theorem oG(a:jF c h=true):h.chans.length<=8/\(h.waits.length:Int)=c.threads/\(h.done.length:Int)=c.threads/\c.threads<=64:=by unfold jF pN at a;simp only[eT,beq_iff_eq,eI]at a;obtain⟨⟨⟨⟨⟨⟨⟨b,d⟩,k⟩,l⟩,e⟩,f,_⟩,m⟩,n⟩:=a;obtain⟨j,_,_,_,_,_,i⟩:=aO b;obtain⟨g,_⟩:=qz i d;exact⟨aa,e,f,j.2⟩
theorem rD(f:α->List Int){l:List α}(h:l[k]?=some z):(l.take (k+1)).flatMap f=(l.take k).flatMap f++f z:=by rw[eM h,List.flatMap_append];simp
theorem DL(hc:aV c=true)(hn:n=c.start.length)(hr:bD w .i64 A c.start)(h:Hl)(A1 A2 A3:Option Addr)(R U Y m1 m2 m3:Nat)(mI:R=h.chans.length)(pG:U=h.waits.length)(sH:Y=h.done.length)(zy:∀b,S b->b<w.heap.size)(h1:jv 5 TD w S A1 h.chans)(h2:jv 4 OO w S A2 h.waits)(h3:eo w S fD A3 h.done)(l1:R<=100000)(l2:U<=100000)(l3:Y<=100000)(l4:∀x∈h.chans,x.buf.length<=100000)(l5:∀x∈h.waits,x.cases.length<=100000) :
 Calls prog 129 #[.agg #[c.kind,c.threads,c.chans,c.cap,c.nodes,c.aP,c.aB,c.tags,c.bw,c.bn,.slice A n k],.agg #[h.ak,.slice A1 R m1,.slice A2 U m2,.slice A3 Y m3]] w (uN (gI c h) w):=by
 have HF:=ae (KY ((w.alloc (dB c A n k)).alloc (sY h.ak A1 R m1 A2 U m2 A3 Y m3)) hc hn ((hr.alloc _).alloc _) (k:=k) h A1 A2 A3 R U Y m1 m2 m3 mI pG sH (S:=S) (λb hs=>by have:=zy b hs;simp;omega) (h1.below cd zy (aj (aj (ai w) _) _)) (h2.below aI zy (aj (aj (ai w) _) _)) ((h3.1.alloc _).alloc _) l1 l2 l3 l4 l5)
 have p6:Hid (Below w w ((w.alloc (dB c A n k)).alloc (sY h.ak A1 R m1 A2 U m2 A3 Y m3))):=aj (aj (ai w) _) _
 have eW:Hid (ag ((w.alloc (dB c A n k)).alloc (sY h.ak A1 R m1 A2 U m2 A3 Y m3)) w 24 #[c.kind,c.threads,c.chans,c.cap,c.nodes,c.aP,c.aB,c.tags,c.bw,c.bn,.slice A n k]):=(ag.new w _ _).alloc _
 have eZ:Hid (ag ((w.alloc (dB c A n k)).alloc (sY h.ak A1 R m1 A2 U m2 A3 Y m3)) (w.heap.size+1) 45 #[h.ak,.slice A1 R m1,.slice A2 U m2,.slice A3 Y m3]):=ag.newAt (w.alloc (dB c A n k)) _ _ aA
 rcases Z:jF c h with _|_
 .rw[Z]at HF;have H:Hid (gI c h=[]):=by unfold Hid gI;rw[Z];rfl
  rw[H.Y];obtain⟨ak,chans,j,done⟩:=h;dsimp only at HF p6 eW eZ ⊢;clear Z H mI pG sH h1 h2 h3 l1 l2 l3 l4 l5 hn hr hc zy;go_enter func129,ntmps129;exact aaK
 .rw[Z]at HF;have H:Hid (gI c h=h.ak::(h.chans.flatMap (iZ c)++h.waits.flatMap iJ++h.done.map fj)):=by unfold Hid gI;rw[Z];rfl
  have uC:=ae Z;have ht:0<=h.ak/\h.ak<=4294967295:=by unfold jF at Z;simp only[eT,iN,eI]at Z;exact Z.1.1.1.1.1.2
  have tw:IntKind.u64.wrap h.ak=h.ak:=by simp only[cA];omega
  obtain⟨H1,H2,H3,vU,aq,Jw⟩:=cS h1 h2 h3 mI pG sH;have KX:=ae zy;rw[H.Y];obtain⟨ak,chans,j,done⟩:=h;dsimp only at HF p6 eW eZ tw H1 H2 H3 vU aq Jw ⊢;clear Z H mI pG sH h1 h2 h3 l4 l5 hn hr hc zy ht;go_enter func129,ntmps129;go_wp2_with fail;refine HF.mono ?_;rintro e D ⟨rfl,q⟩;have HB:=ae (ah p6 q);have qi:=eW.ah q;have oD:=eZ.ah q;obtain⟨a7,-,e5⟩:=ag.aF qi;obtain⟨a8,-,df⟩:=ag.aF oD;obtain⟨K4,cG⟩:=av qi oD;clear q qi oD eW eZ;go_wp2_with fail;have Yd:=aK.aaJ D 69 .u64 ak;have cv:=aj (ai D) (.cells #[.int .u64 ak] 69);generalize eO:D.alloc (.cells #[.int .u64 ak] 69)=w2 at Yd cv ⊢;obtain⟨qa,br⟩:=av Yd cv;clear Yd cv eO;go_loopw[5,7,22] (λo _ i wr=>∃k:Nat,k<=R/\i=k/\Hid (aK wr D 69 .u64 o (ak::(chans.take k).flatMap (iZ c)))/\Hid (Below D D wr)) (λ_ _ i _=>R-(intOf i).toNat);case atStart=>exact⟨0,aZ _,rfl,qa,br⟩
  case round =>
   obtain⟨k',hk,rfl,T,C⟩:=hrel;have b5:=C.size;have Jx:=ae (ah HB C);have a7:∀i,wr.cell? ⟨w,i,none⟩=_:=λi=>(C.cell (p:=⟨w,i,none⟩) e5).trans (a7 i);have a8:∀i,wr.cell? ⟨w.heap.size+1,i,none⟩=_:=λi=>(C.cell (p:=⟨w.heap.size+1,i,none⟩) df).trans (a8 i);by_cases en:k'<R
   .obtain⟨ad,z,r,hA,hz,hP,_,s⟩:=jv.at_ af (H1.below cd KX Jx) (i:=k') (by rw[<-vU.Y];exact en);obtain⟨B,d,rfl,hd,Fp⟩:=hP;have c0:wr.cell? (ad.add (k'*5))=_:=s 0 _ rfl;have c1:=s 1 _ rfl;have c2:=s 2 _ rfl;have c3:=s 3 _ rfl;have c4:=s 4 _ rfl;obtain⟨m,t⟩:=aw z.buf.length;rw[<-t]at c4;subst hA;rw[add_lit _ _ af]at c1 c2 c3 c4;obtain⟨q1,q2,q3,q4,q5⟩:=Gq uC (cH hz);rw[<-t]at q3;obtain⟨M,hM⟩:=aw (ak::(chans.take k').flatMap (iZ c));have dP:M.length<=1000:=by rw[hM,List.length_cons,AQ (AR c),fK];have:=vU.Y;have nB:=(oG uC).1;dsimp only at nB;have:=q2.2.2;exact Jv aa aa
    rw[<-hM]at T;have H:Hid (ak::(chans.take (k'+1)).flatMap (iZ c)=(M++[r5 z])++kH z.buf c.cap.toNat):=by unfold Hid;rw[rD _ hz,hM];unfold iZ;simp
    obtain⟨HH,V⟩:=av (λa=>O3 a z B m d t q1 aa aa) Fp;obtain⟨cc,cR⟩:∃cc:Nat,c.cap=cc:=⟨c.cap.toNat,aa⟩
    rw[show c.cap.toNat=cc by omega]at H;have e6:cc<=8:=aa;have n9:=ae cR;clear cR;have fW:=ae t;have dM:m<=100000:=aa;have lz:=ae q5;obtain⟨J,W⟩:∃hd,hd=r5 z:=⟨_,rfl⟩
    rw[<-W]at H HH;clear hM hz s Fp W q1 q2 q3 q4 q5 t;go_wp2_with fail;have TI:=ag.new wr 50 #[z.gen,z.cap,z.used,z.closed,.slice B m d];have K:=aj (ai wr) (oW z B m d);generalize cy:(wr.alloc (oW z B m d))=u at TI K ⊢;obtain⟨K7,I,b7,cF⟩:=bh K (T.ah K) TI (K4.ah (C.trans (K.mono aa)));obtain⟨l,-,cz⟩:=ag.aF TI;have er:=K.size;have VU:u.cell? ⟨w,3,none⟩=some c.cap:=(K.cell (p:=⟨w,3,none⟩) (by show w.heap.size < _;omega)).trans (a7 3);have dg:w.heap.size<u.heap.size:=aa;have dO:Below u u u.drew:=bZ (n:=1) (ai u);obtain⟨gN,Ye⟩:=av (dL.mono (S':=λb=>b<D.heap.size) (λb q=>by have:=KX.Y b q;omega) V) (C.trans (K.mono aa));have N:(λa:World=>a.cell? ⟨wr,0,none⟩=some z.gen/\a.cell? ⟨wr,1,none⟩=some z.cap/\a.cell? ⟨wr,2,none⟩=some z.used/\a.cell? ⟨wr,3,none⟩=some z.closed/\a.cell? ⟨wr,4,none⟩=some (.slice B m d)/\a.cell? ⟨w,3,none⟩=some c.cap) u:=⟨l 0,l 1,l 2,l 3,l 4,VU⟩
    have V6:∀(a w2:World),Below a a w2->wr.heap.size<a.heap.size->w.heap.size<a.heap.size->(λa:World=>a.cell? ⟨wr,0,none⟩=some z.gen/\a.cell? ⟨wr,1,none⟩=some z.cap/\a.cell? ⟨wr,2,none⟩=some z.used/\a.cell? ⟨wr,3,none⟩=some z.closed/\a.cell? ⟨wr,4,none⟩=some (.slice B m d)/\a.cell? ⟨w,3,none⟩=some c.cap) a->(λa:World=>a.cell? ⟨wr,0,none⟩=some z.gen/\a.cell? ⟨wr,1,none⟩=some z.cap/\a.cell? ⟨wr,2,none⟩=some z.used/\a.cell? ⟨wr,3,none⟩=some z.closed/\a.cell? ⟨wr,4,none⟩=some (.slice B m d)/\a.cell? ⟨w,3,none⟩=some c.cap) w2:=by intro a w2 q l1 l2 h;obtain⟨a0,a1,a2,a3,a4,a5⟩:=h;exact⟨(q.cell (p:=⟨wr,0,none⟩) l1).trans a0,(q.cell (p:=⟨wr,1,none⟩) l1).trans a1,(q.cell (p:=⟨wr,2,none⟩) l1).trans a2,(q.cell (p:=⟨wr,3,none⟩) l1).trans a3,(q.cell (p:=⟨wr,4,none⟩) l1).trans a4,(q.cell (p:=⟨w,3,none⟩) l2).trans a5⟩
    have KB:=ae V6;have O7:=KB.Y _ _ dO cz dg N;clear V6 cy K TI a7 a8 c0 c1 c2 c3 c4 V l VU;dsimp only at N O7;go_region_held3(λa=>a.cell? ⟨wr,0,none⟩=some z.gen/\a.cell? ⟨wr,1,none⟩=some z.cap/\a.cell? ⟨wr,2,none⟩=some z.used/\a.cell? ⟨wr,3,none⟩=some z.closed/\a.cell? ⟨wr,4,none⟩=some (.slice B m d)/\a.cell? ⟨w,3,none⟩=some c.cap) (first|assumption|go_keep)
     (first
     |(go_at_call 181;go_fit (HH _);rintro e wA ⟨rfl,cD⟩;have V7:=ah dO cD;have K8:=V7.size;have cO:=KB.Y _ _ V7 cz dg N;dsimp only at cO
       have fl:wr.heap.size<wA.heap.size:=aa
       have fu:w.heap.size<wA.heap.size:=aa)
     |(refine mE rfl _ _ 30 rfl D 69 .u64 underlying30 gZ _ M rfl ((I.ah V7).alloc _) wA 1 1 [J] rfl rfl (bD.one _ .u64 J _) ?_ ?_ ?_
       .simp;omega
       .simp;omega
       intro v4 F dm bE _
       have y:=((I.ah V7).alloc _).aW ((Ye.trans (V7.mono aa)).alloc aa (.cells #[.int .u64 J] 69)) bE (by simp;omega) (aR _)
       have Gr:=(b7.ah V7).alloc (.cells #[.int .u64 J] 69)
       have Yf:=(cF.ah V7).alloc (.cells #[.int .u64 J] 69)
       have Q:=(I.ah V7).alloc (.cells #[.int .u64 J] 69)
       have K9:=Gr.grown bE (ba Q Gr af)
       have Yg:=Yf.grown bE (ba Q Yf af)
       have E:=λi=>ag.cell K9 i
       have b8:=ag.cell Yg 3
       have O:=ba dm K9 af
       have Nj:=ba dm Yg af
       have Gs:F.cell? ⟨wr,0,none⟩=some z.gen/\F.cell? ⟨wr,1,none⟩=some z.cap/\F.cell? ⟨wr,2,none⟩=some z.used/\F.cell? ⟨wr,3,none⟩=some z.closed/\F.cell? ⟨wr,4,none⟩=some (.slice B m d)/\F.cell? ⟨w,3,none⟩=some c.cap:=⟨E 0,E 1,E 2,E 3,E 4,b8⟩
       have V8:=bE.size
       obtain⟨A4,d4,dc⟩:=dm.shape
       rw[fM,iw]at dc
       subst dc)
     |(go_at_call 180;go_fit (Yc _ D _ (M++[J]) dm y.size (by simp;omega) B z.buf d m cc c.cap n9 fW (dL.same (λb q=>(y.block b q).trans (C.block b q).symm) gN) dM aa (λv hv=>by have:=lz.Y v hv;omega));rintro e wR ⟨⟨v9,rfl,bz,TJ⟩,zz⟩
       have TK:∀g i,g<F.heap.size->some g≠(Value.slice A4 (M.length+1) d4).ownBlock->wR.cell? ⟨g,i,none⟩=F.cell? ⟨g,i,none⟩:=λg i h1 h2=>(Sm.cell (S:=λb=>b=g) (λb q=>by rw[q];exact TJ.1 g h1 h2) rfl)
       have X:wr.heap.size<F.heap.size:=by have:=V8;simp at this;omega
       have dU:w.heap.size<F.heap.size:=by have:=V8;simp at this;omega
       have dQ:wR.cell? ⟨wr,0,none⟩=some z.gen/\wR.cell? ⟨wr,1,none⟩=some z.cap/\wR.cell? ⟨wr,2,none⟩=some z.used/\wR.cell? ⟨wr,3,none⟩=some z.closed/\wR.cell? ⟨wr,4,none⟩=some (.slice B m d)/\wR.cell? ⟨w,3,none⟩=some c.cap:=⟨(TK _ _ X O).trans (E 0),(TK _ _ X O).trans (E 1),(TK _ _ X O).trans (E 2),(TK _ _ X O).trans (E 3),(TK _ _ X O).trans (E 4),(TK _ _ dU Nj).trans b8⟩))
    obtain⟨BP,O5⟩:=av bz (y.trans zz);clear bz zz TJ y dm bE N O7 cO Gs dQ Gr Yf Q K9 Yg E b8 O Nj;go_wp2;go_roundw;case rel=>exact⟨k'+1,aa,by go_num,by rw[H.Y];exact BP.Y,O5⟩
    case measure=>simp[intOf];omega
   .have rz:k'=R:=aa;subst rz;have nj:Hid ((chans.take k')=chans):=tI vU (aR _);rw[nj.Y]at T;obtain⟨M1,La⟩:=aw (ak::chans.flatMap (iZ c));have e7:M1.length<=1000:=by rw[La,List.length_cons,AQ (AR c)];have nB:=(oG uC).1;dsimp only at nB;have:=xk uC;exact Jv aa aa
    rw[<-La]at T;have vV:=ae La;clear La;go_wp2_with fail;obtain⟨fF,rfl⟩:∃wo:World,wo=wr:=⟨_,rfl⟩
    go_loopw[5,9,10,40] (λo _ _ i wr=>∃k:Nat,k<=U/\i=k/\Hid (aK wr D 69 .u64 o (M1++(j.take k).flatMap iJ))/\Hid (Below D D wr)) (λ_ _ _ i _=>U-(intOf i).toNat);case atStart=>exact⟨0,aZ _,rfl,by show aK _ _ _ _ _ _;rw[List.take_zero,List.flatMap_nil,List.append_nil];exact T.Y,C⟩
    case round =>
     clear T C Jx b5;obtain⟨k2,fg,rfl,T,C⟩:=hrel;have b5:=C.size;have Jx:=ae (ah HB C);by_cases pC:k2<U
     .obtain⟨ad,z,r,hA,hz,hP,_,s⟩:=jv.at_ af (H2.below aI KX Jx) (i:=k2) (by rw[<-aq.Y];exact pC);obtain⟨B,d,rfl,hd,Fp⟩:=hP;have c0:wr.cell? (ad.add (k2*4))=_:=s 0 _ rfl;have c1:=s 1 _ rfl;have c2:=s 2 _ rfl;have c3:=s 3 _ rfl;obtain⟨m,t⟩:=aw z.cases.length;rw[<-t]at c3;subst hA;rw[add_lit _ _ af]at c1 c2 c3;obtain⟨q1,q2,q3,q4⟩:=sI uC (cH hz);rw[<-t]at q3;obtain⟨M,hM⟩:=aw (M1++(j.take k2).flatMap iJ);have dP:M.length<=2000:=by rw[hM,fM,ye (j.take k2) (λx hx=>AU uC.Y (List.mem_of_mem_take hx)),fK];have nB:=oG uC;dsimp only at nB;have:=aq.Y;omega
      rw[<-hM]at T;have ct:=DK z;rw[<-t]at ct;have H:Hid (M1++(j.take (k2+1)).flatMap iJ=(M++[Mo.flag z.on+(m:Int)*2+z.seq*16+z.ak*4294967296])++((kg ⟨3,0,0,false,z.cases⟩ 0).drop 1).take 3):=by unfold Hid;rw[rD _ hz, <-List.append_assoc, <-hM,ct q4,List.append_assoc];rfl
      have fW:=ae t;have OG:=pB z.on;have uB:=ae (λa=>yc a z.on);obtain⟨f1,e1⟩:∃f,f=Mo.flag z.on:=⟨_,rfl⟩
      rw[<-e1]at OG uB H;obtain⟨ku,V⟩:=av q4 (eo.mono (S':=λb=>b<D.heap.size) (λb q=>by have:=KX.Y b q;have:=HB.size;omega) Fp);have kR:=K0 q4;obtain⟨Yh,L,G,dh⟩:=z;dsimp only at c0 c1 c2 c3 q1 q2 q3 uB H ku V fW kR;have a1:IntKind.u64.wrap (m:Int)=m:=by simp only[cA];omega
      have a2:IntKind.u64.wrap ((m:Int)*2)=(m:Int)*2:=by simp only[cA];omega
      have a3:IntKind.u64.wrap G=G:=by simp only[cA];omega
      have a4:IntKind.u64.wrap (G*16)=G*16:=by simp only[cA];omega
      have a5:IntKind.u64.wrap L=L:=by simp only[cA];omega
      have a6:IntKind.u64.wrap (L*4294967296)=L*4294967296:=by simp only[cA];omega
      have o1:bits BinOp.or IntKind.u64 f1 ((m:Int)*2)=f1+(m:Int)*2:=mY 1 _ _ aa aa aa aa aa aa;have o2:bits BinOp.or IntKind.u64 (f1+(m:Int)*2) (G*16)=f1+(m:Int)*2+G*16:=mY 4 _ _ aa aa aa aa aa aa;have o3:bits BinOp.or IntKind.u64 (f1+(m:Int)*2+G*16) (L*4294967296)=f1+(m:Int)*2+G*16+L*4294967296:=mY 32 _ _ aa aa aa aa aa aa;obtain⟨J,W⟩:∃hd,hd=f1+(m:Int)*2+G*16+L*4294967296:=⟨_,rfl⟩
      rw[<-W]at H o3;clear hM hz s Fp W q1 q2 q4 t OG e1 ct hd;go_wp2_with fail;have TI:=ag.new wr 99 #[Yh,L,G,.slice B m d];have K:=aj (ai wr) (.cells #[Yh,L,G,.slice B m d] 99);generalize cy:(wr.alloc (.cells #[Yh,L,G,.slice B m d] 99))=u at TI K ⊢;obtain⟨I,b7⟩:=av (T.ah K) TI;obtain⟨l,-,cz⟩:=ag.aF TI;have er:=K.size;have dO:Below u u u.drew:=bZ (n:=1) (ai u);have Ye:=ae (C.trans (K.mono aa));have N:u.cell? ⟨wr,0,none⟩=some Yh/\u.cell? ⟨wr,1,none⟩=some L/\u.cell? ⟨wr,2,none⟩=some G/\u.cell? ⟨wr,3,none⟩=some (.slice B m d):=⟨l 0,l 1,l 2,l 3⟩
      have O7:u.drew.cell? ⟨wr,0,none⟩=some Yh/\u.drew.cell? ⟨wr,1,none⟩=some L/\u.drew.cell? ⟨wr,2,none⟩=some G/\u.drew.cell? ⟨wr,3,none⟩=some (.slice B m d):=⟨l 0,l 1,l 2,l 3⟩
      clear cy K TI c0 c1 c2 c3 l;go_region_held3(λa=>a.cell? ⟨wr,0,none⟩=some Yh/\a.cell? ⟨wr,1,none⟩=some L/\a.cell? ⟨wr,2,none⟩=some G/\a.cell? ⟨wr,3,none⟩=some (.slice B m d)) (first|assumption|go_keep)
       (first
       |(go_at_call 182;go_fit (uB _);rintro e wA ⟨rfl,rfl⟩)
       |(refine mE rfl _ _ 30 rfl D 69 .u64 underlying30 gZ _ M rfl ((I.ah dO).alloc _) u 1 1 [J] rfl rfl (bD.one _ .u64 J _) ?_ ?_ ?_
         .simp;omega
         .simp;omega
         intro v4 F dm bE _
         have y:=((I.ah dO).alloc _).aW ((Ye.trans (dO.mono aa)).alloc (by simp;omega) (.cells #[.int .u64 J] 69)) bE (by simp;omega) (aR _)
         have Gr:=(b7.ah dO).alloc (.cells #[.int .u64 J] 69)
         have Q:=(I.ah dO).alloc (.cells #[.int .u64 J] 69)
         have K9:=Gr.grown bE (ba Q Gr af)
         have E:=λi=>ag.cell K9 i
         have Gs:F.cell? ⟨wr,0,none⟩=some Yh/\F.cell? ⟨wr,1,none⟩=some L/\F.cell? ⟨wr,2,none⟩=some G/\F.cell? ⟨wr,3,none⟩=some (.slice B m d):=⟨E 0,E 1,E 2,E 3⟩
         have V8:=bE.size))
      obtain⟨dw,Dz⟩:=av dm (xV F 3 0 0 false B d dh 0 (by rw[<-fW.Y];omega) (eo.same (λb q=>(y.block b q).trans (C.block b q).symm) V).1);rw[O6, <-fW.Y]at Dz;have fh:=ae y;have eG:=y.size;generalize kg ⟨3,0,0,false,dh⟩ 0=cw at Dz H kR;have e8:wr.heap.size<F.heap.size:=by have:=V8;simp at this;omega
      clear dm bE y N O7 Gs Gr Q K9;have e9:=E;go_wp2_with fail;go_fit (Dz.mono λ_ _ h=>h.J);rintro e w5 ⟨⟨B5,d5,rfl,dT,R7⟩,dJ⟩;rw[kR]at dT ⊢;have Jp:=yf (P:=prog) 30 69 underlying30 gZ B5 5 d5 1 4 1 4 rfl rfl af aa;obtain⟨dy,b6,iq⟩:=aS ((R7.from aa 1).take 3:bD w5 .u64 (nO B5 d5 1) ((cw.drop 1).take 3)) (dw.ah dJ) (fh.trans (dJ.mono eG));have Yi:=dJ.size;go_wp2_with(at_builtin;refine bS _ rfl _ _ 30 rfl D 69 .u64 underlying30 gZ _ (M++[J]) rfl ?b1 (nO B5 d5 1) 3 (d5-1) ((cw.drop 1).take 3) rfl ?b0 ?b2 ?b3 ?b4 ?_)
      case b1=>exact b6.Y
      case b0=>rw[fK,iu];omega
      case b2=>exact dy.Y
      case b3=>rw[fK,iu];simp;omega
      case b4=>omega
      intro v6 w6 dz Yj _;have fp:=b6.aW iq Yj aa (aR _);have BP:Hid (aK w6 D 69 .u64 v6 ((M++[J])++(cw.drop 1).take 3)):=by unfold Hid;simpa using dz
      have O5:=ae fp;go_wp2;go_roundw;case rel=>exact⟨k2+1,aa,by go_num,by rw[H.Y];exact BP.Y,O5⟩
      case measure=>simp[intOf];omega
     .have rz:k2=U:=aa;subst rz;have jL:Hid ((j.take k2)=j):=tI aq (aR _);rw[jL.Y]at T;have b5:=C.size;have oD:=cG.below C df;have a8:=λi=>ag.cell oD i;have fc:=oD.lt;obtain⟨M2,BQ⟩:=aw (M1++j.flatMap iJ);have fe:M2.length<=2000:=by rw[BQ,fM,ye j (λx hx=>AU uC.Y hx)];have nB:=oG uC;dsimp only at nB;omega
      rw[<-BQ]at T;have dS:Y<=1000:=by have nB:=oG uC;dsimp only at nB;have:=Jw.Y;omega
      have xn:=ae (DJ wr D _ M2 T b5 aa A3 done m3 Y Jw (eo.mono (S':=λb=>b<D.heap.size) (λb q=>by have:=KX.Y b q;have:=HB.size;omega) (eo.same (λb q=>(ah HB C).block b (KX b q)) H3)) dS);have Yk:Hid (ak::(chans.flatMap (iZ c)++j.flatMap iJ++done.map fj)=M2++done.map fj):=by unfold Hid;rw[BQ,vV.Y];simp
      go_wp2_with fail;refine xn.mono ?_;rintro e w9 ⟨⟨v9,rfl,bz,_⟩,zz⟩;obtain⟨V9,xo⟩:=av bz (ah HB (C.trans zz));go_wp2;go_ret;exact(congrArg (λz=>uN z w (.returned v9) w9) Yk).mpr (V9.Tc xo HB.size)
end
attribute [local go_sem ↓] Go.wp_at_zero Go.wp_at_succ
def kv(w:World)(S:Nat->Prop)(g:Nat)(l:List Int):Prop:=∃A c,ag w g 270 #[.slice A l.length c]/\l.length<=c/\dL w S .u64 A l
def ft(w:World)(S:Nat->Prop)(g:Nat)(l:List Int)(a:World):Prop:=kv a S g l/\(∀b,b<w.heap.size->b≠g->a.heap[b]?=w.heap[b]?)/\Below g w a
theorem kv.lt(h:kv w S g l):g<w.heap.size:=by obtain⟨A,c,h,_⟩:=h;exact h.lt
theorem ft.refl(h:kv w S g l):ft w S g l w:=⟨h,λ_ _ _=>rfl,Below.refl _ _⟩
theorem ft.trans{r:List Int}(h:ft w S g l w1)(k:ft w1 S g r w2):ft w S g r w2:=⟨k.1,λb a c=>(k.2.1 b (bW a h.2.2.size) c).trans (h.2.1 b a c),h.2.2.trans k.2.2⟩
theorem kv.ext(u:∀b,S b->b<w.heap.size)(r:Below w w w')(h:kv w S g l):kv w' S g l:=by obtain⟨A,c,d,e,f⟩:=h;exact⟨A,c,d.ah r,e,f.same λb a=>r.block b (u b a)⟩
theorem ft.more(u:∀b,S b->b<w.heap.size)(h:ft w S g l w1)(r:Below w1 w1 w2):ft w S g l w2:=⟨h.1.ext (λb a=>bW (u b a) h.2.2.size) r,λb a c=>(r.block b (bW a h.2.2.size)).trans (h.2.1 b a c),h.2.2.trans (r.mono (Nat.le_of_lt h.1.lt))⟩
theorem yg(t e:TypeId)(ht:P.underlying t=some (.slice e))(hi:(P.info? e).map (λi=>(i.zero,i.size,i.bytes))=some (some (.int .u64 0),1,8))(A:Option Addr)(n c m:Nat)(X:Int)(hX:X=(m:Int))(a:m<=n)(w:World) :
 (Instr.slice t (.slice A n c) (some X) none none).run P w=.ok (.slice (nO A c m) (n-m) (c-m)) w:=by
 exact aaM
theorem dL.from{k:IntKind}{c:Nat}(h:dL w S k A zs)(r:zs.length<=c)(m:Nat):dL w S k (nO A c m) (zs.drop m):=by
 refine⟨h.1.from r m,λf b d=>?_⟩;have e:zs≠[]:=by rintro rfl;simp at d
 unfold nO at b;split at b
 .exact h.2 f b e
 .rcases A with _|a
  .cases b
  .simp at b;subst b;have g:(a.add m).block=a.block:=by unfold Addr.add;split<;>rfl
   rw[g];exact h.2 a rfl e
theorem oH(w:World)(h:kv w S g l)(r:∀b,S b->b≠g)(G:l.length<=100000) :
 Calls prog 242 #[.pointer g] w λe w'=>e=.returned (.int .u64 (l.getD 0 0))/\ft w S g (l.drop 1) w':=by
 have H:=ae h
 obtain⟨A,c,i,s,k⟩:=h
 obtain⟨d,F,J⟩:=ag.aF i
 rcases l with _|⟨x,m⟩
 .clear i k;dsimp only[List.length_nil]at d;go_enter func242,ntmps242;go_wp2;go_ret;exact⟨rfl,ft.refl H⟩
 .obtain⟨f,E,a⟩:=k.1 0 (.int .u64 x) rfl;subst E;have C:w.cell? f=some (.int .u64 x):=a;obtain⟨n,j⟩:=aw ((x::m).length);have q:n=m.length+1:=by rw[j];rfl
  rw[<-j]at d s G;have I:=yg (P:=prog) 30 69 underlying30 gZ (some f) n c 1 1 rfl aa;have u:(n:Int)≠0:=aa;have K:((n:Int)==0)=false:=by simpa using u
  have D:(0:Int)<n:=aa;obtain⟨v,z,y,t,B⟩:=bQ i k j q r;clear i k j a q r;go_enter func242,ntmps242;go_wp2;go_ret;refine⟨rfl,⟨nO (some f) c 1,c-1,?_,?_,?_⟩,λb _ o=>dE _ _ _ _ o,(Below.refl _ _).setCell (p:=⟨g,0,none⟩) (aR _) _⟩
  .have:=v.bp 0 (.slice (nO (some f) c 1) (n-1) (c-1));have e:((x::m).drop 1).length=n-1:=by rw[t.Y];simp
   rw[e];exact this
  .have e:((x::m).drop 1).length=n-1:=by rw[t.Y];simp
   rw[e];omega
  .exact dL.same (λb o=>dE _ _ _ _ (B b o)) (z.from (by rw[<-y.Y];exact s) 1)
theorem iL{u:List Value}(h:w.ownsRow base e m v n u)(C:∀b,v.ownBlock=some b->w'.heap[b]?=w.heap[b]?):w'.ownsRow base e m v n u:=by
 obtain⟨i,d⟩:=h;refine⟨i,?_⟩;rcases d with d|⟨f,a,c,g,j,k,r⟩
 .exact Or.inl d
 .refine Or.inr ⟨f,a,c,g,j,?_,r⟩;rw[C f (by rw[g];rfl)];exact k
theorem ft.grow{u:Option Nat}(r:g<w.heap.size)(F:∀b,S b->b<w.heap.size)(h:ft w S g l w1)(C:w1.grownBy w2 u)(E:∀b,u=some b->w.heap.size<=b):ft w S g l w2:=by
 obtain⟨⟨A,c,i,j,k⟩,m,f⟩:=h;have d:∀b,b<w.heap.size->w2.heap[b]?=w1.heap[b]?:=λb d=>C.block b (bW d f.size) (λe=>by have:=E b e.symm;omega);refine⟨⟨A,c,?_,j,k.same λb a=>d b (F b a)⟩,λb a n=>(d b a).trans (m b a n),?_⟩
 .unfold ag at i ⊢;rw[d g r];exact i
 .exact Below.grown f C (bm (Nat.le_of_lt r) f.size) (λb e=>by have:=E b e;omega)
theorem BW{k:IntKind}(h:aK w base e k v zs):∀b,v.ownBlock=some b->base<=b:=λ_ a=>(bk h a).1
def tT(l:List Int)(s:Int)(k:Nat):List Int:=((l.take k).take s.toNat).map (·%4294967296)
theorem Lb{z:Int}(h:l[k]?=some z):tT l s (k+1)=tT l s k++(if(k:Int)<s then[z%4294967296]else[]):=by unfold tT;exact aaN
section
variable(w:World)
theorem O8(h:kv w S g l)(E:∀b,S b->b≠g)(r:∀b,S b->b<w.heap.size)(X:l.length<=100000)(s:Int)(n:Nat)(Y:n<=l.length)(F:∀z∈l,0<=z/\z<18446744073709551616) :
 Calls prog 250 #[.pointer (some ⟨g,0,none⟩),.int .i64 s,.int .i64 n] w λe w'=>∃v,e=.returned v/\aK w' w 3 .i64 v (tT l s n)/\ft w S g (l.drop n) w':=by
 obtain⟨H,J,G,K⟩:=bh h E r F
 have B:=h.lt
 clear h E r F
 go_enter func250,ntmps250
 go_wp2
 go_loopw[7,8,9,11] (λo _ _ i wr=>∃k:Nat,k<=n/\i=.int .i64 k/\Hid (aK wr w 3 .i64 o (tT l s k))/\Hid (ft w S g (l.drop k) wr)) (λ_ _ _ i _=>n-(intOf i).toNat)
 case atStart=>exact⟨0,aZ _,rfl,by rw[show tT l s 0=[]by unfold tT;simp];exact aK.nil _ _ _ _,ft.refl H⟩
 case round =>
  obtain⟨k,V,rfl,c,m⟩:=hrel;by_cases L:k<n
  .obtain⟨z,u⟩:∃z,l[k]?=some z:=⟨l[k]'aa,cq _⟩
   have d:=K.Y z (cH u);have A:=ae (oH wr m.1 J (by rw[iu];omega));have q:(l.drop k).getD 0 0=z:=by rw[BI u];rfl
   rw[q,List.drop_drop]at A;have T:=BJ z d.1 d.2;have U:IntKind.i64.wrap (z%4294967296)=z%4294967296:=bH _ aa;have f:=Lb (s:=s) u;have P:(tT l s k).length<=k:=by unfold tT;rw[fP,fK,fK];omega
   generalize tT l s k=M at f P c;have O:=m.2.2.size;clear u d q;by_cases j:(k:Int)<s
   .have d1:decide ((k:Int)<s)=true:=cg j;rw[ay j]at f;have y:=ae f;clear j f;go_wp2_with fail;refine A.mono ?_;rintro e t ⟨rfl,a⟩;have C:=ae (m.trans a);have x:Hid (aK t w 3 .i64 _ M):=iL c (λb p=>a.2.1 b (bk c p).2 (by have:=BW c b p;omega));have N:=a.2.2.size;clear a;go_wp2_with(at_builtin;refine bS _ rfl _ _ 22 rfl w 3 .i64 underlying22 xL _ M rfl (x.alloc _) (some ⟨t,0,none⟩) 1 1 [z%4294967296] rfl rfl (bD.one _ .i64 (z%4294967296) _) ?c4 ?c5 ?_)
    case c4=>simp;omega
    case c5=>simp;omega
    intro W Z hown' D _;obtain⟨Q,I⟩:=av ((C.more G (aj (ai t) (.cells #[.int .i64 (z%4294967296)] 3))).grow B G D (BW x)) hown';clear hown' D;go_wp2;go_roundw;case rel=>exact⟨k+1,aa,by go_num,by rw[y.Y];exact I.Y,Q⟩
    case measure=>simp[intOf];omega
   .have d1:decide ((k:Int)<s)=false:=bF j;rw[au j,List.append_nil]at f;have y:=ae f;clear j f;go_wp2_with fail;refine A.mono ?_;rintro e t ⟨rfl,a⟩;have C:=ae (m.trans a);have x:Hid (aK t w 3 .i64 _ M):=iL c (λb p=>a.2.1 b (bk c p).2 (by have:=BW c b p;omega));clear a;go_wp2;go_roundw;case rel=>exact⟨k+1,aa,by go_num,by rw[y.Y];exact x.Y,C⟩
    case measure=>simp[intOf];omega
  .have R:k=n:=aa;subst R;go_wp2;go_ret;exact⟨_,rfl,c,m⟩
def wW(l:List Int)(k:Nat):List Rs:=(l.take k).map cV
theorem TL:(prog.info? 64).map (λi=>(i.zero,i.size,i.bytes))=some (some (.agg #[.int .i64 0,.int .i64 0,.int .i64 0,.int .i64 0]),4,32):=by kernel_rfl
theorem BX(h:kv w S g l)(O:∀b,S b->b≠g)(p:∀b,S b->b<w.heap.size)(hl:l.length<=100000)(n:Nat)(hn:n<=l.length)(Q:∀z∈l,0<=z/\z<18446744073709551616) :
 Calls prog 245 #[.pointer (some ⟨g,0,none⟩),.int .i64 n] w λe w'=>∃v,e=.returned v/\aH w' w 64 4 fD v (wW l n)/\ft w S g (l.drop n) w':=by
 obtain⟨H,U,C,V⟩:=bh h O p Q
 have B:=h.lt
 clear h O p Q
 go_enter func245,ntmps245
 go_wp2
 go_loopw[5,7] (λo i wr=>∃k:Nat,k<=n/\i=.int .i64 k/\Hid (aH wr w 64 4 fD o (wW l k))/\Hid (ft w S g (l.drop k) wr)) (λ_ i _=>n-(intOf i).toNat)
 case atStart=>exact⟨0,aZ _,rfl,aH.nil _ _ _ _ _,ft.refl H⟩
 case round =>
  obtain⟨k,hk,rfl,j,q⟩:=hrel;by_cases X:k<n
  .obtain⟨z,s⟩:∃z,l[k]?=some z:=⟨l[k]'aa,cq _⟩
   have f:=V.Y z (cH s);have F:=ae (oH wr q.1 U (by rw[iu];omega));have m:(l.drop k).getD 0 0=z:=by rw[BI s];rfl
   rw[m,List.drop_drop]at F;have D:wW l (k+1)=wW l k++[⟨rS z,rC z,rO z,rV z⟩]:=by unfold wW;rw[eM s,List.map_append];rfl
   have iX:(wW l k).length<=k:=by unfold wW;rw[fP,fK];omega
   generalize wW l k=M at D iX j;have Z:=q.2.2.size;obtain⟨E,P⟩:=av D (λw'=>lJ w' z f.1 f.2);obtain⟨u,J⟩:∃a,a=rS z:=⟨_,rfl⟩
   obtain⟨x,K⟩:∃a,a=rC z:=⟨_,rfl⟩
   obtain⟨y,L⟩:∃a,a=rO z:=⟨_,rfl⟩
   obtain⟨A,N⟩:∃a,a=rV z:=⟨_,rfl⟩
   rw[<-J, <-K, <-L, <-N]at P E;clear s f m D J K L N;go_wp2_with fail;refine F.mono ?_;rintro e R ⟨rfl,d⟩;have ik:=ae (q.trans d);have iU:Hid (aH R w 64 4 fD _ M):=iL j (λb r=>d.2.1 b (bk j r).2 (by have:=(bk j r).1;omega));have Y:=d.2.2.size;clear d;go_wp2_with fail;go_fit (P R);rintro e t ⟨rfl,c⟩;obtain⟨jw,I⟩:=av (ik.more C c) (iU.ah c);have p:=c.size;clear c;go_wp2_with(at_builtin;refine bR _ rfl _ _ 43 rfl w 64 4 32 (.agg #[.int .i64 0,.int .i64 0,.int .i64 0,.int .i64 0]) fD dC qH underlying43 TL rfl af _ M rfl ?b1 (some ⟨t,0,none⟩) 1 1 [⟨u,x,y,A⟩] rfl rfl ?b2 ?c4 ?c5 ?c6 ?_)
   case b1=>exact I.ah (aj (ai t) _)
   case b2=>exact Rd.lit t (fD ⟨u,x,y,A⟩) _
   case c4=>simp;omega
   case c5=>simp;omega
   case c6=>simp;omega
   intro v' w3 hown' G _;obtain⟨W,T⟩:=av ((jw.more C (aj (ai t) (qh u x y A))).grow B C G (λb r=>(bk I r).1)) hown';clear hown' G;go_wp2;go_roundw;case rel=>exact⟨k+1,aa,by go_num,by rw[E.Y];exact T.Y,W⟩
   case measure=>simp[intOf];omega
  .have rz:k=n:=aa;subst rz;go_wp2;go_ret;exact⟨_,rfl,j,q⟩
end
theorem TM(x:Int)(a:0<=x)(r:x<18446744073709551616):bits BinOp.and IntKind.u64 x 4095=x%4096:=by rw[u64_and _ _ a r aa aa,show(4095:Int).toNat=2 ^ 12-1 from rfl,Nat.and_two_pow_sub_one_eq_mod];omega
theorem ft.set(r:g<w.heap.size)(C:∀b,S b->b<w.heap.size)(h:ft w S g l w1){p:Addr}(E:w.heap.size<=p.block)(u:Value):ft w S g l (w1.setCell p u):=by obtain⟨⟨A,c,e,f,i⟩,j,k⟩:=h;have d:∀b,b<w.heap.size->(w1.setCell p u).heap[b]?=w1.heap[b]?:=λb d=>dE _ _ _ _ aa;refine⟨⟨A,c,?_,f,i.same λb a=>d b (C b a)⟩,λb a m=>(d b a).trans (j b a m),k.setCell aa _⟩;unfold ag at e ⊢;rw[d g r];exact e
theorem aaO{a:Value}(h:ag w g t #[a0,a1,a2,a3,a])(u0 u1 u2 u3 u4:Value) :
 ag (((((w.setCell ⟨g,0,none⟩ u0).setCell ⟨g,1,none⟩ u1).setCell ⟨g,2,none⟩ u2).setCell ⟨g,3,none⟩ u3).setCell ⟨g,4,none⟩ u4) g t #[u0,u1,u2,u3,u4] :=
 ((((h.bp 0 u0).bp 1 u1).bp 2 u2).bp 3 u3).bp 4 u4
theorem TN(w:World)(h:kv w S g l)(F:∀b,S b->b≠g)(r:∀b,S b->b<w.heap.size)(C:l.length<=100000)(s:Int)(n:Nat)(u:Int)(a:u=n)(E:n<=l.length)(G:∀z∈l,0<=z/\z<18446744073709551616) :
 Calls prog 250 #[.pointer g,s,u] w λe w'=>∃v,e=.returned v/\aK w' w 3 .i64 v (tT l s n)/\ft w S g (l.drop n) w':=by
 subst a
 exact O8 w h F r C s n E G
def aaP(x:Ch)(w:World)(S:Nat->Prop)(g:Nat)(l:List Int)(e:Ending)(a:World):Prop :=∃B d,e=.returned (.agg #[x.gen,x.cap,x.used,x.closed,.slice B x.buf.length d])/\x.buf.length<=d/\dL a (λb=>w.heap.size<=b/\Ty a 3 b) .i64 B x.buf/\ft w S g l a
theorem Ld(w:World)(hc:aV c=true)(h:kv w S g l)(X:∀b,S b->b≠g)(r:∀b,S b->b<w.heap.size)(hl:l.length<=100000)(hn:1+c.cap.toNat<=l.length)(Y:∀z∈l,0<=z/\z<18446744073709551616) :
 Calls prog 243 #[.pointer g,.agg #[c.kind,c.threads,c.chans,c.cap,c.nodes,c.aP,c.aB,c.tags,c.bw,c.bn,.slice A n k]] w (aaP (iy c l) w S g (l.drop (1+c.cap.toNat))):=by
 have f:=h.lt
 obtain⟨W,aC,_⟩:=Ju hc
 obtain⟨y,C⟩:∃y:Nat,c.cap=y:=⟨c.cap.toNat,aa⟩
 have n9:=ae C
 have q:c.cap.toNat=y:=aa
 obtain⟨x,Z⟩:∃x,l[0]?=some x:=⟨l[0]'aa,cq _⟩
 have E:=Y x (cH Z)
 have D:l.getD 0 0=x:=by rw[ew,Z];rfl
 have HV:Hid (iy c l=⟨x%4096,x/4096%16,x/65536%2==1,x/131072%2==1,tT (l.drop 1) (x/1048576%16) y⟩):=by unfold Hid iy tT;rw[D,q]
 rw[HV.Y,q]
 have M:Below w w ((w.alloc (dB c A n k)).alloc rp):=aj (aj (ai w) _) _
 have tq:=ae (oH ((w.alloc (dB c A n k)).alloc rp) (h.ext r M) X hl)
 rw[D]at tq
 have DR:=ae (λ(w':World) (hr:kv w' S g (l.drop 1)) (hz:w.heap.size<=w'.heap.size)=>TN w' hr X (λb d=>by have:=r b d;omega) (by rw[iu];omega) (x/1048576%16) y c.cap C (by rw[iu];omega) (λz hz=>Y z (List.mem_of_mem_drop hz)))
 have e1:=TM x E.1 E.2
 have e2:=Jd (x/4096) aa aa
 have e3:=SY (x/65536) aa aa
 have e4:=SY (x/131072) aa aa
 have e5:=Jd (x/1048576) aa aa
 have f1:IntKind.i64.wrap (x%4096)=x%4096:=bH _ aa
 have f2:IntKind.i64.wrap (x/4096%16)=x/4096%16:=bH _ aa
 have f3:IntKind.i64.wrap (x/1048576%16)=x/1048576%16:=bH _ aa
 have p6:=ae M
 have T:Hid (ag ((w.alloc (dB c A n k)).alloc rp) w 24 #[c.kind,c.threads,c.chans,c.cap,c.nodes,c.aP,c.aB,c.tags,c.bw,c.bn,.slice A n k]):=(ag.new w _ _).alloc _
 have U:Hid (ag ((w.alloc (dB c A n k)).alloc rp) (w.heap.size+1) 50 #[oZ,oZ,false,false,oN]):=ag.newAt (w.alloc (dB c A n k)) _ _ aA
 obtain⟨F,Nm⟩:=av r (ft.more r (ft.refl h) M)
 clear Z E D HV Y X r h M hc C q hn hl W aC
 go_enter func243,ntmps243
 go_wp2_with fail
 refine tq.mono ?_
 rintro e a ⟨rfl,m⟩
 have kM:=ae (Nm.trans m)
 have qi:ag a w 24 #[c.kind,c.threads,c.chans,c.cap,c.nodes,c.aP,c.aB,c.tags,c.bw,c.bn,.slice A n k]:=(m.2.1 _ T.lt aa).trans T
 have o:ag a (w.heap.size+1) 50 #[oZ,oZ,false,false,oN]:=(m.2.1 _ U.lt aa).trans U
 obtain⟨V,-,aq⟩:=ag.aF qi
 have J:=o.lt
 obtain⟨K4,t⟩:=av qi o
 have DS:w.heap.size+2<=a.heap.size:=by have:=m.2.2.size;simp at this;omega
 clear m qi o T U tq
 go_wp2_with fail
 have L:=kM.more F (aj (ai a) (.cells #[.int .i64 (x%4096),.int .i64 (x/4096%16),.bool (x/65536%2==1),.bool (x/131072%2==1),oN] 50))
 obtain⟨Le,O⟩:=av (DR _ L.1 L.2.2.size) L
 have j:=ag.new a 50 #[.int .i64 (x%4096),.int .i64 (x/4096%16),.bool (x/65536%2==1),.bool (x/131072%2==1),oN]
 have o:=t.alloc (.cells #[.int .i64 (x%4096),.int .i64 (x/4096%16),.bool (x/65536%2==1),.bool (x/131072%2==1),oN] 50)
 have R:a.heap.size+1=(a.alloc (.cells #[.int .i64 (x%4096),.int .i64 (x/4096%16),.bool (x/65536%2==1),.bool (x/131072%2==1),oN] 50)).heap.size:=aA
 obtain⟨iH,u⟩:=av j o
 clear L j o V aq J K4 t DR
 refine Le.mono ?_
 rintro e K ⟨v2,rfl,G,s⟩
 obtain⟨B2,d2,rfl⟩:=G.shape
 have tU:=G.cap.2
 obtain⟨bf,N⟩:=aw (tT (l.drop 1) (x/1048576%16) y)
 rw[<-N]at G tU ⊢
 obtain⟨bl,B⟩:=aw bf.length
 rw[<-B]at G tU ⊢
 have j:ag K a 50 #[.int .i64 (x%4096),.int .i64 (x/4096%16),.bool (x/65536%2==1),.bool (x/131072%2==1),oN]:=(s.2.1 _ iH.lt aa).trans iH
 have o:ag K (w.heap.size+1) 50 #[oZ,oZ,false,false,oN]:=(s.2.1 _ u.lt aa).trans u
 obtain⟨q,a8,bE⟩:=ag.aF j
 obtain⟨a7,OG,J⟩:=ag.aF o
 have bz:a≠w.heap.size+1:=aa
 have Ac:w.heap.size+1≠a:=aa
 obtain⟨a6,I,eN,jw,fW,P⟩:=cS j o G (O.trans s) B N
 clear G s j o N B Le
 go_wp2_with fail
 have Dr:=aaO (I.b9 (p:=⟨a,4,none⟩) Ac (.slice B2 bl d2)) (.int .i64 (x%4096)) (.int .i64 (x/4096%16)) (.bool (x/65536%2==1)) (.bool (x/131072%2==1)) (.slice B2 bl d2)
 have Q:ft w S g ((l.drop 1).drop y) ((((((K.setCell ⟨a,4,none⟩ (.slice B2 bl d2)).setCell ⟨w.heap.size+1,0,none⟩ (.int .i64 (x%4096))).setCell ⟨w.heap.size+1,1,none⟩ (.int .i64 (x/4096%16))).setCell ⟨w.heap.size+1,2,none⟩ (.bool (x/65536%2==1))).setCell ⟨w.heap.size+1,3,none⟩ (.bool (x/131072%2==1))).setCell ⟨w.heap.size+1,4,none⟩ (.slice B2 bl d2)):=((((((jw.set f F (p:=⟨a,4,none⟩) (by show _<=a.heap.size;omega) _).set f F (p:=⟨w.heap.size+1,0,none⟩) (bM _) _).set f F (p:=⟨w.heap.size+1,1,none⟩) (bM _) _).set f F (p:=⟨w.heap.size+1,2,none⟩) (bM _) _).set f F (p:=⟨w.heap.size+1,3,none⟩) (bM _) _).set f F (p:=⟨w.heap.size+1,4,none⟩) (bM _) _)
 have Wa:aK ((((((K.setCell ⟨a,4,none⟩ (.slice B2 bl d2)).setCell ⟨w.heap.size+1,0,none⟩ (.int .i64 (x%4096))).setCell ⟨w.heap.size+1,1,none⟩ (.int .i64 (x/4096%16))).setCell ⟨w.heap.size+1,2,none⟩ (.bool (x/65536%2==1))).setCell ⟨w.heap.size+1,3,none⟩ (.bool (x/131072%2==1))).setCell ⟨w.heap.size+1,4,none⟩ (.slice B2 bl d2)) (a.heap.size+1) 3 .i64 (.slice B2 bl d2) bf:=by
  have H:∀b,(Value.slice B2 bl d2).ownBlock=some b->a.heap.size+1<=b:=λb d=>by have:=BW eN b d;omega
  have ho:=eN.Y;rw[<-R]at ho;exact(dH (dH (dH (dH (dH (dH ho (p:=⟨a,4,none⟩) (λb d=>by have:=H b d;show b≠a;omega) _) (p:=⟨w.heap.size+1,0,none⟩) (λb d=>by have:=H b d;show b≠w.heap.size+1;omega) _) (p:=⟨w.heap.size+1,1,none⟩) (λb d=>by have:=H b d;show b≠w.heap.size+1;omega) _) (p:=⟨w.heap.size+1,2,none⟩) (λb d=>by have:=H b d;show b≠w.heap.size+1;omega) _) (p:=⟨w.heap.size+1,3,none⟩) (λb d=>by have:=H b d;show b≠w.heap.size+1;omega) _) (p:=⟨w.heap.size+1,4,none⟩) (λb d=>by have:=H b d;show b≠w.heap.size+1;omega) _)
 generalize((((((K.setCell ⟨a,4,none⟩ (.slice B2 bl d2)).setCell ⟨w.heap.size+1,0,none⟩ (.int .i64 (x%4096))).setCell ⟨w.heap.size+1,1,none⟩ (.int .i64 (x/4096%16))).setCell ⟨w.heap.size+1,2,none⟩ (.bool (x/65536%2==1))).setCell ⟨w.heap.size+1,3,none⟩ (.bool (x/131072%2==1))).setCell ⟨w.heap.size+1,4,none⟩ (.slice B2 bl d2))=wf at Dr Q Wa ⊢
 have nB:=λi=>ag.cell Dr i
 refine bodyPost_ret (v:=.agg #[.int .i64 (x%4096),.int .i64 (x/4096%16),.bool (x/65536%2==1),.bool (x/131072%2==1),.slice B2 bl d2]) ?_ rfl ?_
 .simp[results,results243,go_sem,nB]
 .refine⟨B2,d2,?_,?_,⟨?_,?_⟩,?_⟩
  .rw[<-P.Y, <-fW.Y]
  .rw[<-P.Y, <-fW.Y];exact tU
  .rw[<-P.Y];exact Wa.pw.2
  .exact aaR
  .rw[List.drop_drop]at Q;exact Q
theorem Gt(x:Int)(a:0<=x)(r:x<18446744073709551616):bits BinOp.and IntKind.u64 x 1048575=x%1048576:=by rw[u64_and _ _ a r aa aa,show(1048575:Int).toNat=2 ^ 20-1 from rfl,Nat.and_two_pow_sub_one_eq_mod];omega
theorem acS(x:Int)(a:0<=x)(r:x<18446744073709551616):bits BinOp.and IntKind.u64 x 7=x%8:=by rw[u64_and _ _ a r aa aa,show(7:Int).toNat=2 ^ 3-1 from rfl,Nat.and_two_pow_sub_one_eq_mod];omega
theorem aaS(h:ag w g t #[a0,a1,a2,a3])(u0 u1 u2 u3:Value) :
 ag ((((w.setCell ⟨g,0,none⟩ u0).setCell ⟨g,1,none⟩ u1).setCell ⟨g,2,none⟩ u2).setCell ⟨g,3,none⟩ u3) g t #[u0,u1,u2,u3] :=
 (((h.bp 0 u0).bp 1 u1).bp 2 u2).bp 3 u3
def ky(l:List Int)(s:Int)(k:Nat):List Cs:=((l.take k).take s.toNat).map Mo.rT
theorem DT{z:Int}(h:l[k]?=some z):ky l s (k+1)=ky l s k++(if(k:Int)<s then[Mo.rT z]else[]):=by unfold ky;exact aaN
theorem TQ:(prog.info? 101).map (λi=>(i.zero,i.size,i.bytes))=some (some (.agg #[.int .i64 0,.int .i64 0,.int .i64 0]),3,24):=by kernel_rfl
def aaT(x:Wt)(w:World)(S:Nat->Prop)(g:Nat)(l:List Int)(e:Ending)(a:World):Prop :=∃B d,e=.returned (.agg #[.bool x.on,.int .i64 x.ak,.int .i64 x.seq,.slice B x.cases.length d])/\x.cases.length<=d/\eo a (λb=>w.heap.size<=b/\Ty a 101 b) bj B x.cases/\ft w S g l a
theorem Lf(w:World)(h:kv w S g l)(hs:∀b,S b->b≠g)(u:∀b,S b->b<w.heap.size)(hl:l.length<=100000)(hn:4<=l.length)(hu:∀z∈l,0<=z/\z<18446744073709551616) :
 Calls prog 244 #[.pointer (some ⟨g,0,none⟩)] w (aaT (iO l) w S g (l.drop 4)):=by
 have n:=h.lt
 obtain⟨x,hx⟩:∃x,l[0]?=some x:=⟨l[0]'aa,cq _⟩
 have E:=hu x (cH hx)
 have D:l.getD 0 0=x:=by rw[ew,hx];rfl
 have HV:Hid (iO l=⟨x%2==1,x/4294967296,x/16%1048576,ky (l.drop 1) (x/2%8) 3⟩):=by unfold Hid iO ky;rw[D]
 rw[HV.Y]
 have oY:Below w w (w.alloc (.cells #[.bool false,.int .i64 0,.int .i64 0,.slice none 0 0] 99)):=aj (ai w) _
 have tq:=ae (oH (w.alloc (.cells #[.bool false,.int .i64 0,.int .i64 0,.slice none 0 0] 99)) (h.ext u oY) hs hl)
 rw[D]at tq
 have e1:=SY x E.1 E.2
 have e2:=Gt (x/16) aa aa
 have e3:=acS (x/2) aa aa
 have f1:IntKind.i64.wrap (x/16%1048576)=x/16%1048576:=bH _ aa
 have f2:IntKind.i64.wrap (x/4294967296)=x/4294967296:=bH _ aa
 have f3:IntKind.i64.wrap (x/2%8)=x/2%8:=bH _ aa
 have eW:Hid (ag (w.alloc (.cells #[.bool false,.int .i64 0,.int .i64 0,.slice none 0 0] 99)) w 99 #[.bool false,.int .i64 0,.int .i64 0,.slice none 0 0]):=ag.new w _ _
 obtain⟨HS,A,HU,Nm⟩:=bh hs u hu (ft.more u (ft.refl h) oY)
 generalize x/2%8=m at e3 f3 ⊢
 clear hx E D HV hu hs u h oY
 go_enter func244,ntmps244
 go_wp2_with fail
 refine tq.mono ?_
 rintro e a ⟨rfl,t⟩
 have kM:=ae (Nm.trans t)
 have qi:ag a w 99 #[.bool false,.int .i64 0,.int .i64 0,.slice none 0 0]:=(t.2.1 _ eW.lt aa).trans eW
 have DS:w.heap.size+1<=a.heap.size:=by have:=t.2.2.size;simp at this;omega
 have K4:=ae qi
 clear t qi eW tq
 go_wp2_with fail
 have O9:=kM.more A (aj (ai a) (.cells #[.bool (x%2==1),.int .i64 (x/4294967296),.int .i64 (x/16%1048576),.slice none 0 0] 99))
 have P:=ag.new a 99 #[.bool (x%2==1),.int .i64 (x/4294967296),.int .i64 (x/16%1048576),.slice none 0 0]
 have oD:=K4.alloc (.cells #[.bool (x%2==1),.int .i64 (x/4294967296),.int .i64 (x/16%1048576),.slice none 0 0] 99)
 have ct:a.heap.size+1=(a.alloc (.cells #[.bool (x%2==1),.int .i64 (x/4294967296),.int .i64 (x/16%1048576),.slice none 0 0] 99)).heap.size:=aA
 obtain⟨Z,iH,eZ⟩:=aS O9 P oD
 clear O9 P oD K4
 go_loopw[6,7,25] (λ_ _ i wr=>∃(k:Nat) (v:Value),k<=3/\i=.int .i64 k/\Hid (aH wr (a.heap.size+1) 101 3 bj v (ky (l.drop 1) m k))/\Hid (ag wr a 99 #[.bool (x%2==1),.int .i64 (x/4294967296),.int .i64 (x/16%1048576),v])/\Hid (ag wr w 99 #[.bool false,.int .i64 0,.int .i64 0,.slice none 0 0])/\Hid (ft w S g ((l.drop 1).drop k) wr)) (λ_ _ i _=>3-(intOf i).toNat)
 case atStart=>exact⟨0,.slice none 0 0,aZ _,rfl,by rw[show ky (l.drop 1) m 0=[]by unfold ky;simp];exact aH.nil _ _ _ _ _,iH,eZ,Z⟩
 case round =>
  obtain⟨k,v2,hk,rfl,r,o,f,J⟩:=hrel;obtain⟨B2,d2,Q,uT⟩:=r.rd;obtain⟨bl,C⟩:=aw ((ky (l.drop 1) m k).length);rw[<-C]at Q;subst Q;have tU:bl<=d2:=by
   rcases r.2 with⟨h',h0⟩|⟨g',cap',cur,h',_,_,hc,_⟩
   .injection h' with _ h1 h2;omega
   .injection h' with _ h1 h2;omega
  obtain⟨fW,b5⟩:=av C uT;clear C uT;obtain⟨aT,kf,bz⟩:=ag.aF o;obtain⟨fy,Ji,bE⟩:=ag.aF f;have y:∀b,(Value.slice B2 bl d2).ownBlock=some b->a.heap.size+1<=b:=λb d=>(bk r d).1;by_cases cv:k<3
  .obtain⟨z,X⟩:∃z,(l.drop 1)[k]?=some z:=⟨(l.drop 1)[k]'(by rw[iu];omega),cq _⟩
   have F:=HU.Y z (List.mem_of_mem_drop (cH X));have HX:=ae (oH wr J.1 HS (by rw[iu,iu];omega));have U:((l.drop 1).drop k).getD 0 0=z:=by rw[BI X];rfl
   have O:((l.drop 1).drop k).drop 1=(l.drop 1).drop (k+1):=by rw[List.drop_drop]
   rw[U,O]at HX;have a1:=BK z F.1 F.2;have a2:=xP (z/256) aa aa;have b1:IntKind.i64.wrap (z%256)=z%256:=bH _ aa;have b2:IntKind.i64.wrap (z/256%65536)=z/256%65536:=bH _ aa;have b3:IntKind.i64.wrap (z/4294967296)=z/4294967296:=bH _ aa;have G:=DT (s:=m) X;have iX:(ky (l.drop 1) m k).length<=3:=by unfold ky;rw[fP,fK,fK];omega
   generalize ky (l.drop 1) m k=M at G iX r;have cw:=J.2.2.size;clear X F U O;by_cases I:(k:Int)<m
   .have d1:decide ((k:Int)<m)=true:=cg I;rw[ay I]at G;have Y:=ae G;clear I G;go_wp2_with fail;refine HX.mono ?_;rintro e q ⟨rfl,c⟩;have gN:=ae (J.trans c);have j5:Hid (aH q (a.heap.size+1) 101 3 bj (.slice B2 bl d2) M):=iL r (λb d=>c.2.1 b (bk r d).2 (by have:=y b d;omega));have Ym:ag q a 99 #[.bool (x%2==1),.int .i64 (x/4294967296),.int .i64 (x/16%1048576),.slice B2 bl d2]:=(c.2.1 _ o.lt aa).trans o;have K:ag q w 99 #[.bool false,.int .i64 0,.int .i64 0,.slice none 0 0]:=(c.2.1 _ f.lt aa).trans f;obtain⟨N,-,V⟩:=ag.aF Ym;obtain⟨Yn,Yo⟩:=av Ym K;clear c Ym K aT kf bz fy Ji bE;go_wp2_with(at_builtin;refine bR _ rfl _ _ 36 rfl (a.heap.size+1) 101 3 24 (.agg #[.int .i64 0,.int .i64 0,.int .i64 0]) bj cM mF underlying36 TQ rfl af _ M rfl ?q1 (some ⟨q,0,none⟩) 1 1 [(z%256,z/256%65536,z/4294967296)] rfl rfl ?q2 ?c4 ?c5 ?c6 ?_)
    case q1=>exact j5.ah (aj (ai q) _)
    case q2=>exact Rd.lit q (bj (z%256,z/256%65536,z/4294967296)) _
    case c4=>simp;omega
    case c5=>simp;omega
    case c6=>simp;omega
    intro v' w4 hown' W _;have hrow:∀b,(Value.slice B2 bl d2).ownBlock=some b->w.heap.size<=b:=λb d=>by have:=y b d;omega
    have kG:=ae ((gN.more A (aj (ai q) (.cells #[.int .i64 (z%256),.int .i64 (z/256%65536),.int .i64 (z/4294967296)] 101))).grow n A W hrow);have Yp:=(Yn.alloc (.cells #[.int .i64 (z%256),.int .i64 (z/256%65536),.int .i64 (z/4294967296)] 101)).grown W (λe=>by have:=y _ e.symm;omega);have L:=(Yo.alloc (.cells #[.int .i64 (z%256),.int .i64 (z/256%65536),.int .i64 (z/4294967296)] 101)).grown W (λe=>by have:=y _ e.symm;omega);obtain⟨H,d4,R,_⟩:=hown'.rd;generalize(M++[(z%256,z/256%65536,z/4294967296)]).length=j at R;subst R;obtain⟨b6,b7,b8⟩:=ag.aF Yp;have Gu:=Yp.bp 3 (.slice H j d4);have T:ag (w4.setCell ⟨a.heap.size,3,none⟩ (.slice H j d4)) w.heap.size 99 #[.bool false,.int .i64 0,.int .i64 0,.slice none 0 0]:=L.b9 (p:=⟨a.heap.size,3,none⟩) (by show w.heap.size≠a.heap.size;omega) _;have Fq:aH (w4.setCell ⟨a,3,none⟩ (.slice H j d4)) (a.heap.size+1) 101 3 bj (.slice H j d4) (M++[(z%256,z/256%65536,z/4294967296)]):=dH hown' (p:=⟨a,3,none⟩) (λb d=>by have:=(bk hown' d).1;show b≠a;omega) _;obtain⟨nD,aq,pR,iA⟩:=bh Gu T Fq (kG.set n A (p:=⟨a,3,none⟩) (by show _<=a.heap.size;omega) (.slice H j d4));clear hown' W Yp L Gu T Fq N V;go_wp2;go_roundw;case rel=>exact⟨k+1,.slice H j d4,aa,by go_num,by rw[Y.Y];exact pR.Y,nD,aq,iA⟩
    case measure=>simp[intOf];omega
   .have d1:decide ((k:Int)<m)=false:=bF I;rw[au I,List.append_nil]at G;have Y:=ae G;clear I G;go_wp2_with fail;refine HX.mono ?_;rintro e q ⟨rfl,c⟩;have gN:=ae (J.trans c);have j5:Hid (aH q (a.heap.size+1) 101 3 bj (.slice B2 bl d2) M):=iL r (λb d=>c.2.1 b (bk r d).2 (by have:=y b d;omega));have Yn:Hid (ag q a 99 #[.bool (x%2==1),.int .i64 (x/4294967296),.int .i64 (x/16%1048576),.slice B2 bl d2]):=(c.2.1 _ o.lt aa).trans o;have Yo:Hid (ag q w 99 #[.bool false,.int .i64 0,.int .i64 0,.slice none 0 0]):=(c.2.1 _ f.lt aa).trans f;clear c;go_wp2;go_roundw;case rel=>exact⟨k+1,.slice B2 bl d2,aa,by go_num,by rw[Y.Y];exact j5.Y,Yn,Yo,gN⟩
    case measure=>simp[intOf];omega
  .have rz:k=3:=aa;subst rz;rw[show((3:Nat):Int)=3 from rfl];go_wp2_with fail;have Dr:=aaS f (.bool (x%2==1)) (.int .i64 (x/4294967296)) (.int .i64 (x/16%1048576)) (.slice B2 bl d2);have Yl:ft w S g ((l.drop 1).drop 3) ((((wr.setCell ⟨w,0,none⟩ (.bool (x%2==1))).setCell ⟨w,1,none⟩ (.int .i64 (x/4294967296))).setCell ⟨w,2,none⟩ (.int .i64 (x/16%1048576))).setCell ⟨w,3,none⟩ (.slice B2 bl d2)):=((((J.set n A (p:=⟨w,0,none⟩) (aR _) _).set n A (p:=⟨w,1,none⟩) (aR _) _).set n A (p:=⟨w,2,none⟩) (aR _) _).set n A (p:=⟨w,3,none⟩) (aR _) _)
   have Wa:aH ((((wr.setCell ⟨w,0,none⟩ (.bool (x%2==1))).setCell ⟨w,1,none⟩ (.int .i64 (x/4294967296))).setCell ⟨w,2,none⟩ (.int .i64 (x/16%1048576))).setCell ⟨w,3,none⟩ (.slice B2 bl d2)) (a.heap.size+1) 101 3 bj (.slice B2 bl d2) (ky (l.drop 1) m 3):=(dH (dH (dH (dH r (p:=⟨w,0,none⟩) (λb d=>by have:=y b d;show b≠w;omega) _) (p:=⟨w,1,none⟩) (λb d=>by have:=y b d;show b≠w;omega) _) (p:=⟨w,2,none⟩) (λb d=>by have:=y b d;show b≠w;omega) _) (p:=⟨w,3,none⟩) (λb d=>by have:=y b d;show b≠w;omega) _)
   generalize((((wr.setCell ⟨w,0,none⟩ (.bool (x%2==1))).setCell ⟨w,1,none⟩ (.int .i64 (x/4294967296))).setCell ⟨w,2,none⟩ (.int .i64 (x/16%1048576))).setCell ⟨w,3,none⟩ (.slice B2 bl d2))=wf at Dr Yl Wa ⊢;have nB:=λi=>ag.cell Dr i;refine bodyPost_ret (v:=.agg #[.bool (x%2==1),.int .i64 (x/4294967296),.int .i64 (x/16%1048576),.slice B2 bl d2]) ?_ rfl ?_
   .simp[results,results244,go_sem,nB]
   .obtain⟨cs,a7⟩:=aw (ky (l.drop 1) m 3);have B:=fW.Y;rw[<-a7]at Wa B ⊢;obtain⟨B3,d3,a8,a6⟩:=Wa.rd;injection a8 with q1 q2 q3
    subst q1 q3;refine⟨B2,d2,?_,?_,⟨a6,?_⟩,?_⟩
    .rw[<-B]
    .rw[<-B];exact tU
    .exact aaR
    .rw[List.drop_drop]at Yl;exact Yl
theorem Lg(w:World)(A B:Option Addr)(c d:Nat)(p r:List Int)(R:p.length<=100000)(E:r.length<=100000)(J:bD w .u64 A p)(K:bD w .u64 B r) :
 Calls prog 246 #[.slice A p.length c,.slice B r.length d] w λe w'=>e=.returned (decide (p=r))/\iP w w':=by
 obtain⟨n,F⟩:=aw p.length
 obtain⟨m,D⟩:=aw r.length
 rw[<-F]at R ⊢
 rw[<-D]at E ⊢
 obtain⟨z,v,M,N⟩:=bh F D J K
 clear F D J K
 by_cases C:n=m
 case neg =>
  have d1:((n:Int) !=(m:Int))=true:=by simp;omega
  have u:Hid (decide (p=r)=false):=bF (by rintro rfl;exact C (z.trans v.symm));rw[u.Y];clear C;go_enter func246,ntmps246;go_wp2;go_ret;exact⟨rfl,iP.refl w⟩
 subst C
 have d1:((n:Int) !=(n:Int))=false:=aA
 go_enter func246,ntmps246
 go_wp2
 go_loopw[5,13] (λ_ i wr=>∃k:Nat,k<=n/\i=k/\Hid (iP w wr)/\Hid (∀(j:Nat) (x y:Int),j<k->p[j]?=some x->r[j]?=some y->x=y)) (λ_ i _=>n-(intOf i).toNat)
 case atStart=>exact⟨0,aZ _,rfl,iP.refl w,λj _ _ h=>absurd h (Nat.not_lt_zero _)⟩
 case round =>
  obtain⟨k,X,rfl,o,G⟩:=hrel;by_cases g:k<n
  .obtain⟨S,x,P,(q:Hid _),U⟩:=bD.at_ (M.drew o) (i:=k) (by rw[<-z.Y];exact g);obtain⟨T,y,Q,L,V⟩:=bD.at_ (N.drew o) (i:=k) (by rw[<-v.Y];exact g);subst P;subst Q;have s:=ae L;clear L;have Y:(0:Int)<=(k:Int):=aa;have Z:(k:Int)<(n:Int):=aa;by_cases l:x=y
   .have d2:(x !=y)=false:=by simpa using l
    have O:=ae l;clear l;go_wp2_with fail;go_quiet(fail);go_wp2;go_roundw;case rel=>exact⟨k+1,aa,by go_num,o.more _,λj a b W H I=>by
     by_cases e:j=k
     .subst e;have f:=q.Y;have t:=s.Y;rw[H]at f;rw[I]at t;injection f with f;injection t with t
      rw[f,t];exact O.Y
     .exact G.Y j a b aa H I⟩
    case measure=>simp[intOf];omega
   .have d2:(x !=y)=true:=by simpa using l
    have u:Hid (decide (p=r)=false):=bF (by rintro rfl;have f:=q.Y;rw[s.Y]at f;injection f with f;exact l f.symm);clear l;go_wp2_with fail;go_quiet(fail);go_wp2;go_ret;rw[u.Y];exact⟨rfl,o.more _⟩
  .go_wp2;go_ret;rw[cg (xK z.Y v.Y g G.Y)];exact⟨rfl,o⟩
theorem size_le(r:aV c=true):0<=bA c/\bA c<=1064:=by have:=tS r;obtain⟨a,_⟩:=aO r;unfold bA;rw[r];simp only[Bool.true_eq_false,if_false];omega
theorem JA{a b A B:Int}(r:0<=a)(u:a<=A)(p:0<=b)(C:b<=B):0<=a*b/\a*b<=A*B:=⟨lI r p,Int.le_trans (Int.mul_le_mul_of_nonneg_right u p) (Int.mul_le_mul_of_nonneg_left C aa)⟩
def jx(c:dG)(s:Int):Int:=if s=4 then 3 else if s=5 then 3+c.threads else if s=6 then 3+c.threads*6 else if s=7 then 3+c.threads*7 else if s=8 then 3+c.threads*8 else 3+c.threads*9
theorem mJ(a:aV c=true)(s:Int):0<=jx c s/\jx c s<=1000:=by
 obtain⟨b,_⟩:=aO a;unfold jx;split; · omega
 split; · omega
 split; · omega
 split; · omega
 split<;>omega
section
variable(w:World)
theorem kY(a:aV c=true)(A:Option Addr)(k n:Nat)(s:Int)(p:s=4\/s=5\/s=6\/s=7\/s=8\/s=9) :
 Calls prog 127 #[.agg #[c.kind,c.threads,c.chans,c.cap,c.nodes,c.aP,c.aB,c.tags,c.bw,c.bn,.slice A n k],s] w λe w'=>e=.returned (jx c s)/\Below w w w':=by
 obtain⟨b,_⟩:=aO a
 have d:IntKind.i64.wrap (3+c.threads)=3+c.threads:=bH _ aa
 have f:IntKind.i64.wrap (c.threads*6)=c.threads*6:=bH _ aa
 have g:IntKind.i64.wrap (c.threads*7)=c.threads*7:=bH _ aa
 have h:IntKind.i64.wrap (c.threads*8)=c.threads*8:=bH _ aa
 have i:IntKind.i64.wrap (c.threads*9)=c.threads*9:=bH _ aa
 have f6:IntKind.i64.wrap (3+c.threads*6)=3+c.threads*6:=bH _ aa
 have f7:IntKind.i64.wrap (3+c.threads*7)=3+c.threads*7:=bH _ aa
 have f8:IntKind.i64.wrap (3+c.threads*8)=3+c.threads*8:=bH _ aa
 have f9:IntKind.i64.wrap (3+c.threads*9)=3+c.threads*9:=bH _ aa
 clear a b
 rcases p with rfl|rfl|rfl|rfl|rfl|rfl
 all_goals
  go_enter func127,ntmps127;exact Lh
theorem yh(p:aV c=true)(A:Option Addr)(k n:Nat)(t:Int)(r:0<=t)(u:t<=100) :
 Calls prog 146 #[.agg #[c.kind,c.threads,c.chans,c.cap,c.nodes,c.aP,c.aB,c.tags,c.bw,c.bn,.slice A n k],t] w λe w'=>e=.returned (pg c t)/\Below w w w':=by
 have HF:=ae (kY (w.alloc (dB c A n k)) p A k n 4 af)
 have a:=mJ p 4
 have b:Hid (pg c t=jx c 4+t):=by unfold Hid;rfl
 rw[b.Y]
 generalize jx c 4=f at HF a ⊢
 have d:IntKind.i64.wrap (t*5)=t*5:=bH _ aa
 have g:IntKind.i64.wrap (f+t)=f+t:=bH _ aa
 clear b p a
 go_enter func146,ntmps146
 exact mk9
theorem AV(p:aV c=true)(A:Option Addr)(k n:Nat)(t:Int)(r:0<=t)(u:t<=100) :
 Calls prog 148 #[.agg #[c.kind,c.threads,c.chans,c.cap,c.nodes,c.aP,c.aB,c.tags,c.bw,c.bn,.slice A n k],t] w λe w'=>e=.returned (kn c t)/\Below w w w':=by
 have HF:=ae (kY (w.alloc (dB c A n k)) p A k n 5 af)
 have a:=mJ p 5
 have b:Hid (kn c t=jx c 5+t*5):=by unfold Hid;rfl
 rw[b.Y]
 generalize jx c 5=f at HF a ⊢
 have d:IntKind.i64.wrap (t*5)=t*5:=bH _ aa
 have g:IntKind.i64.wrap (f+t*5)=f+t*5:=bH _ aa
 clear b p a
 go_enter func148,ntmps148
 exact mk9
theorem qI(p:aV c=true)(A:Option Addr)(k n:Nat)(t:Int)(r:0<=t)(u:t<=100) :
 Calls prog 140 #[.agg #[c.kind,c.threads,c.chans,c.cap,c.nodes,c.aP,c.aB,c.tags,c.bw,c.bn,.slice A n k],t] w λe w'=>e=.returned (jZ c t)/\Below w w w':=by
 have HF:=ae (kY (w.alloc (dB c A n k)) p A k n 6 af)
 have a:=mJ p 6
 have b:Hid (jZ c t=jx c 6+t):=by unfold Hid;rfl
 rw[b.Y]
 generalize jx c 6=f at HF a ⊢
 have d:IntKind.i64.wrap (t*5)=t*5:=bH _ aa
 have g:IntKind.i64.wrap (f+t)=f+t:=bH _ aa
 clear b p a
 go_enter func140,ntmps140
 exact mk9
theorem tV(p:aV c=true)(A:Option Addr)(k n:Nat)(t:Int)(r:0<=t)(u:t<=100) :
 Calls prog 136 #[.agg #[c.kind,c.threads,c.chans,c.cap,c.nodes,c.aP,c.aB,c.tags,c.bw,c.bn,.slice A n k],t] w λe w'=>e=.returned (qp c t)/\Below w w w':=by
 have HF:=ae (kY (w.alloc (dB c A n k)) p A k n 7 af)
 have a:=mJ p 7
 have b:Hid (qp c t=jx c 7+t):=by unfold Hid;rfl
 rw[b.Y]
 generalize jx c 7=f at HF a ⊢
 have d:IntKind.i64.wrap (t*5)=t*5:=bH _ aa
 have g:IntKind.i64.wrap (f+t)=f+t:=bH _ aa
 clear b p a
 go_enter func136,ntmps136
 exact mk9
theorem jV(p:aV c=true)(A:Option Addr)(k n:Nat)(t:Int)(r:0<=t)(u:t<=100) :
 Calls prog 152 #[.agg #[c.kind,c.threads,c.chans,c.cap,c.nodes,c.aP,c.aB,c.tags,c.bw,c.bn,.slice A n k],t] w λe w'=>e=.returned (ea c t)/\Below w w w':=by
 have HF:=ae (kY (w.alloc (dB c A n k)) p A k n 8 af)
 have a:=mJ p 8
 have b:Hid (ea c t=jx c 8+t):=by unfold Hid;rfl
 rw[b.Y]
 generalize jx c 8=f at HF a ⊢
 have d:IntKind.i64.wrap (t*5)=t*5:=bH _ aa
 have g:IntKind.i64.wrap (f+t)=f+t:=bH _ aa
 clear b p a
 go_enter func152,ntmps152
 exact mk9
theorem oI(r:aV c=true):bX c=1+c.threads*c.nodes/\1<=bX c/\bX c<=4097:=by
 obtain⟨e,d,_⟩:=aO r;have:=JA (a:=c.threads) (b:=c.nodes) (A:=64) (B:=64) aa e.2 aa d.2;have f:bX c=1+c.threads*c.nodes:=by unfold bX;rw[r];rfl
 rw[f];exact⟨rfl,aa,aa⟩
theorem Li(a:aV c=true)(r:n=c.start.length)(u:bD w .i64 A c.start) :
 Calls prog 125 #[.agg #[c.kind,c.threads,c.chans,c.cap,c.nodes,c.aP,c.aB,c.tags,c.bw,c.bn,.slice A n k]] w λe w'=>e=.returned (bX c)/\Below w w w':=by
 have j:=ae (ji (w.alloc (dB c A n k)) a r (u.alloc _) (k:=k))
 obtain⟨g,d,f⟩:=oI a
 rw[g]at d f ⊢
 have m:IntKind.i64.wrap (c.threads*c.nodes)=c.threads*c.nodes:=bH _ aa
 have o:IntKind.i64.wrap (1+c.threads*c.nodes)=1+c.threads*c.nodes:=bH _ aa
 clear g d f r u a
 go_enter func125,ntmps125
 go_wp2_with fail
 refine j.mono ?_
 rintro e l ⟨rfl,b⟩
 have a:∀i,l.cell? ⟨w,i,none⟩=_:=λi=>b.cell (p:=⟨w,i,none⟩) aA
 have h:=ae (ah (aj (ai w) (dB c A n k)) b)
 clear b
 go_wp2
 go_ret
 exact⟨rfl,h⟩
theorem lL(u:aV c=true){i:Int}(p:0<=i)(r:i<=70000):0<=i*(1+bA c)/\i*(1+bA c)<=74550000:=by have d:=size_le u;exact JA (a:=i) (b:=1+bA c) (A:=70000) (B:=1065) p r aa aa
theorem qJ(r:aV c=true)(I:n=c.start.length)(J:bD w .i64 A c.start)(i:Int)(G:0<=i)(H:i<=70000) :
 Calls prog 98 #[.agg #[c.kind,c.threads,c.chans,c.cap,c.nodes,c.aP,c.aB,c.tags,c.bw,c.bn,.slice A n k],i] w λe w'=>e=.returned (bV c i)/\Below w w w':=by
 have z:=ae (kY (w.alloc (dB c A n k)) r A k n 9 af)
 have m:=mJ r 9
 have E:=lL r G H
 have L:=size_le r
 have B:=ae (λw' (O:Below w w w')=>DD w' r I (J.below O) (k:=k))
 have C:Hid (bV c i=jx c 9+i*(1+bA c)):=by unfold Hid;rfl
 rw[C.Y]
 obtain⟨f,u⟩:=aw (jx c 9)
 obtain⟨s,K⟩:=aw (bA c)
 rw[<-u]at z m ⊢
 rw[<-K]at B E L ⊢
 have Q:IntKind.i64.wrap (1+s)=1+s:=bH _ aa
 have R:IntKind.i64.wrap (i*(1+s))=i*(1+s):=bH _ aa
 have S:IntKind.i64.wrap (f+i*(1+s))=f+i*(1+s):=bH _ aa
 have l:=u;have j:=r
 clear u K C r m E L I J G H
 have o:(w.alloc (dB c A n k)).cell? ⟨w,0,none⟩=some c.kind/\(w.alloc (dB c A n k)).cell? ⟨w,1,none⟩=some c.threads/\(w.alloc (dB c A n k)).cell? ⟨w,2,none⟩=some c.chans/\(w.alloc (dB c A n k)).cell? ⟨w,3,none⟩=some c.cap/\(w.alloc (dB c A n k)).cell? ⟨w,4,none⟩=some c.nodes/\(w.alloc (dB c A n k)).cell? ⟨w,5,none⟩=some c.aP/\(w.alloc (dB c A n k)).cell? ⟨w,6,none⟩=some c.aB/\(w.alloc (dB c A n k)).cell? ⟨w,7,none⟩=some c.tags/\(w.alloc (dB c A n k)).cell? ⟨w,8,none⟩=some c.bw/\(w.alloc (dB c A n k)).cell? ⟨w,9,none⟩=some c.bn/\(w.alloc (dB c A n k)).cell? ⟨w,10,none⟩=some (.slice A n k):=aA
 have D:∀a b:World,w.heap.size<a.heap.size->Below a a b->(a.cell? ⟨w,0,none⟩=some c.kind/\a.cell? ⟨w,1,none⟩=some c.threads/\a.cell? ⟨w,2,none⟩=some c.chans/\a.cell? ⟨w,3,none⟩=some c.cap/\a.cell? ⟨w,4,none⟩=some c.nodes/\a.cell? ⟨w,5,none⟩=some c.aP/\a.cell? ⟨w,6,none⟩=some c.aB/\a.cell? ⟨w,7,none⟩=some c.tags/\a.cell? ⟨w,8,none⟩=some c.bw/\a.cell? ⟨w,9,none⟩=some c.bn/\a.cell? ⟨w,10,none⟩=some (.slice A n k))->(b.cell? ⟨w,0,none⟩=some c.kind/\b.cell? ⟨w,1,none⟩=some c.threads/\b.cell? ⟨w,2,none⟩=some c.chans/\b.cell? ⟨w,3,none⟩=some c.cap/\b.cell? ⟨w,4,none⟩=some c.nodes/\b.cell? ⟨w,5,none⟩=some c.aP/\b.cell? ⟨w,6,none⟩=some c.aB/\b.cell? ⟨w,7,none⟩=some c.tags/\b.cell? ⟨w,8,none⟩=some c.bw/\b.cell? ⟨w,9,none⟩=some c.bn/\b.cell? ⟨w,10,none⟩=some (.slice A n k)):=by exact Wb
 have t:=ae D
 have x:Below w w (w.alloc (dB c A n k)):=aj (ai w) _
 have P:w.heap.size<(w.alloc (dB c A n k)).heap.size:=aA
 have M:Below (w.alloc (dB c A n k)).heap.size (w.alloc (dB c A n k)) (w.alloc (dB c A n k)).drew:=bZ (n:=1) (ai _)
 have p:=t.Y _ _ P M o
 have h:=ae (kY (w.alloc (dB c A n k)).drew j A k n 9 af)
 rw[<-l]at h
 clear D z j l
 go_enter func98,ntmps98
 go_wp2
 go_region_held3(λw'=>w'.cell? ⟨w,0,none⟩=some c.kind/\w'.cell? ⟨w,1,none⟩=some c.threads/\w'.cell? ⟨w,2,none⟩=some c.chans/\w'.cell? ⟨w,3,none⟩=some c.cap/\w'.cell? ⟨w,4,none⟩=some c.nodes/\w'.cell? ⟨w,5,none⟩=some c.aP/\w'.cell? ⟨w,6,none⟩=some c.aB/\w'.cell? ⟨w,7,none⟩=some c.tags/\w'.cell? ⟨w,8,none⟩=some c.bw/\w'.cell? ⟨w,9,none⟩=some c.bn/\w'.cell? ⟨w,10,none⟩=some (.slice A n k)) (first|assumption|go_keep)
  (first
  |(go_at_call 127;refine h.mono ?_;rintro e a ⟨rfl,d⟩
    have q:=ah x (ah M d)
    have y:w.heap.size<a.heap.size:=by have:=q.size;have:=d.size;simp at this;omega
    have K8:=t.Y _ _ aA d p)
  |(go_at_call 128;refine(B a q).mono ?_;rintro e b ⟨rfl,g⟩
    have F:=ah q g
    have v:=t.Y _ _ y g K8))
 have N:=ae F
 clear o p K8 v q F d g
 go_wp2
 go_ret
 exact⟨rfl,N⟩
theorem uX(r:aV c=true)(C:n=c.start.length)(E:bD w .i64 A c.start) :
 Calls prog 95 #[.agg #[c.kind,c.threads,c.chans,c.cap,c.nodes,c.aP,c.aB,c.tags,c.bw,c.bn,.slice A n k]] w λe w'=>e=.returned (bG c)/\Below w w w':=by
 obtain⟨I,t⟩:=av (ji (w.alloc (dB c A n k)) r C (E.alloc _) (k:=k)) (λw' (d:Below w w w')=>Li w' r C (E.below d) (k:=k))
 have z:=oI r
 have s:=ae (λw' (d:Below w w w')=>qJ w' r C (E.below d) (k:=k) (bX c) aa aa)
 have J:Hid (bG c=bV c (bX c)):=by unfold Hid bG;rw[r];rfl
 rw[J.Y]
 obtain⟨v,N⟩:=aw (bV c (bX c))
 obtain⟨u,M⟩:=aw (bX c)
 rw[<-N]at s ⊢
 rw[<-M]at s t
 clear J N M C E z r
 have l:(w.alloc (dB c A n k)).cell? ⟨w,0,none⟩=some c.kind/\(w.alloc (dB c A n k)).cell? ⟨w,1,none⟩=some c.threads/\(w.alloc (dB c A n k)).cell? ⟨w,2,none⟩=some c.chans/\(w.alloc (dB c A n k)).cell? ⟨w,3,none⟩=some c.cap/\(w.alloc (dB c A n k)).cell? ⟨w,4,none⟩=some c.nodes/\(w.alloc (dB c A n k)).cell? ⟨w,5,none⟩=some c.aP/\(w.alloc (dB c A n k)).cell? ⟨w,6,none⟩=some c.aB/\(w.alloc (dB c A n k)).cell? ⟨w,7,none⟩=some c.tags/\(w.alloc (dB c A n k)).cell? ⟨w,8,none⟩=some c.bw/\(w.alloc (dB c A n k)).cell? ⟨w,9,none⟩=some c.bn/\(w.alloc (dB c A n k)).cell? ⟨w,10,none⟩=some (.slice A n k):=aA
 have K:∀a b:World,w.heap.size<a.heap.size->Below a a b->(a.cell? ⟨w,0,none⟩=some c.kind/\a.cell? ⟨w,1,none⟩=some c.threads/\a.cell? ⟨w,2,none⟩=some c.chans/\a.cell? ⟨w,3,none⟩=some c.cap/\a.cell? ⟨w,4,none⟩=some c.nodes/\a.cell? ⟨w,5,none⟩=some c.aP/\a.cell? ⟨w,6,none⟩=some c.aB/\a.cell? ⟨w,7,none⟩=some c.tags/\a.cell? ⟨w,8,none⟩=some c.bw/\a.cell? ⟨w,9,none⟩=some c.bn/\a.cell? ⟨w,10,none⟩=some (.slice A n k))->(b.cell? ⟨w,0,none⟩=some c.kind/\b.cell? ⟨w,1,none⟩=some c.threads/\b.cell? ⟨w,2,none⟩=some c.chans/\b.cell? ⟨w,3,none⟩=some c.cap/\b.cell? ⟨w,4,none⟩=some c.nodes/\b.cell? ⟨w,5,none⟩=some c.aP/\b.cell? ⟨w,6,none⟩=some c.aB/\b.cell? ⟨w,7,none⟩=some c.tags/\b.cell? ⟨w,8,none⟩=some c.bw/\b.cell? ⟨w,9,none⟩=some c.bn/\b.cell? ⟨w,10,none⟩=some (.slice A n k)):=by exact Wb
 obtain⟨o,h⟩:=av K l
 have D:Below w w (w.alloc (dB c A n k)):=aj (ai w) _
 have O:w.heap.size<(w.alloc (dB c A n k)).heap.size:=aA
 have j:=ae O
 clear K l O
 go_enter func95,ntmps95
 go_wp2_with fail
 refine I.mono ?_
 rintro e a ⟨rfl,d⟩
 have r:∀i,a.cell? ⟨w,i,none⟩=_:=λi=>d.cell (p:=⟨w,i,none⟩) aA
 have R:=ah D d
 have F:w.heap.size<a.heap.size:=by have:=d.size;have:=j.Y;omega
 have q:Below a a a.drew:=bZ (n:=1) (ai _)
 have m:=o.Y _ _ F q (o _ _ j d h)
 have P:=ah R q
 have G:w.heap.size<a.drew.heap.size:=by have:=q.size;omega
 have x:=ae (t a.drew P)
 clear d I t h
 go_wp2
 go_region_held3(λw'=>w'.cell? ⟨w,0,none⟩=some c.kind/\w'.cell? ⟨w,1,none⟩=some c.threads/\w'.cell? ⟨w,2,none⟩=some c.chans/\w'.cell? ⟨w,3,none⟩=some c.cap/\w'.cell? ⟨w,4,none⟩=some c.nodes/\w'.cell? ⟨w,5,none⟩=some c.aP/\w'.cell? ⟨w,6,none⟩=some c.aB/\w'.cell? ⟨w,7,none⟩=some c.tags/\w'.cell? ⟨w,8,none⟩=some c.bw/\w'.cell? ⟨w,9,none⟩=some c.bn/\w'.cell? ⟨w,10,none⟩=some (.slice A n k)) (first|assumption|go_keep)
  (first
  |(go_at_call 125;refine x.mono ?_;rintro e b ⟨rfl,f⟩
    have y:=ah P f
    have H:w.heap.size<b.heap.size:=by have:=f.size;omega
    have K8:=o.Y _ _ G f m)
  |(go_at_call 98;refine(s b y).mono ?_;rintro e S ⟨rfl,g⟩
    have L:=ah y g
    have B:=o.Y _ _ H g K8))
 have Q:=ae L
 clear m K8 B y L f g
 go_wp2
 go_ret
 exact⟨rfl,Q⟩
end
theorem yi(h:L[k]?=some z):L.set k z=L:=by
 apply List.ext_getElem?;intro i;by_cases a:i=k
 .subst a;rw[List.getElem?_set_self (bT h),h]
 .rw[List.getElem?_set_ne (λh=>a h.symm)]
theorem qL(w:World)(A:Option Addr)(c:Nat)(a:List (Int×Int×Int))(u:n=a.length)(r:n<=1000000)(C:cN w bj A a) :
 Calls prog 75 #[.slice A n c] w (tK 101 3 bj w a n) :=
 (F4 w A c (a.map (jJ bj cM mF)) (by simpa using u) r (cN.rows.2 C)).mono λ_ _ h=>h.toF
theorem Gv(w:World)(A:Option Addr)(c:Nat)(a:List Rs)(u:n=a.length)(r:n<=1000000)(C:cN w fD A a) :
 Calls prog 251 #[.slice A n c] w (tK 64 4 fD w a n) :=
 (Kw w A c (a.map (jJ fD dC qH)) (by simpa using u) r (cN.rows.2 C)).mono λ_ _ h=>h.toF
abbrev ez (w:World) (A:Option Addr) (xs:List Wt):Prop:=jv 4 OO w (eP w) A xs
abbrev j6 (w:World) (base:Nat) (v:Value) (xs:List Wt):Prop:=aD 99 4 OO w base (eP w) v xs
abbrev lV (w:World) (A:Option Addr) (a:List Ch):Prop:=jv 5 TD w (eP w) A a
abbrev Gw (w:World) (base:Nat) (v:Value) (a:List Ch):Prop:=aD 50 5 TD w base (eP w) v a
theorem DU(w:World)(A:Option Addr)(c:Nat)(a:List Wt)(u:n=a.length)(r:n<=1000000)(C:ez w A a) :
 Calls prog 265 #[.slice A n c] w λe w'=>∃B d,e=.returned (.slice B n d)/\j6 w' w (.slice B n d) a/\Below w w w':=by
 obtain⟨rows,b,g,i⟩:=C
 refine(F8 w A c rows (by rw[b];exact u) r g).mono λ_ w' h=>?_
 obtain⟨B,d,j,_,k,f⟩:=fH.toX aI (λ_ h=>h.lt) b i h
 exact⟨B,d,j,k.mono aI (λ_ h=>h.below f),f⟩
theorem DV(w:World)(A:Option Addr)(c:Nat)(a:List Ch)(u:n=a.length)(r:n<=1000000)(C:lV w A a) :
 Calls prog 255 #[.slice A n c] w λe w'=>∃B d,e=.returned (.slice B n d)/\Gw w' w (.slice B n d) a/\Below w w w':=by
 obtain⟨rows,b,g,i⟩:=C
 refine(F5 w A c rows (by rw[b];exact u) r g).mono λ_ w' h=>?_
 obtain⟨B,d,j,_,k,f⟩:=fH.toX cd (λ_ h=>h.lt) b i h
 exact⟨B,d,j,k.mono cd (λ_ h=>h.below f),f⟩
def Pa(a:List Wt)(n:Nat)(w:World)(v:Value)(w':World):Prop:=∃A c,v=.slice A n c/\j6 w' w (.slice A n c) a/\Below w w w'
theorem j6.Lj{c:Nat}{u:List Wt}(h:j6 w base (.slice g n c) u)(C:u[j]?=some x)(F:x.cases.length<=d)(G:cN w bj B x.cases)(E:∀b,B=some b->Ty w 101 b.block):j6 (w.setCell ⟨g,j*4+3,none⟩ (.slice B x.cases.length d)) base (.slice g n c) u:=by
 obtain⟨p,k,_⟩:=h.ty
 have:=h.acP aI C 3 af (.slice B x.cases.length d) rfl (eP.not k af af) (y:=x) (λr l a=>by
  obtain⟨m,o,rfl,_,_⟩:=a
  exact⟨B,d,rfl,F,G,λe f _=>.inr (E e f)⟩)
 rw[yi C]at this
 exact this.mono aI λb i=>i.bp _ _
section
variable(w:World)
theorem jo(A:Option Addr)(c:Nat)(xs:List Wt)(u:n=xs.length)(hl:n<=100000)(J:ez w A xs)(I:∀x∈xs,x.cases.length<=100000) :
 Calls prog 256 #[.slice A n c] w λe w'=>∃v,e=.returned v/\Pa xs n w v w':=by
 obtain⟨K,C,Q⟩:=aS (DU w A c xs u aa J) u I
 clear u J I
 go_enter func256,ntmps256
 go_wp2_with fail
 refine K.mono ?_
 rintro e w1 ⟨B,d,rfl,G,h⟩
 obtain⟨iU,T⟩:=av G h
 clear G h K
 go_wp2
 go_loopw[4,9] (λ_ i wr=>∃j:Nat,j<=n/\i=j/\Hid (j6 wr w (.slice B n d) xs)/\Hid (Below w w wr)) (λ_ i _=>n-(intOf i).toNat)
 case atStart=>exact⟨0,aZ _,rfl,iU,T⟩
 case round =>
  obtain⟨j,hj,rfl,f,z⟩:=hrel;by_cases s:j<n
  .have k:xs≠[]:=by have:=C.Y;rintro rfl;simp at this;omega
   obtain⟨g,c',t,q,M⟩:=f.form k;injection t with e1 e2 e3
   have iY:=ae e2;subst e1 e3;clear e2 k;obtain⟨x,l⟩:∃x,xs[j]?=some x:=⟨_,cq (by rw[<-C.Y];exact s)⟩
   obtain⟨r,hP,iX,hcell⟩:=f.at_ l;obtain⟨D,W,rfl,o,N⟩:=hP;have F:=hcell 3 _ rfl;have f3:=f.bq (j*4+3);obtain⟨R,L⟩:=av l (qL wr D W x.cases rfl (by have:=Q.Y x (bo l);omega) N.1);clear hcell l N o iX;go_wp2_with fail;refine L.mono ?_;rintro e w2 ⟨B2,d2,rfl,E,H,a⟩;have y:=f.gK aI a;have Y:=y.bq (j*4+3);have U:=(a.cell (p:=⟨g,j*4+3,none⟩) M).trans F;have aq:=ltW a M;obtain⟨X,O,S,P⟩:=bh y H (ah z a) E;clear F f3 y H a E L;go_wp2;go_roundw;case rel =>
    refine⟨j+1,aa,by go_num,j6.Lj X R P O.xS.2 (λb hb=>?_),S.setCell (p:=⟨g,j*4+3,none⟩) q _⟩;subst hb;rcases O.2 with⟨Z,_⟩|⟨g',V,m,t,_,hh,_⟩
    .cases Z
    .injection t with h1;injection h1 with h1;subst h1
     exact⟨m,_,hh⟩
   case measure=>simp[intOf];omega
  .go_wp2;go_ret;exact⟨_,rfl,B,d,rfl,f,z⟩
theorem TR(A:Option Addr)(n c:Nat)(t:Int):Calls prog 279 #[.slice A n c,t] w λe w'=>e=.returned (decide (0<=t/\t<n))/\w=w':=by
 by_cases a:0<=t
 .go_enter func279,ntmps279;go_wp2;go_ret;exact⟨bK (by simp[a]),rfl⟩
 .have d1:decide (0<=t)=false:=bF a;have d2:decide (0<=t/\t<n)=false:=bF (λh=>a h.1);rw[d2];clear a d2;go_enter func279,ntmps279;go_wp2;go_ret;exact⟨rfl,rfl⟩
theorem BZ(A:Option Addr)(n c:Nat)(t:Int)(h:0<=t/\t<n):Calls prog 279 #[.slice A n c,t] w λe w'=>e=.returned true/\w=w':=by have:=TR w A n c t;rw[cg h]at this;exact this
theorem ez.row{w:World}{xs:List Wt}(h:ez w A xs)(u:xs[j]?=some x):∃a B d,A=some a/\x.cases.length<=d/\cN w bj B x.cases /\
 w.cell? (a.add (j*4))=some (.bool x.on)/\w.cell? ⟨(a.add (j*4)).block,(a.add (j*4)).off+1,none⟩=some (.int .i64 x.ak)/\w.cell? ⟨(a.add (j*4)).block,(a.add (j*4)).off+2,none⟩=some (.int .i64 x.seq)/\w.cell? ⟨(a.add (j*4)).block,(a.add (j*4)).off+3,none⟩=some (.slice B x.cases.length d):=by
 obtain⟨a,o,r,i,b,k,n,hcell⟩:=jv.at_ af h (bT u)
 rw[u]at b
 injection b with b
 subst b
 obtain⟨B,d,rfl,m,l⟩:=k
 have g:=hcell 0 _ rfl
 have c:=hcell 1 _ rfl
 have e:=hcell 2 _ rfl
 have f:=hcell 3 _ rfl
 rw[add_lit _ _ af]at c e f
 exact⟨a,B,d,i,m,l.1,g,c,e,f⟩
theorem kz{w:World}{c:Nat}{b:Addr}(h:aH w base e m f (.slice (some b) n c) xs):Ty w e b.block:=by exact Wd
theorem j6.put{w:World}{c:Nat}{xs:List Wt}{y:Wt}(h:j6 w base (.slice g n c) xs)(E:j<xs.length)(C:y.cases.length<=d)(F:cN w bj B y.cases)(r:∀b,B=some b->y.cases≠[]->Ty w 101 b.block):j6 (ax w g (j*4) [y.on,y.ak,y.seq,.slice B y.cases.length d]) base (.slice g n c) (xs.set j y):=by
 obtain⟨m,l,_⟩:=h.ty
 have:=h.Gm aI E [y.on,y.ak,y.seq,.slice B y.cases.length d] rfl (by intro u e;simp at e;rcases e with rfl|rfl|rfl|rfl<;>rfl) (eP.not l af af) (y:=y) ⟨B,d,rfl,C,F,λf i a=>.inr (r f i a)⟩
 exact this.mono aI λb k=>fB _ _ _ k
theorem tW(A:Option Addr)(c:Nat)(xs:List Wt)(C:n=xs.length)(H:n<=100000)(E:ez w A xs)(F:∀x∈xs,x.cases.length<=100000)(u:xs[j]?=some x)(G:x.on=true) :
 Calls prog 275 #[.slice A n c,j] w λe w'=>∃v,e=.returned (.tuple #[v,true])/\Pa (et xs j) n w v w':=by
 obtain⟨k,l,HX⟩:=aS (jo w A c xs C H E F) C u
 have q:j<n:=by rw[C];exact bT u
 obtain⟨h,m⟩:=av (λw'=>BZ w' A n c j aa) (λw' (hb:Below w w w')=>ez.row (E.gK aI hb) u)
 obtain⟨o,_,_,a,_⟩:=ez.row E u
 subst a
 clear C E F u
 go_enter func275,ntmps275
 go_wp2_with fail
 refine k.mono ?_
 rintro e B ⟨v,rfl,I,L,rfl,i,d⟩
 obtain⟨iU,br⟩:=av i d
 clear i d k
 go_wp2_with fail
 go_fit (h _)
 rintro e S ⟨rfl,rfl⟩
 obtain⟨J,_,_,a,_,_,y,_⟩:=m.Y B br
 injection a with a
 subst a
 rw[G]at y
 have f:xs≠[]:=by have:=l.Y;rintro rfl;simp at this;omega
 obtain⟨g,K,s,hg0,O⟩:=iU.form f
 injection s with e1 e2 e3
 have N:=ae e2
 subst e1 e3
 clear e2 f
 obtain⟨r,p,t,hcell⟩:=iU.at_ HX
 obtain⟨D,M,rfl,_,_⟩:=p
 have z:=hcell 0 _ rfl
 rw[Nat.add_zero]at z
 have P:=hcell 1 _ rfl
 have Q:=hcell 2 _ rfl
 have R:=hcell 3 _ rfl
 have f0:=iU.bq (j*4)
 have f1:=iU.bq (j*4+1)
 have f2:=iU.bq (j*4+2)
 have f3:=iU.bq (j*4+3)
 clear hcell t G
 go_wp2
 exact We
theorem Pb(A:Option Addr)(c:Nat)(G:List Wt)(K:n=G.length)(hl:n<=100000)(M:ez w A G)(X:∀x∈G,x.cases.length<=100000)(J:G[j]?=some x)(Y:x.on=false)(F E:Int)(u:List Cs)(D:Option Addr)(C H:Nat)(I:C=u.length)(aq:C<=100000)(V:cN w bj D u) :
 Calls prog 272 #[.slice A n c,j,.agg #[false,F,E,.slice D C H]] w λe w'=>∃v,e=.returned (.tuple #[v,true])/\Pa (G.set j ⟨true,F,E,u⟩) n w v w':=by
 obtain⟨lC,HN,O,jf⟩:=bh (jo (w.alloc (.cells #[false,F,E,.slice D C H] 99)) A c G K hl (M.gK aI (aj (ai w) _)) X) K J I
 have a7:j<n:=by rw[K];exact bT J
 obtain⟨z,HR,n9⟩:=aS (λw'=>BZ w' A n c j aa) (λw' (a:Below w w w')=>ez.row (M.gK aI a) J) (λw' (a:Below w w w')=>qL w' D H u I aa (V.below a))
 obtain⟨a6,_,_,o,_⟩:=ez.row M J
 subst o
 have bJ:Hid (Below w w (w.alloc (.cells #[false,F,E,.slice D C H] 99))):=aj (ai w) _
 have eW:Hid (ag (w.alloc (.cells #[false,F,E,.slice D C H] 99)) w 99 #[false,F,E,.slice D C H]):=ag.new _ _ _
 clear K M X J I V
 go_enter func272,ntmps272
 go_wp2_with fail
 refine lC.mono ?_
 rintro e w1 ⟨v,rfl,A1,c1,rfl,T,i⟩
 obtain⟨iU,B,S⟩:=aS T (ah bJ i) (eW.ah i)
 clear T i lC
 go_wp2_with fail
 go_fit (z _)
 rintro e l ⟨rfl,rfl⟩
 obtain⟨ad,_,_,o,_,_,Z,_⟩:=HR.Y w1 B
 injection o with o
 subst o
 rw[Y]at Z
 obtain⟨Q,q,R⟩:=ag.aF S
 clear Y
 go_wp2_with fail
 go_fit (n9 _ B)
 rintro e l ⟨m,d2,rfl,P,U,d⟩
 have uA:=iU.gK aI d
 obtain⟨t,bB,qG,Ad,h⟩:=bQ (S.ah d) (ah B d) U P uA
 clear Z Q q R U d P uA
 have s:G≠[]:=by have:=HN.Y;rintro rfl;simp at this;omega
 obtain⟨g,c',hv,L,nA⟩:=h.form s
 injection hv with e1 e2 e3
 have iY:=ae e2
 subst e1 e3
 clear e2 s
 obtain⟨r,hP,iX,hcell⟩:=h.at_ O
 obtain⟨D,H,rfl,_,_⟩:=hP
 have q0:=hcell 0 _ rfl
 rw[Nat.add_zero]at q0
 have q1:=hcell 1 _ rfl
 have q2:=hcell 2 _ rfl
 have q3:=hcell 3 _ rfl
 have f0:=h.bq (j*4)
 have f1:=h.bq (j*4+1)
 have f2:=h.bq (j*4+2)
 have f3:=h.bq (j*4+3)
 have B8:w.heap.size<g:=by simp at L;omega
 obtain⟨Q,q,R⟩:=ag.aF t
 clear hcell iX
 go_wp2
 go_ret2
 have W:¬eP l w:=eP.not t af af
 have hM:Sm (eP l) l ((l.setCell ⟨w,0,none⟩ true).setCell ⟨w,3,none⟩ (.slice m C d2)):=λb a=>(dE _ _ _ _ (λk=>by have k:b=w.heap.size:=k;subst k;exact W a)).trans (dE _ _ _ _ (λk=>by have k:b=w.heap.size:=k;subst k;exact W a))
 have AL:j6 ((l.setCell ⟨w,0,none⟩ true).setCell ⟨w,3,none⟩ (.slice m C d2)) _ (.slice g n c1) G:=(aD.move aI h hM (λg' N=>by
  have N:g=g':=by simpa[Value.ownBlock]using N
  subst N
  exact(dE _ _ _ _ (by show g≠w;omega)).trans (dE _ _ _ _ (by show g≠w;omega)))).mono aI (λb a=>(a.bp _ _).bp _ _)
 have I:=jf.Y
 subst I
 have hF:cN ((l.setCell ⟨w,0,none⟩ true).setCell ⟨w,3,none⟩ (.slice m u.length d2)) bj m u:=(aH.xS (f:=bj) (bu (bu qG t af 0 true) (t.bp 0 true) af 3 (.slice m u.length d2))).2
 refine⟨_,rfl,_,_,rfl,(j6.put (y:=⟨true,F,E,u⟩) AL (bT O) Ad hF (λb a _=>?_)).bL aA,az aa [true,F,E,.slice m u.length d2] _ _ ((bB.setCell (p:=⟨w,0,none⟩) (aR _) _).setCell (p:=⟨w,3,none⟩) (aR _) _)⟩
 subst a
 exact((kz qG).bp _ _).bp _ _
end
structure Pc (w wr:World) (g q:Nat) (x t s:Int) (fr:List Mo.Rf) (ol:List Mo.Od) (f:Mo.Od->Bool) (P0:Array Value) (k:Nat) (vF vO:Value) (LF:List Mo.Rf) (LO:List Mo.Od):Prop where
 blk:ag wr g 73 #[x,t,vF,vO,s]
 res:ag wr q 73 #[oZ,oZ,oN,oN,oZ]
 par:ag wr w 73 P0
 oF:aH wr w 219 2 fL vF LF
 oO:aH wr w 222 3 kt vO LO
 lf:LF=fr++((ol.take k).filter f).map (·.ref)
 lo:LO=(ol.take k).filter λo=> !f o
 ext:Below w w wr
 b9:q<g
 fal:w.heap.size<q
section
variable{x t:Int}{f:Mo.Od->Bool}
theorem Pc.more(h:Pc w wr g q x t s fr ol f P0 k vF vO LF LO)(a:Below wr wr w'):Pc w w' g q x t s fr ol f P0 k vF vO LF LO:=⟨h.blk.ah a,h.res.ah a,h.par.ah a,h.oF.ah a,h.oO.ah a,h.lf,h.lo,ah h.ext a,h.b9,h.fal⟩
theorem Pc.aaX(h:Pc w wr g q x t s fr ol f P0 k vF vO LF LO)(u:ol[k]?=some o)(r:f o=true)(hown:aH w4 w 219 2 fL v4 (LF++[o.ref]))(a:wr.grownBy w4 vF.ownBlock) :
 Pc w (w4.setCell ⟨g,2,none⟩ v4) g q x t s fr ol f P0 (k+1) v4 vO (LF++[o.ref]) LO:=by
 have c:=h.blk.grown a (ba h.oF h.blk af)
 have j:=h.res.grown a (ba h.oF h.res af)
 have i:=h.par.grown a (ba h.oF h.par af)
 have e:=kX h.oO a (λb l=>cL h.oO h.oF af l)
 have m:=h.b9
 have d:=h.fal
 refine⟨c.bp 2 v4,j.b9 (p:=⟨g,2,none⟩) (by show q≠g;omega) _,i.b9 (p:=⟨g,2,none⟩) (by show w≠g;omega) _,bu hown c af _ _,bu e c af _ _,?_,?_,
  (aH.aW h.oF h.ext a (by have:=h.ext.size;omega) (aR _)).setCell (p:=⟨g,2,none⟩) (by show w.heap.size<=g;omega) _,h.b9,h.fal⟩
 .rw[h.lf,eM u,List.filter_append,List.map_append,List.append_assoc];simp[r]
 .rw[h.lo,eM u,List.filter_append];simp[r]
theorem Pc.left(h:Pc w wr g q x t s fr ol f P0 k vF vO LF LO)(u:ol[k]?=some o)(r:f o=false)(hown:aH w4 w 222 3 kt v4 (LO++[o]))(a:wr.grownBy w4 vO.ownBlock) :
 Pc w (w4.setCell ⟨g,3,none⟩ v4) g q x t s fr ol f P0 (k+1) vF v4 LF (LO++[o]):=by
 have c:=h.blk.grown a (ba h.oO h.blk af)
 have j:=h.res.grown a (ba h.oO h.res af)
 have i:=h.par.grown a (ba h.oO h.par af)
 have e:=kX h.oF a (λb l=>cL h.oF h.oO af l)
 have m:=h.b9
 have d:=h.fal
 refine⟨c.bp 3 v4,j.b9 (p:=⟨g,3,none⟩) (by show q≠g;omega) _,i.b9 (p:=⟨g,3,none⟩) (by show w≠g;omega) _,bu e c af _ _,bu hown c af _ _,?_,?_,
  (aH.aW h.oO h.ext a (by have:=h.ext.size;omega) (aR _)).setCell (p:=⟨g,3,none⟩) (by show w.heap.size<=g;omega) _,h.b9,h.fal⟩
 .rw[h.lf,eM u,List.filter_append];simp[r]
 .rw[h.lo,eM u,List.filter_append];simp[r]
end
def vW(b:Bool)(w:World)(e:Ending)(a:World):Prop:=e=.returned b/\Below w w a
def PlN(p:Pl)(w:World)(e:Ending)(a:World):Prop:=∃v z,e=.returned (.tuple #[v,z])/\wU p w v a
theorem Lk:(prog.info? 222).map (λi=>(i.zero,i.size,i.bytes))=some (some (.agg #[oZ,oZ,oZ]),3,24):=by kernel_rfl
theorem DW(w:World)(f:FuncId)(hf:f=199\/f=202)(b5:Nat)(test:Od->Bool)(p:Pl)(A:Option Addr)(n:Nat)(B:Option Addr)(m:Nat)(h:OH w p A n B m)(HC:∀(o:Od) (G:World),Below w w G->Calls prog f #[.agg #[o.ref.ix,o.ref.tag,o.iI],.pointer b5] G (vW (test o) G)) :
 Calls prog 198 #[mo p A n B m,.func (.func f) #[] #[.pointer b5]] w (PlN (vI p test) w):=by
 obtain⟨X,Q,qj,aq,HF⟩:=bQ (λG (F:Below w w G)=>pE G p A n B m (h.below F)) h.Tw h.Tx (λG (F:Below w w G)=>h.rdO.below F) HC
 unfold mo
 unfold wU mo at X
 clear h HC
 obtain⟨⟨x,g⟩,N,ol,s⟩:=p
 dsimp only at *
 obtain⟨l,V⟩:=aw ol.length
 obtain⟨k,U⟩:=aw N.length
 rw[<-V, <-U]
 rw[<-U, <-V]at X
 rw[<-U]at Q
 rw[<-V]at qj
 obtain⟨HK,HL⟩:=av U V
 have Ca:=qj.Y
 clear V U
 have dO:Below w w ((w.alloc (rU x g A k n B l m s)).alloc vG):=aj (aj (ai w) _) _
 have Pd:ag ((w.alloc (rU x g A k n B l m s)).alloc vG) w 73 _:=(ag.new _ _ _).alloc _
 have vQ:ag ((w.alloc (rU x g A k n B l m s)).alloc vG) (w.heap.size+1) 73 _:=ag.newAt _ _ _ aA
 rcases hf with rfl|rfl
 all_goals
  go_enter func198,ntmps198;go_wp2_with fail;refine(X _ dO).mono ?_;rintro e w1 ⟨v,rfl,A1,n1,B1,m1,hv,fe,gA,F⟩;subst hv;have sF:=Pd.ah F;obtain⟨aC,-,bb⟩:=ag.aF sF;have T0:Pc w (w1.alloc (rU x g A1 k n1 none 0 0 s)) w1 (w.heap.size+1) x g s N ol test #[x,g,.slice A k n,.slice B l m,s] 0 (.slice A1 k n1) oN N []:=⟨ag.new _ _ _,(vQ.ah F).alloc _,sF.alloc _,(fe.bL dO.size).alloc _,aH.nil _ _ _ _ _,aA,aA,aj (ah dO F) _,(vQ.ah F).lt,Nat.lt_succ_self _⟩
  have Nm:=ae T0;clear T0 F fe gA X sF;go_wp2;go_loopw[15] (λi wr=>∃(j:Nat) (vF vO:Value) (c:List Rf) (a:List Od),j<=l/\i=j/\c.length<=100000+j/\a.length<=j/\Hid (Pc w wr w1 (w.heap.size+1) x g s N ol test #[x,g,.slice A k n,.slice B l m,s] j vF vO c a)) (λi _=>l-(intOf i).toNat);case atStart=>exact⟨0,_,_,N,[],aZ _,rfl,by have:=Q.Y;have:=HK.Y;omega,aR _,Nm⟩
  case round =>
   obtain⟨j,vF,vO,c,a,hj,rfl,b8,ct,H⟩:=hrel;clear aC bb;by_cases a7:j<l
   .obtain⟨ad,o,hA,(HO:Hid _),hcell⟩:=cN.at_ tP af (aq wr H.ext) (i:=j) (by rw[<-HL.Y];exact a7);have c0:=hcell 0 _ rfl;have c1:=hcell 1 _ rfl;have c2:=hcell 2 _ rfl;simp only[add_zero]at c0;rw[add_lit _ _ af]at c1 c2;subst hA;clear hcell;have Y:=ae (HF o _ (aj H.ext (.cells #[o.ref.ix,o.ref.tag,o.iI] 222)));rcases q:test o with _|_
    .rw[q]at Y;have Ll:=ae q;clear q;go_wp2_with fail;refine Y.mono ?_;rintro e W ⟨rfl,b⟩;have d:=H.more (ah (aj (ai wr) (.cells #[o.ref.ix,o.ref.tag,o.iI] 222)) b);have I:=(ag.new wr 222 #[o.ref.ix,o.ref.tag,o.iI]).ah b;obtain⟨r,u,D⟩:=d.oF.shape;obtain⟨t,y,E⟩:=d.oO.shape;subst D;subst E;obtain⟨S,-,a6⟩:=ag.aF I;obtain⟨Z,T,Dp⟩:=ag.aF d.blk;have a8:=d.ext.size;obtain⟨J,Np⟩:=av d I;clear d I b c0 c1 c2;go_wp2_with(at_builtin;refine bR _ rfl _ _ 71 rfl w 222 3 24 (.agg #[oZ,oZ,oZ]) kt tP yb underlying71 Lk rfl af _ a rfl (J.oO.alloc _) W 1 1 [o] rfl rfl ?c4 ?c5 ?c6 ?c7 ?_)
     case c4=>exact Rd.lit W (kt o) _
     case c5=>simp;omega
     case c6=>simp;omega
     case c7=>simp;omega
     intro v4 w4 L K M;obtain⟨A4,c4,C⟩:=L.shape;rw[fM,iw]at C;subst C;have kG:=ae ((J.more (aj (ai W) (.cells #[o.ref.ix,o.ref.tag,o.iI] 222))).left HO Ll L K);have z:=(J.blk.alloc (.cells #[o.ref.ix,o.ref.tag,o.iI] 222)).grown K (ba (J.oO.alloc (.cells #[o.ref.ix,o.ref.tag,o.iI] 222)) (J.blk.alloc (.cells #[o.ref.ix,o.ref.tag,o.iI] 222)) af);obtain⟨DX,DY,-⟩:=ag.aF z;clear L K M Z T S;go_wp2;go_roundw;case rel=>exact⟨j+1,_,_,_,_,aa,by go_num,aa,by simp;omega,kG⟩
     case measure=>simp[intOf];omega
    .rw[q]at Y;have Ll:=ae q;clear q;go_wp2_with fail;refine Y.mono ?_;rintro e W ⟨rfl,b⟩;have d:=H.more (ah (aj (ai wr) (.cells #[o.ref.ix,o.ref.tag,o.iI] 222)) b);have I:=(ag.new wr 222 #[o.ref.ix,o.ref.tag,o.iI]).ah b;obtain⟨r,u,D⟩:=d.oF.shape;obtain⟨t,y,E⟩:=d.oO.shape;subst D;subst E;obtain⟨S,-,a6⟩:=ag.aF I;obtain⟨Z,T,Dp⟩:=ag.aF d.blk;have a8:=d.ext.size;obtain⟨J,Np⟩:=av d I;clear d I b c0 c1 c2;go_wp2;go_region_law(first
      |(go_simp;go_at_call 224;refine(Kq _ o.ref.ix o.ref.tag).mono ?_;rintro e w3 ⟨rfl,R⟩;have O:=J.more (ah (bZ (n:=1) (ai W)) R);have bz:=λi=>ag.cell O.blk i;have b6:=λi=>ag.free O.blk i;have b7:=O.blk.lt;have Ok:=O.ext.size;have P:=ae O;clear O R;go_wp2_with fail)
      |(refine gf rfl _ _ 70 rfl w 219 2 16 (.agg #[oZ,oZ]) fL oC uU underlying70 sG rfl af _ c rfl ?_ w3 1 1 [o.ref] rfl rfl ?_ ?_ ?_ ?_ ?_;(exact P.oF.alloc _);(exact Rd.lit w3 (fL o.ref) _);(simp;omega);(simp;omega);(simp;omega);intro v4 w4 L K M;clear M;obtain⟨A4,c4,C⟩:=L.shape;rw[fM,iw]at C;subst C;have z:=(P.blk.alloc (.cells #[o.ref.ix,o.ref.tag] 219)).grown K (ba (P.oF.alloc (.cells #[o.ref.ix,o.ref.tag] 219)) (P.blk.alloc (.cells #[o.ref.ix,o.ref.tag] 219)) af);have DX:=λi=>ag.cell z i;have DY:=λi=>ag.free z i;go_wp2_with fail))
     all_goals
      have kG:=ae ((P.more (aj (ai w3) (.cells #[o.ref.ix,o.ref.tag] 219))).aaX HO Ll L K);clear L K z;go_wp2;go_roundw;case rel=>exact⟨j+1,_,_,_,_,aa,by go_num,by simp;omega,aa,kG⟩
      case measure=>simp[intOf];omega
   .have uY:l=j:=aa;subst uY;obtain⟨r,u,D⟩:=H.oF.shape;obtain⟨t,y,E⟩:=H.oO.shape;subst D;subst E;obtain⟨Z,-,Dp⟩:=ag.aF H.blk;obtain⟨aC,-,bb⟩:=ag.aF H.par;obtain⟨bN,cj,cu⟩:=ag.aF H.res;have OL:=H.b9;go_wp2;go_region;all_goals
     go_wp2_with fail;have hX:=(iK H.res x g (.slice r c.length u) (.slice t a.length y) s).drewN 1;have e1:aH (World.drewN (iz wr (w.heap.size+1) x g (.slice r c.length u) (.slice t a.length y) s) 1) w 219 2 fL (.slice r c.length u) c:=aH.drewN (dV H.oF H.res af _ _ _ _ _) 1;have e2:aH (World.drewN (iz wr (w.heap.size+1) x g (.slice r c.length u) (.slice t a.length y) s) 1) w 222 3 kt (.slice t a.length y) a:=aH.drewN (dV H.oO H.res af _ _ _ _ _) 1;have e3:Below w w (World.drewN (iz wr (w.heap.size+1) x g (.slice r c.length u) (.slice t a.length y) s) 1):=bZ (fx H.ext (bM _) _ _ _ _ _) 1;have hB:vI ⟨⟨x,g⟩,N,ol,s⟩ test=⟨⟨x,g⟩,c,a,s⟩:=by have q1:=H.lf;have q2:=H.lo;rw[List.take_of_length_le (by have:=HL.Y;omega)]at q1 q2;rw[q1,q2];rfl
     change bodyPost _ _ _ _ _ (World.drewN (iz wr (w.heap.size+1) x g (.slice r c.length u) (.slice t a.length y) s) 1);generalize World.drewN (iz wr (w.heap.size+1) x g (.slice r c.length u) (.slice t a.length y) s) 1=wz at *;have nB:=λi=>ag.cell hX i;clear Z Dp aC bb bN cj cu;rw[hB];refine bodyPost_ret (v:=.tuple #[.agg #[x,g,.slice r c.length u,.slice t a.length y,s],((l:Int)-(a.length:Int))]) ?_ rfl ?_
     .simp[results,results198,go_sem,nB]
     .exact⟨_,_,rfl,r,u,t,y,rfl,e1,e2,e3⟩
section
variable(w:World)
theorem Lm(A:Option Addr)(m:Nat)(xs:List Int)(n:Nat)(a:n=xs.length)(p:bD w .u64 A xs)(r:n<=100000)(v:Int) :
 Calls prog 225 #[.slice A n m,.int .u64 v] w λe w'=>e=.returned (il (λx=>v==x) xs)/\w=w':=by
 obtain⟨HN,HR⟩:=av a p
 clear a p
 go_enter func225,ntmps225
 exact Wf
theorem Cb(v:Int)(p:List Int):p.any (λx=>v==x)=p.contains v:=by
 induction p with
 |nil=>rfl
 |cons a l b=>rw[List.any_cons,b,Bool.eq_iff_iff];simp
theorem Cc(A:Option Addr)(m:Nat)(a:List Int)(n:Nat)(u:n=a.length)(C:bD w .u64 A a)(E:n<=100000)(v:Int) :
 Calls prog 203 #[.slice A n m,.int .u64 v] w λe w'=>e=.returned (a.contains v)/\w=w':=by
 obtain⟨HI,HA⟩:=av (Lm w A m a n u C E v) (ly (λx=>v==x) a)
 generalize il (λx=>v==x) a=r at HI HA
 clear u C
 go_enter func203,ntmps203
 exact Wh
theorem Pf(s g:Int)(p:-4611686018427387904<=g/\g<=4611686018427387904):Calls prog 200 #[s,g] w λe w'=>e=.returned (Mo.past s g)/\w=w':=by
 have a:Hid (Mo.past s g=decide (0<=s/\2<=g/\s<=g-2)):=rfl;generalize Mo.past s g=b at a ⊢;by_cases c:0<=s
 .by_cases d:2<=g
  .by_cases f:s<=g-2
   .have hb:b=true:=by rw[a.Y];exact cg ⟨c,d,f⟩
    exact Wi
   .have hb:b=false:=by rw[a.Y];exact bF (λh=>f h.2.2)
    exact Wi
  .have hb:b=false:=by rw[a.Y];exact bF (λh=>d h.2.1)
   subst hb;have d2:decide (2<=g)=false:=bF d;exact Wj
 .have hb:b=false:=by rw[a.Y];exact bF (λh=>c h.1)
  subst hb;have d1:decide (0<=s)=false:=bF c;exact Wj
theorem Yq(b:Nat)(g:Int)(u:-4611686018427387904<=g/\g<=4611686018427387904)(hc:w.cell? ⟨b,0,none⟩=some g)(C:b<w.heap.size)(o:Od) :
 Calls prog 199 #[.agg #[o.ref.ix,o.ref.tag,o.iI],.pointer b] w (vW (Mo.past o.iI g) w):=by
 have a:=ae (Pf (w.alloc (.cells #[o.ref.ix,o.ref.tag,o.iI] 222)) o.iI g u)
 clear u
 generalize Mo.past o.iI g=r at a ⊢
 go_enter func199,ntmps199
 go_wp2_with fail
 refine a.mono ?_
 rintro e c ⟨rfl,rfl⟩
 exact Lh
theorem Yr(b:Nat)(A:Option Addr)(n m:Nat)(C:List Int)(G:n=C.length)(F:n<=100000)(u:bD w .u64 A C)(hc:w.cell? ⟨b,0,none⟩=some (.slice A n m))(E:b<w.heap.size)(o:Od) :
 Calls prog 202 #[.agg #[o.ref.ix,o.ref.tag,o.iI],.pointer b] w (vW (!C.contains (cm o.ref)) w):=by
 obtain⟨f,a⟩:=av (λd (E:Below w w d)=>Cc d A m C n G (u.below E) F (cm o.ref)) (λd=>ia d o.ref.ix o.ref.tag)
 clear G F u
 obtain⟨r,u⟩:∃r,r=C.contains (cm o.ref):=⟨_,rfl⟩
 obtain⟨v,h⟩:∃v,v=cm o.ref:=⟨_,rfl⟩
 have i:cm ⟨o.ref.ix,o.ref.tag⟩=v:=h.symm
 rw[<-u]at f ⊢
 rw[<-h]at f
 rw[i]at a
 clear u h i
 go_enter func202,ntmps202
 go_wp2_with fail
 have j:Below w w (w.alloc (.cells #[o.ref.ix,o.ref.tag,o.iI] 222)).drew:=(aj (ai w) _).drew
 go_region_law(first
  |(go_simp;go_at_call 97;(with_reducible go_fit (a.Y _));rintro e q ⟨rfl,g⟩;have c:=ah j g;have k:=(c.cell (p:=⟨b,0,none⟩) E).trans hc;have l:=ltW c E;go_wp2_with fail)
  |(go_simp;go_at_call 203;(with_reducible go_fit (f.Y _ c));rintro e s ⟨rfl,rfl⟩;go_wp2_with fail))
 all_goals
  go_wp2;go_ret;exact⟨rfl,c⟩
theorem vX(p:Pl)(A:Option Addr)(n:Nat)(B:Option Addr)(m:Nat)(g:Int)(R:-4611686018427387904<=g/\g<=4611686018427387904)(h:OH w p A n B m) :
 Calls prog 162 #[mo p A n B m,g] w (PlN (gL p g) w):=by
 obtain⟨J,P⟩:=av (λE (a:Below w w E) U=>DW E 199 (.inl rfl) (w.heap.size+1) (λo=>Mo.past o.iI g) p A n B m (h.below a) U) (λE hc a o=>Yq E (w.heap.size+1) g R hc a o)
 clear h R
 unfold gL
 generalize vI p (λo=>Mo.past o.iI g)=p' at *
 unfold mo at *
 obtain⟨⟨x,t⟩,fr,ol,s⟩:=p
 dsimp only at *
 obtain⟨k,H⟩:=aw fr.length
 obtain⟨l,I⟩:=aw ol.length
 rw[<-H, <-I]at J ⊢
 clear H I
 have F:Below w w (((w.alloc (rU x t A k n B l m s)).alloc (.cells #[g] 3)).alloc vG):=aj (aj (aj (ai w) _) _) _
 have L:ag (((w.alloc (rU x t A k n B l m s)).alloc (.cells #[g] 3)).alloc vG) (w.heap.size+1) 3 _:=(ag.newAt _ _ _ aA).alloc _
 have S:ag (((w.alloc (rU x t A k n B l m s)).alloc (.cells #[g] 3)).alloc vG) (w.heap.size+1+1) 73 _:=ag.newAt _ _ _ aA
 go_enter func162,ntmps162
 go_wp2_with fail
 go_fit (J _ F ?hc)
 case hc=>exactλo E a=>P E (by rw[a.cell (p:=⟨w.heap.size+1,0,none⟩) aA,L.cell];rfl) (bW L.lt a.size) o
 rintro e T ⟨v,z,rfl,c,r,d,q,hv,M,N,a⟩
 subst hv
 obtain⟨⟨D,t2⟩,Q,G,C⟩:=p'
 unfold mo
 dsimp only at *
 obtain⟨u,f⟩:=aw Q.length
 obtain⟨y,j⟩:=aw G.length
 rw[<-f]at M
 rw[<-j]at N
 rw[<-f, <-j]
 obtain⟨V,W⟩:=av f j
 clear f j
 have O:=S.ah a
 obtain⟨X,Y,Z⟩:=ag.aF O
 obtain⟨iU,eN,lR,K⟩:=bh (M.bL F.size) (N.bL F.size) (ah F a) O
 clear M N a F S L O J P
 go_wp2_with fail
 have hX:=iK K D t2 (.slice c u r) (.slice d y q) C
 have nB:=λi=>ag.cell hX i
 have e1:aH _ w 219 2 fL (.slice c u r) Q:=dV iU K af D t2 (.slice c u r) (.slice d y q) C
 have e2:aH _ w 222 3 kt (.slice d y q) G:=dV eN K af D t2 (.slice c u r) (.slice d y q) C
 have e3:=fx lR (b:=w.heap.size+1+1) aa D t2 (.slice c u r) (.slice d y q) C
 change bodyPost _ _ _ _ _ (iz T (w.heap.size+1+1) D t2 (.slice c u r) (.slice d y q) C)
 generalize iz T (w.heap.size+1+1) D t2 (.slice c u r) (.slice d y q) C=wz at *
 clear X Y Z
 refine bodyPost_ret (v:=.tuple #[.agg #[D,t2,.slice c u r,.slice d y q,C],z]) ?_ rfl ?_
 .simp[results,results162,go_sem,nB]
 .have H:=V.Y;have I:=W.Y;subst H I;exact⟨_,z,rfl,c,r,d,q,rfl,e1,e2,e3⟩
theorem DZ(p:Pl)(A:Option Addr)(n:Nat)(B:Option Addr)(m:Nat)(D:Option Addr)(C I:Nat)(H:List Int)(V:C=H.length)(U:C<=100000)(X:bD w .u64 D H)(h:OH w p A n B m) :
 Calls prog 166 #[mo p A n B m,.slice D C I] w (PlN (pd p H) w):=by
 obtain⟨M,S⟩:=av (λE (a:Below w w E) Z=>DW E 202 (.inr rfl) (w.heap.size+1) (λo=> !H.contains (cm o.ref)) p A n B m (h.below a) Z) (λE (Td:Below w w E) hc a o=>Yr E (w.heap.size+1) D C I H V U (X.below Td) hc a o)
 clear h V U X
 unfold pd
 generalize vI p (λo=> !H.contains (cm o.ref))=p' at *
 unfold mo at *
 obtain⟨⟨x,t⟩,fr,ol,s⟩:=p
 dsimp only at *
 obtain⟨k,K⟩:=aw fr.length
 obtain⟨l,L⟩:=aw ol.length
 rw[<-K, <-L]at M ⊢
 clear K L
 have G:Below w w (((w.alloc (rU x t A k n B l m s)).alloc (.cells #[.slice D C I] 30)).alloc vG):=aj (aj (aj (ai w) _) _) _
 have O:ag (((w.alloc (rU x t A k n B l m s)).alloc (.cells #[.slice D C I] 30)).alloc vG) (w.heap.size+1) 30 _:=(ag.newAt _ _ _ aA).alloc _
 have W:ag (((w.alloc (rU x t A k n B l m s)).alloc (.cells #[.slice D C I] 30)).alloc vG) (w.heap.size+1+1) 73 _:=ag.newAt _ _ _ aA
 go_enter func166,ntmps166
 go_wp2_with fail
 go_fit (M _ G ?hc)
 case hc=>exactλo E a=>S E (ah G a) (by rw[a.cell (p:=⟨w.heap.size+1,0,none⟩) aA,O.cell];rfl) (bW O.lt a.size) o
 rintro e Y ⟨v,z,rfl,c,q,d,j,hv,P,Q,a⟩
 subst hv
 obtain⟨⟨F,t2⟩,T,J,y⟩:=p'
 unfold mo
 dsimp only at *
 obtain⟨r,f⟩:=aw T.length
 obtain⟨u,g⟩:=aw J.length
 rw[<-f]at P
 rw[<-g]at Q
 rw[<-f, <-g]
 obtain⟨HK,HL⟩:=av f g
 clear f g
 have R:=W.ah a
 obtain⟨bN,cj,cu⟩:=ag.aF R
 obtain⟨iU,eN,lR,N⟩:=bh (P.bL G.size) (Q.bL G.size) (ah G a) R
 clear P Q a G W O R M S
 go_wp2_with fail
 have hX:=iK N F t2 (.slice c r q) (.slice d u j) y
 have nB:=λi=>ag.cell hX i
 have e1:aH _ w 219 2 fL (.slice c r q) T:=dV iU N af F t2 (.slice c r q) (.slice d u j) y
 have e2:aH _ w 222 3 kt (.slice d u j) J:=dV eN N af F t2 (.slice c r q) (.slice d u j) y
 have e3:=fx lR (b:=w.heap.size+1+1) aa F t2 (.slice c r q) (.slice d u j) y
 change bodyPost _ _ _ _ _ (iz Y (w.heap.size+1+1) F t2 (.slice c r q) (.slice d u j) y)
 generalize iz Y (w.heap.size+1+1) F t2 (.slice c r q) (.slice d u j) y=wz at *
 clear bN cj cu
 refine bodyPost_ret (v:=.tuple #[.agg #[F,t2,.slice c r q,.slice d u j,y],z]) ?_ rfl ?_
 .simp[results,results166,go_sem,nB]
 .have K:=HK.Y;have L:=HL.Y;subst K L;exact⟨_,z,rfl,c,q,d,j,rfl,e1,e2,e3⟩
theorem JB(p:Pl)(A:Option Addr)(n:Nat)(B:Option Addr)(m:Nat) :
 Calls prog 201 #[mo p A n B m] w λe w'=>e=.returned (zU p)/\Below w w w':=by
 have a:Hid (zU p=if p.own.tag≠0\/0<p.free.length then 0 else if 0<p.old.length then 6 else 7):=rfl
 generalize zU p=r at *
 unfold mo
 obtain⟨⟨x,t⟩,c,h,s⟩:=p
 dsimp only at *
 generalize c.length=k at *
 generalize h.length=l at *
 by_cases h1:t=0
 .have d1:(t !=0)=false:=by rw[h1];rfl
  by_cases d:0<k
  .have d2:decide ((0:Int)<k)=true:=cg aa;have hr:r=0:=by rw[a.Y,ay (.inr d)]
   exact Yt
  .have f:k=0:=aa;subst f;by_cases b:0<l
   .have d3:decide ((0:Int)<l)=true:=cg aa;have hr:r=6:=by rw[a.Y,au aa,ay b]
    exact Yt
   .have g:l=0:=aa;have hr:r=7:=by rw[a.Y,au aa,au b]
    clear h1;subst hr g;go_enter func201,ntmps201;exact Lh
 .have d1:(t !=0)=true:=by simpa using h1
  have hr:r=0:=by rw[a.Y,ay (.inl h1)]
  exact Yt
theorem rE(p:Pl)(A:Option Addr)(n:Nat)(B:Option Addr)(m:Nat)(a:Int) :
 Calls prog 163 #[mo p A n B m,a] w λe w'=>e=.returned (Mo.needs p a)/\Below w w w':=by
 have d:Hid (Mo.needs p a=(decide (0<p.old.length) && (decide (a<=p.old.length) || zU p !=0))):=rfl
 have h:=ae (λq=>JB q p A n B m)
 generalize Mo.needs p a=r at *
 generalize zU p=y at *
 unfold mo at *
 obtain⟨⟨x,t⟩,i,o,s⟩:=p
 dsimp only at *
 generalize i.length=k at *
 generalize o.length=l at *
 by_cases f:0<l
 .have d2:decide ((0:Int)<l)=true:=cg aa;by_cases c:a<=(l:Int)
  .have d3:decide (a<=(l:Int))=true:=cg c;have b:r=true:=by rw[d.Y];simp[f,c]
   subst b;exact Wk
  .have d3:decide (a<=(l:Int))=false:=bF c;have b:r=(y !=0):=by rw[d.Y];simp[f,c]
   subst b;go_enter func163,ntmps163;go_wp2_with fail;go_fit (h _);rintro e u ⟨rfl,g⟩;go_wp2;go_ret;exact⟨rfl,ah (aj (ai w) _) g⟩
 .have j:l=0:=aa;have b:r=false:=by rw[d.Y];simp[f]
  subst b j;exact Wk
end
def oa(start:Int)(n:Nat):List Rf:=(List.range n).map λ(i:Nat)=>⟨start+i,0⟩
theorem D6(start:Int)(n:Nat):oa start (n+1)=oa start n++[⟨start+n,0⟩]:=by unfold oa;rw[List.range_succ,List.map_append];rfl
theorem pH(start:Int)(n:Nat):(oa start n).length=n:=by simp[oa]
theorem Pg(w:World)(start n:Int)(h0:0<=n)(h1:n<=64)(hs:0<=start)(V:start<=1000000) :
 Calls prog 133 #[start,n] w λe w'=>∃v,e=.returned v/\wU (Km start n) w v w':=by
 have a0:¬n<0:=aa
 have a1:¬64<n:=aa
 have y:Hid (Km start n=⟨⟨0,0⟩,oa start n.toNat,[],0⟩):=by unfold Hid Km wP oa;rw[show(min (max n 0) 64).toNat=n.toNat by omega]
 rw[y.Y]
 clear y
 unfold wU mo
 dsimp only
 obtain⟨N,rfl⟩:∃N:Nat,n=(N:Int):=⟨n.toNat,aa⟩
 rw[fR]
 have E:Below w w ((w.alloc vG).alloc vG):=aj (aj (ai w) _) _
 have F:ag ((w.alloc vG).alloc vG) w 73 _:=(ag.new _ _ _).alloc _
 have B:ag ((w.alloc vG).alloc vG) (w.heap.size+1) 73 _:=ag.newAt _ _ _ aA
 obtain⟨J,S,o⟩:=aS E F B
 clear E F B
 go_enter func133,ntmps133
 go_wp2
 go_loopw[10] (λi wr=>∃(j:Nat) (A:Option Addr) (c:Nat),j<=N/\i=j/\Hid (aH wr w 219 2 fL (.slice A j c) (oa start j))/\Hid (Below w w wr)/\Hid (ag wr w 73 #[oZ,oZ,oN,oN,oZ])/\Hid (ag wr (w.heap.size+1) 73 #[oZ,oZ,.slice A j c,oN,oZ])) (λi _=>N-(intOf i).toNat)
 case atStart=>exact⟨0,none,0,aZ _,rfl,aH.nil _ _ _ _ _,J,S,o⟩
 case round =>
  obtain⟨j,A,c,hj,rfl,m,f,g,z⟩:=hrel;obtain⟨C,D,L⟩:=ag.aF z;by_cases U:j<N
  .have r:IntKind.i64.wrap (start+(j:Int))=start+j:=bH _ aa;go_wp2_with(at_builtin;refine bR _ rfl _ _ 70 rfl w 219 2 16 (.agg #[oZ,oZ]) fL oC uU underlying70 sG rfl af _ (oa start j) rfl (m.alloc _) wr 1 1 [⟨start+j,0⟩] rfl rfl ?c4 ?c5 ?c6 ?c7 ?_)
   case c4=>exact Rd.lit wr (fL ⟨start+j,0⟩) _
   case c5=>rw[pH];simp;omega
   case c6=>rw[pH];simp;omega
   case c7=>have:=f.size;simp;omega
   intro v4 w4 k h t;clear t;rw[<-D6]at k;obtain⟨H,M,d⟩:=k.shape;rw[pH]at d;subst d;have s:=f.size;have l:=m.alloc (.cells #[.int .i64 (start+j),oZ] 219);have q:=z.alloc (.cells #[.int .i64 (start+j),oZ] 219);have u:=g.alloc (.cells #[.int .i64 (start+j),oZ] 219);have a:=q.grown h (ba l q af);have G:=u.grown h (ba l u af);have b:=aH.aW l (aj f (.cells #[.int .i64 (start+j),oZ] 219)) h (by simp;omega) (aR _);obtain⟨Z,DY,-⟩:=ag.aF a;obtain⟨W,x,X,R⟩:=bh k a G b;clear k h l q u a G b C D s r;go_wp2;go_roundw;case rel=>exact⟨j+1,H,M,aa,by go_num,bu W x af _ _,R.setCell (p:=⟨w.heap.size+1,2,none⟩) (bM _) _,X.b9 (p:=⟨w.heap.size+1,2,none⟩) (by show w≠w.heap.size+1;omega) _,x.bp 2 _⟩
   case measure=>simp[intOf];omega
  .have I:N=j:=aa;subst I;obtain⟨K,O,P⟩:=ag.aF g;go_wp2_with fail;have T:=iK g oZ oZ (.slice A N c) oN oZ;have Y:=λi=>ag.cell T i;have r:aH _ w 219 2 fL (.slice A N c) (oa start N):=dV m g af oZ oZ (.slice A N c) oN oZ;have Q:=fx f (aR _) oZ oZ (.slice A N c) oN oZ;change bodyPost _ _ _ _ _ (iz wr w oZ oZ (.slice A N c) oN oZ);generalize iz wr w oZ oZ (.slice A N c) oN oZ=wz at *;clear C D K O P L;refine bodyPost_ret (v:=.agg #[oZ,oZ,.slice A N c,oN,oZ]) ?_ rfl ?_
   .simp[results,results133,go_sem,Y]
   .rw[pH];exact⟨_,rfl,A,c,none,0,rfl,r,aH.nil _ _ _ _ _,Q⟩
def j8(c:dG)(A:Option Addr)(n k:Nat):Value:=.agg #[c.kind,c.threads,c.chans,c.cap,c.nodes,c.aP,c.aB,c.tags,c.bw,c.bn,.slice A n k]
theorem yj(w:World)(p:aV c=true)(C:bG c<=1048576)(r:n=c.start.length)(u:bD w .i64 A c.start) :
 Calls prog 93 #[j8 c A n k] w λe w'=>e=.returned oZ/\Below w w w':=by
 unfold j8
 obtain⟨j,l⟩:=av (λw' (d:Below w w w')=>ji w' p r (u.below d) (k:=k)) (λw' (d:Below w w w')=>uX w' p r (u.below d) (k:=k))
 generalize bG c=T at *
 clear p r u
 have i:Below w w (w.alloc (dB c A n k)):=aj (ai w) _
 have f:ag (w.alloc (dB c A n k)) w 24 _:=ag.new _ _ _
 obtain⟨g,o⟩:=av i f
 clear i f
 go_enter func93,ntmps93
 go_wp2_with fail
 go_fit (j _ g)
 rintro e v ⟨rfl,a⟩
 obtain⟨h,q⟩:=av (ah g a) (o.ah a)
 clear a
 obtain⟨s,-,t⟩:=ag.aF q
 go_wp2_with fail
 go_fit (l _ h)
 rintro e x ⟨rfl,b⟩
 have m:=ae (ah h b)
 clear b
 go_wp2
 go_ret
 exact⟨rfl,m⟩
def Wl(k:Cs):Value:=.agg #[k.1,k.2.1,k.2.2]
def JC(i:Int)(w:World)(e:Ending)(a:World):Prop:=e=.returned i/\Below w w a
section
variable(w:World)
theorem TS(a b:Nat)(p r:Int)(E:w.cell? ⟨a,0,none⟩=some p)(F:w.cell? ⟨b,0,none⟩=some r)(u:a<w.heap.size)(C:b<w.heap.size)(k:Cs) :
 Calls prog 293 #[Wl k,.pointer a,.pointer b] w (vW (k.1==p && k.2.1==r) w):=by
 unfold Wl
 obtain⟨c,d,e⟩:=k
 dsimp only
 rcases h:(c==p)with _|_
 .go_enter func293,ntmps293;exact Lh
 .go_enter func293,ntmps293;go_wp2;go_ret;exact⟨bK aA,aj (ai w) _⟩
theorem Yu(a:Nat)(r:Int)(C:w.cell? ⟨a,0,none⟩=some r)(u:a<w.heap.size)(k:Cs) :
 Calls prog 284 #[Wl k,.pointer a] w (vW (k.2.1==r) w):=by
 unfold Wl
 go_enter func284,ntmps284
 exact Lh
theorem Yv(a:Nat)(p:Int)(u:w.cell? ⟨a,0,none⟩=some p)(r:a<w.heap.size)(k:Cs) :
 Calls prog 281 #[Wl k,.pointer a] w (vW (k.2.1==p) w):=by
 unfold Wl
 go_enter func281,ntmps281
 exact Lh
theorem ym(f:FuncId)(u:Array Value)(a b:Nat)(F:(f=293/\u=#[.pointer a,.pointer b])\/(f=284/\u=#[.pointer a])\/(f=281/\u=#[.pointer a]))(p:Cs->Bool)(r:∀(k:Cs) (t:World),Below w w t->Calls prog f (#[Wl k]++u) t (vW (p k) t))(A:Option Addr)(m:Nat)(xs:List Cs)(n:Nat)(C:n=xs.length)(E:cN w bj A xs)(J:n<=100000) :
 Calls prog 280 #[.slice A n m,.func (.func f) #[] u] w (JC (il p xs) w):=by
 obtain⟨HN,B,v⟩:=aS C E r
 clear C E r
 unfold Wl at v
 rcases F with⟨rfl,rfl⟩|⟨rfl,rfl⟩|⟨rfl,rfl⟩
 all_goals
  go_enter func280,ntmps280;go_wp2;go_loopw[5,8] (λ_ i wr=>∃k:Nat,k<=n/\i=k/\Hid (Below w w wr)/\Hid (∀(j:Nat) (y),j<k->xs[j]?=some y->p y=false)) (λ_ i _=>n-(intOf i).toNat);case atStart=>exact⟨0,aZ _,rfl,ai w,λj _ h=>absurd h (Nat.not_lt_zero _)⟩
  case round =>
   obtain⟨k,I,rfl,HB,HX⟩:=hrel;by_cases hlt:k<n
   .obtain⟨H,z,D,(x:Hid _),hcell⟩:=cN.at_ cM af (B.below HB) (i:=k) (by rw[<-HN.Y];exact hlt);have o:=hcell 0 _ rfl;have q:=hcell 1 _ rfl;have s:=hcell 2 _ rfl;simp only[add_zero]at o;rw[add_lit _ _ af]at q s;subst D;clear hcell;have r:=ae (v z wr HB);rcases d:p z with _|_
    .have g:=ae d;rw[d]at r;clear d;go_wp2_with fail;refine r.mono ?_;rintro e G ⟨rfl,c⟩;have l:=ae (ah HB c);clear c o q s;go_wp2;go_roundw;case rel=>exact⟨k+1,aa,by go_num,l,qw x HX g⟩
     case measure=>simp[intOf];omega
    .have g:=ae d;rw[d]at r;clear d;go_wp2_with fail;refine r.mono ?_;rintro e G ⟨rfl,c⟩;have l:=ae (ah HB c);clear c o q s;go_wp2;go_ret;rw[xf x.Y HX.Y g.Y];exact⟨rfl,l⟩
   .exact mk4
end
def wX(a p:Int)(k:Cs):Bool:=k.1==a && k.2.1==p
def Af(x:Wt)(a p:Int):Int:=max (il (wX a p) x.cases) 0
theorem TT(h:mh x dir hd=some i):Af x dir hd=i:=by
 unfold mh at h;split at h
 .unfold Af il;have:x.cases.findIdx? (wX dir hd)=some i:=h;rw[this];dsimp only;omega
 .cases h
theorem Yw(x:Wt)(a p:Int):(mh x a p).isSome=(decide (0<=il (wX a p) x.cases) && x.on):=by
 unfold mh il;cases x.on
 .simp
 .rw[ay rfl,Bool.and_true];have e:x.cases.findIdx? (λc=>c.1==a && c.2.1==p)=x.cases.findIdx? (wX a p):=rfl;rw[e];cases x.cases.findIdx? (wX a p)with
  |none=>rfl
  |some i=>simp
theorem Yx(p:α->Bool)(a:List α):-1<=il p a/\il p a<=a.length:=by
 unfold il;cases h:a.findIdx? p with
 |none=>dsimp only;omega
 |some i=>rw[List.findIdx?_eq_some_iff_getElem]at h;obtain⟨b,_⟩:=h;dsimp only;omega
section
variable(w:World)
theorem TU(x:Wt)(B:Option Addr)(u d:Nat)(E:u=x.cases.length)(M:u<=100000)(C:cN w bj B x.cases)(a p:Int) :
 Calls prog 288 #[.agg #[x.on,x.ak,x.seq,.slice B u d],a,p] w λe w'=>e=.returned (.tuple #[(Af x a p),.bool (mh x a p).isSome])/\Below w w w':=by
 obtain⟨y,F,A⟩:=aS (λg (f:Below w w g) G=>ym g 293 #[.pointer (some ⟨w.heap.size+1,0,none⟩),.pointer (some ⟨w.heap.size+1+1,0,none⟩)] (w.heap.size+1) (w.heap.size+1+1) (.inl ⟨rfl,rfl⟩) (wX a p) G B d x.cases u E (C.below f) M) (λg I J K L k=>TS g (w.heap.size+1) (w.heap.size+1+1) a p I J K L k) (Yw x a p)
 have O:=Yx (wX a p) x.cases
 unfold Af
 generalize(mh x a p).isSome=r at *
 generalize il (wX a p) x.cases=i at *
 obtain⟨N,q⟩:=aw (max i 0)
 rw[<-q]
 have z:=ae q
 clear q
 generalize x.on=j at *
 generalize x.ak=n at *
 generalize x.seq=m at *
 clear C E
 have o:Below w w (((w.alloc (.cells #[j,n,m,.slice B u d] 99)).alloc (.cells #[a] 3)).alloc (.cells #[p] 3)):=aj (aj (aj (ai w) _) _) _
 have v:ag (((w.alloc (.cells #[j,n,m,.slice B u d] 99)).alloc (.cells #[a] 3)).alloc (.cells #[p] 3)) w 99 _:=((ag.new _ _ _).alloc _).alloc _
 have t:ag (((w.alloc (.cells #[j,n,m,.slice B u d] 99)).alloc (.cells #[a] 3)).alloc (.cells #[p] 3)) (w.heap.size+1) 3 _:=(ag.newAt _ _ _ aA).alloc _
 have b:ag (((w.alloc (.cells #[j,n,m,.slice B u d] 99)).alloc (.cells #[a] 3)).alloc (.cells #[p] 3)) (w.heap.size+1+1) 3 _:=ag.newAt _ _ _ aA
 go_enter func288,ntmps288
 go_wp2_with fail
 go_fit (y _ o ?hc)
 case hc=>exactλk g f=>F g ((t.ah f).cell 0) ((b.ah f).cell 0) (t.ah f).lt (b.ah f).lt k
 rintro e R ⟨rfl,c⟩
 have h:=v.ah c
 obtain⟨P,-,Q⟩:=ag.aF h
 have D:=ae (ah o c)
 clear c v t b h o y F
 by_cases l:0<=i
 .have d1:decide (0<=i)=true:=cg l;have C:r=j:=by rw[A.Y];simp[l]
  subst C;have H:¬i<0:=aa;go_wp2;go_region;all_goals
   go_wp2;go_ret2;have s:N=i:=by have:=z.Y;omega
   subst s;exact⟨rfl,D.drew⟩
 .have d1:decide (0<=i)=false:=bF l;have C:r=false:=by rw[A.Y];simp[l]
  subst C;have H:i<0:=aa;go_wp2;go_region;all_goals
   go_wp2;go_ret2;have s:N=0:=by have:=z.Y;omega
   subst s;exact⟨rfl,D.drew⟩
def jy(l:List Wt)(a p:Int)(k:Nat)(T W:Int)(r:Bool):Prop:=r=(fS l a p k).isSome/\∀t i,fS l a p k=some (t,i)->T=t/\W=i/\t<k
theorem jy.none_{l:List Wt}(h:jy l dir hd k T W ok)(r:l[k]?=some x)(p:(mh x dir hd).isSome=false):jy l dir hd (k+1) T W ok:=by
 have e:fS l dir hd (k+1)=fS l dir hd k:=by
  show(match l[k]? with|none=>_|some w=>_)=_;rw[r];dsimp only;cases d:mh x dir hd with
  |none=>rfl
  |some i=>rw[d]at p;cases p
 unfold jy;rw[e];exact⟨h.1,λt i f=>by obtain⟨a,b,c⟩:=h.2 t i f;exact⟨a,b,aa⟩⟩
theorem jy.TV{l:List Wt}(h:jy l dir hd k T W ok)(C:l[k]?=some x)(u:(mh x dir hd).isSome=true)(r:ok=true->∀t:Nat,T=t->x.ak<(l.getD t ⟨false,0,0,[]⟩).ak):jy l dir hd (k+1) k (Af x dir hd) true:=by
 obtain⟨i,d⟩:=Option.isSome_iff_exists.1 u
 have e:fS l dir hd (k+1)=some (k,i):=by
  show(match l[k]? with|none=>_|some w=>_)=_;rw[C];dsimp only;rw[d];dsimp only;cases c:fS l dir hd k with
  |none=>rfl
  |some p=>obtain⟨t,j⟩:=p;dsimp only;have a:=h.1;rw[c]at a;rw[ay (r a t (h.2 t j c).1)]
 unfold jy
 rw[e]
 refine⟨rfl,λt j b=>?_⟩
 injection b with b;injection b with a h2
 subst a h2
 exact⟨rfl,TT d,aa⟩
theorem jy.keep{l:List Wt}(h:jy l dir hd k T W true)(r:l[k]?=some x)(u:∀t:Nat,T=t->¬x.ak<(l.getD t ⟨false,0,0,[]⟩).ak):jy l dir hd (k+1) T W true:=by
 cases g:mh x dir hd with
 |none=>exact h.none_ r (by rw[g];rfl)
 |some i =>
  obtain⟨p,d⟩:=Option.isSome_iff_exists.1 h.1.symm;obtain⟨t,j⟩:=p;have e:fS l dir hd (k+1)=some (t,j):=by show(match l[k]? with|none=>_|some w=>_)=_;rw[r];dsimp only;rw[g];dsimp only;rw[d];dsimp only;rw[au (u t (h.2 t j d).1)]
  unfold jy;rw[e];refine⟨rfl,λn m f=>?_⟩;injection f with f;injection f with h1 h2
  subst h1 h2;obtain⟨a,b,c⟩:=h.2 t j d;exact⟨a,b,aa⟩
def Pk(l:List Wt)(a p:Int)(w:World)(e:Ending)(r:World):Prop:=∃T W ok,e=.returned (.tuple #[.int .i64 T,.int .i64 W,.bool ok])/\jy l a p l.length T W ok/\Below w w r
theorem kZ(A:Option Addr)(c:Nat)(r:List Wt)(hn:n=r.length)(hl:n<=100000)(hr:ez w A r)(Z:∀x∈r,x.cases.length<=100000)(a u:Int) :
 Calls prog 277 #[.slice A n c,a,u] w (Pk r a u w):=by
 obtain⟨G,HC,S⟩:=aS hn Z (λw' (L:Below w w w') (j:Nat) (x:Wt) o=>ez.row (hr.gK aI L) (j:=j) (x:=x) o)
 clear hn hr Z
 go_enter func277,ntmps277
 go_wp2
 go_loopw[6,7,8,15] (λtt ww p i wr=>∃(k:Nat) (T W:Int) (b:Bool),k<=n/\i=k/\tt=T/\ww=W/\p=b/\Hid (jy r a u k T W b)/\Hid (Below w w wr)) (λ_ _ _ i _=>n-(intOf i).toNat)
 case atStart=>exact⟨0,0,0,false,aZ _,rfl,rfl,rfl,rfl,⟨rfl,λt i h=>by cases h⟩,ai w⟩
 case round =>
  obtain⟨k,T,W,p,hk,rfl,rfl,rfl,rfl,g,D⟩:=hrel;by_cases N:k<n
  .obtain⟨x,o⟩:∃x,r[k]?=some x:=⟨_,cq (by rw[<-G.Y];exact N)⟩
   obtain⟨ad,B,d,hA,M,pS,c0,c1,c2,X⟩:=S.Y wr D k x o;obtain⟨C,E⟩:=av o (λwy (L:Below wr wr wy)=>TU wy x B x.cases.length d rfl (by have:=HC.Y x (bo o);omega) (pS.below L) a u);subst hA;clear o M pS;generalize x.cases.length=V at E X;obtain⟨I,K⟩:=aw (Af x a u);obtain⟨is,J⟩:=aw ((mh x a u).isSome);rw[<-K, <-J]at E;obtain⟨s,H⟩:=av K J.symm;clear K J;go_wp2_with fail;go_fit (E _ (aj (ai wr) _));rintro e w2 ⟨rfl,l⟩;have Y:=(ag.new wr 99 #[x.on,x.ak,x.seq,.slice B V d]).ah l;obtain⟨cU,-,eB⟩:=ag.aF Y;have z:=ae (ah (ah D (aj (ai wr) (.cells #[x.on,x.ak,x.seq,.slice B V d] 99))) l);clear l Y c0 c1 c2 X;cases is with
   |false =>
    go_wp2_with fail;go_quiet(fail);go_wp2;go_roundw;case rel=>exact⟨k+1,T,W,p,aa,by go_num,rfl,rfl,rfl,g.none_ C H,bZ z _⟩
    case measure=>simp[intOf];omega
   |true =>
    cases p with
    |false =>
     go_wp2_with fail;go_quiet(fail);go_wp2;go_roundw;case rel=>exact⟨k+1,k,I,true,aa,by go_num,rfl,rfl,rfl,s.Y▸g.TV C H (λh=>by cases h),bZ z _⟩
     case measure=>simp[intOf];omega
    |true =>
     obtain⟨⟨t,i0⟩,m⟩:=Option.isSome_iff_exists.1 g.1.symm;obtain⟨hT,hW,uw⟩:=g.2 t i0 m;obtain⟨y,P⟩:∃y,r[t]?=some y:=⟨_,cq (by rw[<-G.Y];omega)⟩
     obtain⟨a6,_,_,R,_,_,_,q1,_⟩:=S.Y w2 z t y P;injection R with R
     subst R hT;have aq:=ae m;have U:Hid ((r.getD t ⟨false,0,0,[]⟩)=y):=by unfold Hid;rw[ew,P];rfl
     clear m P hW;by_cases q:x.ak<y.ak
     .have d1:decide (x.ak<y.ak)=true:=cg q;have Q:Hid (∀f:Nat,(t:Int)=f->x.ak<(r.getD f ⟨false,0,0,[]⟩).ak):=by
       intro f O;have e:f=t:=aa;rw[e,U.Y];exact q
      clear q;go_wp2_with fail;go_quiet(fail);go_wp2;go_roundw;case rel=>exact⟨k+1,k,I,true,aa,by go_num,rfl,rfl,rfl,s.Y▸g.TV C H (λ_=>Q),bZ z _⟩
      case measure=>simp[intOf];omega
     .have d1:decide (x.ak<y.ak)=false:=bF q;have Q:Hid (∀f:Nat,(t:Int)=f->¬x.ak<(r.getD f ⟨false,0,0,[]⟩).ak):=by
       intro f O;have e:f=t:=aa;rw[e,U.Y];exact q
      clear q;go_wp2_with fail;go_quiet(fail);go_wp2;go_roundw;case rel=>exact⟨k+1,t,W,true,aa,by go_num,rfl,rfl,rfl,g.keep C (λf O=>Int.not_lt.2 (Q f O)),bZ z _⟩
      case measure=>simp[intOf];omega
  .have rz:k=r.length:=by have:=G.Y;omega
   have F:=ae rz;clear rz;go_wp2;refine bodyPost_ret (v:=.tuple #[T,W,p]) ?_ rfl ?_
   .simp[results,results277,go_sem]
   .have hf:=g.Y;rw[F.Y]at hf;exact⟨T,W,p,rfl,hf,D⟩
end
theorem AX(a:α->α->Bool)(x:α):∀(Q P:List α),(∀q∈Q,a x q=true)->gJ a x (Q++P)=Q++gJ a x P:=by
 intro Q;induction Q with
 |nil=>intro P _;rfl
 |cons q Q c=>intro P h;show(if a x q=true then q::gJ a x (Q++P)else x::q::(Q++P))=_;rw[ay (h q List.mem_cons_self),c P (λy b=>h y (List.mem_cons_of_mem _ b))];rfl
theorem Lo(a:α->α->Bool)(x:α)(P:List α)(h:∀y b,P=y::b->a x y=false):gJ a x P=x::P:=by
 rcases P with _|⟨y,P⟩
 .rfl
 .show(if a x y=true then _ else _)=_;rw[au (by rw[h y P rfl];decide)]
theorem yn(a:α->α->Bool)(l:List α)(x:α):eA a (l++[x])=(gJ a x (eA a l).reverse).reverse:=by unfold eA;rw[List.foldl_append,List.reverse_reverse];rfl
theorem Gx(a:α->α->Bool)(l P Q:List α)(x:α)(h:eA a l=P++Q)(r:∀q∈Q,a x q=true)(p:∀y b,P=b++[y]->a x y=false):eA a (l++[x])=P++x::Q:=by rw[yn,h,List.reverse_append,AX a x _ _ (λq d=>r q (List.mem_reverse.1 d)),Lo a x P.reverse (λy b c=>p y b.reverse (by rw[<-List.reverse_reverse P,c];simp))];simp
theorem xY(a:α->α->Bool)(x:α):∀l:List α,(gJ a x l).length=l.length+1:=by
 intro l;induction l with
 |nil=>rfl
 |cons y l b =>
  show(if a x y=true then y::gJ a x l else x::y::l).length=_;split
  .simp[b]
  .simp
theorem tX(a:α->α->Bool)(x z:α):∀l:List α,z∈gJ a x l->z=x\/z∈l:=by
 intro l;induction l with
 |nil=>intro h;exact .inl (List.mem_singleton.1 h)
 |cons y l b =>
  intro h;have h:z∈(if a x y=true then y::gJ a x l else x::y::l):=h;split at h
  .rcases List.mem_cons.1 h with h|h
   .exact .inr (h▸List.mem_cons_self)
   .rcases b h with h|h
    .exact .inl h
    .exact .inr (List.mem_cons_of_mem _ h)
  .rcases List.mem_cons.1 h with h|h
   .exact .inl h
   .exact .inr h
theorem AY(p:α->α->Bool):∀(l a:List α),(l.foldl (λa x=>gJ p x a) a).length=l.length+a.length/\∀z,z∈l.foldl (λa x=>gJ p x a) a->z∈l\/z∈a:=by
 intro l;induction l with
 |nil=>intro a;exact⟨aA,λz h=>.inr h⟩
 |cons x l e =>
  intro a;obtain⟨b,c⟩:=e (gJ p x a);refine⟨by rw[List.foldl_cons,b,xY];simp;omega,λz d=>?_⟩;rcases c z d with h|h
  .exact .inl (List.mem_cons_of_mem _ h)
  .rcases tX p x z a h with h|h
   .exact .inl (h▸List.mem_cons_self)
   .exact .inr h
theorem jl(a:α->α->Bool)(l:List α):(eA a l).length=l.length:=by unfold eA;rw[List.length_reverse,(AY a l []).1];simp
theorem mK(a:α->α->Bool)(l:List α)(h:z∈eA a l):z∈l:=by
 unfold eA at h;rcases(AY a l []).2 z (List.mem_reverse.1 h)with h|h
 .exact h
 .cases h
structure Lp (w wr:World) (base g n c:Nat) (L:List Int):Prop where
 own:aK wr base 3 .i64 (.slice (some ⟨g,0,none⟩) n c) L
 rest:∀b,b<w.heap.size->b≠g->wr.heap[b]?=w.heap[b]?
 ext:Below base w wr
 size:w.heap.size<=wr.heap.size
 low:base<=g
 lt:g<w.heap.size
theorem Lp.drew{c:Nat}{L:List Int}(h:Lp w wr base g n c L)(q:Nat):Lp w (wr.drewN q) base g n c L:=⟨aK.ah h.own (bZ (ai wr) q),h.rest,bZ h.ext q,h.size,h.low,h.lt⟩
theorem Lp.bp{c:Nat}{L:List Int}(h:Lp w wr base g n c L)(i:Nat)(z:Int):Lp w (wr.setCell ⟨g,i,none⟩ (.int .i64 z)) base g n c (L.set i z):=⟨h.own.stored i z,λb d a=>(dE _ _ _ _ a).trans (h.rest b d a),h.ext.setCell (p:=⟨g,i,none⟩) h.low _,by simp[World.setCell];exact h.size,h.low,h.lt⟩
structure Lq {α:Type} (lt:α->α->Bool) (D:List α) (k j:Nat) (L:List α):Prop where
 ex:∃(P Q:List α) (x:α),D[k]?=some x/\Mo.eA lt (D.take k)=P++Q/\P.length=j/\(∀q∈Q,lt x q=true)/\L=P++x::(Q++D.drop (k+1))
theorem Lq.start{lt:α->α->Bool}(a:k<D.length):Lq lt D k k (eA lt (D.take k)++D.drop k):=by refine⟨eA lt (D.take k),[],D[k],cq a,aA,by rw[jl,fK];omega,aA,?_⟩;rw[List.drop_eq_getElem_cons a];rfl
theorem Lq.read{lt:α->α->Bool}(h:Lq lt D k (j+1) L):∃x y,D[k]?=some x/\L[j+1]?=some x/\L[j]?=some y/\y∈D:=by
 obtain⟨P,Q,x,b,c,d,f,a⟩:=h.ex;have e:P[j]?=some P[j]:=cq aa;refine⟨x,P[j],b,?_,?_,?_⟩
 .rw[a,List.getElem?_append_right aa,d,Nat.sub_self];rfl
 .rw[a,List.getElem?_append_left aa];exact e
 .have:P[j]∈eA lt (D.take k):=by rw[c];exact List.mem_append_left _ (List.getElem_mem _)
  exact List.mem_of_mem_take (mK lt _ this)
theorem Lq.down{lt:α->α->Bool}{x:α}(h:Lq lt D k (j+1) L)(r:L[j+1]?=some x)(u:L[j]?=some y)(p:lt x y=true):Lq lt D k j ((L.set (j+1) y).set j x):=by
 obtain⟨P,Q,o,i,l,d,m,e⟩:=h.ex;obtain⟨a,z,rfl⟩:∃a z,P=a++[z]:=⟨P.dropLast,P.getLast (by intro g;rw[g]at d;simp at d),(List.dropLast_concat_getLast _).symm⟩
 have n:a.length=j:=by simp at d;exact d
 subst n;have b:L[a.length+1]?=some o:=by rw[e,List.getElem?_append_right aA];simp
 have c:L[a.length]?=some z:=by rw[e,List.append_assoc,List.getElem?_append_right (aR _)];simp
 rw[r]at b;rw[u]at c;injection b with b
 injection c with c
 subst b c;refine⟨a,y::Q,x,i,by rw[l];simp,rfl,λq f=>?_,?_⟩
 .rcases List.mem_cons.1 f with rfl|f
  .exact p
  .exact m q f
 .rw[e];simp
theorem Lq.stop{lt:α->α->Bool}(h:Lq lt D k j L)(p:j=0\/∃x y,0<j/\L[j]?=some x/\L[j-1]?=some y/\lt x y=false):L=eA lt (D.take (k+1))++D.drop (k+1):=by
 obtain⟨P,Q,x,m,n,a,o,d⟩:=h.ex;have e:D.take (k+1)=D.take k++[x]:=eM m;rw[e,Gx lt (D.take k) P Q x n o ?_,d]
 .simp
 .intro y i f;rcases p with p|⟨t,u,r,q,l,g⟩
  .rw[p]at a;rw[f]at a;simp at a
  .have s:i.length+1=j:=by rw[f]at a;simpa using a
   have b:L[j]?=some x:=by rw[d,List.getElem?_append_right aa,a,Nat.sub_self];rfl
   have c:L[j-1]?=some y:=by rw[d,f,List.append_assoc,List.getElem?_append_right aa];simp[show j-1-i.length=0 by omega]
   rw[q]at b;rw[l]at c;injection b with b
   injection c with c
   rw[<-b, <-c];exact g
def Pn(P:Program)(f:FuncId)(a:Nat)(r:Int->Int->Int)(D:List Int)(w:World)(g:Nat):Prop :=∀(c:World),(∀b,b<w.heap.size->b≠g->c.heap[b]?=w.heap[b]?)->∀x y,x∈D->y∈D->Calls P f #[.int .i64 x,.int .i64 y,.pointer (some ⟨a,0,none⟩)] c λe w'=>e=.returned (.int .i64 (r x y))/\iP c w'
def Po(w:World)(base g n c:Nat)(L:List Int)(e:Ending)(a:World):Prop:=e=.returned (.tuple #[])/\Lp w a base g n c L
section
variable(w:World)
theorem Lr(u:Nat)(r:Int->Int->Int){c:Nat}(D:List Int)(h:Lp w w base g n c D)(U:n<=100000)(p:Pn prog 286 u r D w g) :
 Calls prog 294 #[.slice (some ⟨g,0,none⟩) n c,.int .i64 0,.int .i64 n,.func (.func 286) #[] #[.pointer (some ⟨u,0,none⟩)]] w (Po w base g n c (eA (λa b=>decide (r a b<0)) D)):=by
 have z:=ae p
 have HN:Hid (n=D.length):=h.own.cap.1
 have J:=ae h
 obtain⟨t,e⟩:=aw (λa b=>decide (r a b<0))
 rw[<-e]
 have H:=ae e
 clear p h e
 go_enter func294,ntmps294
 go_wp2
 go_loopw[8] (λi wr=>∃k:Nat,1<=k/\k<=n+1/\i=.int .i64 k/\Hid (Lp w wr base g n c (eA t (D.take k)++D.drop k))) (λi _=>n+1-(intOf i).toNat)
 case atStart =>
  refine⟨1,aR _,aa,rfl,?_⟩;have:eA t (D.take 1)++D.drop 1=D:=by
   rcases D with _|⟨x,D⟩
   .rfl
   .rfl
  unfold Hid;rw[this];exact J.Y
 case round =>
  obtain⟨k,V,R,rfl,HS⟩:=hrel;by_cases e:k<n
  .go_wp2_with fail;obtain⟨I,B⟩:∃I:World,I=wr:=⟨_,rfl⟩
   subst B;go_loopw[9] (λj wr=>∃(m:Nat) (L:List Int),m<=k/\j=.int .i64 m/\Hid (Lq t D k m L)/\Hid (Lp w wr base g n c L)) (λj _=>(intOf j).toNat);case atStart=>exact⟨k,_,aR _,rfl,Lq.start (by rw[<-HN.Y];exact e),HS⟩
   case round =>
    obtain⟨m,L,S,rfl,v,d⟩:=hrel;rcases m with _|m
    .go_wp2_with fail;go_quiet(fail);go_wp2;go_roundw;case rel =>
      refine⟨k+1,aa,aa,by go_num,?_⟩;rw[<-v.Y.stop (.inl rfl)];exact d.drew _
     case measure=>simp[intOf];omega
    .obtain⟨x,y,q,C,E,s⟩:=v.read;have O:=aK.cell d.own C;have W:=aK.cell d.own E;have T:=aK.frozen d.own (m+1);have M:=aK.frozen d.own m;have K:=bW d.lt d.size;have P:IntKind.i64.wrap ((m:Int)+1-1)=m:=by rw[bH _ aa];omega
     have p:=ae (z);unfold Pn at p;have N:m+1<n:=aa;obtain⟨F,G,l,o⟩:=bh C E (bo q) s;clear q C E s;have t1:(0:Int)<=(m:Int)+1:=aa;have t2:((m:Int)+1).toNat=m+1:=aa;have t3:(m:Int)+1<(n:Int):=aa;have Q:IntKind.i64.wrap (m:Int)=m:=bH _ aa;have t4:(m:Int)<(n:Int):=aa;have t5:(0:Int)<=(m:Int):=aa;by_cases f:r x y<0
     .have d1:decide (r x y<0)=true:=cg f;have A:Hid (t x y=true):=by unfold Hid;rw[H.Y];exact d1
      clear f;go_wp2_with fail;go_quiet((go_at_call 286;exact iP.quiet (p _ (d.drew _).rest x y l o)));go_wp2;go_region;all_goals
       go_wp2;go_roundw;case rel=>exact⟨m,_,aa,rfl,v.down F G A,((d.drew _).bp (m+1) y).bp m x⟩
       case measure=>simp[intOf]
     .have d1:decide (r x y<0)=false:=bF f;have A:Hid (t x y=false):=by unfold Hid;rw[H.Y];exact d1
      clear f;go_wp2_with fail;go_quiet((go_at_call 286;exact iP.quiet (p _ (d.drew _).rest x y l o)));go_wp2;go_roundw;case rel=>refine⟨k+1,aa,aa,by go_num,?_⟩;rw[<-v.Y.stop (.inr ⟨x,y,Nat.succ_pos m,F.Y,G.Y,A.Y⟩)];exact d.drew _
      case measure=>simp[intOf];omega
  .exact Wn
theorem Gy(p:Nat)(r:Int->Int->Int){c:Nat}(D:List Int)(h:Lp w w base g n c D)(C:n<=19)(u:Pn prog 286 p r D w g) :
 Calls prog 291 #[.slice (some ⟨g,0,none⟩) n c,.int .i64 n,.func (.func 286) #[] #[.pointer (some ⟨p,0,none⟩)]] w (Po w base g n c (eA (λa b=>decide (r a b<0)) D)):=by
 have HI:=ae (Lr w p r D h aa u)
 clear u h
 have d:¬(20:Int)<=n:=aa
 have e:¬(20:Int)<n:=aa
 go_enter func291,ntmps291
 exact aaY
theorem Pp(r:Nat)(u:Int->Int->Int){c:Nat}(D:List Int)(h:Lp w w base g n c D)(E:n<=19)(C:Pn prog 286 r u D w g) :
 Calls prog 285 #[.slice (some ⟨g,0,none⟩) n c,.func (.func 286) #[] #[.pointer (some ⟨r,0,none⟩)]] w (Po w base g n c (eA (λa b=>decide (u a b<0)) D)):=by
 have HI:=ae (Gy w r u D h E C)
 clear C h
 go_enter func285,ntmps285
 exact Wo
theorem TX(x y:Int):Calls prog 287 #[.int .i64 x,.int .i64 y] w λe w'=>e=.returned (.int .i64 (if x<y then -1 else if y<x then 1 else 0))/\w=w':=by
 have HZ:=ae (λz=>(by
  go_enter func292,ntmps292;go_wp2;go_ret;exact⟨rfl,rfl⟩:Calls prog 292 #[.int .i64 z] w λe w'=>e=.returned (.bool false)/\w=w'))
 by_cases a:x<y
 .rw[ay a];exact Yz
 .rw[au a];by_cases b:y<x
  .rw[ay b];exact Yz
  .rw[au b];exact Yz
end
end Go.Proofs.YtpfbfhfcbdbglaaGreat
