/- Walks and plain facts. No condition. -/
import Derived.Test.YtjcjjiieblineaaGreatPd
namespace Go.Proofs.YtjcjjiieblineaaGreat
open Go.RowKit Go.Proofs.Tryz Mo
set_option maxHeartbeats 8000000
set_option maxRecDepth 100000
set_option linter.all false
variable {g:Nat}{l:List Int}{a0 a1 a2 a3 a4:Value}
def pZ(x:Int):Int×Int×Int:=(x%256,x/256%65536,x/4294967296)
section
variable(w:World)
theorem OV{a w:World}(h:Below a a w)(b:a.heap.size<=g)(u0 u1 u2 u3 u4:Value) :
 Below a a (((((w.setCell ⟨g,0,none⟩ u0).setCell ⟨g,1,none⟩ u1).setCell ⟨g,2,none⟩ u2).setCell ⟨g,3,none⟩ u3).setCell ⟨g,4,none⟩ u4) :=
 ((((h.setCell b _).setCell b _).setCell b _).setCell b _).setCell b _
theorem W8{w:World}{t:TypeId}(h:af w g t #[a0,a1,a2,a3,a4])(u0 u1 u2 u3 u4:Value) :
 (w.setCell ⟨g,0,none⟩ u0).cell? ⟨g,0,none⟩=some u0/\((w.setCell ⟨g,0,none⟩ u0).setCell ⟨g,1,none⟩ u1).cell? ⟨g,1,none⟩=some u1 /\
  (((w.setCell ⟨g,0,none⟩ u0).setCell ⟨g,1,none⟩ u1).setCell ⟨g,2,none⟩ u2).cell? ⟨g,2,none⟩=some u2 /\
  ((((w.setCell ⟨g,0,none⟩ u0).setCell ⟨g,1,none⟩ u1).setCell ⟨g,2,none⟩ u2).setCell ⟨g,3,none⟩ u3).cell? ⟨g,3,none⟩=some u3 /\
  (((((w.setCell ⟨g,0,none⟩ u0).setCell ⟨g,1,none⟩ u1).setCell ⟨g,2,none⟩ u2).setCell ⟨g,3,none⟩ u3).setCell ⟨g,4,none⟩ u4).cell? ⟨g,4,none⟩=some u4:=by
 have a:=h.bj 0 u0
 have b:=a.bj 1 u1
 have c:=b.bj 2 u2
 have d:=c.bj 3 u3
 have e:=d.bj 4 u4
 exact⟨by rw[a.cell];rfl,by rw[b.cell];rfl,by rw[c.cell];rfl,by rw[d.cell];rfl,by rw[e.cell];rfl⟩
theorem abx{α:Type}{w:World}{base m:Nat}{e t:TypeId}{f:α->List Value}{A:Option Addr}{n c:Nat}{j:List α}(o:aH w base e m f (.slice A n c) j)(h:af w g t #[a0,a1,a2,a3,a4])(a:e≠t)(u0 u1 u2 u3 u4:Value) :
 dI (((((w.setCell ⟨g,0,none⟩ u0).setCell ⟨g,1,none⟩ u1).setCell ⟨g,2,none⟩ u2).setCell ⟨g,3,none⟩ u3).setCell ⟨g,4,none⟩ u4) f A j:=by
 have q:=o.bO h a 0 u0
 have i:=h.bj 0 u0
 have r:=q.bO i a 1 u1
 have k:=i.bj 1 u1
 have s:=r.bO k a 2 u2
 have l:=k.bj 2 u2
 have u:=s.bO l a 3 u3
 have p:=l.bj 3 u3
 have v:=u.bO p a 4 u4
 obtain⟨x,y,b,d⟩:=v.rd
 injection b with b
 rw[b]
 exact d
def Y7(l:List Int):Int:=l.getD 0 0/256%16
def T9(l:List Int):List (Int×Int×Int):=((l.drop 1).take (Y7 l).toNat).map pZ
def jE(l:List Int):Bool:=decide (l.length=5) && decide (Y7 l<=3) && decide (l.getD 4 0<=4294967295) &&
 (lu (l.getD 0 0%256) (l.getD 0 0/65536%65536) (l.getD 0 0/4294967296) (l.getD 0 0/4096%2==1) (T9 l) (l.getD 4 0)==l)
def qK(l:List Int):Int:=if jE l=true then l.getD 0 0%256 else 0
def qA(l:List Int):Int:=if jE l=true then l.getD 0 0/65536%65536 else 0
def qV(l:List Int):Int:=if jE l=true then l.getD 0 0/4294967296 else 0
def qD(l:List Int):Bool:=if jE l=true then l.getD 0 0/4096%2==1 else false
def qC(l:List Int):List (Int×Int×Int):=if jE l=true then T9 l else[]
def qP(l:List Int):Int:=if jE l=true then l.getD 4 0 else 0
def aby(i f m:Int)(h:Bool)(a:List (Int×Int×Int))(k:Int)(j:Bool)(w:World)(e:Ending)(c:World):Prop:=(∃B d,e=.returned (.tuple #[.agg #[i,f,m,h,.slice B a.length d],k,j])/\dI c bC B a/\∀b,B=some b->a≠[]->w.heap.size<=b.block)/\Below w w c
def zY(l:List Int)(w:World)(e:Ending)(a:World):Prop:=aby (qK l) (qA l) (qV l) (qD l) (qC l) (qP l) (jE l) w e a
theorem zY.no{w a:World}(h:jE l=false)(b:Below w w a):zY l w (.returned (.tuple #[.agg #[oZ,oZ,oZ,false,oN],oZ,false])) a:=by unfold zY qK qA qV qD qC qP;simp only[h,Bool.false_eq_true,if_false];exact⟨⟨none,0,rfl,dI.nil _ _ _,fun c h=>by cases h⟩,b⟩
theorem Gi(h:3<Y7 l):jE l=false:=by unfold jE;rw[bU (p:=Y7 l<=3) aa];simp
theorem KV(h:4294967295<l.getD 4 0):jE l=false:=by unfold jE;rw[bU (p:=l.getD 4 0<=4294967295) aa];simp
theorem KW(h:¬l.length=5):jE l=false:=by unfold jE;rw[bU h];simp
theorem KX(e a j:Int)(c:Bool)(b:List (Int×Int×Int))(f:Int):(lu e a j c b f).length<=17592186044416:=by
 unfold lu;split
 ·rename_i h;have d:=h.1;simp only[bk,cA,bP]at d;simp;omega
 ·simp
theorem KY:(prog.info? 110).map (fun i=>(i.zero,i.size,i.bytes))=some (some (.agg #[oZ,oZ,oZ]),3,24):=by kernel_rfl
theorem zZ(t:Addr)(c:Nat)(a j m o b r q s D:Int)(n:Nat)(lv:5<=c)(cw:w.cell? t=some (.int .u64 a))(Gj:w.cell? ⟨t.block,t.off+4,none⟩=some (.int .u64 b))(cz:t.block<w.heap.size)(AH:Hid (bJ w .u64 (some ⟨t.block,t.off+1,none⟩) [j,m,o,b]))(zC:Hid (bJ w .u64 (some t) [a,j,m,o,b]))(a1:bits BinOp.and IntKind.u64 a 255=r)(a2:0<=r)(a3:r<=255)(a4:bits BinOp.and IntKind.u64 (a/65536) 65535=q)(a5:0<=q)(a6:q<=65535)(a8:a/4294967296=s)(a9:0<=s)(bY:s<=4294967295)(b1:bits BinOp.and IntKind.u64 (a/4096) 1=D)(b3:bits BinOp.and IntKind.u64 (a/256) 15=(n:Int))(h3:n<=3)(cv:0<=b)(h4:b<=4294967295)(cn:0<=a)(hz:∀z∈[a,j,m,o,b],0<=z/\z<18446744073709551616)(a0:a%256=r)(a7:a/65536%65536=q)(N:a/4294967296=s)(b2:a/4096%2=D)(b5:a/256%16=(n:Int)) :
 Calls prog 164 #[.slice (some t) 5 c] w fun e w'=>zY [a,j,m,o,b] w e w':=by
 obtain⟨HZ,A0,A7,A8,B2,B5⟩:=cT hz a0 a7 N b2 b5
 clear hz a0 a7 N b2 b5
 have Ju:decide ((3:Int)<(n:Int))=false:=by simp;omega
 have Ua:decide (4294967295<b)=false:=bU aa
 go_enter func164,ntmps164
 go_wp2
 go_quiet(fail)
 go_wp2_with fail
 rw[Nat.add_sub_cancel_left]
 go_loopw[52] (fun i wr=>∃(k:Nat) (v:Value) (l:List (Int×Int×Int)),k<=n/\i=k /\
  Hid (af wr w 42 #[oZ,oZ,oZ,false,oN]) /\
  Hid (af wr (w.heap.size+1) 42 #[r,q,s,(D==1),v]) /\
  Hid (aH wr w 110 3 bC v l)/\Hid (l.length=k)/\Hid (l=(([j,m,o,b]:List Int).take k).map pZ)/\Below w w wr/\w.heap.size+1<wr.heap.size) (fun i _=>n-(intOf i).toNat)
 case atStart =>
  refine⟨0,_,[],aV _,rfl,?_,?_,aH.nil _ _ _ _ _,rfl,rfl,bV (ak (ak (aj _) _) _) _,?_⟩
  ·exact(((af.new w _ _).alloc _).drewN _)
  ·exact(af.newAt _ _ _ aD).drewN _
  ·simp
 case round =>
  obtain⟨k,v,l,hk,rfl,O,P,G,I,V,R,cF⟩:=hrel;have bR:wr.cell? ⟨w.heap.size+1,4,none⟩=some v:=by rw[af.cell P.Y];rfl
  by_cases tI:k<n
  ·obtain⟨_,x,h,hx,aT⟩:=bJ.at_ (AH.below R) (i:=k) (by simp;omega);injection h with h;subst h
   rw[oP]at aT;have OX:=HZ.Y x (List.mem_cons_of_mem _ (dB hx));obtain⟨d,x1,x2,x3,x4⟩:∃d,bits BinOp.and IntKind.u64 x 255=d/\0<=d/\d<=255/\x%256=d:=⟨_,BJ _ aa aa,aa,aa,rfl⟩
   obtain⟨u,x5,x6,x7,x8⟩:∃u,bits BinOp.and IntKind.u64 (x/256) 65535=u/\0<=u/\u<=65535/\x/256%65536=u:=⟨_,xP _ aa aa,aa,aa,rfl⟩
   obtain⟨E,x9,y1,y2⟩:∃E,x/4294967296=E/\0<=E/\E<=4294967295:=⟨_,rfl,aa,aa⟩
   have hdec:pZ x=(d,u,E):=by unfold pZ;rw[x4,x8,x9]
   obtain⟨M,HX⟩:=av hdec hx;have cO:0<=x:=OX.1;clear hdec hx x4 x8 OX;go_wp2_with(at_builtin;refine cG _ rfl _ _ 40 rfl w 110 3 24 (.agg #[oZ,oZ,oZ]) bC iD uE underlying40 KY rfl ag _ l rfl (G.alloc _) wr 1 1 [(d,u,E)] rfl rfl (Rd.lit wr [d,u,E] _) ?c4 ?c5 ?c6 ?_)
   case c4=>have:=I.Y;simp;omega
   case c5=>have:=I.Y;simp;omega
   case c6=>simp;omega
   intro v2 K hown' Q _;have bz:=(G.alloc _).bh (ak R _) Q (by simp;omega) (aS _);have hsz':w.heap.size+1<K.heap.size:=by have:=Q.size;simp at this;omega
   have F:=(af.alloc O _).grown Q (G.other O ag);have J:=(af.alloc P _).grown Q (G.other P ag);have U:(l++[(d,u,E)]).length=k+1:=by have:=I.Y;simp;omega
   have W:=ae U;obtain⟨y,C,S,_⟩:=hown'.rd;rw[U]at S;subst S;clear U;have cy:K.cell? ⟨w.heap.size+1,4,none⟩=some v:=by rw[af.cell J];rfl
   have Y8:=J.free 4;have Z:=ae (F.bO (p:=⟨w.heap.size+1,4,none⟩) aD (.slice y (k+1) C));have aq:Hid (af (K.setCell ⟨w.heap.size+1,4,none⟩ (.slice y (k+1) C)) (w.heap.size+1) 42 #[r,q,s,(D==1),.slice y (k+1) C]):=af.bj J 4 _;have BO:=ae (hown'.bO J ag 4 (.slice y (k+1) C));clear F J hown' Q;go_wp2;go_roundw;case rel =>
    have bg:Hid (l++[(d,u,E)]=(([j,m,o,b]:List Int).take (k+1)).map pZ):=by rw[Hid,V.Y,gy HX.Y,List.map_append, <-M.Y];rfl
    have f:=bz.setCell (p:=⟨w.heap.size+1,4,none⟩) aD (.slice y (k+1) C);exact⟨k+1,_,_,aa,by go_num,Z,aq,BO,W,bg,f,by simp;omega⟩
   case measure=>simp[intOf];omega
  ·have rE:k=n:=aa;subst rE;have H:l=T9 [a,j,m,o,b]:=by
    rw[V.Y];have e:Y7 [a,j,m,o,b]=(k:Int):=B5.Y;unfold T9;rw[e];rfl
   have Fl:jE [a,j,m,o,b]=(lu r q s (D==1) l b==[a,j,m,o,b]):=by
    unfold jE;rw[eE (p:=Y7 [a,j,m,o,b]<=3) (by have e:Y7 [a,j,m,o,b]=(k:Int):=B5.Y;rw[e];omega),
     eE (p:=([a,j,m,o,b]:List Int).getD 4 0<=4294967295) (by simpa using h4), <-H, <-A0, <-A7, <-A8, <-B2]
    simp
   obtain⟨L,A⟩:=av H Fl;clear H Fl V Ju Ua;have X:=fun i=>af.cell O i;have bo:=fun i=>af.free O i;have Y:=fun i=>af.cell P i;obtain⟨y,C,hv,(lX:Hid _)⟩:=G.rd;rw[I.Y]at hv;subst hv;clear bR;have CALL:=xV wr r q s (D==1) y C l b (by rw[I.Y];omega) lX;rw[I.Y]at CALL;have DA:=ae CALL;clear CALL;have o9:w.heap.size<wr.heap.size:=aa;go_wp2_with fail;go_fit (DA.mono fun _ _ h=>h.J);rintro e K ⟨⟨B,d,rfl,_,uO⟩,f⟩;obtain⟨g,F,J⟩:=aZ (Ow K B (some t) d c (lu r q s (D==1) l b) [a,j,m,o,b] (KX _ _ _ _ _ _) aD uO ((zC.below R).below f)) (O.ai f) (P.ai f);have b7:=fun i=>af.cell F.Y i;have b8:=fun i=>af.free F.Y i;have cd:=fun i=>af.cell J.Y i;have b6:=ae (lX.below f);have ct:w.heap.size<K.heap.size:=by have:=f.size;omega
   clear X bo Y uO;rcases T:(lu r q s (D==1) l b==[a,j,m,o,b])with _|_
   ·rw[T]at g A;clear T;go_wp2_with fail;refine g.mono ?_;rintro e w' ⟨rfl,rfl⟩;go_wp2;refine bodyPost_ret (v:=?_) ?_ rfl ?_;rotate_left
    ·obtain⟨k0,k1,k2,k3,k4⟩:=W8 F.Y oZ oZ oZ false oN;simp[results,results164,go_sem,k0,k1,k2,k3,k4];rfl
    ·exact zY.no A (OV (ai R f) (aS _) _ _ _ _ _)
   ·rw[T]at g A;clear T;go_wp2_with fail;refine g.mono ?_;rintro e w' ⟨rfl,rfl⟩;go_wp2;refine bodyPost_ret (v:=?_) ?_ rfl ?_;rotate_left
    ·obtain⟨k0,k1,k2,k3,k4⟩:=W8 F.Y r q s (D==1) (.slice y k C);simp[results,results164,go_sem,k0,k1,k2,k3,k4];rfl
    ·unfold zY qK qA qV qD qC qP;simp only[A.Y,if_true];have e0:([a,j,m,o,b]:List Int).getD 0 0=a:=rfl;have e4:([a,j,m,o,b]:List Int).getD 4 0=b:=rfl;rw[e0,e4,A0.Y,A7.Y,A8.Y,B2.Y, <-L.Y];refine⟨⟨y,C,by rw[I.Y],?_,fun t ha _=>by subst ha;exact(aX G rfl).1⟩,OV (ai R f) (aS _) _ _ _ _ _⟩;exact abx (G.ai f) F.Y ag _ _ _ _ _
theorem BU(A:Option Addr)(c:Nat)(l:List Int)(hl:l.length<=17592186044416)(W:l.length<=c)(i:∀z∈l,0<=z/\z<18446744073709551616)(m:bJ w .u64 A l) :
 Calls prog 164 #[.slice A l.length c] w fun e X=>zY l w e X:=by
 by_cases q:l.length=5
 ·match l,q with
  |[l0,l1,l2,l3,l4],_ =>
   obtain⟨R,rfl,a⟩:=m 0 (.int .u64 l0) rfl;obtain⟨_,h,t⟩:=m 4 (.int .u64 l4) rfl;injection h with h;subst h
   rw[add_zero]at a;rw[add_lit _ _ ag]at t;have r:=bb a;have f:=i l0 aD;have g:=i l4 aD;obtain⟨G,Y,I⟩:=aZ (bJ.tail m) m i;clear i;obtain⟨d,K,L,M,u⟩:∃d,bits BinOp.and IntKind.u64 l0 255=d/\0<=d/\d<=255/\l0%256=d:=⟨_,BJ _ aa aa,aa,aa,rfl⟩
   obtain⟨b,N,O,P,x⟩:∃b,bits BinOp.and IntKind.u64 (l0/65536) 65535=b/\0<=b/\b<=65535/\l0/65536%65536=b:=⟨_,xP _ aa aa,aa,aa,rfl⟩
   obtain⟨j,y,Q,o⟩:∃j,l0/4294967296=j/\0<=j/\j<=4294967295:=⟨_,rfl,aa,aa⟩
   obtain⟨k,S,B⟩:∃k,bits BinOp.and IntKind.u64 (l0/4096) 1=k/\l0/4096%2=k:=⟨_,Tu _ aa aa,rfl⟩
   obtain⟨n,T,Z,C⟩:∃n:Nat,bits BinOp.and IntKind.u64 (l0/256) 15=(n:Int)/\n<=15/\l0/256%16=(n:Int):=by refine⟨(l0/256%16).toNat,?_,aa,aa⟩;rw[Jb _ aa aa];omega
   obtain⟨D,E,F,H,s⟩:=dh u x y B C;have p:0<=l4:=g.1;have J:0<=l0:=f.1;clear u x B C f g;by_cases h3:3<n
   ·have hno:jE [l0,l1,l2,l3,l4]=false:=by
     exact Gi (by have:=s.Y;show 3<l0/256%16;omega)
    exact abB
   by_cases U:4294967295<l4
   ·have hno:jE [l0,l1,l2,l3,l4]=false:=by
     exact KV (by simpa using U)
    exact abB
   exact zZ w R c l0 l1 l2 l3 l4 d b j k n W a t r G Y K L M N O P y Q o S T aa p aa J I D E F H s
 ·have V:((l.length:Int) !=5)=true:=by simp;omega
  have xp:=ae (KW q);clear q i;go_enter func164,ntmps164;go_wp2;refine bodyPost_ret (v:=?_) ?_ rfl ?_;rotate_left
  ·simp[results,results164,go_sem];rfl
  ·exact zY.no xp (ak (aj _) _)
end
end Go.Proofs.YtjcjjiieblineaaGreat
