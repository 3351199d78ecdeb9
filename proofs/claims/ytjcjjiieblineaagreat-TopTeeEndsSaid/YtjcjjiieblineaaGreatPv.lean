/- Walks and plain facts. No condition. -/
import Derived.Test.YtjcjjiieblineaaGreatPq
import Derived.Test.YtjcjjiieblineaaGreatPu
namespace Go.Proofs.YtjcjjiieblineaaGreat
open Go.RowKit Go.Proofs.Tryz Mo
set_option maxHeartbeats 8000000
set_option maxRecDepth 100000
set_option linter.all false
variable {g t p g5 g6:Nat}{w' wx w5 W0 wB:World}{m':Mm}{o':Sl}{z':Sh}
variable[OW]
section
variable{w:World} {x0:Nat} {A:Option Addr} {n k q:Nat} {x:Mo.Mc} {s:Sx}
theorem zo{w:World}{i:Nat}(h:wx.heap[g]?=w.heap[g]?):wx.cell? ⟨g,i,none⟩=w.cell? ⟨g,i,none⟩:=by unfold World.cell?;simp only[h]
theorem MS.ae0{b:Nat}(h:s.I w x0 b):b<w.heap.size/\s.V.ownBlock≠some b:=⟨h.1,fun e=>h.2.2.1 (.inr (.inr (.inr (.inr (.inl e)))))⟩
theorem MS.adt(H:MS w x0 A n k q x s){d:World}{a:Value}{y:Tn}(h:aI 96 3 Wd d 0 (s.I w x0) a (x.V++[y]))(f:w.grownBy d s.V.ownBlock)(j:a.ownBlock=s.V.ownBlock\/a.ownBlock=some w.heap.size) :
 MS (d.setCell ⟨x0,15,none⟩ a) x0 A n k q {x with V:=x.V++[y]} {s with V:=a}/\gw w (d.setCell ⟨x0,15,none⟩ a) (s.U x0) (Sx.U {s with V:=a} x0):=by
 obtain⟨rows,i,g,l⟩:=H.V
 exact H.aeU (aH.bh g (Below.refl 0 w) f (aV _) (aS _)) (fun b c hn=>f.block b c fun e=>hn e.symm) h fun b c=>j.elim (fun e=>.inl (e▸c)) fun e=>.inr (by rw[c]at e;injection e with e;omega)
def MsQ(e:Nat)(A:Option Addr)(n k q:Nat)(d:Mc)(w:World)(s:Sx)(c:World):Prop:=∃a,a<=q+1/\zQ e A n k a d w s c
structure PkB (N:Int) (x:Mo.Mc) (t:Nat):Prop where
 T:t<x.T.length
 P:x.P.length=x.T.length
 S:x.S.length=x.T.length
 M:x.M.length=x.T.length
 p8:(Mo.gH x t).outs.length<=8
 seq:0<=(Mo.bm x t).seq/\(Mo.bm x t).seq<=1048575
 N:x.N.length<=900000
 tm:0<=x.time/\x.time<=1000000
structure PkR (N:Int) (n q:Nat) (y:Mo.Mc) (t:Nat):Prop where
 rb:Mo.RB y.c N ⟨Mo.bm y t,y.L,0,false,[]⟩
 fb:Mo.FB y.c (Mo.bm y t)
 own:12<(Mo.bm y t).pc->(Mo.bm y t).pc<=15->0<=(Mo.bm y t).aA.own.ix/\(Mo.bm y t).aA.own.ix<Mo.cN y.c
 L:(y.L.length:Int)=Mo.bB y.c
 cs:CfS y.c n t
 N9:N<=90000
 q9:q<=900000
structure PkY (N:Int) (n q:Nat) (y:Mo.Mc) (t:Nat):Prop where
 S:y.S.length=y.T.length
 M:y.M.length=y.T.length
 P:y.P.length=y.T.length
 sb:∀v∈y.S,0<=v/\v<=1000000
 r:PkR N n q y t
 N:y.N.length<=900000
 V:y.V.length<=1000000
 p8:(Mo.gH y t).outs.length<=8
 rq:(Mo.bm y t).aN.cases.length<=1000000
def pN(d:World)(c:Nat)(A:Option Addr)(n k q:Nat)(y:Mc)(s:Sx)(r:Rn)(e f:Value)(a:World):Prop:=∃g5 g6 m' z',∃o':Sl,e=.pointer (some ⟨g5,0,none⟩)/\f=.pointer (some ⟨g6,0,none⟩)/\MS a c A n k (q+1) {y with L:=r.L} {s with m:=m'}/\gw d a (s.U c) (Sx.U {s with m:=m'} c)/\af a g5 50 (iK r.k z').toArray/\af a g6 142 #[r.note,r.fR,.slice o'.A r.ops.length o'.c]/\nU a (Sx.I {s with m:=m'} a c) r.k z'/\ru a (Sx.I {s with m:=m'} a c) o'.A r.ops/\d.heap.size<=g5/\d.heap.size<=g6/\¬Sx.U {s with m:=m'} c g5/\¬Sx.U {s with m:=m'} c g6
def Xp(s:Sx)(d a c b:Nat):Prop:=(s.X d b\/OW.O b)\/(a<=b/\b<c)
theorem pN.of{y:Mc}{r:Rn}(H:MS w5 x0 A n k q y s)(f:Ext w5 W0)(N:W0.heap.size<=p)(u:ze wB m' r.L (q+1))(J:nU wB (Im wB (Xp s x0 w5 W0.heap.size) p m') r.k z')(I:ru wB (Im wB (Xp s x0 w5 W0.heap.size) p m') o'.A r.ops)(hF:cu W0 wB p s.m m')(m:Below 0 wB wx)(l:∀b,b<wB.heap.size->¬(w5.heap.size<=b/\b<W0.heap.size)->wx.heap[b]?=wB.heap[b]?)(E:af wx g5 50 (iK r.k z').toArray)(G:af wx g6 142 #[r.note,r.fR,.slice o'.A r.ops.length o'.c])(C:w5.heap.size<=g5)(D:w5.heap.size<=g6)(K:¬m'.own g5)(M:¬m'.own g6):pN w5 x0 A n k q y s r (.pointer g5) (.pointer g6) wx:=by
 have t:=f.Y.size
 have o:=hF.jH.size
 have F:cu w5 wx p s.m m':=⟨((f.Y.mono (aV _)).trans hF.jH).trans m,fun b c d j=>(l b (by omega) (by omega)).trans ((hF.same b (by omega) d j).trans (f.Y.block b c)),fun b a=>(hF.own b a).imp id fun h=>by omega,hF.g⟩
 obtain⟨c,d⟩:=H.Ke F (by omega) (u.same fun b a=>l b (u.lt a) fun e=>(hF.own b a).elim (fun h=>by have:=H.mem.lt h;omega) fun h=>by omega)
 have i:Sm (Im wB (Xp s x0 w5 W0.heap.size) p m') wB wx:=fun b a=>l b a.1 fun e=>a.2.2.2 (.inr e)
 have g:∀b,Im wB (Xp s x0 w5 W0.heap.size) p m' b->Sx.I {s with m:=m'} wx x0 b:=fun b a=>⟨bL a.1 m.size,a.2.2.1,fun e=>a.2.2.2 (.inl (.inl e)),fun e=>a.2.2.2 (.inl (.inr e))⟩
 exact⟨g5,g6,m',z',o',rfl,rfl,c,d,E,G,J.move i g,I.move i g,C,D,fun e=>e.elim (fun e=>Nat.lt_irrefl _ (bL (H.ul (.inl e)) C)) K,fun e=>e.elim (fun e=>Nat.lt_irrefl _ (bL (H.ul (.inl e)) D)) M⟩
theorem r5{P:Prop}(h:P:=by with_reducible(repeat(first|assumption|exact Ext.start _|exact Ext.gR _ _|exact Ext.CE _ _ _|refine Ext.alloc ?_ _))):P:=h
def StT(X:Nat->Prop)(m:Mm)(q:Nat)(r:Rn)(w:World)(e:Ending)(a:World):Prop:=∃p m' c,∃o':Sl,∃b:List Value,w.heap.size<=p/\e=.returned (.tuple #[.agg b.toArray,.agg #[r.note,r.fR,.slice o'.A r.ops.length o'.c]])/\b=iK r.k c/\ze a m' r.L q/\nU a (Im a X p m') r.k c/\ru a (Im a X p m') o'.A r.ops/\cu w a p m m'
theorem YI.letter{X:Nat->Prop}{c:bA}{m:Mm}{r:Rn}{e:Ending}(h:YI X c m q r w e w'):StT X m q r w e w':=by obtain⟨p,j,l,k,a,b,d,_,f,g,i⟩:=h;exact⟨p,j,l,k,_,a,b,rfl,d,f,g,i⟩
def PX(w:World)(O:Nat->Prop)(a:World):Prop:=Below 0 w a/\∀b,b<w.heap.size->¬O b->a.heap[b]?=w.heap[b]?
section
variable{wx wy:World} {O:Nat->Prop}
theorem PX.of(h:Ext w wx)(O:Nat->Prop):PX w O wx:=⟨h.Y.mono (aV _),fun b a _=>h.Y.block b a⟩
theorem PX.frr{m:Mm}(h:Ext w W0)(F:cu W0 wB p m m')(d:W0.heap.size<=p):PX w m.own wB:=⟨(h.Y.mono (aV _)).trans F.jH,fun b a c=>(F.same b (bL a h.Y.size) (by have:=h.Y.size;omega) c).trans (h.Y.block b a)⟩
theorem PX.more(h:PX w O wx)(e:Below wx wx wy):PX w O wy:=⟨h.1.trans (e.mono (aV _)),fun b a c=>(e.block b (bL a h.1.size)).trans (h.2 b a c)⟩
theorem PX.alloc(h:PX w O wx)(o:Obj):PX w O (wx.alloc o):=h.more (ak (aj _) o)
theorem PX.aw(h:PX w O wx){g:Nat}(e:w.heap.size<=g)(vs:List Value)(i:Nat):PX w O (aw wx g i vs):=⟨ax (aV _) _ _ _ h.1,fun b a c=>(aO (by omega) vs i).trans (h.2 b a c)⟩
end
theorem pN.leaf{W:World}{y:Mc}{r:Rn}(H:MS w5 x0 A n k q y s)(D:Ext w5 W0)(E:W0.heap.size<=p)(d:ze wB m' r.L (q+1))(C:nU wB (Im wB (Xp s x0 w5 W0.heap.size) p m') r.k z')(B:ru wB (Im wB (Xp s x0 w5 W0.heap.size) p m') o'.A r.ops)(hF:cu W0 wB p s.m m')(j:Below wB wB W){f:List Value}(l:f=iK r.k z')(m:af W g5 50 zT.toArray)(u:af W g6 142 ([oZ,false,oN]:VL).toArray)(a:g5≠g6)(I:w5.heap.size<=g5)(J:w5.heap.size<=g6)(F:wB.heap.size<=g5\/g5<W0.heap.size)(G:wB.heap.size<=g6\/g6<W0.heap.size):pN w5 x0 A n k q y s r (.pointer g5) (.pointer g6) (aw (aw W g5 0 f) g6 0 ([r.note,r.fR,.slice o'.A r.ops.length o'.c]:VL)):=by refine pN.of H D E d C B hF (ax (aV _) _ _ _ (ax (aV _) _ _ _ (j.mono (aV _)))) (fun b g i=>(aO (by omega) _ _).trans ((aO (by omega) _ _).trans (j.block b g))) ?_ (aQ (ba u a.symm _ _) rfl) I J (fun e=>(hF.own _ e).elim (fun h=>by have:=H.mem.lt h;omega) fun h=>F.elim (fun c=>by have:=d.lt e;omega) fun c=>by omega) (fun e=>(hF.own _ e).elim (fun h=>by have:=H.mem.lt h;omega) fun h=>G.elim (fun c=>by have:=d.lt e;omega) fun c=>by omega);rw[<-l];exact ba (aQ m (by rw[l];rfl)) a _ _
theorem MS.step(H:MS w x0 A n k q x s){N:Int}(B:PkR N n q x t)(r:t<x.T.length){z:Sh}(l:nU w (s.I w x0) (bm x t) z)(m:(bm x t).pc≠0)(d:Ext w wx):Calls prog 74 #[zF x.c A n k,.pointer (some ⟨s.m.g,0,none⟩),t,.agg (iK (bm x t) z).toArray] wx (YI (Xp s x0 w wx.heap.size) x.c s.m (q+1) (eD x.c t ⟨bm x t,x.L,0,false,[]⟩) wx):=by
 have c:=d.Y.size;have i:Sm (s.I w x0) w wx:=fun b a=>d.Y.block b a.1;have g:∀b,s.I w x0 b->Iz wx (Xp s x0 w wx.heap.size) s.m b:=fun b a=>⟨bL a.1 c,a.2.1,fun e=>e.elim (fun e=>e.elim a.2.2.1 a.2.2.2) fun e=>by have:=a.1;omega⟩
 have f:=B.rb.f.a;unfold mM at f;refine Nj (N:=N) ⟨H.mem.more d.Y,B.L,B.cs,fun b a e=>e.elim (fun e=>e.elim (H.mx b a) fun e=>(H.ol b e).2 (.inr a)) fun e=>by have:=H.mem.lt a;omega,fun b a=>a.elim (fun h=>bL (h.elim (fun h=>H.ul (.inl h)) fun h=>(H.ol b h).1) c) fun h=>h.2,(H.cf.same i).mono g,l.move i g⟩ B.rb B.fb B.own B.N9 B.q9 ?_;have j:=f.1.1;dsimp only at j;omega
theorem gw.blk{w:World}{U U':Nat->Prop}(h:gw w w' U U'){e:TypeId}{a:Array Value}(d:af w g e a)(f:¬U g):af w' g e a/\¬U' g:=⟨af.rM d (h.same g d.lt f),fun e=>(h.own g e).elim f fun e=>by have:=d.lt;omega⟩
namespace Mo
theorem Wn{x H y a C d e D:Mc}{r:Rn}{K:Tk}{G:Bool}{I:Tn}{f:Int}(E:H={x with time:=x.time+1})(F:y=eL H t)(L:K=bm y t)(M:¬K.pc=0)(c:a=if K.waits=true then y else{y with S:=y.S.set t (y.S.getD t 0+1),M:=y.M.set t (max (y.M.getD t 0) (y.S.getD t 0+1))})(j:r=eD a.c t ⟨K,a.L,0,false,[]⟩)(m:C={a with L:=r.L})(u:d={C with T:=C.T.set t r.k})(l:G=r.fR)(B:I=⟨d.time,t,r.ops⟩)(v:e=if G=true then{d with V:=d.V++[I]}else d)(N:f=r.note)(J:D=if f≠0 then{e with N:=e.N++[⟨f,t,r.k.seq,e.time,r.k.aN,r.k.res⟩]}else e):iO x t=if f=3/\(gH y t).on=true then{D with P:=y.P.set t (gG (gH y t) r.k.res)}else D:=by
 have o:y.c=x.c:=by rw[F,qJ.2,E]
 unfold iO;dsimp only;rw[<-E, <-F, <-L,ah M];have i:a.c=x.c:=by rw[c];split<;>exact o
 have g:a.L=y.L:=by rw[c];split<;>rfl
 rw[i,g]at j;rw[<-c, <-j];subst J v B l N u m;have b:a.P=y.P:=by rw[c];split<;>rfl
 have h:gH a t=gH y t:=by unfold gH;rw[b]
 rw[<-b, <-h];clear j c;cases k:r.fR<;>by_cases n:r.note=0<;>simp only[k,n,if_true,if_false,ne_eq,not_true_eq_false,not_false_eq_true,Bool.false_eq_true,ite_true,ite_false]<;>rfl
end Mo
theorem Wo(H:MS w x0 A n k q x s)(t:Nat){N:Int}(B:PkB N x t)(BY:PkY N n q (eL {x with time:=x.time+1} t) t) :
 Calls prog 46 #[.pointer x0,t] w fun e w'=>e=.returned oZ/\MsQ x0 A n k q (iO x t) w s w':=by
 have R1:=B.tm
 have e1:IntKind.i64.wrap (x.time+1)=x.time+1:=cD _ (by omega)
 obtain⟨xa,U3⟩:∃xa:Mc,xa={x with time:=x.time+1}:=⟨_,rfl⟩
 obtain⟨y,hy⟩:∃y,y=eL xa t:=⟨_,rfl⟩
 rw[<-U3, <-hy]at BY
 obtain⟨HH,HB,U,Sd,HY⟩:=dh H B BY U3 hy
 obtain⟨m,lz,jd⟩:=af.aM H.blk
 unfold nW at m
 clear H B BY R1 U3 hy
 go_enter func46,ntmps46
 go_upto_region 2 with fail
 obtain⟨P5,(ur:Hid _)⟩:=MS.tick HH.Y (x.time+1)
 rw[<-Sd.Y]at P5
 have rJ:=ae P5
 clear P5 m lz jd
 generalize w.setCell ⟨x0,18,none⟩ (.int .i64 (x.time+1))=w1 at *
 have Yy:=ae (Wh rJ.Y t (by rw[Sd.Y];exact HB.Y.T) (by rw[Sd.Y];exact HB.Y.P) (by rw[Sd.Y];exact HB.Y.S) (by rw[Sd.Y];exact HB.Y.p8) (by rw[Sd.Y];exact HB.Y.seq.1) (by rw[Sd.Y];exact HB.Y.seq.2) (by rw[Sd.Y];exact bq HB.Y.N (by decide)))
 rw[<-HY.Y]at Yy
 go_wp2_with fail
 go_fit Yy.Y
 rintro e w2 ⟨rfl,hE⟩
 obtain⟨s2,BP,jT⟩:=hE
 obtain⟨q7,rT⟩:=av BP (gw.trans ur.Y jT)
 have k7:t<y.T.length:=by rw[HY.Y,qJ.1,Sd.Y];exact HB.Y.T
 obtain⟨gT,dT,z,hv,kd,_,hz,hc,j4⟩:=BP.task k7
 obtain⟨Kt,hK⟩:∃Kt,Kt=bm y t:=⟨_,rfl⟩
 have ct:=ae hK
 rw[<-hK]at hc hz
 obtain⟨m,-,jd⟩:=af.aM BP.blk
 unfold nW at m
 rw[hv]at m
 have c0:=hc 0 _ rfl
 rw[Nat.add_zero]at c0
 have eF:=hc 32 _ rfl
 obtain⟨HV,HZ,HC,HT,wY⟩:=dh hv hz hc k7 j4
 clear BP jT Yy rJ ur hK hv hz hc j4
 by_cases nH:Kt.pc=0
 ·have d1:(Kt.pc==0)=true:=by rw[nH];rfl
  have HP:=ae nH;clear nH;go_wp2;go_ret;have hM:iO x t=y:=by unfold iO;dsimp only;rw[<-Sd.Y, <-HY.Y, <-ct.Y,au HP.Y]
  rw[hM];exact⟨rfl,q,cj q,s2,q7.Y,rT.Y⟩
 have d1:(Kt.pc==0)=false:=by simpa using nH
 have HP:=ae nH
 clear nH
 obtain⟨y2,(Ti:Hid _)⟩:∃y2:Mc,y2=if Kt.waits=true then y else{y with S:=y.S.set t (y.S.getD t 0+1),M:=y.M.set t (max (y.M.getD t 0) (y.S.getD t 0+1))}:=⟨_,rfl⟩
 obtain⟨wt,fK⟩:∃wt,wt=Kt.waits:=⟨_,rfl⟩
 rw[<-fK]at eF
 have jw:=ae fK
 clear fK
 go_upto_if 34 with fail
 go_cut[] (fun c=>MS c x0 A n k q y2 s2/\gw w c (s.U x0) (s2.U x0))
 case first =>
  cases wt with
  |true=>go_wp2;go_meet;exact⟨by rw[Ti.Y,au jw.Y.symm];exact q7.Y,rT.Y⟩
  |false =>
   have CJ:t<y.S.length:=by rw[U.Y.S];exact HT.Y
   obtain⟨Z,dS,Th,_,ni⟩:=aJ.form q7.Y.S (by intro e;rw[e]at CJ;exact absurd CJ (Nat.not_lt_zero _));have Kj:=q7.Y.S;rw[Th]at Kj;have Yv:=aJ.cell Kj (cY CJ);have na:=fun i=>aJ.frozen Kj i;have j2:=U.Y.sb _ (List.getElem_mem CJ);obtain⟨C,fJ⟩:∃C,C=y.S[t]:=⟨_,rfl⟩
   have lK:Hid (y.S.getD t 0=C):=by unfold Hid;rw[fJ,cZ,cY CJ];rfl
   rw[<-fJ]at Yv j2;have e2:IntKind.i64.wrap (C+1)=C+1:=cD _ (by omega);rw[Th]at m;obtain⟨NW,XG⟩:=av Th CJ;obtain⟨ln,xu⟩:∃ln,ln=y.S.length:=⟨_,rfl⟩
   rw[<-xu]at m CJ;clear Th Kj fJ xu;go_upto_region 7 with fail
   obtain⟨(px:Hid _),yz⟩:=MS.adk q7.Y NW.Y t (C+1);have um:=ae (gw.trans rT.Y yz);clear yz m Yv na CJ ni jd c0 eF kd;generalize w2.setCell ⟨Z,t,none⟩ (.int .i64 (C+1))=w3 at *;have b6:t<y.M.length:=by rw[U.Y.M];exact HT.Y
   obtain⟨gM,dM,bo,_,nc⟩:=aJ.form px.Y.M (by intro e;dsimp only at e;rw[e]at b6;exact absurd b6 (Nat.not_lt_zero _));dsimp only at bo;have dc:=px.Y.M;rw[bo]at dc;have j3:=aJ.cell dc (cY b6);have m9:=fun i=>aJ.frozen dc i;have Kj:=px.Y.S;rw[NW.Y]at Kj;dsimp only at Kj;have Yv:=aJ.cell (i:=t) (z:=C+1) Kj (List.getElem?_set_self XG.Y);obtain⟨P,fg⟩:∃P,P=y.M[t]:=⟨_,rfl⟩
   have lC:Hid (y.M.getD t 0=P):=by unfold Hid;rw[fg,cZ,cY b6];rfl
   rw[<-fg]at j3;have j1:Z≠gM:=fun e=>px.Y.sm Z (by rw[NW.Y];rfl) (by rw[bo,e];rfl);have kX:x0≠gM:=fun e=>px.Y.bO.2.2.2.2.2 gM (by rw[bo];rfl) e.symm;have hZ:=ae bo;have CJ:=XG.Y;clear bo dc Kj fg;have m:=fun(c:World) (l:c.heap[x0]?=w3.heap[x0]?/\c.heap[Z]?=w3.heap[Z]?) i=>af.cell (af.rM px.Y.blk l.1) i;unfold nW at m;rw[NW.Y,hZ.Y]at m;dsimp only[cq]at m;have m5:∀c:World,(c.heap[x0]?=w3.heap[x0]?/\c.heap[Z]?=w3.heap[Z]?)->c.cell? ⟨Z,t,none⟩=some (.int .i64 (C+1)):=fun c l=>(zo l.2).trans Yv;refine wp_region_held_drew (S:=fun c:World=>c.heap[x0]?=w3.heap[x0]?/\c.heap[Z]?=w3.heap[Z]?) (by kernel_rfl) ⟨rfl,rfl⟩ (fun hHeld=>?_);refine aP 0 hHeld ?_;refine aP 1 hHeld ?_;refine aP 2 hHeld ?_;refine aP 3 hHeld ?_;refine aP 4 hHeld ?_;refine aP 5 hHeld ?_;refine aP 6 hHeld ?_;refine aP 7 hHeld ?_;refine aP 8 hHeld ?_;refine aP 9 hHeld ?_;refine aP 10 hHeld ?_;refine aP 12 hHeld ?_;refine aP 13 hHeld ?_;refine aP 14 hHeld ?_;refine aP 15 hHeld ?_;refine aP 16 hHeld ?_;refine aP 17 hHeld ?_;refine aP 18 hHeld ?_;(try simp only[aC]);refine et 11 (fun K hK=>?_);go_simp;refine hK.Y _ _ (by assumption) (fun hHeld=>?_);clear hK K;(try simp only[aC]);refine aP 19 hHeld ?_;refine aP 20 hHeld ?_;(try simp only[aC]);refine et 21 (fun K hK=>?_);go_simp;have kq:(if P<C+1 then C+1 else P)=max P (C+1):=by split<;>omega
   obtain⟨Qg,jU⟩:=MS.aeS px.Y hZ.Y t (if P<C+1 then C+1 else P);have jV:(World.drew (w3.setCell ⟨gM,t,none⟩ (.int .i64 (if P<C+1 then C+1 else P)))).heap[x0]?=w3.heap[x0]?/\(World.drew (w3.setCell ⟨gM,t,none⟩ (.int .i64 (if P<C+1 then C+1 else P)))).heap[Z]?=w3.heap[Z]?:=⟨((aj _).drew.block x0 Qg.blk.lt).trans (dp w3 ⟨gM,t,none⟩ _ x0 kX),((aj _).drew.block Z (Qg.ul (.inl (.inr (.inr (.inr (.inr (.inr (.inl (by rw[NW.Y];rfl))))))))) ).trans (dp w3 ⟨gM,t,none⟩ _ Z j1)⟩
   have Ng:y2={y with S:=y.S.set t (C+1),M:=y.M.set t (if P<C+1 then C+1 else P)}:=by rw[Ti.Y,ah (by rw[<-jw.Y];decide),lK.Y,lC.Y,kq]
   have M:Hid (MS (World.drew (w3.setCell ⟨gM,t,none⟩ (.int .i64 (if P<C+1 then C+1 else P)))) x0 A n k q y2 s2):=by rw[Ng];exact Qg.more (aj _).drew
   clear Ng;have pW:=ae (gw.trans um.Y (gw.trans jU (gw.ext (aj _).drew _)));clear Qg jU kq;generalize(World.drew (w3.setCell ⟨gM,t,none⟩ (.int .i64 (if P<C+1 then C+1 else P))))=a at *;refine hK.Y _ _ jV (fun hHeld=>?_);clear hK K;(try simp only[aC]);refine wpAnyH_done (by kernel_rfl) ?_ _;generalize(if P<C+1 then C+1 else P)=mx;clear hHeld jV m m5 j3 m9 Yv nc j1 kX CJ b6 e2 j2;go_wp2;go_meet;exact⟨M.Y,pW.Y⟩
 case rest =>
  obtain⟨(M:Hid _),Ka⟩:=hcut;have pW:=ae Ka;clear Ka m jd kd c0 eF q7 rT;obtain⟨a,Bg⟩:∃a,a=wc:=⟨_,rfl⟩
  rw[<-Bg]at M pW ⊢;clear Bg;go_upto_region 8 with fail
  have cz:y2.T=y.T:=by rw[Ti.Y];split<;>rfl
  have dg:t<y2.T.length:=by rw[cz];exact HT.Y
  have b5:bm y2 t=Kt:=by rw[ct.Y];unfold bm;rw[cz]
  have jh:Hid (PkR N n q y2 t):=by unfold Hid;rw[Ti.Y];split<;>exact⟨U.Y.r.rb,U.Y.r.fb,U.Y.r.own,U.Y.r.L,U.Y.r.cs,U.Y.r.N9,U.Y.r.q9⟩
  obtain⟨gU,dU,zu,dP,nr,_,gz,cF,j5⟩:=M.Y.task dg;obtain⟨T0,yS⟩:∃T0,T0=iK Kt zu:=⟨_,rfl⟩
  have We:Hid (T0.length=34):=by unfold Hid;rw[yS];rfl
  obtain⟨r,hr⟩:∃r,r=eD y2.c t ⟨Kt,y2.L,0,false,[]⟩:=⟨_,rfl⟩
  obtain⟨eo,R⟩:=av hr (fun(c:World) (l:Ext a c)=>(MS.step M.Y jh.Y dg gz (by rw[b5];exact HP.Y) l).mono (fun e w' h=>YI.letter h));rw[b5, <-hr, <-yS]at R;rw[b5]at cF;have Tf:Hid (∀c:World,PX a s2.m.own c->c.rangeAt gU (t*34) T0):=fun c l j v hv=>(zo (l.2 gU nr (fun e=>M.Y.mx gU e (.inr (.inl (by rw[dP];rfl)))))).trans (cF j v (by rw[<-yS];exact hv));have m:=fun(c:World) (l:PX a s2.m.own c) i=>af.cell (af.rM M.Y.blk (l.2 x0 M.Y.blk.lt fun e=>M.Y.mx x0 e (.inl rfl))) i;unfold nW at m;rw[dP]at m;have NK:=dg;unfold zF at R;obtain⟨l7,SZ,ll,l9,ko,uh⟩:=cT dP cF j5 gz b5 cz;clear dP cF j5 gz b5 cz hr yS dg;go_cut[5,6] (fun s5 s6 c=>pN a x0 A n k q y2 s2 r s5 s6 c);case first =>
   refine wp_region_held_drew (S:=PX a s2.m.own) (by kernel_rfl) (PX.of (Ext.start _) _) (fun hHeld=>?_);refine aP 0 hHeld ?_;refine aP 1 hHeld ?_;refine aP 2 hHeld ?_;refine aP 3 hHeld ?_;refine aP 4 hHeld ?_;refine aP 5 hHeld ?_;refine aP 6 hHeld ?_;refine aP 7 hHeld ?_;refine aP 8 hHeld ?_;refine aP 9 hHeld ?_;refine aP 10 hHeld ?_;refine aP 11 hHeld ?_;refine aP 12 hHeld ?_;refine aP 13 hHeld ?_;refine aP 14 hHeld ?_;(try simp only[aC]);refine ldT 15 hHeld gU (t*34) T0 We.Y Tf.Y ?_;(try simp only[aC]);refine wpAnyH_ready (rs:=[16,20,21]) (by kernel_rfl) (by simp) ?_;refine(AllReadyH.cons (o:=⟨some 82,_,_,_,_,_⟩) rfl (fun K hK=>?_) (AllReadyH.cons (o:=⟨some 5,_,_,_,_,_⟩) rfl (fun K hK=>?_) (AllReadyH.cons (o:=⟨some 6,_,_,_,_,_⟩) rfl (fun K hK=>?_) AllReadyH.nil)))
   ·go_simp;(with_reducible go_fit (R.Y _ r5));rintro e d ⟨p,mB,zB,oB,T1,W,rfl,(g:Hid _),V,X,Y,qT⟩;obtain⟨G,I,I0,f,O⟩:=dh V X Y qT W;clear V X Y qT W;go_wp2_with fail;refine hK.Y _ _ (PX.frr (r5:Ext a _) f.Y O.Y) (fun hHeld=>?_);clear hK K;(try simp only[aC]);refine aP 17 hHeld ?_;refine aP 18 hHeld ?_;refine aP 19 hHeld ?_;(try simp only[aC]);refine wpAnyH_ready (rs:=[20,21]) (by kernel_rfl) (by simp) ?_;refine(AllReadyH.cons (o:=⟨some 5,_,_,_,_,_⟩) rfl (fun K hK=>?_) (AllReadyH.cons (o:=⟨some 6,_,_,_,_,_⟩) rfl (fun K hK=>?_) AllReadyH.nil))
    ·go_simp;refine hK.Y _ _ (by first|exact PX.alloc (by assumption) _|exact(PX.alloc (by assumption) _).more (aj _).drew|exact PX.of (r5:Ext a _) _) (fun hHeld=>?_);clear hK K;(try simp only[aC]);refine et 21 (fun K hK=>?_);go_simp;refine hK.Y _ _ (by first|exact PX.alloc (by assumption) _|exact(PX.alloc (by assumption) _).more (aj _).drew|exact PX.of (r5:Ext a _) _) (fun hHeld=>?_);clear hK K;(try simp only[aC]);have hB:Below d d ((d.alloc (.cells zT.toArray 50)).alloc (.cells #[oZ,false,oN] 142)):=ak (ak (aj d) _) _;have h5:af ((d.alloc (.cells zT.toArray 50)).alloc (.cells #[oZ,false,oN] 142)) d.heap.size 50 zT.toArray:=(af.new _ _ _).alloc _;have h6:af ((d.alloc (.cells zT.toArray 50)).alloc (.cells (#[oZ,false,oN]:VA) 142)) (d.heap.size+1) 142 ([oZ,false,oN]:VL).toArray:=af.newAt _ _ _ (by simp);have hz:a.heap.size<=d.heap.size:=(bq (r5:Ext a a.drew).Y.size f.Y.jH.size)
     have hne:d.heap.size≠(d.heap.size+1):=by omega
     have hL:=pN.leaf M.Y (r5:Ext a a.drew) O.Y G.Y I.Y I0.Y f.Y hB g.Y h5 h6 hne (by omega) (by omega) (.inl (aS _)) (.inl (cj _));refine et 22 (fun K hK=>?_);refine R5 d.heap.size 0 T1 (by rw[g.Y];rfl) (by rw[g.Y];exact eK _ _) (af.there h5 0 34 (by decide)) ?_;exact adu
    ·go_simp;refine hK.Y _ _ (by first|exact PX.alloc (by assumption) _|exact(PX.alloc (by assumption) _).more (aj _).drew|exact PX.of (r5:Ext a _) _) (fun hHeld=>?_);clear hK K;(try simp only[aC]);refine et 20 (fun K hK=>?_);go_simp;refine hK.Y _ _ (by first|exact PX.alloc (by assumption) _|exact(PX.alloc (by assumption) _).more (aj _).drew|exact PX.of (r5:Ext a _) _) (fun hHeld=>?_);clear hK K;(try simp only[aC]);have hB:Below d d ((d.alloc (.cells #[oZ,false,oN] 142)).alloc (.cells zT.toArray 50)):=ak (ak (aj d) _) _;have h5:af ((d.alloc (.cells #[oZ,false,oN] 142)).alloc (.cells zT.toArray 50)) (d.heap.size+1) 50 zT.toArray:=af.newAt _ _ _ (by simp);have h6:af ((d.alloc (.cells (#[oZ,false,oN]:VA) 142)).alloc (.cells zT.toArray 50)) d.heap.size 142 ([oZ,false,oN]:VL).toArray:=(af.new _ _ _).alloc _;have hz:a.heap.size<=d.heap.size:=(bq (r5:Ext a a.drew).Y.size f.Y.jH.size)
     have hne:(d.heap.size+1)≠d.heap.size:=by omega
     have hL:=pN.leaf M.Y (r5:Ext a a.drew) O.Y G.Y I.Y I0.Y f.Y hB g.Y h5 h6 hne (by omega) (by omega) (.inl (cj _)) (.inl (aS _));refine et 22 (fun K hK=>?_);refine R5 (d.heap.size+1) 0 T1 (by rw[g.Y];rfl) (by rw[g.Y];exact eK _ _) (af.there h5 0 34 (by decide)) ?_;exact adu
   ·go_simp;refine hK.Y _ _ (by first|exact PX.alloc (by assumption) _|exact(PX.alloc (by assumption) _).more (aj _).drew|exact PX.of (r5:Ext a _) _) (fun hHeld=>?_);clear hK K;(try simp only[aC]);refine wpAnyH_ready (rs:=[16,21]) (by kernel_rfl) (by simp) ?_;refine(AllReadyH.cons (o:=⟨some 82,_,_,_,_,_⟩) rfl (fun K hK=>?_) (AllReadyH.cons (o:=⟨some 6,_,_,_,_,_⟩) rfl (fun K hK=>?_) AllReadyH.nil))
    ·go_simp;(with_reducible go_fit (R.Y _ r5));rintro e d ⟨p,mB,zB,oB,T1,W,rfl,(g:Hid _),V,X,Y,qT⟩;obtain⟨G,I,I0,f,O⟩:=dh V X Y qT W;clear V X Y qT W;go_wp2_with fail;refine hK.Y _ _ (PX.frr (r5:Ext a _) f.Y O.Y) (fun hHeld=>?_);clear hK K;(try simp only[aC]);refine aP 17 hHeld ?_;refine aP 18 hHeld ?_;refine aP 19 hHeld ?_;(try simp only[aC]);refine et 21 (fun K hK=>?_);go_simp;refine hK.Y _ _ (by first|exact PX.alloc (by assumption) _|exact(PX.alloc (by assumption) _).more (aj _).drew|exact PX.of (r5:Ext a _) _) (fun hHeld=>?_);clear hK K;(try simp only[aC]);have hB:Below d d (d.alloc (.cells #[oZ,false,oN] 142)):=ak (aj d) _;have h5:af (d.alloc (.cells #[oZ,false,oN] 142)) a.heap.size 50 zT.toArray:=(af.ai (show af d a.heap.size _ _ from(f.Y.same a.heap.size (by first|(simp;done)|(simp;omega)) (by have:=O.Y;simp at this;omega) (fun e=>by have:=M.Y.mem.lt e;omega)).trans (af.new a _ _)) (ak (aj d) _))
     have h6:af (d.alloc (.cells (#[oZ,false,oN]:VA) 142)) d.heap.size 142 ([oZ,false,oN]:VL).toArray:=af.new _ _ _;have hz:a.heap.size<=d.heap.size:=(bq (r5:Ext a (a.alloc (.cells zT.toArray 50)).drew).Y.size f.Y.jH.size)
     have hne:a.heap.size≠d.heap.size:=(by have h1:=f.Y.jH.size;simp at h1;omega)
     have hL:=pN.leaf M.Y (r5:Ext a (a.alloc (.cells zT.toArray 50)).drew) O.Y G.Y I.Y I0.Y f.Y hB g.Y h5 h6 hne (aS _) (by omega) (.inr (by first|(simp;done)|(simp;omega))) (.inl (aS _));refine et 22 (fun K hK=>?_);refine R5 a.heap.size 0 T1 (by rw[g.Y];rfl) (by rw[g.Y];exact eK _ _) (af.there h5 0 34 (by decide)) ?_;refine hK.Y _ _ (PX.aw (by assumption) (aS _) _ _) (fun hHeld=>?_);clear hK K;(try simp only[aC]);obtain⟨wE,FK,hl6⟩:=af.aM (ba h6 hne.symm T1 0);(try unfold zT at wE);(try unfold zT at FK);(try unfold zT at hl6);refine et 23 (fun K hK=>?_);go_simp;refine hK.Y _ _ (PX.aw (by assumption) (by omega) [r.note,r.fR,.slice oB.A r.ops.length oB.c] 0) (fun hHeld=>?_);exact YJ
    ·go_simp;refine hK.Y _ _ (by first|exact PX.alloc (by assumption) _|exact(PX.alloc (by assumption) _).more (aj _).drew|exact PX.of (r5:Ext a _) _) (fun hHeld=>?_);clear hK K;(try simp only[aC]);refine et 16 (fun K hK=>?_);go_simp;(with_reducible go_fit (R.Y _ r5));rintro e d ⟨p,mB,zB,oB,T1,W,rfl,(g:Hid _),V,X,Y,qT⟩;obtain⟨G,I,I0,f,O⟩:=dh V X Y qT W;clear V X Y qT W;go_wp2_with fail;refine hK.Y _ _ (PX.frr (r5:Ext a _) f.Y O.Y) (fun hHeld=>?_);clear hK K;(try simp only[aC]);refine aP 17 hHeld ?_;refine aP 18 hHeld ?_;refine aP 19 hHeld ?_;(try simp only[aC]);have hB:Below d d d:=aj d;have h5:af d a.heap.size 50 zT.toArray:=(f.Y.same a.heap.size (by first|(simp;done)|(simp;omega)) (by have:=O.Y;simp at this;omega) (fun e=>by have:=M.Y.mem.lt e;omega)).trans ((af.new a _ _).alloc _);have h6:af d (a.heap.size+1) 142 ([oZ,false,oN]:VL).toArray:=(f.Y.same (a.heap.size+1) (by first|(simp;done)|(simp;omega)) (by have:=O.Y;simp at this;omega) (fun e=>by have:=M.Y.mem.lt e;omega)).trans (af.newAt (a.alloc (.cells zT.toArray 50)) _ _ (by simp));have hz:a.heap.size<=d.heap.size:=(bq (r5:Ext a ((a.alloc (.cells zT.toArray 50)).alloc (.cells #[oZ,false,oN] 142)).drew).Y.size f.Y.jH.size)
     have hne:a.heap.size≠(a.heap.size+1):=by omega
     have hL:=pN.leaf M.Y (r5:Ext a ((a.alloc (.cells zT.toArray 50)).alloc (.cells #[oZ,false,oN] 142)).drew) O.Y G.Y I.Y I0.Y f.Y hB g.Y h5 h6 hne (aS _) (cj _) (.inr (by first|(simp;done)|(simp;omega))) (.inr (by first|(simp;done)|(simp;omega)));refine et 22 (fun K hK=>?_);refine R5 a.heap.size 0 T1 (by rw[g.Y];rfl) (by rw[g.Y];exact eK _ _) (af.there h5 0 34 (by decide)) ?_;refine hK.Y _ _ (PX.aw (by assumption) (aS _) _ _) (fun hHeld=>?_);clear hK K;(try simp only[aC]);obtain⟨wE,FK,hl6⟩:=af.aM (ba h6 hne.symm T1 0);(try unfold zT at wE);(try unfold zT at FK);(try unfold zT at hl6);refine et 23 (fun K hK=>?_);go_simp;refine hK.Y _ _ (PX.aw (by assumption) (cj _) [r.note,r.fR,.slice oB.A r.ops.length oB.c] 0) (fun hHeld=>?_);exact YJ
   ·go_simp;refine hK.Y _ _ (by first|exact PX.alloc (by assumption) _|exact(PX.alloc (by assumption) _).more (aj _).drew|exact PX.of (r5:Ext a _) _) (fun hHeld=>?_);clear hK K;(try simp only[aC]);refine wpAnyH_ready (rs:=[16,20]) (by kernel_rfl) (by simp) ?_;refine(AllReadyH.cons (o:=⟨some 82,_,_,_,_,_⟩) rfl (fun K hK=>?_) (AllReadyH.cons (o:=⟨some 5,_,_,_,_,_⟩) rfl (fun K hK=>?_) AllReadyH.nil))
    ·go_simp;(with_reducible go_fit (R.Y _ r5));rintro e d ⟨p,mB,zB,oB,T1,W,rfl,(g:Hid _),V,X,Y,qT⟩;obtain⟨G,I,I0,f,O⟩:=dh V X Y qT W;clear V X Y qT W;go_wp2_with fail;refine hK.Y _ _ (PX.frr (r5:Ext a _) f.Y O.Y) (fun hHeld=>?_);clear hK K;(try simp only[aC]);refine aP 17 hHeld ?_;refine aP 18 hHeld ?_;refine aP 19 hHeld ?_;(try simp only[aC]);refine et 20 (fun K hK=>?_);go_simp;refine hK.Y _ _ (by first|exact PX.alloc (by assumption) _|exact(PX.alloc (by assumption) _).more (aj _).drew|exact PX.of (r5:Ext a _) _) (fun hHeld=>?_);clear hK K;(try simp only[aC]);have hB:Below d d (d.alloc (.cells zT.toArray 50)):=ak (aj d) _;have h5:af (d.alloc (.cells zT.toArray 50)) d.heap.size 50 zT.toArray:=af.new _ _ _;have h6:af (d.alloc (.cells zT.toArray 50)) a.heap.size 142 ([oZ,false,oN]:VL).toArray:=(af.ai (show af d a.heap.size _ _ from(f.Y.same a.heap.size (by first|(simp;done)|(simp;omega)) (by have:=O.Y;simp at this;omega) (fun e=>by have:=M.Y.mem.lt e;omega)).trans (af.new a _ _)) (ak (aj d) _))
     have hz:a.heap.size<=d.heap.size:=(bq (r5:Ext a (a.alloc (.cells #[oZ,false,oN] 142)).drew).Y.size f.Y.jH.size)
     have hne:d.heap.size≠a.heap.size:=(by have h1:=f.Y.jH.size;simp at h1;omega)
     have hL:=pN.leaf M.Y (r5:Ext a (a.alloc (.cells (#[oZ,false,oN]:VA) 142)).drew) O.Y G.Y I.Y I0.Y f.Y hB g.Y h5 h6 hne (by omega) (aS _) (.inl (aS _)) (.inr (by first|(simp;done)|(simp;omega)));refine et 22 (fun K hK=>?_);refine R5 d.heap.size 0 T1 (by rw[g.Y];rfl) (by rw[g.Y];exact eK _ _) (af.there h5 0 34 (by decide)) ?_;refine hK.Y _ _ (PX.aw (by assumption) (by omega) _ _) (fun hHeld=>?_);exact adv
    ·go_simp;refine hK.Y _ _ (by first|exact PX.alloc (by assumption) _|exact(PX.alloc (by assumption) _).more (aj _).drew|exact PX.of (r5:Ext a _) _) (fun hHeld=>?_);clear hK K;(try simp only[aC]);refine et 16 (fun K hK=>?_);go_simp;(with_reducible go_fit (R.Y _ r5));rintro e d ⟨p,mB,zB,oB,T1,W,rfl,(g:Hid _),V,X,Y,qT⟩;obtain⟨G,I,I0,f,O⟩:=dh V X Y qT W;clear V X Y qT W;go_wp2_with fail;refine hK.Y _ _ (PX.frr (r5:Ext a _) f.Y O.Y) (fun hHeld=>?_);clear hK K;(try simp only[aC]);refine aP 17 hHeld ?_;refine aP 18 hHeld ?_;refine aP 19 hHeld ?_;(try simp only[aC]);have hB:Below d d d:=aj d;have h5:af d (a.heap.size+1) 50 zT.toArray:=(f.Y.same (a.heap.size+1) (by first|(simp;done)|(simp;omega)) (by have:=O.Y;simp at this;omega) (fun e=>by have:=M.Y.mem.lt e;omega)).trans (af.newAt (a.alloc (.cells #[oZ,false,oN] 142)) _ _ (by simp));have h6:af d a.heap.size 142 ([oZ,false,oN]:VL).toArray:=(f.Y.same a.heap.size (by first|(simp;done)|(simp;omega)) (by have:=O.Y;simp at this;omega) (fun e=>by have:=M.Y.mem.lt e;omega)).trans ((af.new a _ _).alloc _);have hz:a.heap.size<=d.heap.size:=(bq (r5:Ext a ((a.alloc (.cells #[oZ,false,oN] 142)).alloc (.cells zT.toArray 50)).drew).Y.size f.Y.jH.size)
     have hne:(a.heap.size+1)≠a.heap.size:=by omega
     have hL:=pN.leaf M.Y (r5:Ext a ((a.alloc (.cells (#[oZ,false,oN]:VA) 142)).alloc (.cells zT.toArray 50)).drew) O.Y G.Y I.Y I0.Y f.Y hB g.Y h5 h6 hne (cj _) (aS _) (.inr (by first|(simp;done)|(simp;omega))) (.inr (by first|(simp;done)|(simp;omega)));refine et 22 (fun K hK=>?_);refine R5 (a.heap.size+1) 0 T1 (by rw[g.Y];rfl) (by rw[g.Y];exact eK _ _) (af.there h5 0 34 (by decide)) ?_;refine hK.Y _ _ (PX.aw (by assumption) (cj _) _ _) (fun hHeld=>?_);exact adv
  case rest =>
   obtain⟨u,Q,m6,z6,E,rfl,rfl,b7,FH,h5,h6,cC,e7,l5,l6,n5,n6⟩:=hcut;clear m R Tf We SZ ll l9;obtain⟨x3,cd⟩:∃x3:Mc,x3={y2 with L:=r.L}:=⟨_,rfl⟩
   obtain⟨s3,b8⟩:∃s3:Sx,s3={s2 with m:=m6}:=⟨_,rfl⟩
   rw[<-cd, <-b8]at b7;rw[<-b8]at FH cC e7 n5 n6;have Ff:s3.T=.slice gU x3.T.length dU:=by rw[b8,cd];exact l7.Y
   have VG:t<x3.T.length:=by rw[cd];exact NK
   obtain⟨T1,qN⟩:∃T1,T1=iK r.k z6:=⟨_,rfl⟩
   rw[<-qN]at h5;obtain⟨E4,NM,H5,H6,oL,Bu⟩:=cT b7 (gw.trans pW.Y FH) h5 h6 cC e7;obtain⟨cw,n4,iC,pV,g,N5⟩:=cT cd b8 Ff VG qN n5;have N6:=ae n6;have og:x0≠u:=fun e=>n5 (.inl (.inl e.symm));have jM:u≠gU:=fun e=>n5 (.inl (.inr (.inl (by rw[Ff,e];rfl))));have mN:Q≠gU:=fun e=>n6 (.inl (.inr (.inl (by rw[Ff,e];rfl))));have Yu:x0≠gU:=fun e=>b7.bO.1 gU (by rw[Ff];rfl) e.symm;have en:Hid (MS wc.drew x0 A n k (q+1) x3 s3):=b7.more (aj wc).drew;have hP:Hid (wc.drew.there gU (t*34) 34):=by
    obtain⟨g',d',z',nv,_,_,_,m4,m7⟩:=en.Y.task VG;have h1:=nv.symm.trans Ff;injection h1 with h1
    injection h1 with h1
    injection h1 with h1
    subst h1;exact fun j hj=>⟨by rw[m4 j _ (cY (show j<(iK (bm x3 t) z').length from hj))];rfl,m7 _⟩
   have Qe:Hid (nU wc.drew (s3.I wc.drew x0) r.k z6):=cC.move (fun b J=>(aj wc).drew.block b J.1) fun b J=>⟨bL J.1 (aj wc).drew.size,J.2⟩
   clear b7 FH h5 h6 cC e7 cd b8 qN n5 n6 VG;go_upto_region 9 with fail
   have m:=fun(c:World) (l:c.heap[x0]?=wc.heap[x0]?/\c.heap[u]?=wc.heap[u]?) i=>af.cell (af.rM E4.Y.blk l.1) i;unfold nW at m;rw[Ff]at m;have ov:=pV.Y;have XR:∀c:World,(c.heap[x0]?=wc.heap[x0]?/\c.heap[u]?=wc.heap[u]?)->c.rangeAt u 0 T1:=fun c l=>af.range (af.rM H5.Y l.2) T1 fun j v hv=>by rw[List.getElem?_toArray];exact hv
   refine wp_region_held_drew (S:=fun c:World=>c.heap[x0]?=wc.heap[x0]?/\c.heap[u]?=wc.heap[u]?) (by kernel_rfl) ⟨rfl,rfl⟩ (fun hHeld=>?_);refine aP 0 hHeld ?_;refine aP 1 hHeld ?_;refine aP 2 hHeld ?_;refine aP 3 hHeld ?_;refine aP 4 hHeld ?_;(try simp only[aC]);refine ldT 5 hHeld u 0 T1 (by rw[g.Y];rfl) XR ?_;refine aP 6 hHeld ?_;(try simp only[aC]);refine et 7 (fun K hK=>?_);refine R5 gU (t*34) T1 (by rw[g.Y];rfl) (by rw[g.Y];exact eK _ _) hP.Y ?_;refine hK.Y _ _ ⟨aO Yu _ _,aO jM _ _⟩ (fun hHeld=>?_);clear hK K;(try simp only[aC]);refine wpAnyH_done (by kernel_rfl) ?_ _;clear hHeld m XR;obtain⟨cy,Wf⟩:=MS.rG en.Y iC.Y pV.Y r.k z6 Qe.Y;rw[<-g.Y]at cy Wf;obtain⟨F,fM⟩:∃F:Mc,F={x3 with T:=x3.T.set t r.k}:=⟨_,rfl⟩
   rw[<-fM]at cy;obtain⟨bY,g7,a6,CM,xH⟩:=dh fM (ba (show af wc.drew u 50 T1.toArray from H5.Y) jM T1 (t*34)) (ba (show af wc.drew Q 142 #[r.note,r.fR,.slice E.A r.ops.length E.c]from H6.Y) mN T1 (t*34)) cy (gw.trans NM.Y (gw.trans (gw.ext (aj wc).drew _) Wf));have LZ:Hid (ru (aw wc.drew gU (t*34) T1) (s3.I (aw wc.drew gU (t*34) T1) x0) E.A r.ops):=Bu.Y.move (fun b J=>aO (fun e=>J.2.2.1 (.inr (.inl (by rw[iC.Y,e];rfl)))) T1 (t*34)) fun b J=>⟨by rw[bH];exact J.1,J.2⟩
   clear cy Wf fM hP Qe en H5 H6 E4 NM oL Bu;generalize aw wc.drew gU (t*34) T1=D at *;obtain⟨wE,-,hl6⟩:=af.aM a6.Y;have Lp:Hid (F.V.length<=1000000):=by unfold Hid;rw[bY.Y,cw.Y,Ti.Y];split<;>exact U.Y.V
   obtain⟨rw,df⟩:∃rw,rw=r.fR:=⟨_,rfl⟩
   have GY:=ae df;rw[<-df]at wE;rw[<-df]at a6;clear df;obtain⟨yv,cn⟩:∃yv:Tn,yv=⟨F.time,t,r.ops⟩:=⟨_,rfl⟩
   obtain⟨x5,(xy:Hid _)⟩:∃x5:Mc,x5=if rw=true then{F with V:=F.V++[yv]}else F:=⟨_,rfl⟩
   have jI:=ae cn;clear cn;go_upto_if 93 with fail
   go_cut[] (fun c=>zQ x0 A n k (q+1) x5 D s3 c);case first =>
    cases rw
    case' false=>go_wp2;go_meet;rw[xy.Y];exact⟨s3,CM.Y,gw.refl _ _⟩
    case' true =>
     have cn:=jI.Y;go_upto_region 11 with fail
     clear wE hl6;have RZ:Q<D.heap.size:=a6.Y.lt;have E8:Hid (MS (D.alloc (.cells #[F.time,t,.slice E.A r.ops.length E.c] 96)).drew x0 A n k (q+1) F s3):=CM.Y.more (ak (aj D) _).drew;have kM:D.drew.cell? ⟨x0,15,none⟩=some s3.V:=CM.Y.blk.cell 15;have nS:(D.alloc (.cells #[F.time,t,.slice E.A r.ops.length E.c] 96)).drew.cell? ⟨x0,15,none⟩=some s3.V:=E8.Y.blk.cell 15;have nR:D.cell? ⟨x0,15,none⟩=some s3.V:=kM;have Se:(D.alloc (.cells #[F.time,t,.slice E.A r.ops.length E.c] 96)).drew.cell? ⟨x0,18,none⟩=some (.int .i64 F.time):=E8.Y.blk.cell 18;have oA:x0<D.heap.size:=CM.Y.blk.lt;have e9:Q≠x0:=fun e=>N6.Y (.inl (.inl e));have lF:Hid (ru (D.alloc (.cells #[F.time,t,.slice E.A r.ops.length E.c] 96)).drew (Sx.I s3 (D.alloc (.cells #[F.time,t,.slice E.A r.ops.length E.c] 96)).drew x0) E.A r.ops):=LZ.Y.move (fun b J=>(ak (aj D) _).drew.block b J.1) fun b J=>⟨bL J.1 (ak (aj D) _).drew.size,J.2⟩
     have qu:Hid (Rd (D.alloc (.cells #[F.time,t,.slice E.A r.ops.length E.c] 96)).drew D.heap.size [F.time,t,.slice E.A r.ops.length E.c]):=Rd.lit D [F.time,t,.slice E.A r.ops.length E.c] 96;have wE:=fun(c:World) (l:(c.heap[Q]?=D.heap[Q]?/\c.cell? ⟨x0,18,none⟩=some (.int .i64 F.time))) i=>af.cell (af.rM a6.Y l.1) i;have mV:=fun(c:World) (l:(c.heap[Q]?=D.heap[Q]?/\c.cell? ⟨x0,18,none⟩=some (.int .i64 F.time)))=>l.2;refine wp_region_held_drew (S:=fun c:World=>(c.heap[Q]?=D.heap[Q]?/\c.cell? ⟨x0,18,none⟩=some (.int .i64 F.time))) (by kernel_rfl) ⟨rfl,CM.Y.blk.cell 18⟩ (fun hHeld=>?_);refine aP 0 hHeld ?_;refine aP 1 hHeld ?_;refine aP 2 hHeld ?_;refine aP 3 hHeld ?_;refine aP 5 hHeld ?_;refine aP 6 hHeld ?_;refine aP 7 hHeld ?_;refine aP 8 hHeld ?_;refine aP 9 hHeld ?_;refine aP 10 hHeld ?_;refine aP 11 hHeld ?_;refine aP 12 hHeld ?_;(try simp only[aC]);refine wpAnyH_ready (rs:=[4,13]) (by kernel_rfl) (by simp) ?_;refine(AllReadyH.cons (o:=⟨some 98,_,_,_,_,_⟩) rfl (fun K hK=>?_) (AllReadyH.cons (o:=⟨some 107,_,_,_,_,_⟩) rfl (fun K hK=>?_) AllReadyH.nil));go_simp;refine hK.Y _ _ (by first|assumption|exact⟨(ak (aj D) _).drew.block Q RZ,Se⟩) (fun hHeld=>?_);clear hK K;(try simp only[aC]);refine et 13 (fun K hK=>?_);go_simp;refine hK.Y _ _ (by first|assumption|exact⟨(ak (aj D) _).drew.block Q RZ,Se⟩) (fun hHeld=>?_);clear hK K;(try simp only[aC]);rotate_left;go_simp;refine hK.Y _ _ (by first|assumption|exact⟨(ak (aj D) _).drew.block Q RZ,Se⟩) (fun hHeld=>?_);clear hK K;(try simp only[aC]);refine et 4 (fun K hK=>?_);go_simp;refine hK.Y _ _ (by first|assumption|exact⟨(ak (aj D) _).drew.block Q RZ,Se⟩) (fun hHeld=>?_);clear hK K;(try simp only[aC]);all_goals
      refine et 14 (fun K hK=>?_);refine oI rfl _ _ 31 rfl 96 3 40 _ iL underlying31 xT rfl (by decide) _ F.V rfl E8.Y.V (fun b h=>MS.ae0 h) _ _ [F.time,t,.slice E.A r.ops.length E.c] rfl (List.all_eq_true.1 (by rfl)) rfl qu.Y (y:=yv) ⟨⟨E.A,E.c⟩,by rw[cn];rfl,by rw[cn];exact lF.Y⟩ (by have:=Lp.Y;omega) Lp.Y ?_;intro v5 w8 lH ux ei;obtain⟨B5,d5,Af⟩:=aI.shape lH;obtain⟨oD,kC⟩:∃l5,l5=(F.V++[yv]).length:=⟨_,rfl⟩
      rw[<-kC]at Af;subst Af;clear kC;have Nd:w8.heap[Q]?=D.heap[Q]?:=(ux.block Q (bL RZ (ak (aj D) _).drew.size) (fun e=>N6.Y (.inl (.inr (.inr (.inr (.inr (.inl e.symm)))))))).trans ((ak (aj D) _).drew.block Q RZ);have pJ:af w8 x0 101 (nW A n k F s3):=(ux.block x0 E8.Y.blk.lt fun e=>E8.Y.bO.2.2.2.1 x0 e.symm rfl).trans E8.Y.blk;obtain⟨zO,m8,FD⟩:=af.aM pJ;unfold nW at zO;obtain⟨rK,Kh,je,zG⟩:=bN lH ux ei pJ;clear lH ux ei pJ;refine hK.Y _ _ ⟨Nd,zG.Y.cell 18⟩ (fun hHeld=>?_);clear hK K;(try simp only[aC]);refine aP 15 hHeld ?_;refine aP 16 hHeld ?_;(try simp only[aC]);refine et 17 (fun K hK=>?_);go_simp;refine hK.Y _ _ ⟨(dp w8 ⟨x0,15,none⟩ _ Q e9).trans Nd,(zG.Y.bj 15 _).cell 18⟩ (fun hHeld=>?_);clear hK K;(try simp only[aC]);refine wpAnyH_done (by kernel_rfl) ?_ _;obtain⟨hM,hF⟩:=MS.adt E8.Y rK.Y Kh.Y je.Y;(try clear m);clear zO m8 FD wE mV hHeld nR kM nS Se;go_wp2;go_meet;rw[xy.Y,au trivial];exact⟨_,hM,gw.trans (gw.ext (ak (aj D) _).drew _) hF⟩
   case rest =>
    obtain⟨s5,eQ,RA⟩:=hcut;obtain⟨h5,n5⟩:=gw.blk RA g7.Y N5.Y;obtain⟨h6,n6⟩:=gw.blk RA a6.Y N6.Y;have Yu:x5.T=x3.T.set t r.k:=by rw[xy.Y,bY.Y];split<;>rfl
    have kZ:x5.N=y.N:=by rw[xy.Y,bY.Y,cw.Y,Ti.Y];split<;>split<;>rfl
    have YC:x5.P=y.P:=by rw[xy.Y,bY.Y,cw.Y,Ti.Y];split<;>split<;>rfl
    have kL:t<x5.T.length:=by rw[Yu,cq];exact pV.Y
    have pJ:bm x5 t=r.k:=by unfold bm;rw[Yu,cZ,List.getElem?_set_self pV.Y];rfl
    have R3:r.k.aN=Kt.aN:=by rw[eo.Y];exact(Ht _ _ _).1
    have oK:r.note≠1:=by rw[eo.Y];exact Mn _ _
    have cO:=Kg eQ r.note t kL r.k.res (by rw[pJ,R3,ct.Y];exact U.Y.rq) (by rw[kZ];exact bq U.Y.N (by decide));rw[pJ,ah oK]at cO;obtain⟨rn,wZ⟩:∃rn,rn=r.note:=⟨_,rfl⟩
    rw[<-wZ]at cO h6;have a7:=fun(c:World) (l:c.heap[u]?=_)=>(af.cell (af.rM h5 l) 27).trans (by rw[g.Y];rfl:_=some (.int .i64 r.k.res.seq));have Zp:=fun(c:World) (l:c.heap[u]?=_)=>(af.cell (af.rM h5 l) 28).trans (by rw[g.Y];rfl:_=some (.int .i64 r.k.res.cs));have a8:=fun(c:World) (l:c.heap[u]?=_)=>(af.cell (af.rM h5 l) 29).trans (by rw[g.Y];rfl:_=some (.int .i64 r.k.res.code));have bg:=fun(c:World) (l:c.heap[u]?=_)=>(af.cell (af.rM h5 l) 30).trans (by rw[g.Y];rfl:_=some (.int .i64 r.k.res.value));obtain⟨x6,Nb⟩:∃x6:Mc,x6=if rn≠0 then{x5 with N:=x5.N++[⟨rn,t,r.k.seq,x5.time,r.k.aN,r.k.res⟩]}else x5:=⟨_,rfl⟩
    have jQ:x6.P=y.P:=by rw[Nb];split<;>exact YC
    have kG:=Wn Sd.Y HY.Y ct.Y HP.Y Ti.Y eo.Y cw.Y bY.Y GY.Y jI.Y xy.Y wZ Nb;obtain⟨lp,VC,g8,ld,mm,my⟩:=cT eQ (gw.trans xH.Y RA) h5 h6 n5 n6;obtain⟨xp,RY,ez,cv,gK,gP⟩:=cT cO kG Nb jQ a7 Zp;obtain⟨gW,gX⟩:=av a8 bg;obtain⟨rs,fh⟩:∃rs,rs=r.k.res:=⟨_,rfl⟩
    have Co:=ae fh;rw[<-fh]at xp ez RY gK gP gW gX;obtain⟨wE,-,hl6⟩:=af.aM h6;clear eQ RA h5 h6 n5 n6 cO kG Nb jQ Yu kZ YC kL pJ R3 oK wZ CM xH g7 a6 LZ N5 N6 a7 Zp a8 bg fh;have a7:=gK.Y _ rfl;have Zp:=gP.Y _ rfl;have a8:=gW.Y _ rfl;have bg:=gX.Y _ rfl;have FD:=g8.Y.lt;go_upto_if 113 with fail
    go_cut[] (fun c=>zQ x0 A n k (q+1) x6 wc s5 c);case first =>
     by_cases hn:rn=0
     ·have d1:(rn !=0)=false:=by rw[hn];rfl
      have HN:=ae hn;clear hn;go_wp2;go_meet;rw[ez.Y,ah (fun e=>e HN.Y)];exact⟨s5,lp.Y,gw.refl _ _⟩
     ·have d1:(rn !=0)=true:=by simpa using hn
      have HN:=ae hn;clear hn;go_wp2_with fail;go_fit xp.Y;rintro e w9 ⟨rfl,(HE:Hid _)⟩;go_wp2;go_meet;rw[ez.Y,au HN.Y];exact HE.Y
    case rest =>
     obtain⟨s6,T,aq⟩:=hcut;obtain⟨h5,n5⟩:=gw.blk aq g8.Y mm.Y;obtain⟨h6,-⟩:=gw.blk aq ld.Y my.Y;obtain⟨gQ,dQ,zr,dz,oy,e9,YA,ea,L,ox⟩:=T.IM (show t<x6.P.length by rw[cv.Y,U.Y.P];exact HT.Y);have MH:gH x6 t=gH y t:=by unfold gH;rw[cv.Y]
     rw[MH]at YA ea L;have Yw:=U.Y.p8;obtain⟨p,hp⟩:∃p,p=gH y t:=⟨_,rfl⟩
     rw[<-hp]at YA ea L RY Yw;obtain⟨on,kK⟩:∃on,on=p.on:=⟨_,rfl⟩
     rw[<-kK]at RY;have c0:=L 0 _ rfl;rw[Nat.add_zero, <-kK]at c0;have c1:=L 1 _ rfl;have c2:=L 2 _ rfl;have c3:=L 3 _ rfl;have c4:=L 4 _ rfl;have c5:=L 5 _ rfl;have c6:=L 6 _ rfl;have xd:=Bw wc.drew p zr rs (YA.1.below (aj wc).drew) Yw ea;obtain⟨Nk,bR,er,bz,JX,nV⟩:=cT T (gw.trans VC.Y aq) dz h5 kK hp;obtain⟨wE,-,hl6⟩:=af.aM h6;obtain⟨m,-,jd⟩:=af.aM T.blk;unfold nW at m;rw[dz]at m;have nt:t<x6.P.length:=by rw[cv.Y,U.Y.P];exact HT.Y
     obtain⟨p',oJ⟩:∃p',p'=gG p rs:=⟨_,rfl⟩
     rw[<-oJ]at xd RY;unfold ma at xd;(try dsimp only at xd);rw[<-kK]at xd;obtain⟨YB,l4⟩:=av xd nt;have YC:x0≠gQ:=fun e=>T.bO.2.1 gQ (by rw[dz];rfl) e.symm;have m0:u≠gQ:=fun e=>n5 (.inl (e▸e9));clear T aq h5 h6 n5 hp oJ kK MH dz YA ea L Yw xd a7 Zp a8 bg;by_cases h3:rn=3;rotate_left
     ·have d3:(rn==3)=false:=by simpa using h3
      have H3:=ae h3;clear h3;go_wp2;go_ret;rw[RY.Y,ah (fun e=>H3.Y e.1)];exact⟨rfl,q+1,aS _,s6,Nk.Y,bR.Y⟩
     have d3:(rn==3)=true:=by rw[h3];rfl
     have H3:=ae h3;clear h3;cases on
     ·go_wp2;go_ret;rw[RY.Y,ah (fun e=>by cases e.2)];exact⟨rfl,q+1,aS _,s6,Nk.Y,bR.Y⟩
     go_upto_region 15 with fail
     clear m wE hl6;have m:=fun(c:World) (l:c.heap[x0]?=wc.heap[x0]?/\c.heap[u]?=wc.heap[u]?) i=>af.cell (af.rM Nk.Y.blk l.1) i;unfold nW at m;rw[er.Y]at m;have a7:=fun(c:World) (l:c.heap[x0]?=wc.heap[x0]?/\c.heap[u]?=wc.heap[u]?)=>(af.cell (af.rM bz.Y l.2) 27).trans (by rw[g.Y,Co.Y];rfl:_=some (.int .i64 rs.seq));have Zp:=fun(c:World) (l:c.heap[x0]?=wc.heap[x0]?/\c.heap[u]?=wc.heap[u]?)=>(af.cell (af.rM bz.Y l.2) 28).trans (by rw[g.Y,Co.Y];rfl:_=some (.int .i64 rs.cs));have a8:=fun(c:World) (l:c.heap[x0]?=wc.heap[x0]?/\c.heap[u]?=wc.heap[u]?)=>(af.cell (af.rM bz.Y l.2) 29).trans (by rw[g.Y,Co.Y];rfl:_=some (.int .i64 rs.code));have bg:=fun(c:World) (l:c.heap[x0]?=wc.heap[x0]?/\c.heap[u]?=wc.heap[u]?)=>(af.cell (af.rM bz.Y l.2) 30).trans (by rw[g.Y,Co.Y];rfl:_=some (.int .i64 rs.value));have FD:=bz.Y.lt;refine wp_region_held_drew (S:=fun c:World=>c.heap[x0]?=wc.heap[x0]?/\c.heap[u]?=wc.heap[u]?) (by kernel_rfl) ⟨rfl,rfl⟩ (fun hHeld=>?_);refine aP 0 hHeld ?_;refine aP 1 hHeld ?_;refine aP 2 hHeld ?_;refine aP 3 hHeld ?_;refine aP 4 hHeld ?_;refine aP 5 hHeld ?_;refine aP 6 hHeld ?_;refine aP 7 hHeld ?_;refine aP 8 hHeld ?_;refine aP 9 hHeld ?_;refine aP 10 hHeld ?_;refine aP 12 hHeld ?_;refine aP 13 hHeld ?_;(try simp only[aC]);refine et 11 (fun K hK=>?_);go_simp;refine hK.Y _ _ (by assumption) (fun hHeld=>?_);clear hK K;(try simp only[aC]);refine et 14 (fun K hK=>?_);go_simp;(with_reducible go_fit YB.Y);rintro e w6 ⟨zg,rfl,(Bu:Hid _),iF⟩;have E4:=ae (Nk.Y.more (ai (aj wc).drew iF));have e0:=(Below.cell iF (bb c0)).trans c0;have e1:=(Below.cell iF (bb c1)).trans c1;have e2:=(Below.cell iF (bb c2)).trans c2;have e3:=(Below.cell iF (bb c3)).trans c3;have e4:=(Below.cell iF (bb c4)).trans c4;have e5:=(Below.cell iF (bb c5)).trans c5;have e6:=(Below.cell iF (bb c6)).trans c6;have MH:=E4.Y.P;rw[er.Y]at MH;have FK:=fun i=>aI.cR MH i;have e8:w6.heap[x0]?=wc.heap[x0]?/\w6.heap[u]?=wc.heap[u]?:=⟨iF.block x0 jd,iF.block u FD⟩
     have xe:=ae iF;clear c0 c1 c2 c3 c4 c5 c6 iF MH;go_wp2_with fail;refine hK.Y _ _ e8 (fun hHeld=>?_);clear hK K;(try simp only[aC]);refine aP 15 hHeld ?_;(try simp only[aC]);refine et 16 (fun K hK=>?_);go_simp;refine hK.Y _ _ ⟨(aO YC (ma p' zg) (t*7)).trans e8.1,(aO m0 (ma p' zg) (t*7)).trans e8.2⟩ (fun hHeld=>?_);clear hK K;(try simp only[aC]);refine wpAnyH_done (by kernel_rfl) ?_ _;clear hHeld;have hU:=fun b J=>Nk.Y.ul (b:=b) J;obtain⟨hM,hF⟩:=MS.aaU E4.Y er.Y l4.Y p' zg ⟨Bu.Y.1.mono fun b J=>⟨J.2,fun e=>Nat.lt_irrefl _ (bL (hU b (.inr e)) J.1),fun e=>Nat.lt_irrefl _ (bL (hU b (.inl e)) J.1),fun e=>Nat.lt_irrefl _ (bL (Nk.Y.ol b e).1 J.1)⟩,Bu.Y.2⟩;unfold ma at hM hF;rw[cv.Y]at hM;obtain⟨CM,xH⟩:=av hM (gw.trans (gw.trans bR.Y (gw.ext (ai (aj wc).drew xe.Y) _)) hF);clear hM hF e0 e1 e2 e3 e4 e5 e6 FK m hU a7 Zp a8 bg;go_wp2;go_ret;rw[RY.Y,au ⟨H3.Y,trivial⟩];exact⟨rfl,q+1,aS _,s6,CM.Y,xH.Y⟩
end
end Go.Proofs.YtjcjjiieblineaaGreat
