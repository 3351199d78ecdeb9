/- Walks and plain facts. No condition. -/
import Derived.Test.YtpfbfhfcbdbglaaGreatPn
namespace Go.Proofs.YtpfbfhfcbdbglaaGreat
open Go.RowKit Go.Proofs.Tryz Mo
set_option maxHeartbeats 8000000
set_option maxRecDepth 100000
set_option linter.all false
variable {w w' wx w1 W0 wB W w5 wy:World}{n k x0 p i j b g5 g6:Nat}{A:Option Addr}{x x':Mo.Mc}{s:Sx}{m m':Mm}{c:Mo.dG}{X O:Nat->Prop}{t:Int}{e:TypeId}{v v':Value}{o o':Sl}{y:Mo.Tn}{ops:Array Oper}{a:Act}{Q:Exit->Act->World->Prop}{E:Prop}{z':Sh}
variable[OW]
section
variable{q:Nat}
theorem zj{g:Nat}(h:wx.heap[g]?=w.heap[g]?):wx.cell? ⟨g,i,none⟩=w.cell? ⟨g,i,none⟩:=by unfold World.cell?;simp only[h]
theorem MS.ado(h:s.I w x0 b):b<w/\s.V.ownBlock≠some b:=⟨h.1,λe=>h.2.2.1 (.inr (.inr (.inr (.inr (.inl e)))))⟩
theorem MS.ach(H:MS w x0 A n k q x s)(f:aD 80 3 Xw w1 0 (s.I w x0) v' (x.V++[y]))(d:w.grownBy w1 s.V.ownBlock)(g:v'.ownBlock=s.V.ownBlock\/v'.ownBlock=some w) :
 MS (w1.setCell ⟨x0,15,none⟩ v') x0 A n k q {x with V:=x.V++[y]} {s with V:=v'}/\gV w (w1.setCell ⟨x0,15,none⟩ v') (s.U x0) (Sx.U {s with V:=v'} x0):=by
 obtain⟨rows,h,c,i⟩:=H.V
 exact H.adi (aH.aW c (Below.refl 0 w) d (aZ _) (aR _)) (λb a hn=>d.block b a λe=>hn e.symm) f λb a=>g.elim (λe=>.inl (e▸a)) λe=>.inr (by rw[a]at e;injection e with e;omega)
def MsQ(g:Nat)(A:Option Addr)(n k q:Nat)(f:Mc)(w:World)(s:Sx)(d:World):Prop:=∃a,a<=q+1/\zQ g A n k a f w s d
structure PkB (N:Int) (x:Mo.Mc) (t:Nat):Prop where
 T:t<x.T.length
 P:x.P.length=x.T.length
 S:x.S.length=x.T.length
 M:x.M.length=x.T.length
 p8:(Mo.iW x t).outs.length<=8
 seq:0<=(Mo.cC x t).seq/\(Mo.cC x t).seq<=1048575
 N:x.N.length<=900000
 tm:0<=x.time/\x.time<=1000000
structure PkR (N:Int) (n q:Nat) (y:Mo.Mc) (t:Nat):Prop where
 rb:Mo.RB y.c N ⟨Mo.cC y t,y.L,0,false,[]⟩
 fb:Mo.FB y.c (Mo.cC y t)
 own:12<(Mo.cC y t).pc->(Mo.cC y t).pc<=15->0<=(Mo.cC y t).aJ.own.ix/\(Mo.cC y t).aJ.own.ix<Mo.bX y.c
 L:(y.L.length:Int)=Mo.bG y.c
 cs:CfS y.c n t
 N9:N<=90000
 q9:q<=900000
structure PkY (N:Int) (n q:Nat) (y:Mo.Mc) (t:Nat):Prop where
 S:y.S.length=y.T.length
 M:y.M.length=y.T.length
 P:y.P.length=y.T.length
 sb:∀v∈y.S,0<=v/\v<=1000000
 r:PkR N n q y t
 N:y.N.length<=900000
 V:y.V.length<=1000000
 p8:(Mo.iW y t).outs.length<=8
 rq:(Mo.cC y t).aQ.cases.length<=1000000
def zk(g:World)(f:Nat)(A:Option Addr)(n k q:Nat)(y:Mc)(s:Sx)(r:Rn)(h l:Value)(d:World):Prop:=∃g5 g6 m' z',∃o':Sl,h=.pointer (some ⟨g5,0,none⟩)/\l=.pointer (some ⟨g6,0,none⟩)/\MS d f A n k (q+1) {y with L:=r.L} {s with m:=m'}/\gV g d (s.U f) (Sx.U {s with m:=m'} f)/\ag d g5 75 (jA r.k z').toArray/\ag d g6 138 #[r.note,r.pj,.slice o'.A r.ops.length o'.c]/\oh d (Sx.I {s with m:=m'} d f) r.k z'/\rN d (Sx.I {s with m:=m'} d f) o'.A r.ops/\g<=g5/\g<=g6/\¬Sx.U {s with m:=m'} f g5/\¬Sx.U {s with m:=m'} f g6
def Xp(s:Sx)(d a c b:Nat):Prop:=(s.X d b\/OW.O b)\/(a<=b/\b<c)
theorem zk.of{y:Mc}{r:Rn}(H:MS w5 x0 A n k q y s)(f:Ext w5 W0)(P:W0.heap.size<=p)(C:xz wB m' r.L (q+1))(L:oh wB (Im wB (Xp s x0 w5 W0.heap.size) p m') r.k z')(K:rN wB (Im wB (Xp s x0 w5 W0.heap.size) p m') o'.A r.ops)(hF:cP W0 wB p s.m m')(u:Below 0 wB wx)(l:∀b,b<wB.heap.size->¬(w5.heap.size<=b/\b<W0.heap.size)->wx.heap[b]?=wB.heap[b]?)(I:ag wx g5 75 (jA r.k z').toArray)(J:ag wx g6 138 #[r.note,r.pj,.slice o'.A r.ops.length o'.c])(D:w5.heap.size<=g5)(G:w5.heap.size<=g6)(M:¬m'.own g5)(N:¬m'.own g6):zk w5 x0 A n k q y s r (.pointer g5) (.pointer g6) wx:=by
 have o:=f.Y.size
 have m:=hF.lS.size
 have F:cP w5 wx p s.m m':=⟨((f.Y.mono (aZ _)).trans hF.lS).trans u,λb c d j=>(l b aa aa).trans ((hF.same b aa d j).trans (f.Y.block b c)),λb a=>(hF.own b a).imp id λh=>by omega,hF.g⟩
 obtain⟨c,d⟩:=H.J7 F aa (C.same λb a=>l b (C.lt a) λe=>(hF.own b a).elim (λh=>by have:=H.mem.lt h;omega) λh=>by omega)
 have i:Sm (Im wB (Xp s x0 w5 W0.heap.size) p m') wB wx:=λb a=>l b a.1 λe=>a.2.2.2 (.inr e)
 have g:∀b,Im wB (Xp s x0 w5 W0.heap.size) p m' b->Sx.I {s with m:=m'} wx x0 b:=λb a=>⟨bW a.1 u.size,a.2.2.1,λe=>a.2.2.2 (.inl (.inl e)),λe=>a.2.2.2 (.inl (.inr e))⟩
 exact⟨g5,g6,m',z',o',rfl,rfl,c,d,I,J,L.move i g,K.move i g,D,G,λe=>e.elim (λe=>Nat.lt_irrefl _ (bW (H.ul (.inl e)) D)) M,λe=>e.elim (λe=>Nat.lt_irrefl _ (bW (H.ul (.inl e)) G)) N⟩
theorem Z5{P:Prop}(h:P:=by with_reducible(repeat(first|assumption|exact Ext.start _|exact Ext.iD _ _|exact Ext.vo _ _ _|refine Ext.alloc ?_ _))):P:=h
def StT(X:Nat->Prop)(m:Mm)(q:Nat)(r:Rn)(w:World)(e:Ending)(d:World):Prop:=∃p m' b,∃o':Sl,∃a:List Value,w.heap.size<=p/\e=.returned (.tuple #[.agg a.toArray,.agg #[r.note,r.pj,.slice o'.A r.ops.length o'.c]])/\a=jA r.k b/\xz d m' r.L q/\oh d (Im d X p m') r.k b/\rN d (Im d X p m') o'.A r.ops/\cP w d p m m'
theorem XI.letter{r:Rn}{e:Ending}(h:XI X c m q r w e w'):StT X m q r w e w':=by obtain⟨p,j,l,k,a,b,d,_,f,g,i⟩:=h;exact⟨p,j,l,k,_,a,b,rfl,d,f,g,i⟩
def PX(w:World)(O:Nat->Prop)(d:World):Prop:=Below 0 w d/\∀b,b<w.heap.size->¬O b->d.heap[b]?=w.heap[b]?
theorem PX.of(h:Ext w wx)(O:Nat->Prop):PX w O wx:=⟨h.Y.mono (aZ _),λb a _=>h.Y.block b a⟩
theorem PX.frr(h:Ext w W0)(F:cP W0 wB p m m')(d:W0.heap.size<=p):PX w m.own wB:=⟨(h.Y.mono (aZ _)).trans F.lS,λb a c=>(F.same b (bW a h.Y.size) (by have:=h.Y.size;omega) c).trans (h.Y.block b a)⟩
theorem PX.more(h:PX w O wx)(f:Below wx wx wy):PX w O wy:=⟨h.1.trans (f.mono (aZ _)),λb a c=>(f.block b (bW a h.1.size)).trans (h.2 b a c)⟩
theorem PX.alloc(h:PX w O wx)(o:Obj):PX w O (wx.alloc o):=h.more (aj (ai _) o)
theorem PX.ax(h:PX w O wx){g:Nat}(f:w.heap.size<=g)(vs:List Value)(i:Nat):PX w O (ax wx g i vs):=⟨az (aZ _) _ _ _ h.1,λb a c=>(aM aa vs i).trans (h.2 b a c)⟩
theorem zk.leaf{y:Mc}{r:Rn}(H:MS w5 x0 A n k q y s)(F:Ext w5 W0)(G:W0.heap.size<=p)(f:xz wB m' r.L (q+1))(D:oh wB (Im wB (Xp s x0 w5 W0.heap.size) p m') r.k z')(C:rN wB (Im wB (Xp s x0 w5 W0.heap.size) p m') o'.A r.ops)(hF:cP W0 wB p s.m m')(l:Below wB wB W){g:List Value}(u:g=jA r.k z')(z:ag W g5 75 zT.toArray)(B:ag W g6 138 ([oZ,false,oN]:VL).toArray)(d:g5≠g6)(K:w5.heap.size<=g5)(L:w5.heap.size<=g6)(I:wB.heap.size<=g5\/g5<W0.heap.size)(J:wB.heap.size<=g6\/g6<W0.heap.size):zk w5 x0 A n k q y s r (.pointer g5) (.pointer g6) (ax (ax W g5 0 g) g6 0 ([r.note,r.pj,.slice o'.A r.ops.length o'.c]:VL)):=by refine zk.of H F G f D C hF (az (aZ _) _ _ _ (az (aZ _) _ _ _ (l.mono (aZ _)))) (λb c i=>(aM aa _ _).trans ((aM aa _ _).trans (l.block b c))) ?_ (aY (aX B d.symm _ _) rfl) K L (λe=>(hF.own _ e).elim (λh=>by have:=H.mem.lt h;omega) λh=>I.elim (λa=>by have:=f.lt e;omega) λa=>by omega) (λe=>(hF.own _ e).elim (λh=>by have:=H.mem.lt h;omega) λh=>J.elim (λa=>by have:=f.lt e;omega) λa=>by omega);rw[<-u];exact aX (aY z (by rw[u];rfl)) d _ _
theorem MS.step(H:MS w x0 A n k q x s){t:Nat}{N:Int}(B:PkR N n q x t)(u:t<x.T.length){z:Sh}(l:oh w (s.I w x0) (cC x t) z)(r:(cC x t).pc≠0)(d:Ext w wx):Calls prog 69 #[j8 x.c A n k,.pointer (some ⟨s.m.g,0,none⟩),t,.agg (jA (cC x t) z).toArray] wx (XI (Xp s x0 w wx) x.c s.m (q+1) (fJ x.c t ⟨cC x t,x.L,0,false,[]⟩) wx):=by
 have c:=d.Y.size;have i:Sm (s.I w x0) w wx:=λb a=>d.Y.block b a.1;have g:∀b,s.I w x0 b->Iz wx (Xp s x0 w wx) s.m b:=λb a=>⟨bW a.1 c,a.2.1,λe=>e.elim (λe=>e.elim a.2.2.1 a.2.2.2) λe=>by have:=a.1;omega⟩
 have f:=B.rb.f.a;unfold nh at f;refine Nb (N:=N) ⟨H.mem.more d.Y,B.L,B.cs,λb a e=>e.elim (λe=>e.elim (H.mx b a) λe=>(H.ol b e).2 (.inr a)) λe=>by have:=H.mem.lt a;omega,λb a=>a.elim (λh=>bW (h.elim (λh=>H.ul (.inl h)) λh=>(H.ol b h).1) c) λh=>h.2,(H.cf.same i).mono g,l.move i g⟩ B.rb B.fb B.own B.N9 B.q9 ?_;have j:=f.1.1;dsimp only at j;omega
theorem gV.blk{U U':Nat->Prop}(h:gV w w' U U'){g:Nat}{a:Array Value}(d:ag w g e a)(f:¬U g):ag w' g e a/\¬U' g:=⟨ag.tA d (h.same g d.lt f),λe=>(h.own g e).elim f λe=>by have:=d.lt;omega⟩
namespace Mo
theorem Vo{x M y d G g h H:Mc}{t:Nat}{r:Rn}{K:Tk}{L:Bool}{N:Tn}{l:Int}(I:M={x with time:=x.time+1})(J:y=gj M t)(T:K=cC y t)(U:¬K.pc=0)(f:d=if K.waits=true then y else{y with S:=y.S.set t (y.S.getD t 0+1),M:=y.M.set t (max (y.M.getD t 0) (y.S.getD t 0+1))})(u:r=fJ d.c t ⟨K,d.L,0,false,[]⟩)(C:G={d with L:=r.L})(D:g={G with T:=G.T.set t r.k})(B:L=r.pj)(F:N=⟨g.time,t,r.ops⟩)(P:h=if L=true then{g with V:=g.V++[N]}else g)(V:l=r.note)(R:H=if l≠0 then{h with N:=h.N++[⟨l,t,r.k.seq,h.time,r.k.aQ,r.k.res⟩]}else h):pP x t=if l=3/\(iW y t).on=true then{H with P:=y.P.set t (jU (iW y t) r.k.res)}else H:=by
 have k:y.c=x.c:=by rw[J,qY.2,I]
 unfold pP;dsimp only;rw[<-I, <-J, <-T,au U];have b:d.c=x.c:=by rw[f];split<;>exact k
 have a:d.L=y.L:=by rw[f];split<;>rfl
 rw[b,a]at u;rw[<-f, <-u];subst R P F B V D C;have c:d.P=y.P:=by rw[f];split<;>rfl
 have e:iW d t=iW y t:=by unfold iW;rw[c]
 rw[<-c, <-e];clear u f;cases i:r.pj<;>by_cases j:r.note=0<;>simp only[i,j,if_true,if_false,ne_eq,not_true_eq_false,not_false_eq_true,Bool.false_eq_true,ite_true,ite_false]<;>rfl
end Mo
theorem SK{P:Prop}(h:P:=by first|exact PX.alloc aN _|exact(PX.alloc aN _).more (ai _).drew|exact PX.of (Z5:Ext w5 _) _):P:=h
theorem ag.two{g:Nat}{t:TypeId}{f:Array Value}(h:ag w g t f)(d:TypeId)(a:Array Value):ag (w.alloc (.cells a d)) g t f/\ag (w.alloc (.cells a d)) w d a:=⟨h.alloc _,ag.new _ _ _⟩
theorem ag.pair(w:World)(t d:TypeId)(a b:Array Value):ag ((w.alloc (.cells a t)).alloc (.cells b d)) w t a/\ag ((w.alloc (.cells a t)).alloc (.cells b d)) (w+1) d b:=⟨(ag.new _ _ _).alloc _,ag.newAt _ _ _ aA⟩
theorem ag.old{L:List Int}{g:Nat}{t:TypeId}{cs:Array Value}(h:ag W0 g t cs)(F:cP W0 wB p m m')(l:W0<=p)(d:xz w m L q)(f:w<=g):ag wB g t cs:=(F.same g h.lt (by have:=h.lt;omega) (λe=>by have:=d.lt e;omega)).trans h
theorem pkA{P:Prop}(h:P:=by
 have hz:=bm (Z5:Ext w5 _).Y.size HFB.lS.size;have hne:=fw h5 h6 af;have hL:=zk.leaf rY (Z5:Ext w5 _) Df HMB HTB HOB HFB (by first|exact ai _|exact aj (ai _) _|exact aj (aj (ai _) _) _) kM h5 h6 hne aa aa (by first|exact .inl aa|exact .inr Bg) (by first|exact .inl aa|exact .inr Bg);refine eQ 22 (λK hK=>?_);refine stT _ 0 T1 (by rw[kM.Y];rfl) (by rw[kM.Y];exact gR _ _) (ag.there h5 0 34 af) ?_;refine hK.Y _ _ (PX.ax aN aa _ _) (λhH=>?_);clear hK K;obtain⟨FI,hf6,hl6⟩:=ag.aF (aX h6 hne.symm T1 0);(try unfold zT at FI);(try unfold zT at hf6);(try unfold zT at hl6);refine eQ 23 (λK hK=>?_);go_simp;refine hK.Y _ _ (PX.ax aN aa [r.note,r.pj,.slice oB.A r.ops.length oB.c] 0) (λhH=>?_);clear hK K hH;refine nT ?_;clear FI hf6 hl6 h5 h6;go_wp2;go_meet;exact hL):P:=h
theorem pkV{P:Prop}(h:P:=by
 (with_reducible go_fit (HST.Y _ Z5));rintro e wB ⟨p,g,i,oB,T1,d,rfl,(kM:Hid _),a,c,b,f⟩;obtain⟨HMB,HTB,HOB,HFB,Df⟩:=bQ a c b f d;clear a c b f d;go_wp2_with fail;refine hK.Y _ _ (PX.frr (Z5:Ext w5 _) HFB Df) (λhH=>?_);clear hK K;refine aU 17 hH ?_;refine aU 18 hH ?_;refine aU 19 hH ?_;first
 |(have h5:=((ag.jd (ag.new w5 75 zT.toArray)).old HFB Df rY.mem (aR _))
   refine eQ 21 (λK hK=>?_)
   go_simp
   refine hK.Y _ _ SK (λhH=>?_)
   clear hK K
   obtain⟨h5,h6⟩:=h5.two 138 ([oZ,false,oN]:VL).toArray
   exact pkA)
 |(have h6:=((ag.jd (ag.new w5 138 ([oZ,false,oN]:VL).toArray)).old HFB Df rY.mem (aR _))
   refine eQ 20 (λK hK=>?_)
   go_simp
   refine hK.Y _ _ SK (λhH=>?_)
   clear hK K
   obtain⟨h6,h5⟩:=h6.two 75 zT.toArray
   exact pkA)
 |(obtain⟨h5,h6⟩:=ag.pair w5 75 138 zT.toArray ([oZ,false,oN]:VL).toArray
   have h5:=((ag.jd h5).old HFB Df rY.mem (aR _))
   have h6:=(ag.jd h6).old HFB Df rY.mem (bM _)
   exact pkA)
 |(obtain⟨h6,h5⟩:=ag.pair w5 138 75 ([oZ,false,oN]:VL).toArray zT.toArray
   have h5:=(ag.jd h5).old HFB Df rY.mem (bM _)
   have h6:=(ag.jd h6).old HFB Df rY.mem (aR _)
   exact pkA)):P:=h
theorem Vp(H:MS w x0 A n k q x s)(t:Nat){N:Int}(B:PkB N x t)(BY:PkY N n q (gj {x with time:=x.time+1} t) t) :
 Calls prog 40 #[.pointer x0,t] w λe w'=>e=.returned oZ/\MsQ x0 A n k q (pP x t) w s w':=by
 have MM:=B.tm
 have e1:IntKind.i64.wrap (x.time+1)=x.time+1:=bH _ aa
 obtain⟨xa,T2⟩:∃xa:Mc,xa={x with time:=x.time+1}:=⟨_,rfl⟩
 obtain⟨y,hy⟩:∃y,y=gj xa t:=⟨_,rfl⟩
 rw[<-T2, <-hy]at BY
 obtain⟨HH,HB,I,RE,HY⟩:=bQ H B BY T2 hy
 obtain⟨d,kf,iM⟩:=ag.aF H.blk
 unfold om at d
 clear H B BY MM T2 hy
 go_enter func40,ntmps40
 go_upto_region 2 with fail
 obtain⟨La,(uB:Hid _)⟩:=MS.tick HH (x.time+1)
 rw[<-RE.Y]at La
 have vV:=ae La
 clear La d kf iM
 generalize w.setCell ⟨x0,18,none⟩ (.int .i64 (x.time+1))=w1 at *
 have XA:=ae (Vh vV.Y t (by rw[RE.Y];exact HB.Y.T) (by rw[RE.Y];exact HB.Y.P) (by rw[RE.Y];exact HB.Y.S) (by rw[RE.Y];exact HB.Y.p8) (by rw[RE.Y];exact HB.Y.seq.1) (by rw[RE.Y];exact HB.Y.seq.2) (by rw[RE.Y];exact bm HB.Y.N (by decide)))
 rw[<-HY.Y]at XA
 go_wp2_with fail
 go_fit XA.Y
 rintro e w2 ⟨rfl,hE⟩
 obtain⟨s2,BQ,g8⟩:=hE
 obtain⟨uO,qG⟩:=av BQ (gV.trans uB g8)
 have kU:t<y.T.length:=by rw[HY.Y,qY.1,RE.Y];exact HB.T
 obtain⟨gT,dT,z,hv,j4,_,hz,hc,j2⟩:=BQ.task kU
 obtain⟨Kt,hK⟩:∃Kt,Kt=cC y t:=⟨_,rfl⟩
 have b6:=ae hK
 rw[<-hK]at hc hz
 obtain⟨d,-,iM⟩:=ag.aF BQ.blk
 unfold om at d
 rw[hv]at d
 have c0:=hc 0 _ rfl
 rw[Nat.add_zero]at c0
 have dh:=hc 32 _ rfl
 obtain⟨HV,HZ,HC,HT,uC⟩:=bQ hv hz hc kU j2
 clear BQ g8 XA vV uB hK hv hz hc j2
 by_cases rk:Kt.pc=0
 .have d1:(Kt.pc==0)=true:=by rw[rk];rfl
  have HP:=ae rk;clear rk;go_wp2;go_ret;have hM:pP x t=y:=by unfold pP;dsimp only;rw[<-RE.Y, <-HY.Y, <-b6.Y,ay HP.Y]
  rw[hM];exact⟨rfl,q,bM q,s2,uO,qG⟩
 have d1:(Kt.pc==0)=false:=by simpa using rk
 have HP:=ae rk
 clear rk
 obtain⟨X,(SG:Hid _)⟩:∃X:Mc,X=if Kt.waits=true then y else{y with S:=y.S.set t (y.S.getD t 0+1),M:=y.M.set t (max (y.M.getD t 0) (y.S.getD t 0+1))}:=⟨_,rfl⟩
 obtain⟨wt,er⟩:∃wt,wt=Kt.waits:=⟨_,rfl⟩
 rw[<-er]at dh
 have gF:=ae er
 clear er
 go_upto_if 34 with fail
 go_cut[] (λa=>MS a x0 A n k q X s2/\gV w a (s.U x0) (s2.U x0))
 case first =>
  cases wt with
  |true=>go_wp2;go_meet;exact⟨by rw[SG.Y,ay gF.Y.symm];exact uO.Y,qG⟩
  |false =>
   have Cx:t<y.S.length:=by rw[I.Y.S];exact HT.Y
   obtain⟨J,dS,SE,_,m5⟩:=aK.form uO.S (by intro e;rw[e]at Cx;exact absurd Cx (Nat.not_lt_zero _));have Kb:=uO.S;rw[SE]at Kb;have Xz:=aK.cell Kb (cq Cx);have my:=λi=>aK.frozen Kb i;have j0:=I.sb _ (List.getElem_mem Cx);obtain⟨g,en⟩:∃g,g=y.S[t]:=⟨_,rfl⟩
   have lA:Hid (y.S.getD t 0=g):=by unfold Hid;rw[en,ew,cq Cx];rfl
   rw[<-en]at Xz j0;have e2:IntKind.i64.wrap (g+1)=g+1:=bH _ aa;rw[SE]at d;obtain⟨Z3,fu⟩:=av SE Cx;obtain⟨ln,Gl⟩:∃ln,ln=y.S.length:=⟨_,rfl⟩
   rw[<-Gl]at d Cx;clear SE Kb en Gl;go_upto_region 7 with fail
   obtain⟨(qW:Hid _),BV⟩:=MS.ab6 uO Z3 t (g+1);have rW:=ae (gV.trans qG BV);clear BV d Xz my Cx m5 iM c0 dh j4;generalize w2.setCell ⟨J,t,none⟩ (.int .i64 (g+1))=P at *;have a8:t<y.M.length:=by rw[I.Y.M];exact HT.Y
   obtain⟨gM,dM,W,_,m0⟩:=aK.form qW.M (by intro e;dsimp only at e;rw[e]at a8;exact absurd a8 (Nat.not_lt_zero _));dsimp only at W;have cz:=qW.M;rw[W]at cz;have j1:=aK.cell cz (cq a8);have mr:=λi=>aK.frozen cz i;have Kb:=qW.S;rw[Z3.Y]at Kb;dsimp only at Kb;have Xz:=aK.cell (i:=t) (z:=g+1) Kb (List.getElem?_set_self fu);obtain⟨E,dO⟩:∃E,E=y.M[t]:=⟨_,rfl⟩
   have lz:Hid (y.M.getD t 0=E):=by unfold Hid;rw[dO,ew,cq a8];rfl
   rw[<-dO]at j1;have iA:J≠gM:=λe=>qW.sm J (by rw[Z3.Y];rfl) (by rw[W,e];rfl);have kF:x0≠gM:=λe=>qW.b9.2.2.2.2.2 gM (by rw[W];rfl) e.symm;have gC:=ae W;have Cx:=fu.Y;clear W cz Kb dO;have d:=λ(a:World) (c:a.heap[x0]?=P.heap[x0]?/\a.heap[J]?=P.heap[J]?) i=>ag.cell (ag.tA qW.blk c.1) i;unfold om at d;rw[Z3.Y,gC.Y]at d;dsimp only[dN]at d;have mm:∀a:World,(a.heap[x0]?=P.heap[x0]?/\a.heap[J]?=P.heap[J]?)->a.cell? ⟨J,t,none⟩=some (.int .i64 (g+1)):=λa c=>(zj c.2).trans Xz;refine wp_region_held_drew (S:=λa:World=>a.heap[x0]?=P.heap[x0]?/\a.heap[J]?=P.heap[J]?) gG ⟨rfl,rfl⟩ (λhH=>?_);refine aU 0 hH ?_;refine aU 1 hH ?_;refine aU 2 hH ?_;refine aU 3 hH ?_;refine aU 4 hH ?_;refine aU 5 hH ?_;refine aU 6 hH ?_;refine aU 7 hH ?_;refine aU 8 hH ?_;refine aU 9 hH ?_;refine aU 10 hH ?_;refine aU 12 hH ?_;refine aU 13 hH ?_;refine aU 14 hH ?_;refine aU 15 hH ?_;refine aU 16 hH ?_;refine aU 17 hH ?_;refine aU 18 hH ?_;(try simp only[aL]);refine eQ 11 (λK hK=>?_);go_simp;refine hK.Y _ _ aN (λhH=>?_);clear hK K;(try simp only[aL]);refine aU 19 hH ?_;refine aU 20 hH ?_;(try simp only[aL]);refine eQ 21 (λK hK=>?_);go_simp;have kd:(if E<g+1 then g+1 else E)=max E (g+1):=by split<;>omega
   obtain⟨P5,QP⟩:=MS.adg qW gC t (if E<g+1 then g+1 else E);have hZ:(World.drew (P.setCell ⟨gM,t,none⟩ (.int .i64 (if E<g+1 then g+1 else E)))).heap[x0]?=P.heap[x0]?/\(World.drew (P.setCell ⟨gM,t,none⟩ (.int .i64 (if E<g+1 then g+1 else E)))).heap[J]?=P.heap[J]?:=⟨((ai _).drew.block x0 P5.blk.lt).trans (dE P ⟨gM,t,none⟩ _ x0 kF),((ai _).drew.block J (P5.ul (.inl (.inr (.inr (.inr (.inr (.inr (.inl (by rw[Z3.Y];rfl))))))))) ).trans (dE P ⟨gM,t,none⟩ _ J iA)⟩
   have Dc:X={y with S:=y.S.set t (g+1),M:=y.M.set t (if E<g+1 then g+1 else E)}:=by rw[SG.Y,au (by rw[<-gF.Y];decide),lA.Y,lz.Y,kd]
   have rY:Hid (MS (World.drew (P.setCell ⟨gM,t,none⟩ (.int .i64 (if E<g+1 then g+1 else E)))) x0 A n k q X s2):=by rw[Dc];exact P5.more (ai _).drew
   clear Dc;have oc:=ae (gV.trans rW (gV.trans QP (gV.ext (ai _).drew _)));clear P5 QP kd;generalize(World.drew (P.setCell ⟨gM,t,none⟩ (.int .i64 (if E<g+1 then g+1 else E))))=w5 at *;refine hK.Y _ _ hZ (λhH=>?_);clear hK K;(try simp only[aL]);refine nT ?_;generalize(if E<g+1 then g+1 else E)=mx;clear hH hZ d mm j1 mr Xz m0 iA kF Cx a8 e2 j0;go_wp2;go_meet;exact⟨rY.Y,oc.Y⟩
 case rest =>
  obtain⟨(rY:Hid _),(oc:Hid _)⟩:=hcut;clear d iM j4 c0 dh uO qG;obtain⟨w5,CZ⟩:∃w5,w5=wc:=⟨_,rfl⟩
  rw[<-CZ]at rY oc ⊢;clear CZ;go_upto_region 8 with fail
  have ct:X.T=y.T:=by rw[SG.Y];split<;>rfl
  have cF:t<X.T.length:=by rw[ct];exact HT.Y
  have a7:cC X t=Kt:=by rw[b6.Y];unfold cC;rw[ct]
  have jw:Hid (PkR N n q X t):=by unfold Hid;rw[SG.Y];split<;>exact⟨I.r.rb,I.r.fb,I.r.own,I.r.L,I.r.cs,I.r.N9,I.r.q9⟩
  obtain⟨L,dU,zu,cO,m7,_,eO,cw,j3⟩:=rY.task cF;obtain⟨T0,yA⟩:∃T0,T0=jA Kt zu:=⟨_,rfl⟩
  have fl:Hid (T0.length=34):=by unfold Hid;rw[yA];rfl
  obtain⟨r,hr⟩:∃r,r=fJ X.c t ⟨Kt,X.L,0,false,[]⟩:=⟨_,rfl⟩
  obtain⟨df,HST⟩:=av hr (λ(a:World) (c:Ext w5 a)=>(MS.step rY jw cF eO (by rw[a7];exact HP.Y) c).mono (λe w' h=>XI.letter h));rw[a7, <-hr, <-yA]at HST;rw[a7]at cw;have SC:Hid (∀a:World,PX w5 s2.m.own a->a.rangeAt L (t*34) T0):=λa c j v hv=>(zj (c.2 L m7 (λe=>rY.mx L e (.inr (.inl (by rw[cO];rfl)))))).trans (cw j v (by rw[<-yA];exact hv));have d:=λ(a:World) (c:PX w5 s2.m.own a) i=>ag.cell (ag.tA rY.blk (c.2 x0 rY.blk.lt λe=>rY.mx x0 e (.inl rfl))) i;unfold om at d;rw[cO]at d;have Ck:=cF;unfold j8 at HST;obtain⟨lC,Sb,k9,lF,iH,za⟩:=cS cO cw j3 eO a7 ct;clear cO cw j3 eO a7 ct hr yA cF;go_cut[5,6] (λs5 s6 a=>zk w5 x0 A n k q X s2 r s5 s6 a);case first =>
   refine wp_region_held_drew (S:=PX w5 s2.m.own) gG (PX.of (Ext.start _) _) (λhH=>?_);refine aU 0 hH ?_;refine aU 1 hH ?_;refine aU 2 hH ?_;refine aU 3 hH ?_;refine aU 4 hH ?_;refine aU 5 hH ?_;refine aU 6 hH ?_;refine aU 7 hH ?_;refine aU 8 hH ?_;refine aU 9 hH ?_;refine aU 10 hH ?_;refine aU 11 hH ?_;refine aU 12 hH ?_;refine aU 13 hH ?_;refine aU 14 hH ?_;(try simp only[aL]);refine ldT 15 hH L (t*34) T0 fl.Y SC.Y ?_;(try simp only[aL]);refine wpAnyH_ready (rs:=[16,20,21]) gG aA ?_;refine(AllReadyH.cons (o:=⟨some 82,_,_,_,_,_⟩) rfl (λK hK=>?_) (AllReadyH.cons (o:=⟨some 5,_,_,_,_,_⟩) rfl (λK hK=>?_) (AllReadyH.cons (o:=⟨some 6,_,_,_,_,_⟩) rfl (λK hK=>?_) AllReadyH.nil)))
   .go_simp;(with_reducible go_fit (HST.Y _ Z5));rintro e wB ⟨p,mB,zB,oB,T1,ks,rfl,(kM:Hid _),g9,jL,hP,wG⟩;obtain⟨HMB,HTB,HOB,HFB,Df⟩:=bQ g9 jL hP wG ks;clear g9 jL hP wG ks;go_wp2_with fail;refine hK.Y _ _ (PX.frr (Z5:Ext w5 _) HFB Df) (λhH=>?_);clear hK K;(try simp only[aL]);refine aU 17 hH ?_;refine aU 18 hH ?_;refine aU 19 hH ?_;(try simp only[aL]);refine wpAnyH_ready (rs:=[20,21]) gG aA ?_;refine(AllReadyH.cons (o:=⟨some 5,_,_,_,_,_⟩) rfl (λK hK=>?_) (AllReadyH.cons (o:=⟨some 6,_,_,_,_,_⟩) rfl (λK hK=>?_) AllReadyH.nil))
    .go_simp;refine hK.Y _ _ SK (λhH=>?_);clear hK K;(try simp only[aL]);refine eQ 21 (λK hK=>?_);go_simp;refine hK.Y _ _ SK (λhH=>?_);clear hK K;(try simp only[aL]);obtain⟨h5,h6⟩:=ag.pair wB 75 138 zT.toArray ([oZ,false,oN]:VL).toArray;exact pkA
    .go_simp;refine hK.Y _ _ SK (λhH=>?_);clear hK K;(try simp only[aL]);refine eQ 20 (λK hK=>?_);go_simp;refine hK.Y _ _ SK (λhH=>?_);clear hK K;(try simp only[aL]);obtain⟨h6,h5⟩:=ag.pair wB 138 75 ([oZ,false,oN]:VL).toArray zT.toArray;exact pkA
   .go_simp;refine hK.Y _ _ SK (λhH=>?_);clear hK K;(try simp only[aL]);refine wpAnyH_ready (rs:=[16,21]) gG aA ?_;refine(AllReadyH.cons (o:=⟨some 82,_,_,_,_,_⟩) rfl (λK hK=>?_) (AllReadyH.cons (o:=⟨some 6,_,_,_,_,_⟩) rfl (λK hK=>?_) AllReadyH.nil))
    .go_simp;exact pkV
    .go_simp;refine hK.Y _ _ SK (λhH=>?_);clear hK K;(try simp only[aL]);refine eQ 16 (λK hK=>?_);go_simp;exact pkV
   .go_simp;refine hK.Y _ _ SK (λhH=>?_);clear hK K;(try simp only[aL]);refine wpAnyH_ready (rs:=[16,20]) gG aA ?_;refine(AllReadyH.cons (o:=⟨some 82,_,_,_,_,_⟩) rfl (λK hK=>?_) (AllReadyH.cons (o:=⟨some 5,_,_,_,_,_⟩) rfl (λK hK=>?_) AllReadyH.nil))
    .go_simp;exact pkV
    .go_simp;refine hK.Y _ _ SK (λhH=>?_);clear hK K;(try simp only[aL]);refine eQ 16 (λK hK=>?_);go_simp;exact pkV
  case rest =>
   obtain⟨f,F,m6,z6,m,rfl,rfl,bz,Sw,h5,h6,cv,dw,l5,l6,n5,n6⟩:=hcut;clear d HST SC fl Sb k9 lF;obtain⟨x3,b5⟩:∃x3:Mc,x3={X with L:=r.L}:=⟨_,rfl⟩
   obtain⟨O,bE⟩:∃O:Sx,O={s2 with m:=m6}:=⟨_,rfl⟩
   rw[<-b5, <-bE]at bz;rw[<-bE]at Sw cv dw n5 n6;have Fi:O.T=.slice L x3.T.length dU:=by rw[bE,b5];exact lC.Y
   have UH:t<x3.T.length:=by rw[b5];exact Ck
   obtain⟨T1,tx⟩:∃T1,T1=jA r.k z6:=⟨_,rfl⟩
   rw[<-tx]at h5;obtain⟨E7,C7,H5,H6,rJ,Bu⟩:=cS bz (gV.trans oc Sw) h5 h6 cv dw;obtain⟨r4,nt,gD,vZ,kM,N5⟩:=cS b5 bE Fi UH tx n5;have N6:=ae n6;have nu:x0≠f:=λe=>n5 (.inl (.inl e.symm));have gP:f≠L:=λe=>n5 (.inl (.inr (.inl (by rw[Fi,e];rfl))));have l4:F≠L:=λe=>n6 (.inl (.inr (.inl (by rw[Fi,e];rfl))));have Xy:x0≠L:=λe=>bz.b9.1 L (by rw[Fi];rfl) e.symm;have dc:Hid (MS wc.drew x0 A n k (q+1) x3 O):=bz.more (ai wc).drew;have fF:Hid (wc.drew.there L (t*34) 34):=by
    obtain⟨g',d',z',m9,_,_,_,mf,mn⟩:=dc.task UH;have h1:=m9.symm.trans Fi;injection h1 with h1
    injection h1 with h1
    injection h1 with h1
    subst h1;exactλj hj=>⟨by rw[mf j _ (cq (show j<(jA (cC x3 t) z').length from hj))];rfl,mn _⟩
   have PY:Hid (oh wc.drew (O.I wc.drew x0) r.k z6):=cv.move (λb C=>(ai wc).drew.block b C.1) λb C=>⟨bW C.1 (ai wc).drew.size,C.2⟩
   clear bz Sw h5 h6 cv dw b5 bE tx n5 n6 UH;go_upto_region 9 with fail
   have d:=λ(a:World) (c:a.heap[x0]?=wc.heap[x0]?/\a.heap[f]?=wc.heap[f]?) i=>ag.cell (ag.tA E7.blk c.1) i;unfold om at d;rw[Fi]at d;have nA:=vZ.Y;have Sc:∀a:World,(a.heap[x0]?=wc.heap[x0]?/\a.heap[f]?=wc.heap[f]?)->a.rangeAt f 0 T1:=λa c=>ag.range (ag.tA H5 c.2) T1 λj v hv=>by rw[List.getElem?_toArray];exact hv
   refine wp_region_held_drew (S:=λa:World=>a.heap[x0]?=wc.heap[x0]?/\a.heap[f]?=wc.heap[f]?) gG ⟨rfl,rfl⟩ (λhH=>?_);refine aU 0 hH ?_;refine aU 1 hH ?_;refine aU 2 hH ?_;refine aU 3 hH ?_;refine aU 4 hH ?_;(try simp only[aL]);refine ldT 5 hH f 0 T1 (by rw[kM.Y];rfl) Sc ?_;refine aU 6 hH ?_;(try simp only[aL]);refine eQ 7 (λK hK=>?_);refine stT L (t*34) T1 (by rw[kM.Y];rfl) (by rw[kM.Y];exact gR _ _) fF ?_;refine hK.Y _ _ ⟨aM Xy _ _,aM gP _ _⟩ (λhH=>?_);clear hK K;(try simp only[aL]);refine nT ?_;clear hH d Sc;obtain⟨b8,Vg⟩:=MS.ab5 dc gD vZ r.k z6 PY;rw[<-kM.Y]at b8 Vg;obtain⟨u,eG⟩:∃u:Mc,u={x3 with T:=x3.T.set t r.k}:=⟨_,rfl⟩
   rw[<-eG]at b8;obtain⟨Bo,fe,Q,CF,vE⟩:=bQ eG (aX (show ag wc.drew f 75 T1.toArray from H5.Y) gP T1 (t*34)) (aX (show ag wc.drew F 138 #[r.note,r.pj,.slice m.A r.ops.length m.c]from H6.Y) l4 T1 (t*34)) b8 (gV.trans C7 (gV.trans (gV.ext (ai wc).drew _) Vg));have PK:Hid (rN (ax wc.drew L (t*34) T1) (O.I (ax wc.drew L (t*34) T1) x0) m.A r.ops):=Bu.move (λb C=>aM (λe=>C.2.2.1 (.inr (.inl (by rw[gD.Y,e];rfl)))) T1 (t*34)) λb C=>⟨by rw[bO];exact C.1,C.2⟩
   clear b8 Vg eG fF PY dc H5 H6 E7 C7 rJ Bu;generalize ax wc.drew L (t*34) T1=l at *;obtain⟨FI,-,hl6⟩:=ag.aF Q;have gz:Hid (u.V.length<=1000000):=by unfold Hid;rw[Bo.Y,r4.Y,SG.Y];split<;>exact I.V
   obtain⟨rw,cD⟩:∃rw,rw=r.pj:=⟨_,rfl⟩
   have DR:=ae cD;rw[<-cD]at FI;rw[<-cD]at Q;clear cD;obtain⟨yv,(gH:Hid _)⟩:∃yv:Tn,yv=⟨u.time,t,r.ops⟩:=⟨_,rfl⟩
   obtain⟨Z,(nD:Hid _)⟩:∃Z:Mc,Z=if rw=true then{u with V:=u.V++[yv]}else u:=⟨_,rfl⟩
   go_upto_if 93 with fail
   go_cut[] (λa=>zQ x0 A n k (q+1) Z l O a);case first =>
    cases rw
    case' false=>go_wp2;go_meet;rw[nD.Y];exact⟨O,CF,gV.refl _ _⟩
    case' true =>
     have k7:=gH.Y;go_upto_region 11 with fail
     clear FI hl6;have xe:F<l.heap.size:=Q.lt;have BA:Hid (MS (l.alloc (.cells #[u.time,t,.slice m.A r.ops.length m.c] 80)).drew x0 A n k (q+1) u O):=CF.more (aj (ai l) _).drew;have kE:l.drew.cell? ⟨x0,15,none⟩=some O.V:=CF.blk.cell 15;have np:(l.alloc (.cells #[u.time,t,.slice m.A r.ops.length m.c] 80)).drew.cell? ⟨x0,15,none⟩=some O.V:=BA.blk.cell 15;have ni:l.cell? ⟨x0,15,none⟩=some O.V:=kE;have RF:(l.alloc (.cells #[u.time,t,.slice m.A r.ops.length m.c] 80)).drew.cell? ⟨x0,18,none⟩=some (.int .i64 u.time):=BA.blk.cell 18;have n7:x0<l.heap.size:=CF.blk.lt;have dz:F≠x0:=λe=>N6 (.inl (.inl e));have MG:Hid (rN (l.alloc (.cells #[u.time,t,.slice m.A r.ops.length m.c] 80)).drew (Sx.I O (l.alloc (.cells #[u.time,t,.slice m.A r.ops.length m.c] 80)).drew x0) m.A r.ops):=PK.move (λb C=>(aj (ai l) _).drew.block b C.1) λb C=>⟨bW C.1 (aj (ai l) _).drew.size,C.2⟩
     have qa:Hid (Rd (l.alloc (.cells #[u.time,t,.slice m.A r.ops.length m.c] 80)).drew l.heap.size [u.time,t,.slice m.A r.ops.length m.c]):=Rd.lit l [u.time,t,.slice m.A r.ops.length m.c] 80;have FI:=λ(a:World) (c:(a.heap[F]?=l.heap[F]?/\a.cell? ⟨x0,18,none⟩=some (.int .i64 u.time))) i=>ag.cell (ag.tA Q c.1) i;have l8:=λ(a:World) (c:(a.heap[F]?=l.heap[F]?/\a.cell? ⟨x0,18,none⟩=some (.int .i64 u.time)))=>c.2;refine wp_region_held_drew (S:=λa:World=>(a.heap[F]?=l.heap[F]?/\a.cell? ⟨x0,18,none⟩=some (.int .i64 u.time))) gG ⟨rfl,CF.blk.cell 18⟩ (λhH=>?_);refine aU 0 hH ?_;refine aU 1 hH ?_;refine aU 2 hH ?_;refine aU 3 hH ?_;refine aU 5 hH ?_;refine aU 6 hH ?_;refine aU 7 hH ?_;refine aU 8 hH ?_;refine aU 9 hH ?_;refine aU 10 hH ?_;refine aU 11 hH ?_;refine aU 12 hH ?_;(try simp only[aL]);refine wpAnyH_ready (rs:=[4,13]) gG aA ?_;refine(AllReadyH.cons (o:=⟨some 98,_,_,_,_,_⟩) rfl (λK hK=>?_) (AllReadyH.cons (o:=⟨some 107,_,_,_,_,_⟩) rfl (λK hK=>?_) AllReadyH.nil));go_simp;refine hK.Y _ _ (by first|assumption|exact⟨(aj (ai l) _).drew.block F xe,RF⟩) (λhH=>?_);clear hK K;(try simp only[aL]);refine eQ 13 (λK hK=>?_);go_simp;refine hK.Y _ _ (by first|assumption|exact⟨(aj (ai l) _).drew.block F xe,RF⟩) (λhH=>?_);clear hK K;(try simp only[aL]);rotate_left;go_simp;refine hK.Y _ _ (by first|assumption|exact⟨(aj (ai l) _).drew.block F xe,RF⟩) (λhH=>?_);clear hK K;(try simp only[aL]);refine eQ 4 (λK hK=>?_);go_simp;refine hK.Y _ _ (by first|assumption|exact⟨(aj (ai l) _).drew.block F xe,RF⟩) (λhH=>?_);clear hK K;(try simp only[aL]);all_goals
      refine eQ 14 (λK hK=>?_);refine oV rfl _ _ 34 rfl 80 3 40 _ je underlying34 xT rfl af _ u.V rfl BA.V (λb h=>MS.ado h) _ _ [u.time,t,.slice m.A r.ops.length m.c] rfl (List.all_eq_true.1 (by rfl)) rfl qa (y:=yv) ⟨⟨m.A,m.c⟩,by rw[k7];rfl,by rw[k7];exact MG.Y⟩ (by have:=gz.Y;omega) gz ?_;intro v5 w8 lh pL dJ;obtain⟨B5,d5,vh⟩:=aD.shape lh;obtain⟨n9,Eb⟩:∃l5,l5=(u.V++[yv]).length:=⟨_,rfl⟩
      rw[<-Eb]at vh;subst vh;clear Eb;have zJ:w8.heap[F]?=l.heap[F]?:=(pL.block F (bW xe (aj (ai l) _).drew.size) (λe=>N6 (.inl (.inr (.inr (.inr (.inr (.inl e.symm)))))))).trans ((aj (ai l) _).drew.block F xe);have sJ:ag w8 x0 86 (om A n k u O):=(pL.block x0 BA.blk.lt λe=>BA.b9.2.2.2.1 x0 e.symm rfl).trans BA.blk;obtain⟨IE,mq,FC⟩:=ag.aF sJ;unfold om at IE;obtain⟨pR,ll,iq,qT⟩:=bh lh pL dJ sJ;clear lh pL dJ sJ;refine hK.Y _ _ ⟨zJ,qT.cell 18⟩ (λhH=>?_);clear hK K;(try simp only[aL]);refine aU 15 hH ?_;refine aU 16 hH ?_;(try simp only[aL]);refine eQ 17 (λK hK=>?_);go_simp;refine hK.Y _ _ ⟨(dE w8 ⟨x0,15,none⟩ _ F dz).trans zJ,(qT.bp 15 _).cell 18⟩ (λhH=>?_);clear hK K;(try simp only[aL]);refine nT ?_;obtain⟨hM,hF⟩:=MS.ach BA pR ll iq;(try clear d);clear IE mq FC FI l8 hH ni kE np RF;go_wp2;go_meet;rw[nD.Y,ay trivial];exact⟨_,hM,gV.trans (gV.ext (aj (ai l) _).drew _) hF⟩
   case rest =>
    obtain⟨s5,dm,QV⟩:=hcut;obtain⟨h5,n5⟩:=gV.blk QV fe N5;obtain⟨h6,n6⟩:=gV.blk QV Q N6;have Xy:Z.T=x3.T.set t r.k:=by rw[nD.Y,Bo.Y];split<;>rfl
    have kG:Z.N=y.N:=by rw[nD.Y,Bo.Y,r4.Y,SG.Y];split<;>split<;>rfl
    have XE:Z.P=y.P:=by rw[nD.Y,Bo.Y,r4.Y,SG.Y];split<;>split<;>rfl
    have kB:t<Z.T.length:=by rw[Xy,dN];exact vZ.Y
    have sJ:cC Z t=r.k:=by unfold cC;rw[Xy,ew,List.getElem?_set_self vZ.Y];rfl
    have Ro:r.k.aQ=Kt.aQ:=by rw[df.Y];exact(Ha _ _ _).1
    have mI:r.note≠1:=by rw[df.Y];exact L8 _ _
    have cy:=J9 dm r.note t kB r.k.res (by rw[sJ,Ro,b6.Y];exact I.rq) (by rw[kG];exact bm I.N af);rw[sJ,au mI]at cy;obtain⟨rn,wV⟩:∃rn,rn=r.note:=⟨_,rfl⟩
    rw[<-wV]at cy h6;have R:=λ(a:World) (c:a.heap[f]?=_)=>(ag.cell (ag.tA h5 c) 27).trans (by rw[kM.Y];rfl:_=some (.int .i64 r.k.res.seq));have T:=λ(a:World) (c:a.heap[f]?=_)=>(ag.cell (ag.tA h5 c) 28).trans (by rw[kM.Y];rfl:_=some (.int .i64 r.k.res.cs));have U:=λ(a:World) (c:a.heap[f]?=_)=>(ag.cell (ag.tA h5 c) 29).trans (by rw[kM.Y];rfl:_=some (.int .i64 r.k.res.code));have V:=λ(a:World) (c:a.heap[f]?=_)=>(ag.cell (ag.tA h5 c) 30).trans (by rw[kM.Y];rfl:_=some (.int .i64 r.k.res.value));obtain⟨x6,M7⟩:∃x6:Mc,x6=if rn≠0 then{Z with N:=Z.N++[⟨rn,t,r.k.seq,Z.time,r.k.aQ,r.k.res⟩]}else Z:=⟨_,rfl⟩
    have g7:x6.P=y.P:=by rw[M7];split<;>exact XE
    have ku:=Vo RE HY b6 HP SG df r4 Bo DR gH nD wV M7;obtain⟨lp,UD,fg,k8,lM,lX⟩:=cS dm (gV.trans vE QV) h5 h6 n5 n6;obtain⟨zw,Rk,Fz,b7,e7,e8⟩:=cS cy ku M7 g7 R T;obtain⟨e9,fc⟩:=av U V;obtain⟨rs,dP⟩:∃rs,rs=r.k.res:=⟨_,rfl⟩
    have xn:=ae dP;rw[<-dP]at zw Fz Rk e7 e8 e9 fc;obtain⟨FI,-,hl6⟩:=ag.aF h6;clear dm QV h5 h6 n5 n6 cy ku M7 g7 Xy kG XE kB sJ Ro mI wV CF vE fe Q PK N5 N6 R T U V dP;have R:=e7.Y _ rfl;have T:=e8.Y _ rfl;have U:=e9.Y _ rfl;have V:=fc.Y _ rfl;have FC:=fg.lt;go_upto_if 113 with fail
    go_cut[] (λa=>zQ x0 A n k (q+1) x6 wc s5 a);case first =>
     by_cases hn:rn=0
     .have d1:(rn !=0)=false:=by rw[hn];rfl
      have HN:=ae hn;clear hn;go_wp2;go_meet;rw[Fz.Y,au (λe=>e HN.Y)];exact⟨s5,lp,gV.refl _ _⟩
     .have d1:(rn !=0)=true:=by simpa using hn
      have HN:=ae hn;clear hn;go_wp2_with fail;go_fit zw.Y;rintro e w9 ⟨rfl,(HE:Hid _)⟩;go_wp2;go_meet;rw[Fz.Y,ay HN.Y];exact HE.Y
    case rest =>
     obtain⟨s6,G,M⟩:=hcut;obtain⟨h5,n5⟩:=gV.blk M fg lM;obtain⟨h6,-⟩:=gV.blk M k8 lX;obtain⟨gQ,dQ,zr,cG,n4,dz,XD,cR,D,nC⟩:=G.IG (show t<x6.P.length by rw[b7.Y,I.Y.P];exact HT.Y);have SF:iW x6 t=iW y t:=by unfold iW;rw[b7.Y]
     rw[SF]at XD cR D;have U5:=I.p8;obtain⟨p,hp⟩:∃p,p=iW y t:=⟨_,rfl⟩
     rw[<-hp]at XD cR D Rk U5;obtain⟨on,jq⟩:∃on,on=p.on:=⟨_,rfl⟩
     rw[<-jq]at Rk;have c0:=D 0 _ rfl;rw[Nat.add_zero, <-jq]at c0;have c1:=D 1 _ rfl;have c2:=D 2 _ rfl;have c3:=D 3 _ rfl;have c4:=D 4 _ rfl;have c5:=D 5 _ rfl;have c6:=D 6 _ rfl;have wY:=Bw wc.drew p zr rs (XD.1.below (ai wc).drew) U5 cR;obtain⟨Nc,a6,dg,aq,Fy,nr⟩:=cS G (gV.trans UD M) cG h5 jq hp;obtain⟨FI,-,hl6⟩:=ag.aF h6;obtain⟨d,-,iM⟩:=ag.aF G.blk;unfold om at d;rw[cG]at d;have Zx:t<x6.P.length:=by rw[b7.Y,I.Y.P];exact HT.Y
     obtain⟨p',ko⟩:∃p',p'=jU p rs:=⟨_,rfl⟩
     rw[<-ko]at wY Rk;unfold nK at wY;(try dsimp only at wY);rw[<-jq]at wY;obtain⟨QO,lB⟩:=av wY Zx;have XE:x0≠gQ:=λe=>G.b9.2.1 gQ (by rw[cG];rfl) e.symm;have l9:f≠gQ:=λe=>n5 (.inl (e▸dz));clear G M h5 h6 n5 hp ko jq SF cG XD cR D U5 wY R T U V;by_cases h3:rn=3;rotate_left
     .have d3:(rn==3)=false:=by simpa using h3
      have H3:=ae h3;clear h3;go_wp2;go_ret;rw[Rk.Y,au (λe=>H3.Y e.1)];exact⟨rfl,q+1,aR _,s6,Nc,a6⟩
     have d3:(rn==3)=true:=by rw[h3];rfl
     have H3:=ae h3;clear h3;cases on
     .go_wp2;go_ret;rw[Rk.Y,au (λe=>by cases e.2)];exact⟨rfl,q+1,aR _,s6,Nc,a6⟩
     go_upto_region 15 with fail
     clear d FI hl6;have d:=λ(a:World) (c:a.heap[x0]?=wc.heap[x0]?/\a.heap[f]?=wc.heap[f]?) i=>ag.cell (ag.tA Nc.blk c.1) i;unfold om at d;rw[dg.Y]at d;have R:=λ(a:World) (c:a.heap[x0]?=wc.heap[x0]?/\a.heap[f]?=wc.heap[f]?)=>(ag.cell (ag.tA aq c.2) 27).trans (by rw[kM.Y,xn.Y];rfl:_=some (.int .i64 rs.seq));have T:=λ(a:World) (c:a.heap[x0]?=wc.heap[x0]?/\a.heap[f]?=wc.heap[f]?)=>(ag.cell (ag.tA aq c.2) 28).trans (by rw[kM.Y,xn.Y];rfl:_=some (.int .i64 rs.cs));have U:=λ(a:World) (c:a.heap[x0]?=wc.heap[x0]?/\a.heap[f]?=wc.heap[f]?)=>(ag.cell (ag.tA aq c.2) 29).trans (by rw[kM.Y,xn.Y];rfl:_=some (.int .i64 rs.code));have V:=λ(a:World) (c:a.heap[x0]?=wc.heap[x0]?/\a.heap[f]?=wc.heap[f]?)=>(ag.cell (ag.tA aq c.2) 30).trans (by rw[kM.Y,xn.Y];rfl:_=some (.int .i64 rs.value));have FC:=aq.lt;refine wp_region_held_drew (S:=λa:World=>a.heap[x0]?=wc.heap[x0]?/\a.heap[f]?=wc.heap[f]?) gG ⟨rfl,rfl⟩ (λhH=>?_);refine aU 0 hH ?_;refine aU 1 hH ?_;refine aU 2 hH ?_;refine aU 3 hH ?_;refine aU 4 hH ?_;refine aU 5 hH ?_;refine aU 6 hH ?_;refine aU 7 hH ?_;refine aU 8 hH ?_;refine aU 9 hH ?_;refine aU 10 hH ?_;refine aU 12 hH ?_;refine aU 13 hH ?_;(try simp only[aL]);refine eQ 11 (λK hK=>?_);go_simp;refine hK.Y _ _ aN (λhH=>?_);clear hK K;(try simp only[aL]);refine eQ 14 (λK hK=>?_);go_simp;(with_reducible go_fit QO.Y);rintro e w6 ⟨zg,rfl,(Bu:Hid _),Y⟩;have E7:=ae (Nc.more (ah (ai wc).drew Y));have e0:=(Below.cell Y (bc c0)).trans c0;have e1:=(Below.cell Y (bc c1)).trans c1;have e2:=(Below.cell Y (bc c2)).trans c2;have e3:=(Below.cell Y (bc c3)).trans c3;have e4:=(Below.cell Y (bc c4)).trans c4;have e5:=(Below.cell Y (bc c5)).trans c5;have e6:=(Below.cell Y (bc c6)).trans c6;have SF:=E7.P;rw[dg.Y]at SF;have hf6:=λi=>aD.bq SF i;have dy:w6.heap[x0]?=wc.heap[x0]?/\w6.heap[f]?=wc.heap[f]?:=⟨Y.block x0 iM,Y.block f FC⟩
     have nJ:=ae Y;clear c0 c1 c2 c3 c4 c5 c6 Y SF;go_wp2_with fail;refine hK.Y _ _ dy (λhH=>?_);clear hK K;(try simp only[aL]);refine aU 15 hH ?_;(try simp only[aL]);refine eQ 16 (λK hK=>?_);go_simp;refine hK.Y _ _ ⟨(aM XE (nK p' zg) (t*7)).trans dy.1,(aM l9 (nK p' zg) (t*7)).trans dy.2⟩ (λhH=>?_);clear hK K;(try simp only[aL]);refine nT ?_;clear hH;have hU:=λb C=>Nc.ul (b:=b) C;obtain⟨hM,hF⟩:=MS.ZX E7 dg lB p' zg ⟨Bu.1.mono λb C=>⟨C.2,λe=>Nat.lt_irrefl _ (bW (hU b (.inr e)) C.1),λe=>Nat.lt_irrefl _ (bW (hU b (.inl e)) C.1),λe=>Nat.lt_irrefl _ (bW (Nc.ol b e).1 C.1)⟩,Bu.2⟩;unfold nK at hM hF;rw[b7.Y]at hM;obtain⟨CF,vE⟩:=av hM (gV.trans (gV.trans a6 (gV.ext (ah (ai wc).drew nJ) _)) hF);clear hM hF e0 e1 e2 e3 e4 e5 e6 hf6 d hU R T U V;go_wp2;go_ret;rw[Rk.Y,ay ⟨H3.Y,trivial⟩];exact⟨rfl,q+1,aR _,s6,CF,vE⟩
end
variable[OW]
section
variable{q:Nat}
theorem zQ.ahead{d:Nat}(h:zQ x0 A n k d x' w1 s w')(f:Below w w w1):zQ x0 A n k d x' w s w':=by obtain⟨c,a,b⟩:=h;exact⟨c,a,gV.trans (gV.ext f _) b⟩
def DoB(N:Int)(n q:Nat)(x:Mc)(e:Ev):Prop:=0<=e.th->e.th<x.T.length->PkB N x e.th.toNat/\PkY N n q (gj {x with time:=x.time+1} e.th.toNat) e.th.toNat
theorem XJ(H:MS w x0 A n k q x s)(e:Ev)(z o:Sl){N:Int}(B:DoB N n q x e)(R:eo w (s.I w x0) bj z.A e.aQ.cases)(V:e.aQ.cases.length<=9223372036854775807)(P:bD w .i64 o.A e.outs)(G:e.outs.length<=9223372036854775807)(F:e.outs.length<=o.c) :
 Calls prog 17 #[.pointer x0,.agg (II e z o).toArray] w λr w'=>r=.returned (.int .i64 (Dh x e).2)/\MsQ x0 A n k q (Dh x e).1 w s w':=by
 obtain⟨g,v⟩:∃g,g=w.alloc (.cells (II e z o).toArray 60):=⟨_,rfl⟩
 have br:Hid (Below w w g):=by rw[v];exact aj (ai w) _
 have Y:Hid (ag g w 60 (II e z o).toArray):=by rw[v];exact ag.new _ _ _
 have m:=H.more br.Y
 obtain⟨C,T,S⟩:=aS m (rR m) (Bx m e.th)
 have U:Hid (eo g (s.I g x0) bj z.A e.aQ.cases):=(R.same (λb u=>br.Y.block b u.1)).mono λb u=>⟨bW u.1 br.Y.size,u.2⟩
 have X:=ae (P.below br.Y)
 have Q:Hid (∀w',g=w'->(Dh x e)=(x,15)->Ending.returned (.int .i64 15)=.returned (.int .i64 (Dh x e).2)/\MsQ x0 A n k q (Dh x e).1 w s w'):=λw' c d=>by
  rw[d, <-c]
  exact⟨rfl,q,bM q,s,C.Y,gV.ext br.Y _⟩
 obtain⟨J,I⟩:=av B v
 obtain⟨L,-,W⟩:=ag.aF Y.Y
 unfold II at L I ⊢
 clear H B R P m v
 go_enter func17,ntmps17
 go_upto_region 1 with fail
 rw[<-I.Y]
 clear I
 go_wp2_with fail
 go_fit T.Y
 rintro r O ⟨rfl,rfl⟩
 go_wp2_with fail
 go_fit S.Y
 rintro r O ⟨rfl,rfl⟩
 by_cases f:0<=e.th/\e.th<x.T.length
 rotate_left
 .have d1:decide (0<=e.th/\e.th<x.T.length)=false:=bF f;have p:=ae f;clear f;go_wp2;go_ret;exact Q.Y _ rfl (by unfold Dh;rw[ay (by have:=p.Y;omega)])
 have d1:decide (0<=e.th/\e.th<x.T.length)=true:=cg f
 have a:=ae (J.Y f.1 f.2)
 have j:Hid (∀y,(if e.kind=1 then(pP x e.th.toNat,0)else if e.kind=2 then mV x e.th.toNat e.aQ else if e.kind=3 then ma x e.th.toNat e.fG e.outs else(x,(15:Int)))=y->Dh x e=y):=λy h=>by unfold Dh;rw[au (by omega)];exact h
 obtain⟨t,E⟩:∃t:Nat,e.th=(t:Int):=⟨e.th.toNat,by omega⟩
 have l:e.th.toNat=t:=by omega
 rw[l]at a j
 have p:Hid (e.th=(t:Int)):=E
 rw[E]at L
 clear f l E J
 by_cases c:e.kind=1
 .have d2:(e.kind==1)=true:=by simpa using c
  obtain⟨HD1,HC⟩:=av (j.Y _ (ay c)) (Vp C.Y t a.Y.1 a.Y.2);clear c;go_wp2_with fail;go_fit HC.Y;rintro r O ⟨rfl,Z,K,M⟩;obtain⟨HE,D⟩:=av M K;clear M K;go_wp2;go_ret;rw[HD1.Y];exact⟨rfl,Z,D.Y,HE.Y.ahead br.Y⟩
 have d2:(e.kind==1)=false:=by simpa using c
 by_cases d:e.kind=2
 .have d3:(e.kind==2)=true:=by simpa using d
  obtain⟨HD1,HC⟩:=av (j.Y _ ((au c).trans (ay d))) (Vj C.Y t a.Y.1.T (by rw[a.Y.1.P]) (by rw[a.Y.1.S]) e.aQ z U.Y V a.Y.1.seq.1 a.Y.1.seq.2 a.Y.1.N a.Y.1.tm);unfold nS at HC;clear c d;exact XK
 have d3:(e.kind==2)=false:=by simpa using d
 by_cases i:e.kind=3
 .have d4:(e.kind==3)=true:=by simpa using i
  obtain⟨HD1,HC⟩:=av (j.Y _ ((au c).trans ((au d).trans (ay i)))) (Vm C.Y e z o t p.Y a.Y.1.T (by rw[a.Y.1.P]) X.Y G F a.Y.1.tm);unfold II at HC;rw[p.Y]at HC;clear c d i;exact XK
 have d4:(e.kind==3)=false:=by simpa using i
 have HD1:=ae (j.Y _ ((au c).trans ((au d).trans (au i))))
 clear c d i
 go_wp2
 go_ret
 exact Q.Y _ rfl HD1.Y
end
variable[OW]
structure NH (i:Nat) (x:Mo.Mc):Prop where
 B:Mo.MB (64+i) i (2*i) i x
 C:Mo.MC 80000 x
 th:x.c.threads<=4
 FF:Mo.bG x.c<=1048576
 k3:x.c.kind=3
theorem ack(e:Ev):(Dh x e).1.c=x.c:=by
 have a:∀(y:Mc) t q,(eu y t q).1.c=y.c:=λy t q=>by unfold eu;dsimp only;split<;>rfl
 unfold Dh;split
 .rfl
 split
 .unfold pP;dsimp only;have b:(gj {x with time:=x.time+1} e.th.toNat).c=x.c:=qY.2;repeat' split
  all_goals exact b
 split
 .unfold mV;dsimp only;repeat' split
  all_goals first|rfl|exact a _ _ _
 split
 .unfold ma;repeat' split
  all_goals rfl
 .rfl
theorem NH.next(h:NH i x)(d:i<=70000)(e:Ev):NH (i+1) (Dh x e).1:=by have a:=ack (x:=x) e;refine⟨?_,abn h.C h.B (by omega) (by omega) e,by rw[a];exact h.th,by rw[a];exact h.FF,by rw[a];exact h.k3⟩;have:=abl h.B (by omega) (by omega) e;rw[show(64+(i:Int)+1)=64+((i+1:Nat):Int)by omega,show 2*i+2=2*(i+1)by omega]at this;exact this
theorem NH.new(h:aV c=true)(u:c.threads<=4)(r:bG c<=1048576)(l:c.kind=3):NH 0 (mU c):=⟨Qj h l,Y4,u,r,l⟩
theorem NH.do_(h:NH i x)(K:i<=25000){q:Nat}(r:n=x.c.start.length)(M:q<=i)(e:Ev):DoB (65+i) n q x e:=by
 intro I o;obtain⟨t,l⟩:∃t:Nat,e.th=(t:Int):=⟨e.th.toNat,by omega⟩
 rw[l]at o ⊢;have g:t<x.T.length:=by omega
 show PkB _ x t/\PkY _ n q (gj {x with time:=x.time+1} t) t;have b:=h.B;have L:=Mo.aO b.ee;have s:=b.T;have u:=b.P;have w:=b.S;have z:=b.M;have A:=b.N;have B:=b.time;have N:=(b.at_ g).a.seq;have a:=Cq b.tick (by omega) g;have m:(gj {x with time:=x.time+1} t).T.length=x.T.length:=qY.1;have c:(gj {x with time:=x.time+1} t).c=x.c:=qY.2;have j:=JR (x:={x with time:=x.time+1}) ⟨h.C.T,h.C.N,h.C.V⟩ t;generalize gj {x with time:=x.time+1} t=y at a m c j ⊢;have d:t<y.T.length:=by omega
 have C:=a.T;have D:=a.P;have E:=a.S;have F:=a.M;have G:=a.N;have H:=a.V;have f:=a.mono (n':=65+(i:Int)) (a':=i+1) (b':=2*i+1) (d':=i) (by omega) (aR _) (aR _) (aR _);refine⟨⟨g,by omega,by omega,by omega,b.Qi t,by omega,by omega,by omega⟩,⟨by omega,by omega,by omega,λv p=>by have:=a.sb v p;omega,⟨f.rb d,(f.at_ d).b,λO P=>?_,a.L,⟨a.ee,by rw[c];exact r,by rw[c];exact h.th,by rw[c];exact h.FF,by omega,by omega,by rw[c];exact h.k3⟩,by omega,by omega⟩,by omega,by omega,a.Qi t,by have:=j.at_ t;omega⟩⟩;have k:=(f.rb d).k.aJ.own;have J:=yH a.ee;unfold vP at k;dsimp only at k;omega
end Go.Proofs.YtpfbfhfcbdbglaaGreat
