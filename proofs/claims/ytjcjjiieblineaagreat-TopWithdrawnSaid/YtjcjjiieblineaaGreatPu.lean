/- Walks and plain facts. No condition. -/
import Derived.Test.YtjcjjiieblineaaGreatPt
namespace Go.Proofs.YtjcjjiieblineaaGreat
open Go.RowKit Go.Proofs.Tryz
set_option maxHeartbeats 8000000
set_option maxRecDepth 100000
set_option linter.all false
variable {w w1:World}{g m j:Nat}{α:Type}{S:Nat->Prop}{P:Program}{ops:Array Oper}
theorem F2:(prog.info? 50).map (fun i=>(i.zero,i.size,i.bytes))=some (some (.agg zT.toArray),34,384):=by kernel_rfl
theorem F3:(prog.info? 86).map (fun i=>(i.zero,i.size,i.bytes))=some (some (.agg #[false,false,false,oZ,oN,oZ,oZ]),7,56):=by kernel_rfl
theorem Tf{o:Oper}{a:Act}{w':World}{K:Act->World->Prop}{Q:Exit->Act->World->Prop}{E:Prop}{v:Value}(hg:o.guard=none)(hr:(execOp a.eval o).run P w=.ok (.value v) w')(h:K (a.put o.dst v) w'):if Region.wanted o (yielded ops a.tmps)=true then Oper.wp P o a w K Q else E:=by rw[au (by simp[Region.wanted,hg])];simp only[Oper.wp,hr,Oper.upon];exact h
section
variable{w w':World} {x0:Nat} {A:Option Addr} {n k q:Nat} {x x':Mo.Mc} {s:Sx}
theorem MS.adC(H:MS w x0 A n k q x s){v':Value}{y:Mo.Tk}(hN:aH 50 34 PTk w1 0 (s.I w x0) v' (x.T++[y]))(hg:w.grownBy w1 s.T.ownBlock)(hf:v'.ownBlock=s.T.ownBlock\/v'.ownBlock=some w.heap.size) :
 MS (w1.setCell ⟨x0,12,none⟩ v') x0 A n k q {x with T:=x.T++[y]} {s with T:=v'}/\fB w (w1.setCell ⟨x0,12,none⟩ v') (s.U x0) (Sx.U {s with T:=v'} x0):=by
 obtain⟨rows,q1,q2,q3⟩:=H.T
 have hB:Below 0 w w1:=aI.br q2 (Below.refl 0 w) hg (aY _) (aS _)
 have hs:∀b,b<w.heap.size->s.T.ownBlock≠some b->w1.heap[b]?=w.heap[b]?:=fun b hb hn=>hg.block b hb fun e=>hn e.symm
 have hf:∀b,v'.ownBlock=some b->s.T.ownBlock=some b\/w.heap.size<=b:=fun b hb=>hf.elim (fun e=>.inl (e▸hb)) fun e=>.inr (by rw[hb]at e;injection e with e;omega)
 have hX:∀b,Sx.X {s with T:=v'} x0 b->s.X x0 b\/w.heap.size<=b:=by
  rintro b (h|h|h)
  ·exact .inl (.inl h)
  ·exact(hf b h).imp (fun h=>.inr (.inl h)) id
  ·exact .inl (.inr (.inr h))
 have h0:af w1 x0 101 _:=(hs x0 H.blk.lt (fun e=>H.far.1 x0 e rfl)).trans H.blk
 have V:Mv w (w1.setCell ⟨x0,12,none⟩ v') x0 s {s with T:=v'} (fun b=>b=x0\/s.T.ownBlock=some b):=⟨hB.setCell (p:=⟨x0,12,none⟩) (aY _) _,fun b h1 h2=>(dp _ _ _ _ (fun e=>h2 (.inl e))).trans (hs b h1 fun e=>h2 (.inr e)),fun b h=>h.elim (fun h=>.inl (.inl h)) fun h=>.inl (.inr (.inl h)),fun b h=>h.elim (fun h=>(hX b h).imp .inl id) fun h=>.inl (.inr h)⟩
 have hne:∀b,v'.ownBlock=some b->b≠x0:=fun b hb=>(aH.ty' hN b hb).elim fun _ h=>h.elim fun _ h=>et h h0 ah
 have f:∀{b:Nat} {e:TypeId} (_:∃ys fr,w.heap[b]?=some (.cells ys e fr)),e≠50->b≠x0->¬(b=x0\/s.T.ownBlock=some b):=fun h h1 h2 e=>e.elim h2 fun e=>h.elim fun _ h=>h.elim fun _ h=>(aH.ty' H.T _ e).elim fun _ h'=>h'.elim fun _ h'=>et h h' h1 rfl
 have F:=H.far
 exact⟨{blk:=h0.bb 12 v',mem:=V.Av H.mem fun b hb e=>H.mx b hb (e.elim .inl fun e=>.inr (.inl e)),T:=(hN.move jT (fun b h=>dp _ _ _ _ fun e=>h.2.2 (.inl e)) fun b hb=>dp _ _ _ _ (hne b hb)).mono jT V.mono,P:=V.rows lI H.P fun b hb=>f (aH.ty' H.P b hb) ah (F.2.1 b hb),N:=V.rows eI H.N fun b hb=>f (aH.ty' H.N b hb) ah (F.2.2.1 b hb),V:=V.rows gW H.V fun b hb=>f (aH.ty' H.V b hb) ah (F.2.2.2.1 b hb),S:=V.ints H.S fun b hb=>f (dV H.S b hb) ah (F.2.2.2.2.1 b hb),M:=V.ints H.M fun b hb=>f (dV H.M b hb) ah (F.2.2.2.2.2 b hb),mx:=fun b hb h=>(hX b h).elim (H.mx b hb) fun h=>by have:=H.mem.lt hb;omega,sm:=H.sm,cf:=V.cfg H.cf,hn:=H.hn},V.fr⟩
theorem Ku{c:Mo.bH}(hc:Mo.aN c=true):c.start.length<=8:=by
 unfold Mo.aN Mo.mM at hc;simp only[dI]at hc;have h:=hc.2;split at h
 ·simp only[dI,cU]at h;omega
 ·split at h
  ·simp only[dI,cU,Mo.iy]at h;omega
  ·cases h
theorem fB.below{w w2:World}{U U':Nat->Prop}(hb:Below w w w1)(F:fB w1 w2 U U')(hU:∀b,U b->w.heap.size<=b):Below w w w2/\∀b,U' b->w.heap.size<=b:=⟨⟨F.jE.os.trans hb.os,F.jE.tape.trans hb.tape,F.jE.output.trans hb.output,bm hb.size F.jE.size,fun b h=>(F.same b (bF h hb.size) fun e=>by have:=hU b e;omega).trans (hb.block b h)⟩,fun b h=>(F.own b h).elim (hU b) fun e=>bm hb.size e⟩
def Pf(w0:World)(c:Mo.bH)(B:Option Addr)(n d g:Nat)(s6:Value)(wx:World):Prop:=∃p g1 g2 g3,s6=.pointer (some ⟨p,0,none⟩)/\af wx p 101 #[c.kind,c.threads,c.chans,c.cap,c.nodes,c.aJ,c.aB,c.tags,c.bn,c.ba,.slice B n d,.pointer (some ⟨g,0,none⟩),oN,.slice (some ⟨g1,0,none⟩) c.threads.toNat c.threads.toNat,oN,oN,.slice (some ⟨g2,0,none⟩) c.threads.toNat c.threads.toNat,.slice (some ⟨g3,0,none⟩) c.threads.toNat c.threads.toNat,oZ]/\w0.heap.size<=p/\w0.heap.size<=g1/\w0.heap.size<=g2/\w0.heap.size<=g3/\g2≠g3/\af wx g1 86 (madeCells (kM Mo.vn ⟨none,0⟩).toArray (c.threads.toNat*7))/\af wx g2 3 (madeCells [Value.int .i64 0].toArray (c.threads.toNat*1))/\af wx g3 3 (madeCells [Value.int .i64 0].toArray (c.threads.toNat*1))/\Ext w0 wx
def NmE(c:Mo.bH)(n:Nat)(x:Mo.Mc)(w:World)(e:Ending)(w':World):Prop:=∃x0 A k s,e=.returned (.tuple #[.pointer (some ⟨x0,0,none⟩),oZ])/\MS w' x0 A n k 0 x s/\Below w w w'/\∀b,s.U x0 b->w.heap.size<=b
theorem zv{w:World}{base:Nat}(m:Nat)(hm:m<=100000)(h:af w g 3 (madeCells [Value.int .i64 0].toArray (m*1)))(hb:base<=g):aL w base 3 .i64 (.slice g m m) (List.replicate m 0):=by
 have h1:=pL (f:=fun z:Int=>[Value.int .i64 z]) (fun _=>rfl) ah 0 m hm h hb;unfold aI at h1;unfold aL;rw[gf]at h1 ⊢;have e:(List.replicate m (0:Int)).flatMap (fun z=>[Value.int .i64 z])=(List.replicate m (0:Int)).map (Value.int .i64):=by rw[List.map_eq_flatMap]
 rw[e]at h1;exact h1
end
section
variable{w:World} {A:Option Addr} {n k:Nat} {c:Mo.bH}
theorem Pf.ms{w0 wx:World}{B:Option Addr}{d:Nat}{vl vg vc:Value}{p g1 g2 g3:Nat}(hc:Mo.aN c=true)(ji:c.threads<=4)(hn:n=c.start.length)(hM:dD w0 0 g vl vg vc (Mo.iB c) [] [] false)(l7:cA w0 (fun b=>b<w0.heap.size/\¬Mm.own ⟨g,vl,vg,vc,[],[],false⟩ b) .i64 B c.start)(hP:af wx p 101 #[c.kind,c.threads,c.chans,c.cap,c.nodes,c.aJ,c.aB,c.tags,c.bn,c.ba,.slice B n d,.pointer g,oN,.slice g1 c.threads.toNat c.threads.toNat,oN,oN,.slice g2 c.threads.toNat c.threads.toNat,.slice g3 c.threads.toNat c.threads.toNat,oZ])(l0:w0.heap.size<=p)(l1:w0.heap.size<=g1)(l2:w0.heap.size<=g2)(l3:w0.heap.size<=g3)(hne:g2≠g3)(h1:af wx g1 86 (madeCells (kM Mo.vn ⟨none,0⟩).toArray (c.threads.toNat*7)))(h2:af wx g2 3 (madeCells [Value.int .i64 0].toArray (c.threads.toNat*1)))(h3:af wx g3 3 (madeCells [Value.int .i64 0].toArray (c.threads.toNat*1)))(hX:Ext w0 wx) :
 MS wx p B n d 0 {Mo.kG c with T:=[]} ⟨oN,.slice g1 c.threads.toNat c.threads.toNat,oN,oN,.slice g2 c.threads.toNat c.threads.toNat,.slice g3 c.threads.toNat c.threads.toNat,⟨g,vl,vg,vc,[],[],false⟩⟩:=by
 have F4:c.threads.toNat<=100000:=ae
 have hm:∀b,Mm.own ⟨g,vl,vg,vc,[],[],false⟩ b->b<w0.heap.size:=fun b hb=>xh.lt (q:=0) ⟨hM,aS _,aY _⟩ hb
 have hx:∀b,Sx.X ⟨oN,.slice g1 c.threads.toNat c.threads.toNat,oN,oN,.slice g2 c.threads.toNat c.threads.toNat,.slice g3 c.threads.toNat c.threads.toNat,⟨g,vl,vg,vc,[],[],false⟩⟩ p b->w0.heap.size<=b:=by
  rintro b (h|h|h|h|h|h|h)
  ·omega
  ·cases h
  ·injection h with h;have h:g1=b:=h;omega
  ·cases h
  ·cases h
  ·injection h with h;have h:g2=b:=h;omega
  ·injection h with h;have h:g3=b:=h;omega
 refine⟨hP,⟨hM.ag hX.out,aS _,aY _⟩,aH.nil _ _ _ _ _ _,?_,aH.nil _ _ _ _ _ _,aH.nil _ _ _ _ _ _,zv _ F4 h2 (aY _),zv _ F4 h3 (aY _),fun b hb h=>by have:=hm b hb;have:=hx b h;omega,fun b e1 e2=>?_,?_,hn⟩
 ·refine⟨List.replicate c.threads.toNat ⟨kM Mo.vn ⟨none,0⟩,rfl,List.all_eq_true.1 (by rfl)⟩,by simp[Mo.kG],pL bQ ah ⟨kM Mo.vn ⟨none,0⟩,rfl,List.all_eq_true.1 (by rfl)⟩ _ F4 h1 (aY _),fun i r y hr hy=>?_⟩;rw[List.eq_of_mem_replicate (dO hr),List.eq_of_mem_replicate (dO hy)];exact⟨⟨none,0⟩,rfl,cA.nil _ _ _ _,aS _⟩
 ·injection e1 with e1;injection e2 with e2;have e1:g2=b:=e1;have e2:g3=b:=e2;omega
 ·exact(l7.same fun b hb=>hX.out.block b hb.1).mono fun b hb=>⟨bF hb.1 hX.out.size,hb.2,fun h=>by have:=hx b h;have:=hb.1;omega⟩
theorem Pg(hc:Mo.aN c=true)(ji:c.threads<=4)(jC:Mo.bo c<=1048576)(hn:n=c.start.length)(hr:bC w .i64 A c.start):Calls prog 44 #[mH c A n k] w (NmE c n (Mo.kG c) w):=by
 have hp:=Mo.aG hc;have Sz:n<=2000000:=by
  have:=(Ku hc)
  omega
 obtain⟨w1,kI⟩:=aD (w.alloc (cr c A n k));have bj:Hid (Below w w w1):=by rw[kI];exact ak (aj w) _
 have pn:Hid (af w1 w.heap.size 24 #[c.kind,c.threads,c.chans,c.cap,c.nodes,c.aJ,c.aB,c.tags,c.bn,c.ba,.slice A n k]):=by rw[kI];exact af.new _ _ _
 have HSU:=aa (Kl (w:=w1) (k:=k) hc jC hn (hr.below bj));have HR:=aa hr;have HN:=aa hn;have HC:=aa hc;have Ux:=aa ji;have adD:=aa jC;have b3:1<=c.threads:=hp.1.1;have a3:¬64<c.threads:=ae;have a4:¬c.threads<0:=ae;have ng:=aa kI;unfold mH at HSU ⊢;obtain⟨hcc,-,hlc⟩:=af.aK pn;clear kI hr hn hc hp jC;go_enter func44,ntmps44;go_upto_region 1 with fail
 rw[<-ng.out];clear ng;go_wp2_with fail;refine HSU.mono ?_;rintro e w2 ⟨g,vl,vg,vc,rfl,hM,hb⟩;have bq:=aa (ag bj hb);have iq:=aa (pn.ag hb);have sJ:=aa hM;have gu:=aa (gq w2 A k c.start HN Sz (HR.below bq));have CF:Hid (w.heap.size<w1.heap.size):=pn.lt;have AJ:Hid (w1.heap.size<=w2.heap.size):=hb.size;clear hM hb hcc hlc HSU pn;obtain⟨hcc,-,hlc⟩:=af.aK iq;go_wp2_with fail;refine gu.mono ?_;rintro e w3 ⟨B,d,rfl,hd,ho,hb⟩;have bZ:=aa (ag bq hb);have pY:=aa (iq.ag hb);have nU:=aa (sJ.ag hb);have iP:=aa ho;have SF:Hid (w2.heap.size<=w3.heap.size):=hb.size;clear hb ho hd hcc hlc gu iq;obtain⟨hcc,hfc,hlc⟩:=af.aK pY;go_upto_region 5 with fail
 have hne:∀b,w1.heap.size<=b->(w3.setCell ⟨w.heap.size,10,none⟩ (.slice B n d)).heap[b]?=w3.heap[b]?:=fun b hb=>dp _ _ _ _ (show b≠w.heap.size by have:=CF.out;omega);have PV:=aa (pY.bb 10 (.slice B n d));have fJ:=aa (bZ.setCell (p:=⟨w.heap.size,10,none⟩) (aS _) (.slice B n d));have hmo:∀b,Mm.own ⟨g,vl,vg,vc,[],[],false⟩ b->w1.heap.size<=b/\b<w2.heap.size:=fun b hb=>⟨by
  rcases hb with rfl|hb|hb|hb
  ·exact sJ.low
  ·exact(aX sJ.words hb).1
  ·exact(aX sJ.log hb).1
  ·exact(aX sJ.counts hb).1,xh.lt (q:=0) ⟨sJ.zero,aS _,aY _⟩ hb⟩
 have Hm:=aa (xh.same (q:=0) (w':=w3.setCell ⟨w.heap.size,10,none⟩ (.slice B n d)) ⟨nU.zero,aS _,aY _⟩ fun b hb=>hne b (hmo b hb).1).mv;have kV:=aa (fj iP (w':=w3.setCell ⟨w.heap.size,10,none⟩ (.slice B n d)) fun b hb=>hne b (by have:=(aX iP hb).1;have:=AJ.out;omega));have HMO:=aa hmo;have YJ:(w3.setCell ⟨w.heap.size,10,none⟩ (.slice B n d)).heap.size=w3.heap.size:=aF;have UC:Hid (w2.heap.size<=(w3.setCell ⟨w.heap.size,10,none⟩ (.slice B n d)).heap.size):=by rw[YJ];exact SF.out
 clear hne hmo YJ hcc hfc hlc pY bZ nU iP;generalize w3.setCell ⟨w.heap.size,10,none⟩ (.slice B n d)=w4 at *;have Ze:Hid (cA w4 (fun b=>b<w4.heap.size/\¬Mm.own ⟨g,vl,vg,vc,[],[],false⟩ b) .i64 B c.start):=⟨(aL.pU kV).2,fun ad h1 h2=>by
  subst h1
  have h3:=aX kV (g:=ad.block) rfl
  exact⟨h3.2,fun e=>by have:=(HMO _ e).2;have:=h3.1;omega⟩⟩
 have Yp:Hid (af w4 w.heap.size 24 #[c.kind,c.threads,c.chans,c.cap,c.nodes,c.aJ,c.aB,c.tags,c.bn,c.ba,.slice B n d]):=PV.out;go_cut[6] (fun s6 wx=>Pf w4 c B n d g s6 wx);case first =>
  have cQ:=fun wx (hx:Ext w4 wx) i=>af.cell (Yp.ag hx.out) i;have m1:=fun wx=>run_mk wx 99 86 (z:=.agg #[false,false,false,oZ,oN,oZ,oZ]) (sz:=7) (by_:=56) rfl F3 c.threads ae ae ah;have m2:=fun wx=>run_mk wx 22 3 (z:=oZ) (sz:=1) (by_:=8) rfl fc c.threads ae ae ah;have e1:(Value.agg #[false,false,false,oZ,oN,oZ,oZ]).cells=(kM Mo.vn ⟨none,0⟩).toArray:=rfl;have e2:(Value.int .i64 0).cells=[Value.int .i64 0].toArray:=rfl;rw[e1]at m1;rw[e2]at m2;clear e1 e2;generalize ud:madeCells (kM Mo.vn ⟨none,0⟩).toArray (c.threads.toNat*7)=M1 at m1;generalize sJ:madeCells [Value.int .i64 0].toArray (c.threads.toNat*1)=M2 at m2;have ud:=aa ud;have sJ:=aa sJ;go_region_held3(Ext w4) (with_reducible(repeat(first|assumption|exact Ext.start _|exact Ext.fZ _ _|exact Ext.Aj _ _ _|exact Ext.Oh _ _ _ _|exact Ext.Oi _ _ _ _ _|refine Ext.alloc ?_ _|refine Ext.set ?_ (by simp;try omega)))) (fail);all_goals
   go_wp2_with fail;go_meet;apply Exists.intro;apply Exists.intro;apply Exists.intro;apply Exists.intro;refine⟨rfl,?_,?_⟩
   ·repeat(with_reducible first|(refine af.newAt _ _ _ ?_;simp;done)|refine af.dr ?_|refine af.alloc ?_ _)
   refine⟨ae,ae,ae,ae,ae,?_,?_,?_,bE⟩
   ·rw[ud.out];repeat(with_reducible first|(refine af.newAt _ _ _ ?_;simp;done)|refine af.dr ?_|refine af.alloc ?_ _)
   ·exact Vv
   ·exact Vv
 case rest =>
  obtain⟨p,g1,g2,g3,rfl,hP,l0,l1,l2,l3,hne,h1,h2,h3,hX⟩:=hcut;have zo:=aa (Pf.ms HC Ux HN Hm Ze hP l0 l1 l2 l3 hne h1 h2 h3 hX);have HU:Hid (∀b,Sx.U ⟨oN,.slice g1 c.threads.toNat c.threads.toNat,oN,oN,.slice g2 c.threads.toNat c.threads.toNat,.slice g3 c.threads.toNat c.threads.toNat,⟨g,vl,vg,vc,[],[],false⟩⟩ p b->w1.heap.size<=b):=by
   have h24:=bm AJ UC;rintro b (h|h)
   ·rcases h with h|h|h|h|h|h|h
    ·omega
    ·cases h
    ·injection h with h;have h:g1=b:=h;omega
    ·cases h
    ·cases h
    ·injection h with h;have h:g2=b:=h;omega
    ·injection h with h;have h:g3=b:=h;omega
   ·exact(HMO b h).1
  have Ki:=aa (Yp.ag hX.out);have iW:=aa (ag fJ hX.out);clear hP l0 l1 l2 l3 hne h1 h2 h3 hX Yp fJ Hm Ze kV PV HMO;obtain⟨hcc,-,hlc⟩:=af.aK Ki;obtain⟨th,F4⟩:∃th:Nat,c.threads=th:=⟨c.threads.toNat,ae⟩
  rw[F4]at hcc;have Ph:=aa F4;clear F4;have aci:Hid (∃s,MS wc p B n d 0 {Mo.kG c with T:=(Mo.kG c).T.take 0} s/\∀b,s.U p b->w1.heap.size<=b):=⟨_,zo,HU⟩
  clear zo HU;have adE:th<=4:=by have:=Ph.out;omega
  go_wp2_with fail;go_loopw[7,35] (fun _ i wr=>∃j:Nat,j<=th/\i=j/\Hid (Below w w wr)/\Hid (af wr w.heap.size 24 #[c.kind,c.threads,c.chans,c.cap,c.nodes,c.aJ,c.aB,c.tags,c.bn,c.ba,.slice B n d])/\Hid (∃s,MS wr p B n d 0 {Mo.kG c with T:=(Mo.kG c).T.take j} s/\∀b,s.U p b->w1.heap.size<=b)) (fun _ i _=>th-(intOf i).toNat);case atStart=>exact⟨0,aY _,rfl,iW,Ki,aci⟩
  case round =>
   clear iW Ki aci hcc hlc;obtain⟨j,hj,rfl,HB,HC6,HR⟩:=hrel;by_cases hlt:j<th
   ·obtain⟨s,hM,hU⟩:=HR.out;have hcs:Zg c n (j:Int):=⟨HC,HN,ji,adD,ae,by rw[Ph.out];omega⟩
    have HNK:=aa (fun wx (hx:Ext wr wx)=>(OX (w:=wx) (k:=d) hcs (hM.cf.1.below hx.out)).mono (fun e w' h=>(by obtain⟨z,h1,h2,h3⟩:=h;exact⟨_,z,h1,rfl,h2,h3⟩:∃(T1:List Value) (z:Sh),e=.returned (.agg T1.toArray)/\T1=iu (Mo.mQ c j) z/\mF w' (fun b=>wx.heap.size<=b/\b<w'.heap.size) (Mo.mQ c j) z/\Below wx wx w')));unfold mH at HNK;obtain⟨VT,dT,Dg⟩:=aH.shape hM.T;obtain⟨xs,G9⟩:=aD ((Mo.kG c).T.take j);have HXN:Hid (xs++[Mo.mQ c j]=(Mo.kG c).T.take (j+1)):=by unfold Hid;rw[G9,List.take_add_one];congr 1;unfold Mo.kG;have:=Ph.out;simp[show j<c.threads.toNat by omega]
    have Su:xs.length<=4:=by rw[G9,eW];have:=Ph.out;omega
    rw[<-G9]at hM Dg;dsimp only at Dg;obtain⟨ln,xz⟩:=aD xs.length;rw[<-xz]at Dg;have aT:=fun(wx:World) (hx:wx.heap[p]?=wr.heap[p]?/\wx.heap[w.heap.size]?=wr.heap[w.heap.size]?) i=>af.cell (af.qU hM.blk hx.1) i;unfold mG at aT;rw[Dg]at aT;have hcc:=fun(wx:World) (hx:wx.heap[p]?=wr.heap[p]?/\wx.heap[w.heap.size]?=wr.heap[w.heap.size]?) i=>af.cell (af.qU HC6 hx.2) i;have HMr:=aa hM;have HUr:=aa hU;have O9:=aa Dg;have HXL:=aa Su;have hpl:=hM.blk.lt;have P4:=HC6.lt;clear hM hU hcs Dg G9 xz HR Su;go_upto_region 9 with fail
    refine uk 10 (fun wx:World=>wx.heap[p]?=wr.heap[p]?/\wx.heap[w.heap.size]?=wr.heap[w.heap.size]?) (by kernel_rfl) ⟨rfl,rfl⟩ (fun hHeld=>?_);refine DJ 0 hHeld ?_;refine DJ 1 hHeld ?_;refine DJ 2 hHeld ?_;refine DJ 3 hHeld ?_;refine DJ 4 hHeld ?_;refine DJ 5 hHeld ?_;refine DJ 6 hHeld ?_;(try simp only[aC]);refine Yo 7 (fun K hK=>?_);go_simp;refine(HNK _ (Ext.start _)).mono ?_;rintro e wA ⟨T1,z,rfl,kY,hz,bN⟩;have gw:=aa kY;have HZ:=aa hz;have HBA:=aa bN;clear kY hz bN HNK;go_wp2_with fail;have hSA:wA.heap[p]?=wr.heap[p]?/\wA.heap[w.heap.size]?=wr.heap[w.heap.size]?:=⟨HBA.block p hpl,HBA.block _ P4⟩
    refine hK.out _ _ hSA (fun hHeld=>?_);clear hK K;(try simp only[aC]);refine Yo 8 (fun K hK=>?_);refine Tf (v:=.slice wA.heap.size 1 1) (w':=wA.alloc (.cells T1.toArray 50)) rfl (by rw[gw.out];kernel_rfl) ?_;have hbW:Below wr wr (wA.alloc (.cells T1.toArray 50)):=ag (aj wr).drew (ak HBA _);have oW:=aa (Rd.lit wA T1 50);have hzW:mF (wA.alloc (.cells T1.toArray 50)) (s.I (wA.alloc (.cells T1.toArray 50)) p) (Mo.mQ c j) z:=HZ.move (fun b hb=>(ak (aj wA) _).block b hb.2) fun b hb=>⟨bF hb.2 (ak (aj wA) _).size,fun e=>by have:=HMr.ul (.inr e);have h:wr.heap.size<=b:=hb.1;omega,fun e=>by have:=HMr.ul (.inl e);have h:wr.heap.size<=b:=hb.1;omega⟩
    have HMW:=aa (HMr.more hbW);refine hK.out _ _ ⟨hbW.block p hpl,hbW.block _ P4⟩ (fun hHeld=>?_);have lJ:=aa hbW;have HZW:=aa hzW;clear hK K hbW hzW HZ HBA hSA;generalize wA.alloc (.cells T1.toArray 50)=W at *;have hTO:=HMW.T;dsimp only at hTO;rw[O9.out]at hTO;have HTO:=aa hTO;clear hTO;(try simp only[aC]);refine Yo 9 (fun K hK=>?_);refine ny rfl _ _ 98 rfl 50 34 384 _ jT underlying98 F2 rfl ah _ xs rfl HTO (fun b h=>⟨h.1,fun e=>h.2.2 (.inr (.inl (O9.out▸e)))⟩) _ _ T1 (by rw[gw.out];rfl) (by rw[gw.out];exact List.all_eq_true.1 (by rfl)) rfl oW (y:=Mo.mQ c j) ⟨z,gw,HZW⟩ (by have:=HXL.out;omega) (by have:=HXL.out;omega) ?_;intro v5 w8 kv sr di;rw[<-O9.out]at sr di;have hS8:w8.heap[p]?=wr.heap[p]?/\w8.heap[w.heap.size]?=wr.heap[w.heap.size]?:=⟨(sr.block p (bF hpl lJ.size) fun e=>HMW.far.1 p e.symm rfl).trans (lJ.block p hpl),(sr.block _ (bF P4 lJ.size) fun e=>by have:=HUr.out _ (.inl (.inr (.inl e.symm)));have:=CF.out;omega).trans (lJ.block _ P4)⟩
    refine hK.out _ _ hS8 (fun hHeld=>?_);clear hK K;(try simp only[aC]);obtain⟨tA,hfy,hly⟩:=af.aK (af.qU HMr.blk hS8.1);have Ul:=aa (MS.adC HMW kv sr di);have HC8:=aa (af.qU HC6 hS8.2);have hne:w.heap.size≠p:=fun e=>by have:=HUr.out p (.inl (.inl rfl));have:=CF.out;omega
    have N7:=aa hne;unfold mG at tA;dsimp only at tA;rw[O9.out]at tA;obtain⟨B5,d5,xX⟩:=aH.shape kv;obtain⟨l5,CE⟩:=aD ((xs++[Mo.mQ c j]).length);rw[<-CE]at xX;subst xX;clear kv sr di hS8 hHeld aT hcc hne CE;refine wpAnyS.late ?_;have hHeld:(fun _:World=>True) w8:=trivial;refine aO 10 hHeld ?_;refine aO 11 hHeld ?_;(try simp only[aC]);refine dJ 12 (fun K hK=>?_);go_simp;refine hK.out _ _ trivial (fun hHeld=>?_);clear hK K;(try simp only[aC]);refine wpAnyH_done (by kernel_rfl) ?_ _;clear tA hfy hly hHeld;have ZB:=Ul.1;have OB:=Ul.2;have hU9:=(fB.below (ag HB lJ) OB (fun b hb=>bm (by have:=CF.out;omega) (HUr b hb))).1;have HRn:Hid (∃s,MS (w8.setCell ⟨p,12,none⟩ (.slice B5 l5 d5)) p B n d 0 {Mo.kG c with T:=(Mo.kG c).T.take (j+1)} s/\∀b,s.U p b->w1.heap.size<=b):=by rw[<-HXN.out];exact⟨_,ZB,fun b hb=>(OB.own b hb).elim (HUr b) fun e=>by have:=HUr.out p (.inl (.inl rfl));have:=lJ.size;omega⟩
    have Uc:=aa hU9;have HC9:=aa (HC8.far (p:=⟨p,12,none⟩) N7 (.slice B5 l5 d5));clear ZB OB hU9;generalize w8.setCell ⟨p,12,none⟩ (.slice B5 l5 d5)=w9 at *;go_wp2_with fail;go_roundw;case rel=>exact⟨j+1,ae,by go_num,Uc,HC9,HRn⟩
    case measure=>simp[intOf];omega
   ·go_wp2_with fail;go_ret2;obtain⟨s,hM,hU⟩:=HR.out;have hT:(Mo.kG c).T.take j=(Mo.kG c).T:=List.take_of_length_le (by
     have:=Ph.out;unfold Mo.kG;simp;omega)
    rw[hT]at hM;exact⟨p,B,d,s,rfl,hM,HB,fun b hb=>bm (Nat.le_of_lt CF) (hU b hb)⟩
end
def idF(x:Mo.Mc)(t:Nat):Bool:=(Mo.bu x t).pc==0 && (Mo.fw (Mo.gG x t)).isNone
theorem Dh{rest:List Oper}{op:Oper}{a:Act}{Q:Exit->Act->World->Prop}(hgd:op.guard=none)(v:Value)(w':World)(hr:(execOp a.eval op).run P w=.ok (.value v) w')(h:wpList P ops Q rest (a.put op.dst v) w'):wpList P ops Q (op::rest) a w:=wpList_plain hgd fun _ hK=>by unfold Oper.wp;rw[hr];exact hK _ _ h
theorem idS{f:Nat->Bool}(h1:(List.range j).all f=true)(h2:f j=true):(List.range (j+1)).all f=true:=by rw[List.range_succ,List.all_append,h1];simp[h2]
theorem idN{f:Nat->Bool}(h:j<m)(h2:f j=false):(List.range m).all f=false:=List.all_eq_false.2 ⟨j,List.mem_range.2 h,by rw[h2];decide⟩
section
variable{w:World} {x0:Nat} {A:Option Addr} {n k q:Nat} {x:Mo.Mc} {s:Sx}
theorem Tg(H:MS w x0 A n k q x s)(hTl:x.T.length<=1000000)(K2:x.P.length=x.T.length)(hp:∀t,(Mo.gG x t).outs.length<=8):Calls prog 37 #[.pointer x0] w fun e w'=>e=.returned (Mo.Lc x)/\Below w w w':=by
 have HM:=aa (pR H);obtain⟨m,hm⟩:=aD x.T.length;have Lq:m<=1000000:=by rw[hm];exact hTl
 have HI:Hid (Mo.Lc x=(List.range m).all (idF x)):=by rw[hm];rfl
 obtain⟨gT,dT,Dg⟩:=aH.shape H.T;obtain⟨gP,dP,Hj⟩:=aH.shape H.P;obtain⟨aT,-,hlx⟩:=af.aK H.blk;unfold mG at aT;rw[Dg,Hj, <-hm]at aT;have HH:=aa H;have Ae:=aa K2;have HP8:=aa hp;have Pw:=aa hm;have O9:=aa Dg;have O4:=aa Hj;obtain⟨mp,hmp⟩:=aD x.P.length;rw[<-hmp]at aT;have HMP:Hid (mp=m):=by unfold Hid;rw[hmp,K2,hm]
 clear H K2 hp hm Dg Hj hmp hTl;go_enter func37,ntmps37;go_wp2_with fail;refine HM.mono ?_;rintro e w' ⟨rfl,rfl⟩;go_wp2_with fail;go_loopw[15] (fun i wr=>∃j:Nat,j<=m/\i=j/\Hid (Below w w wr)/\Hid ((List.range j).all (idF x)=true)) (fun i _=>m-(intOf i).toNat);case atStart=>exact⟨0,aY _,rfl,aj w,rfl⟩
 case round =>
  clear aT hlx;obtain⟨j,hj,rfl,HB,HA⟩:=hrel;have hM:=HH.more HB;obtain⟨aT,-,hlx⟩:=af.aK hM.blk;unfold mG at aT;rw[O9.out,O4.out]at aT;by_cases hlt:j<m
  ·obtain⟨gT',dT',z,hv,hgT,_,_,hc,_⟩:=hM.task (t:=j) (by rw[<-Pw.out];exact hlt);obtain⟨gP',dP',zp,hv2,hgP,_,hro,ju,hcP,_⟩:=hM.FP (t:=j) (by rw[Ae.out, <-Pw.out];exact hlt);have e1:=O9.symm.trans hv;injection e1 with e1 e2 e3
   subst e1 e3;have e1:=O4.symm.trans hv2;injection e1 with e1 e2 e3
   subst e1 e3;obtain⟨T,hT⟩:=aD (iu (Mo.bu x j) z);have HT:=aa hT;have AP:Hid (T.length=34):=by rw[hT];rfl
   have Qb:Hid (wr.rangeAt gT' (j*34) T):=fun i v hv=>hc i v (hT▸hv);have hjp:j<mp:=by rw[HMP.out];exact hlt
   have qQ:=aa (fun wx (hb:Below wr wr wx)=>qI wx (Mo.gG x j) zp (hro.1.below hb) (HP8 j) ju);obtain⟨pm,hpm⟩:=aD (Mo.gG x j);have aA:∀(wx:World),Below wr wr wx->∀i v,(kM pm zp)[i]?=some v->wx.cell? ⟨gP',j*7+i,none⟩=some v:=fun wx hb i v h=>(Below.cell hb (bc (hcP i v (hpm▸h)))).trans (hcP i v (hpm▸h));have E9:Hid (idF x j=((Mo.bu x j).pc==0 && (Mo.fw pm).isNone)):=by unfold Hid idF;rw[hpm]
   rw[<-hpm]at qQ;obtain⟨pc,bM⟩:=aD ((Mo.bu x j).pc);rw[<-bM]at E9;have Ap:Hid (T[0]?=some (.int .i64 pc)):=by unfold Hid;rw[hT,bM];rfl
   obtain⟨o,ho⟩:=aD (Mo.fw pm);rw[<-ho]at E9 qQ;have oa:=aa aA;clear hT hc hcP hpm bM ho hro ju hv hv2 aA;go_upto_region 5 with fail
   refine wp_region_lit ?_;refine ei rfl j rfl ?_;refine ei rfl (.pointer (some ⟨gT',j*34,none⟩)) (by simp[execOp,go_sem,hlt]) ?_;refine wpList_load_mid rfl 50 _ rfl gT' (j*34) rfl T _ Qb underlying50 rfl (by rw[AP.out];rfl) ?_;refine Dh rfl (.pointer wr.heap.size) (wr.alloc (.cells zT.toArray 50)) (by kernel_rfl) ?_;refine ei rfl j rfl ?_;have hZ:=af.new wr 50 zT.toArray;refine wpList_store_mid rfl 50 _ _ rfl wr.heap.size 0 T.toArray rfl rfl (af.there hZ 0 _ (by rw[jx,AP.out];decide)) (by rw[jx,AP.out];rfl) (by rw[HT.out];exact dW _ _) ?_;rw[iR];have hQ:=aR (vs:=T) (cs:=zT) hZ (by rw[AP.out];rfl);have hB:Below wr wr (av (wr.alloc (.cells zT.toArray 50)) wr.heap.size 0 T):=aw (aS _) _ _ _ (ak (aj wr) _);generalize av (wr.alloc (.cells zT.toArray 50)) wr.heap.size 0 T=w3 at *;have HQ:=aa hQ;have bZ:=aa hB;clear hZ hQ hB;have wH:=HH.more (ag HB bZ);obtain⟨aT,-,hlx⟩:=af.aK wH.blk;unfold mG at aT;rw[O9.out,O4.out]at aT;have c0:=oa.out w3 bZ 0 _ rfl;rw[Nat.add_zero]at c0;have c1:=oa.out w3 bZ 1 _ rfl;have c2:=oa.out w3 bZ 2 _ rfl;have c3:=oa.out w3 bZ 3 _ rfl;have c4:=oa.out w3 bZ 4 _ rfl;have c5:=oa.out w3 bZ 5 _ rfl;have c6:=oa.out w3 bZ 6 _ rfl;have Yq:=aa (qQ w3 bZ);unfold kM at Yq;rw[<-Pw.out, <-show mp=x.P.length by rw[HMP.out,Ae.out];exact Pw.out]at aT;clear wH qQ oa;go_wp2_with fail;refine Yq.mono ?_;rintro e w4 ⟨zr,rfl,-,hb4⟩;have kS:w4.cell? ⟨wr.heap.size,0,none⟩=some (.int .i64 pc):=((HQ.ag hb4).cell 0).trans (by have:=Ap.out;simpa using this);have hl0:wr.heap.size<w4.heap.size:=bF HQ.lt hb4.size;have fJ:=aa (ag HB (ag bZ hb4));have Zp:=aa hl0;unfold ml;clear c0 c1 c2 c3 c4 c5 c6 aT hlx hb4 Yq;by_cases nz:pc=0
   ·rcases o with _|q
    ·have HZ:=aa nz;subst nz;go_wp2_with fail;go_roundw;case rel=>exact⟨j+1,ae,by go_num,ak fJ _,idS HA E9⟩
     case measure=>simp[intOf];omega
    ·subst nz;go_wp2_with fail;go_ret;refine⟨?_,ak fJ _⟩;rw[HI.out,idN hlt E9.out];rfl
   ·have d1:(pc !=0)=true:=by simpa using nz
    have d2:(pc==0)=false:=by simpa using nz
    rw[d2,Bool.false_and]at E9;clear nz;go_wp2_with fail;go_ret;refine⟨?_,ak fJ _⟩;rw[HI.out,idN hlt E9.out];rfl
  ·go_wp2_with fail;go_ret;refine⟨?_,HB⟩;rw[HI.out,show m=j by omega,HA.out];rfl
end
theorem F5:∀(vs A B:List α) (o:Nat),o+vs.length<=A.length->fK (A++B) o vs=fK A o vs++B:=by
 intro vs;induction vs with
 |nil=>intro A B o _;rfl
 |cons v vs ih=>intro A B o h;simp only[List.length_cons]at h;rw[fK,List.set_append_left _ _ ae,ih _ _ _ (by rw[cK];omega),fK]
theorem Pj:∀(rows:List (Row m)) (i o:Nat) (vs:List Value) (r r':Row m),rows[i]?=some r->r'.val=fK r.val o vs->o+vs.length<=m->fK (rows.flatMap dR) (i*m+o) vs=(rows.set i r').flatMap dR:=by
 intro rows;induction rows with
 |nil=>intro i o vs r r' h;simp at h
 |cons x l ih =>
  intro i o vs r r' h h1 h2;rcases i with _|i
  ·injection h with h
   subst h;rw[List.flatMap_cons,Nat.zero_mul,Nat.zero_add,F5 _ _ _ _ (by rw[bQ];exact h2)];show fK x.val o vs++_=_;rw[<-h1];rfl
  ·rw[List.flatMap_cons,tv _ _ _ _ (by rw[bQ,Nat.add_mul];omega),bQ,show(i+1)*m+o-m=i*m+o by rw[Nat.add_mul];omega,ih i o vs r r' (by simpa using h) h1 h2];rfl
theorem Kv:∀(vs L:List α) (o:Nat) (u:α),u∈fK L o vs->u∈L\/u∈vs:=by
 intro vs;induction vs with
 |nil=>intro L o u h;exact .inl h
 |cons v vs ih =>
  intro L o u h;rw[fK]at h;rcases ih _ _ _ h with h|h
  ·rcases List.mem_or_eq_of_mem_set h with h|h
   ·exact .inl h
   ·exact .inr (by rw[h];exact List.mem_cons_self)
  ·exact .inr (List.mem_cons_of_mem _ h)
section
variable{α:Type} {m:Nat} {P:qN α} {w w':World} {S S':Nat->Prop} {xs:List α} {e:TypeId} {base g n c:Nat} {v:Value}
theorem aH.part(gd:Good P)(h:aH e m P w base S (.slice g n c) xs){i:Nat}{x:α}(hx:xs[i]?=some x)(o:Nat)(vs:List Value)(ho:o+vs.length<=m)(h1:∀u∈vs,u.oneCell'=true)(hS:¬S g)(hP:∀r,r.length=m->P w S r x->P w S (fK r o vs) x) :
 aH e m P (av w g (i*m+o) vs) base S (.slice g n c) xs:=by
 have hlen:=h.len
 obtain⟨rows,hr1,hr2,hr3⟩:=h
 have hi:i<xs.length:=cE hx
 have hi':i<rows.length:=ae
 have hsm:Sm S w (av w g (i*m+o) vs):=fun b hb=>aM (fun he=>by subst he;exact hS hb) vs _
 have Ud:=cD hi'
 have EF:∀z∈fK rows[i].val o vs,z.oneCell'=true:=fun z hz=>(Kv _ _ _ _ hz).elim (rows[i].property.2 z) (h1 z)
 obtain⟨r',hr'⟩:∃r':Row m,r'.val=fK rows[i].val o vs:=⟨⟨_,by rw[Je];exact rows[i].property.1,EF⟩,rfl⟩
 refine⟨rows.set i r',by simp[hr1],?_,?_⟩
 ·have hn:n=rows.length:=ae;subst hn;have:=rR vs w (i*m+o) _ hr2;unfold aI;rw[cK, <-Pj rows i o vs rows[i] r' Ud hr' ho];exact this
 ·intro k r z hr hz;by_cases hk:k=i
  ·subst hk;rw[List.getElem?_set_self hi']at hr;rw[hx]at hz;injection hr with hr;injection hz with hz
   subst hr hz;rw[hr'];exact gd.same hsm (hP _ rows[k].property.1 (hr3 k _ x Ud hx))
  ·rw[List.getElem?_set_ne (fun h=>hk h.symm)]at hr;exact gd.same hsm (hr3 k r z hr hz)
end
def Bv(S:Nat->Prop)(n:Nat)(v:Value)(w:World)(b:Nat):Prop:=(S b\/n<=b)/\b<w.heap.size/\v.ownBlock≠some b
section
variable{α:Type} {m:Nat} {P:qN α} {w w':World} {xs:List α} {e:TypeId} {base n:Nat} {v:Value} {S:Nat->Prop}
theorem aH.grow(gd:Good P)(h:aH e m P w base (Bv S n v w) v xs)(hb:Below w w w'):aH e m P w' base (Bv S n v w') v xs:=(h.move gd (fun b hb'=>hb.block b hb'.2.1) fun b hb'=>hb.block b (aH.lt h hb').2).mono gd fun b hb'=>⟨hb'.1,bF hb'.2.1 hb.size,hb'.2.2⟩
theorem Bv.of(h:aH e m P w base S v xs)(hw:w.heap.size=n)(hS:∀b,S b->b<n)(hb:n<=base)(gd:Good P):aH e m P w base (Bv S n v w) v xs:=h.mono gd fun b hb'=>⟨.inl hb',by rw[hw];exact hS b hb',fun e=>by have:=(aH.lt h e).1;have:=hS b hb';omega⟩
theorem Bv.start(h:aH e m P w' w.heap.size S v xs)(hS:∀b,S b->b<w.heap.size)(hb:Below w w w')(gd:Good P):aH e m P w' w.heap.size (Bv S w.heap.size v w') v xs:=h.mono gd fun b hb'=>⟨.inl hb',bF (hS b hb') hb.size,fun e=>by have:=(aH.lt h e).1;have:=hS b hb';omega⟩
theorem Bv.own{c:Nat}(w:World):¬Bv S n (.slice g m c) w g:=fun h=>h.2.2 rfl
end
section
variable(w:World)
theorem Hs(A:Option Addr)(n c:Nat)(l:List Mo.Op)(hn:n=l.length)(hl:n<=1000000)(hq:∀x∈l,x.aQ.cases.length<=1000000)(hS:∀b,S b->b<w.heap.size)(ho:jF 8 KY w S A l):Calls prog 40 #[.slice A n c] w fun e w'=>∃B d,e=.returned (.slice B n d)/\aH 66 8 KY w' w.heap.size (Bv S w.heap.size (.slice B n d) w') (.slice B n d) l/\Below w w w':=by
 obtain⟨rows,r1,r2,r3⟩:=ho.Ea;have HC:=aa ((vx w A c rows (by rw[r1];exact hn) hl r2).mono fun e w' h=>eG.Z5 jz hS r1 r3 h);have HQ:=aa hq;have HN:=aa hn;have HS:=aa hS;clear r1 r2 r3 hn hq hS ho;go_enter func40,ntmps40;go_wp2_with fail;refine HC.mono ?_;rintro e w1 ⟨B,d,rfl,hd,ho,hb⟩;have HO:=aa (Bv.start ho HS hb jz);have HB:=aa hb;clear hb ho HC hd;go_wp2_with fail;go_loopw[4,9] (fun _ i wr=>∃j:Nat,j<=n/\i=j/\Hid (Below w w wr)/\Hid (aH 66 8 KY wr w.heap.size (Bv S w.heap.size (.slice B n d) wr) (.slice B n d) l)) (fun _ i _=>n-(intOf i).toNat);case atStart=>exact⟨0,aY _,rfl,HB,HO⟩
 case round =>
  clear HB HO;obtain⟨j,hj,rfl,HB,HO⟩:=hrel;by_cases hlt:j<n
  ·have vX:j<l.length:=by rw[<-HN.out];exact hlt
   obtain⟨g,d',hv,hg1,hg2⟩:=aH.form HO (by rintro e;rw[e]at vX;exact absurd vX (Nat.not_lt_zero _));injection hv with xH hv2 hv3
   subst xH hv3;clear hv2;obtain⟨x,hx⟩:∃x,l[j]?=some x:=⟨_,cD vX⟩
   obtain⟨r,⟨Bq,dq,rfl,Pb⟩,hr2,hr3⟩:=aH.at_ HO hx;have c3:=hr3 3 _ rfl;have c4:=hr3 4 _ rfl;have c5:=hr3 5 _ rfl;have c6:=hr3 6 _ rfl;have c7:=hr3 7 _ rfl;have f3:=fun i=>aH.ck HO (i:=i);have pC:=aa (jh wr x.aQ ⟨Bq,dq⟩ (HQ x (dO hx)) Pb.1);unfold ml at pC;dsimp only at pC;have HX:=aa hx;clear hr2 hr3 hx vX Pb;go_wp2_with fail;refine pC.mono ?_;rintro e w2 ⟨⟨zA,zc⟩,rfl,O5,hb2⟩;have eu:=aa (aH.grow jz HO hb2);have bq:=aa (ag HB hb2);have gp:=aa O5;have HG:=aa hg2;have HG1:=aa hg1;have hg:=bF hg2 hb2.size;have d3:=Below.cell hb2 (bc c3) |>.trans c3
   have d4:=Below.cell hb2 (bc c4) |>.trans c4
   have d5:=Below.cell hb2 (bc c5) |>.trans c5
   have d6:=Below.cell hb2 (bc c6) |>.trans c6
   have d7:=Below.cell hb2 (bc c7) |>.trans c7
   have xA:Hid (w.heap.size<=wr.heap.size):=HB.size;clear hb2 O5 c3 c4 c5 c6 c7 f3 HO HB hg1 hg2 pC;have f3:=fun i=>aH.ck eu (i:=i);go_wp2_with fail;have hP:=aH.part jz eu HX 3 [x.aQ.kind,x.aQ.arg,x.aQ.value,x.aQ.dflt,.slice zA x.aQ.cases.length zc] (aS _) (by intro u hu;simp at hu;rcases hu with rfl|rfl|rfl|rfl|rfl<;>rfl) (Bv.own _) (by
    rintro r _ ⟨B9,d9,rfl,_⟩;exact⟨zA,zc,rfl,gp.1.mono fun b hb=>⟨.inr (bm xA hb.1),hb.2,fun e=>by injection e with e;have e:g=_:=e;have:=hb.1;have:=HG.out;omega⟩⟩)
   have hP3:=hP.mono jz (S':=Bv S w.heap.size (.slice g n d) (av w2 g (j*8+3) [x.aQ.kind,x.aQ.arg,x.aQ.value,x.aQ.dflt,.slice zA x.aQ.cases.length zc])) fun b hb=>⟨hb.1,by rw[bw];exact hb.2.1,hb.2.2⟩
   have iP:=aa hP3;have bZ:=aa (aw HG1 [x.aQ.kind,x.aQ.arg,x.aQ.value,x.aQ.dflt,.slice zA x.aQ.cases.length zc] _ (j*8+3) bq);exact Yr
  ·exact Ys
end
section
variable{w:World} {x0:Nat} {A:Option Addr} {n k q:Nat} {x:Mo.Mc} {s:Sx}
theorem Di(H:MS w x0 A n k q x s)(hm:m=x.V.length)(hl:m<=1000000)(hq:∀y∈x.V,y.ops.length<=1000000/\∀o∈y.ops,o.aQ.cases.length<=1000000):Calls prog 12 #[.pointer (some ⟨x0,0,none⟩)] w fun e w'=>∃B d,e=.returned (.slice B m d)/\aH 96 3 Yd w' w.heap.size (Bv (s.I w x0) w.heap.size (.slice B m d) w') (.slice B m d) x.V/\Below w w w':=by
 have HS:Hid (∀b,s.I w x0 b->b<w.heap.size):=fun b hb=>hb.1;have Ym:=aa (pR H);obtain⟨V,e,hv⟩:=aH.shape H.V;have Yt:=H.V;rw[hv]at Yt;obtain⟨rows,r1,r2,r3⟩:=Yt.KR.Ea;have HC:=aa ((D8 w V e rows (by rw[r1];exact hm) hl r2).mono fun e w' h=>eG.Z5 gW HS r1 r3 h);obtain⟨aT,-,-⟩:=af.aK H.blk;unfold mG at aT;rw[hv, <-hm]at aT;obtain⟨L,hL⟩:=aD x.V;rw[<-hL]at hm hq HC ⊢;obtain⟨I,hI⟩:=aD (s.I w x0);rw[<-hI]at HS HC ⊢;have HQ:=aa hq;have HN:=aa hm;clear H Yt hv r1 r2 r3 hL hI hm hq;go_enter func12,ntmps12;go_wp2_with fail;refine Ym.mono ?_;rintro e w1 ⟨rfl,rfl⟩;go_wp2_with fail;refine HC.mono ?_;rintro e w1 ⟨B,d,rfl,hd,ho,hb⟩;have HO:=aa (Bv.start ho HS hb gW);have HB:=aa hb;clear hb ho HC hd aT Ym;go_wp2_with fail;go_loopw[4,15] (fun _ i wr=>∃j:Nat,j<=m/\i=j/\Hid (Below w w wr)/\Hid (aH 96 3 Yd wr w.heap.size (Bv I w.heap.size (.slice B m d) wr) (.slice B m d) L)) (fun _ i _=>m-(intOf i).toNat);case atStart=>exact⟨0,aY _,rfl,HB,HO⟩
 case round =>
  clear HB HO;obtain⟨j,hj,rfl,HB,HO⟩:=hrel;by_cases hlt:j<m
  ·have vX:j<L.length:=by rw[<-HN.out];exact hlt
   obtain⟨g,d',hv,hg1,hg2⟩:=aH.form HO (by rintro e;rw[e]at vX;exact absurd vX (Nat.not_lt_zero _));injection hv with xH hv2 hv3
   subst xH hv3;clear hv2;obtain⟨y,hy⟩:∃y,L[j]?=some y:=⟨_,cD vX⟩
   obtain⟨r,⟨⟨Bq,dq⟩,rfl,Pb⟩,hr2,hr3⟩:=aH.at_ HO hy;have c2:=hr3 2 _ rfl;have f3:=fun i=>aH.ck HO (i:=i);have hyq:=HQ.out y (dO hy);have pC:=aa (Hs wr Bq y.ops.length dq y.ops rfl hyq.1 hyq.2 (fun b hb=>hb.2.1) Pb.1);have HX:=aa hy;have HG:=aa hg2;have HG1:=aa hg1;clear hr2 hr3 hy vX Pb hyq;go_wp2_with fail;refine pC.mono ?_;rintro e w2 ⟨zA,zc,rfl,O5,hb2⟩;have eu:=aa (aH.grow gW HO hb2);have bq:=aa (ag HB hb2);have gp:=aa O5;have xA:Hid (w.heap.size<=wr.heap.size):=HB.size;have hg:=bF hg2 hb2.size;have d2:=Below.cell hb2 (bc c2) |>.trans c2
   clear hb2 O5 c2 f3 HO HB hg1 hg2 pC;have f3:=fun i=>aH.ck eu (i:=i);go_wp2_with fail;have hP:=aH.part gW eu HX 2 [.slice zA y.ops.length zc] (aS _) (by intro u hu;simp at hu;subst hu;rfl) (Bv.own _) (by
    rintro r _ ⟨⟨B9,d9⟩,rfl,_⟩;refine⟨⟨zA,zc⟩,rfl,(aH.mono jz (fun b hb=>?_) gp).KR,fun ad ha _=>?_⟩
    ·exact⟨hb.1.elim (fun h=>h.1) fun h=>.inr (bm xA h),hb.2.1,hb.1.elim (fun h=>h.2.2) fun h e=>by injection e with e;have e:g=_:=e;have:=HG.out;omega⟩
    ·subst ha;have h1:=aH.lt gp rfl;exact⟨.inr (bm xA h1.1),h1.2,fun e=>by injection e with e;have e:g=_:=e;have:=HG.out;have:=h1.1;omega⟩)
   have iP:=aa (hP.mono gW (S':=Bv I w.heap.size (.slice g m d) (av w2 g (j*3+2) [.slice zA y.ops.length zc])) fun b hb=>⟨hb.1,by rw[bw];exact hb.2.1,hb.2.2⟩);have bZ:=aa (aw HG1 [.slice zA y.ops.length zc] _ (j*3+2) bq);exact Yr
  ·exact Ys
theorem Pk(H:MS w x0 A n k q x s)(hm:m=x.N.length)(hl:m<=1000000)(hq:∀y∈x.N,y.aQ.cases.length<=1000000):Calls prog 27 #[.pointer (some ⟨x0,0,none⟩)] w fun e w'=>∃B d,e=.returned (.slice B m d)/\aH 93 13 Qa w' w.heap.size (Bv (s.I w x0) w.heap.size (.slice B m d) w') (.slice B m d) x.N/\Below w w w':=by
 have HS:Hid (∀b,s.I w x0 b->b<w.heap.size):=fun b hb=>hb.1;have Ym:=aa (pR H);obtain⟨V,e,hv⟩:=aH.shape H.N;have Yt:=H.N;rw[hv]at Yt;obtain⟨rows,r1,r2,r3⟩:=Yt.KR.Ea;have HC:=aa ((D9 w V e rows (by rw[r1];exact hm) hl r2).mono fun e w' h=>eG.Z5 eI HS r1 r3 h);obtain⟨aT,-,-⟩:=af.aK H.blk;unfold mG at aT;rw[hv, <-hm]at aT;obtain⟨L,hL⟩:=aD x.N;rw[<-hL]at hm hq HC ⊢;obtain⟨I,hI⟩:=aD (s.I w x0);rw[<-hI]at HS HC ⊢;have HQ:=aa hq;have HN:=aa hm;clear H Yt hv r1 r2 r3 hL hI hm hq;go_enter func27,ntmps27;go_wp2_with fail;refine Ym.mono ?_;rintro e w1 ⟨rfl,rfl⟩;go_wp2_with fail;refine HC.mono ?_;rintro e w1 ⟨B,d,rfl,hd,ho,hb⟩;have HO:=aa (Bv.start ho HS hb eI);have HB:=aa hb;clear hb ho HC hd aT Ym;go_wp2_with fail;go_loopw[4,15] (fun _ i wr=>∃j:Nat,j<=m/\i=j/\Hid (Below w w wr)/\Hid (aH 93 13 Qa wr w.heap.size (Bv I w.heap.size (.slice B m d) wr) (.slice B m d) L)) (fun _ i _=>m-(intOf i).toNat);case atStart=>exact⟨0,aY _,rfl,HB,HO⟩
 case round =>
  clear HB HO;obtain⟨j,hj,rfl,HB,HO⟩:=hrel;by_cases hlt:j<m
  ·have vX:j<L.length:=by rw[<-HN.out];exact hlt
   obtain⟨g,d',hv,hg1,hg2⟩:=aH.form HO (by rintro e;rw[e]at vX;exact absurd vX (Nat.not_lt_zero _));injection hv with xH hv2 hv3
   subst xH hv3;clear hv2;obtain⟨y,hy⟩:∃y,L[j]?=some y:=⟨_,cD vX⟩
   obtain⟨r,⟨⟨Bq,dq⟩,rfl,Pb⟩,hr2,hr3⟩:=aH.at_ HO hy;have c4:=hr3 4 _ rfl;have c5:=hr3 5 _ rfl;have c6:=hr3 6 _ rfl;have c7:=hr3 7 _ rfl;have c8:=hr3 8 _ rfl;have f3:=fun i=>aH.ck HO (i:=i);have pC:=aa (jh wr y.aQ ⟨Bq,dq⟩ (HQ y (dO hy)) Pb.1);unfold ml at pC;dsimp only at pC;have HX:=aa hy;have HG:=aa hg2;have HG1:=aa hg1;clear hr2 hr3 hy vX Pb;go_wp2_with fail;refine pC.mono ?_;rintro e w2 ⟨⟨zA,zc⟩,rfl,O5,hb2⟩;have eu:=aa (aH.grow eI HO hb2);have bq:=aa (ag HB hb2);have gp:=aa O5;have xA:Hid (w.heap.size<=wr.heap.size):=HB.size;have hg:=bF hg2 hb2.size;have d4:=Below.cell hb2 (bc c4) |>.trans c4
   have d5:=Below.cell hb2 (bc c5) |>.trans c5
   have d6:=Below.cell hb2 (bc c6) |>.trans c6
   have d7:=Below.cell hb2 (bc c7) |>.trans c7
   have d8:=Below.cell hb2 (bc c8) |>.trans c8
   clear hb2 O5 c4 c5 c6 c7 c8 f3 HO HB hg1 hg2 pC;have f3:=fun i=>aH.ck eu (i:=i);go_wp2_with fail;have hP:=aH.part eI eu HX 4 [y.aQ.kind,y.aQ.arg,y.aQ.value,y.aQ.dflt,.slice zA y.aQ.cases.length zc] (by show 4+5<=13;decide) (by intro u hu;simp at hu;rcases hu with rfl|rfl|rfl|rfl|rfl<;>rfl) (Bv.own _) (by
    rintro r _ ⟨⟨B9,d9⟩,rfl,_⟩;exact⟨⟨zA,zc⟩,rfl,gp.1.mono fun b hb=>⟨.inr (bm xA hb.1),hb.2,fun e=>by injection e with e;have e:g=_:=e;have:=hb.1;have:=HG.out;omega⟩⟩)
   have iP:=aa (hP.mono eI (S':=Bv I w.heap.size (.slice g m d) (av w2 g (j*13+4) [y.aQ.kind,y.aQ.arg,y.aQ.value,y.aQ.dflt,.slice zA y.aQ.cases.length zc])) fun b hb=>⟨hb.1,by rw[bw];exact hb.2.1,hb.2.2⟩);have bZ:=aa (aw HG1 [y.aQ.kind,y.aQ.arg,y.aQ.value,y.aQ.dflt,.slice zA y.aQ.cases.length zc] _ (j*13+4) bq);exact Yr
  ·exact Ys
end
structure CpB (x:Mo.Tk):Prop where
 q:x.aQ.cases.length<=1000000
 b:x.buf.length<=2000000
 n:x.next.length<=2000000
 a:x.args.length<=2000000
 s:x.seen.length<=2000000
 f:x.found.length<=1000000
 fq:∀o∈x.found,o.aQ.cases.length<=1000000
 fr:x.az.free.length<=100000
 ol:x.az.old.length<=100000
section
variable{w:World}
theorem Dj(x:Mo.Tk)(s:Sh)(hS:∀b,S b->b<w.heap.size)(h:mF w S x s)(B:CpB x):Calls prog 43 #[.agg (iu x s).toArray] w fun e w'=>∃s',e=.returned (.agg (iu {x with az:=Mo.dN x.az} s').toArray)/\Below w w w':=by
 have HX:=aa (fun(wx:World) (hb:Below w w wx)=>(h.move (fun b hb'=>hb.block b (hS b hb')) fun b hb'=>bF (hS b hb') hb.size:mF wx (·<wx.heap.size) x s));have HB:=aa B;obtain⟨T,hT⟩:=aD (iu x s);rw[<-hT];obtain⟨w2,hw2⟩:=aD ((w.alloc (.cells T.toArray 50)).alloc (.cells zT.toArray 50));have bq:Hid (Below w w w2):=by rw[hw2];exact ak (ak (aj w) _) _
 have yf:Hid (af w2 w.heap.size 50 (iu x s).toArray):=by rw[hw2,hT];exact(af.new _ _ _).alloc _
 have HZ2:Hid (af w2 (w.heap.size+1) 50 zT.toArray):=by rw[hw2];exact af.newAt _ _ _ aF
 unfold zT at hw2;have qT:=aa hw2;have HT:=aa hT;have pC:=aa (fun wx (hb:Below w w wx)=>jh wx x.aQ s.cs HB.q (HX wx hb).cs.1);unfold ml at pC;clear hw2 hT h B hS;go_enter func43,ntmps43;go_upto_region 1 with fail
 rw[<-qT.out];clear qT HT;obtain⟨aA,bh,aU⟩:=af.aK yf;unfold iu at aA;go_wp2_with fail;refine(pC _ bq).mono ?_;rintro e w3 ⟨⟨zA,zc⟩,rfl,-,hb3⟩;have bZ:=aa (ag bq hb3);have ue:=aa (yf.ag hb3);have PM:=aa (HZ2.ag hb3);clear aA bh aU hb3 pC yf HZ2 bq;obtain⟨aA,bh,aU⟩:=af.aK ue;unfold iu at aA;go_upto_region 2 with fail
 obtain⟨w4,hw4⟩:=aD (av w3 w.heap.size 2 [x.aQ.kind,x.aQ.arg,x.aQ.value,x.aQ.dflt,.slice zA x.aQ.cases.length zc]);have ZH:Hid (af w4 w.heap.size 50 (iu x {s with cs:=⟨zA,zc⟩}).toArray):=by rw[hw4];exact cX _ _ 2 _ ue
 have fJ:Hid (Below w w w4):=by rw[hw4];exact aw (aS _) _ _ _ bZ
 have UC:Hid (af w4 (w.heap.size+1) 50 zT.toArray):=by rw[hw4];exact aW PM ae _ _
 change Code.wp _ _ _ _ (av w3 w.heap.size 2 [x.aQ.kind,x.aQ.arg,x.aQ.value,x.aQ.dflt,.slice zA x.aQ.cases.length zc]);rw[<-hw4];clear hw4 aA bh aU ue bZ PM;have HC0:=aa (fun wx (hx:Ext w4 wx)=>kR wx s.bf.A s.bf.c x.buf rfl HB.b (HX wx (ag fJ hx.out)).bf.1);have pn:=aa (fun wx (hx:Ext w4 wx)=>kR wx s.nx.A s.nx.c x.next rfl HB.n (HX wx (ag fJ hx.out)).nx.1);have iq:=aa (fun wx (hx:Ext w4 wx)=>kR wx s.ar.A s.ar.c x.args rfl HB.a (HX wx (ag fJ hx.out)).ar.1);have pY:=aa (fun wx (hx:Ext w4 wx)=>kR wx s.se.A s.se.c x.seen rfl HB.s (HX wx (ag fJ hx.out)).se.1);have h0:∀wx,Ext w4 wx->wx.cell? ⟨w.heap.size,16,none⟩=some (.slice s.bf.A x.buf.length s.bf.c):=fun wx hx=>(ZH.ag hx.out).cell 16;have h1:∀wx,Ext w4 wx->wx.cell? ⟨w.heap.size,17,none⟩=some (.slice s.nx.A x.next.length s.nx.c):=fun wx hx=>(ZH.ag hx.out).cell 17;have h2:∀wx,Ext w4 wx->wx.cell? ⟨w.heap.size,19,none⟩=some (.slice s.ar.A x.args.length s.ar.c):=fun wx hx=>(ZH.ag hx.out).cell 19;have h3:∀wx,Ext w4 wx->wx.cell? ⟨w.heap.size,21,none⟩=some (.slice s.se.A x.seen.length s.se.c):=fun wx hx=>(ZH.ag hx.out).cell 21;refine uk 13 (Ext w4) (by kernel_rfl) (Ext.start _) (fun hHeld=>?_);refine DJ 0 hHeld ?_;refine DJ 1 hHeld ?_;refine DJ 3 hHeld ?_;refine DJ 4 hHeld ?_;refine DJ 6 hHeld ?_;refine DJ 7 hHeld ?_;refine DJ 9 hHeld ?_;refine DJ 10 hHeld ?_;clear h0 h1 h2 h3;(try simp only[aC]);refine Yo 2 (fun K hK=>?_);go_simp;refine(HC0 _ bE).mono ?_;rintro e wb0 ⟨B0,d0,rfl,-,-,hb⟩;have UR:Ext w4 wb0:=Ext.to bE hb;clear hb;go_wp2_with fail;refine hK.out _ _ UR (fun hHeld=>?_);clear hK K HC0;(try simp only[aC]);refine DJ 12 hHeld ?_;(try simp only[aC]);refine Yo 5 (fun K hK=>?_);go_simp;refine(pn _ bE).mono ?_;rintro e wb1 ⟨B1,d1,rfl,-,-,hb⟩;have jX:Ext w4 wb1:=Ext.to bE hb;clear hb;go_wp2_with fail;refine hK.out _ _ jX (fun hHeld=>?_);clear hK K pn;(try simp only[aC]);refine Yo 8 (fun K hK=>?_);go_simp;refine(iq _ bE).mono ?_;rintro e wb2 ⟨B2,d2,rfl,-,-,hb⟩;have uH:Ext w4 wb2:=Ext.to bE hb;clear hb;go_wp2_with fail;refine hK.out _ _ uH (fun hHeld=>?_);clear hK K iq;(try simp only[aC]);refine Yo 11 (fun K hK=>?_);go_simp;refine(pY _ bE).mono ?_;rintro e wb3 ⟨B3,d3,rfl,-,-,hb⟩;have vW:Ext w4 wb3:=Ext.to bE hb;clear hb;go_wp2_with fail;refine hK.out _ _ vW (fun hHeld=>?_);clear hK K pY;(try simp only[aC]);have Ba:=aa (ZH.ag vW.out);have iW:=aa (ag fJ vW.out);have Cc:=aa (UC.ag vW.out);clear hHeld UR jX uH vW ZH fJ UC;obtain⟨aA,bh,aU⟩:=af.aK Ba;unfold iu at aA;refine wpAnyS.late ?_;have hHeld:(fun _:World=>True) wb3:=trivial;refine dJ 13 (fun K hK=>?_);go_simp;refine hK.out _ _ trivial (fun hHeld=>?_);clear hK K;(try simp only[aC]);refine aO 14 hHeld ?_;(try simp only[aC]);refine dJ 15 (fun K hK=>?_);go_simp;refine hK.out _ _ trivial (fun hHeld=>?_);clear hK K;(try simp only[aC]);refine aO 16 hHeld ?_;(try simp only[aC]);refine dJ 17 (fun K hK=>?_);go_simp;refine hK.out _ _ trivial (fun hHeld=>?_);clear hK K;(try simp only[aC]);refine aO 18 hHeld ?_;(try simp only[aC]);refine dJ 19 (fun K hK=>?_);go_simp;refine hK.out _ _ trivial (fun hHeld=>?_);clear hK K;(try simp only[aC]);refine wpAnyH_done (by kernel_rfl) ?_ _;clear aA bh aU hHeld;obtain⟨w6,hw6⟩:=aD (av (av (av (av wb3 w.heap.size 16 [.slice B0 x.buf.length d0]) w.heap.size 17 [.slice B1 x.next.length d1]) w.heap.size 19 [.slice B2 x.args.length d2]) w.heap.size 21 [.slice B3 x.seen.length d3]);have Nx:Hid (af w6 w.heap.size 50 (iu x ⟨⟨zA,zc⟩,⟨B0,d0⟩,⟨B1,d1⟩,⟨B2,d2⟩,s.fo,⟨B3,d3⟩,s.fr,s.ol⟩).toArray):=by rw[hw6];exact cX _ _ 21 _ (cX _ _ 19 _ (cX _ _ 17 _ (cX _ _ 16 _ Ba)))
 have wT:Hid (Below w w w6):=by rw[hw6];exact aw (aS _) _ _ _ (aw (aS _) _ _ _ (aw (aS _) _ _ _ (aw (aS _) _ _ _ iW)))
 have HZ6:Hid (af w6 (w.heap.size+1) 50 zT.toArray):=by rw[hw6];exact aW (aW (aW (aW Cc ae _ _) ae _ _) ae _ _) ae _ _
 change Exit.then _ _ _ _ (av (av (av (av wb3 w.heap.size 16 [.slice B0 x.buf.length d0]) w.heap.size 17 [.slice B1 x.next.length d1]) w.heap.size 19 [.slice B2 x.args.length d2]) w.heap.size 21 [.slice B3 x.seen.length d3]);rw[<-hw6];clear hw6 Ba iW Cc;have Bc:=aa (Hs w6 s.fo.A x.found.length s.fo.c x.found rfl HB.f HB.fq (S:=(·<w6.heap.size)) (fun _ h=>h) (HX w6 wT).fo.1);obtain⟨aA,bh,aU⟩:=af.aK Nx;unfold iu at aA;go_wp2_with fail;refine Bc.mono ?_;rintro e w7 ⟨B4,d4,rfl,-,hb⟩;have PS:=aa (ag wT hb);have PZ:=aa (Nx.ag hb);have Zw:=aa (HZ6.ag hb);clear hb aA bh aU Bc Nx wT HZ6;obtain⟨aA,bh,aU⟩:=af.aK PZ;unfold iu at aA;go_upto_region 4 with fail
 obtain⟨w8,hw8⟩:=aD (av w7 w.heap.size 20 [.slice B4 x.found.length d4]);have HT8:Hid (af w8 w.heap.size 50 (iu x ⟨⟨zA,zc⟩,⟨B0,d0⟩,⟨B1,d1⟩,⟨B2,d2⟩,⟨B4,d4⟩,⟨B3,d3⟩,s.fr,s.ol⟩).toArray):=by rw[hw8];exact cX _ _ 20 _ PZ
 have Uu:Hid (Below w w w8):=by rw[hw8];exact aw (aS _) _ _ _ PS
 have WY:Hid (af w8 (w.heap.size+1) 50 zT.toArray):=by rw[hw8];exact aW Zw ae _ _
 change Code.wp _ _ _ _ (av w7 w.heap.size 20 [.slice B4 x.found.length d4]);rw[<-hw8];clear hw8 aA bh aU PZ PS Zw;have h8:=HX.out w8 Uu;have PJ:=aa (yJ w8 x.az s.fr.A s.fr.c s.ol.A s.ol.c ⟨h8.lr,h8.lo,h8.fr.1,h8.ol.1,HB.fr,HB.ol⟩);unfold ux kJ at PJ;obtain⟨aA,bh,aU⟩:=af.aK HT8;unfold iu at aA;clear h8;go_wp2_with fail;refine PJ.mono ?_;rintro e w9 ⟨v,rfl,A5,n5,B5,m5,rfl,-,-,hb⟩;have Uc:=aa (ag Uu hb);have HT9:=aa (HT8.ag hb);have HZ9:=aa (WY.ag hb);clear hb aA bh aU PJ HT8 Uu WY;obtain⟨aA,bh,aU⟩:=af.aK HT9;unfold iu at aA;go_upto_region 5 with fail
 obtain⟨U,hU⟩:=aD (iu {x with az:=Mo.dN x.az} ⟨⟨zA,zc⟩,⟨B0,d0⟩,⟨B1,d1⟩,⟨B2,d2⟩,⟨B4,d4⟩,⟨B3,d3⟩,⟨A5,n5⟩,⟨B5,m5⟩⟩);have Pn:Hid (U.length=34):=by rw[hU];rfl
 obtain⟨wa,hwa⟩:=aD (av w9 w.heap.size 22 [.int .i64 (Mo.dN x.az).own.ix,.int .i64 (Mo.dN x.az).own.tag,.slice A5 (Mo.dN x.az).free.length n5,.slice B5 (Mo.dN x.az).old.length m5,.int .i64 (Mo.dN x.az).spent]);have HTa:Hid (af wa w.heap.size 50 U.toArray):=by rw[hwa,hU];exact cX _ _ 22 _ HT9
 have HBa:Hid (Below w w wa):=by rw[hwa];exact aw (aS _) _ _ _ Uc
 have HZa:Hid (af wa (w.heap.size+1) 50 zT.toArray):=by rw[hwa];exact aW HZ9 ae _ _
 change Code.wp _ _ _ _ (av w9 w.heap.size 22 [.int .i64 (Mo.dN x.az).own.ix,.int .i64 (Mo.dN x.az).own.tag,.slice A5 (Mo.dN x.az).free.length n5,.slice B5 (Mo.dN x.az).old.length m5,.int .i64 (Mo.dN x.az).spent]);rw[<-hwa];have HU:=aa hU;clear hwa hU aA bh aU HT9 Uc HZ9;refine wp_region_lit ?_;refine wpList_load_mid rfl 50 _ rfl w.heap.size 0 rfl U _ (af.range HTa U (fun j v hv=>by rw[List.getElem?_toArray];exact hv)) underlying50 rfl (by rw[Pn.out];rfl) ?_;refine wpList_store_mid rfl 50 _ _ rfl (w.heap.size+1) 0 U.toArray rfl rfl (af.there HZa 0 _ (by rw[jx,Pn.out];decide)) (by rw[jx,Pn.out];rfl) (by rw[HU.out];exact dW _ _) ?_;rw[iR];have hQ:=aR (vs:=U) (cs:=zT) HZa (by rw[Pn.out];rfl);have hB:Below w w (av wa (w.heap.size+1) 0 U):=aw (bU _) _ _ _ HBa;change wpList _ _ _ _ _ (av wa (w.heap.size+1) 0 U);generalize av wa (w.heap.size+1) 0 U=wz at *;go_wp2_with fail;have ju:=run_loadVar_mid (P:=prog) wz (w.heap.size+1) 0 50 U _ (af.range hQ U (fun j v hv=>by rw[List.getElem?_toArray];exact hv)) underlying50 rfl (by rw[Pn.out];rfl);refine bodyPost_ret (pB results43 rfl ju) rfl ⟨_,by rw[HU.out],hB⟩
end
section
variable{w:World} {x0:Nat} {A:Option Addr} {n k q:Nat} {x:Mo.Mc} {s:Sx}
theorem AB(H:MS w x0 A n k q x s){t:Nat}(ht:t<x.T.length)(B:CpB (Mo.bu x t)):Calls prog 14 #[.pointer (some ⟨x0,0,none⟩),t] w fun e w'=>∃s',e=.returned (.agg (iu (Mo.bu x t) s').toArray)/\Below w w w':=by
 obtain⟨w1,kI⟩:=aD (w.alloc (.cells zT.toArray 50));have bj:Hid (Below w w w1):=by rw[kI];exact ak (aj w) _
 have MO:Hid (af w1 w.heap.size 50 zT.toArray):=by rw[kI];exact af.new _ _ _
 have H1:=H.more bj;have HTM:=aa (zn H1 t);obtain⟨g,d,z,hv,hg,_,hz,hc,_⟩:=H1.task ht;obtain⟨K,hK⟩:=aD (Mo.bu x t);rw[<-hK]at hz hc B ⊢;obtain⟨T,hT⟩:=aD (iu K z);have HT:=aa hT;have AP:Hid (T.length=34):=by rw[hT];rfl
 have Qb:Hid (w1.rangeAt g (t*34) T):=fun i v hv=>hc i v (hT▸hv);have oa:=aa (fun wx (hb:Below w1 w1 wx)=>(Dj (w:=wx) K z (S:=s.I w1 x0) (fun b h=>bF h.1 hb.size) (hz.move (fun b h=>hb.block b h.1) fun _ h=>h) B).mono (fun e w' h=>(by obtain⟨z',h1,h2⟩:=h;exact⟨_,z',h1,rfl,h2⟩:∃(T1:List Value) (z':Sh),e=.returned (.agg T1.toArray)/\T1=iu {K with az:=Mo.dN K.az} z'/\Below wx wx w')));rw[<-hT]at oa;have Th:=hc 22 _ rfl;have Ti:=hc 23 _ rfl;obtain⟨aT,-,hlx⟩:=af.aK H1.blk;unfold mG at aT;rw[hv]at aT;obtain⟨m,hm⟩:=aD x.T.length;rw[<-hm]at aT HTM ht;have HH:=aa H1;have HV:=aa hv;have ng:=aa kI;have HM:=aa hm;have Yu:=aa Th;have Yv:=aa Ti;have d1:decide (0<=(t:Int)/\(t:Int)<(m:Int))=true:=dg ae;unfold zT at kI;have ng:=aa kI;clear H H1 B hz hc hT hv hK hm kI Th Ti;go_enter func14,ntmps14;go_upto_region 1 with fail
 rw[<-ng.out];clear ng;go_wp2_with fail;refine HTM.mono ?_;rintro e w2 ⟨rfl,rfl⟩;rw[d1];go_wp2_with(refine wpList_load_mid rfl 50 _ rfl g (t*34) rfl T _ Qb underlying50 rfl (by rw[AP.out];rfl) ?_)
 refine(oa _ (aj w1)).mono ?_;rintro e w3 ⟨T1,z',rfl,kY,hb⟩;have bZ:=aa hb;have PM:=aa (MO.ag hb);have gw:=aa kY;have Yw:Hid (T1.length=34):=by rw[kY];rfl
 clear hb kY oa MO Qb;go_upto_region 4 with(refine wpList_store_mid rfl 50 _ _ rfl w3.heap.size 0 T1.toArray rfl rfl (af.there (af.new w3 50 zT.toArray) 0 _ (by rw[jx,Yw.out];decide)) (by rw[jx,Yw.out];rfl) (by rw[gw.out];exact dW _ _) ?_)
 obtain⟨w5,Dw⟩:=aD (av (w3.alloc (.cells zT.toArray 50)) w3.heap.size 0 T1);have di:Below w3 w3 w5:=by rw[Dw];exact aw (aS _) _ _ _ (ak (aj w3) _)
 have pX:Hid (af w5 w3.heap.size 50 (iu {K with az:=Mo.dN K.az} z').toArray):=by rw[Dw, <-gw.out];exact aR (cs:=zT) (af.new w3 _ _) (by rw[Yw.out];rfl)
 rw[iR];change Code.wp _ _ _ _ (av (w3.alloc (.cells zT.toArray 50)) w3.heap.size 0 T1);rw[<-Dw];have iW:=aa di;have Cc:=aa (PM.ag di);have Po:Below w1 w1 w5:=ag bZ di;have acj:=aa Po;have Th:=(Below.cell Po (bc Yu)).trans Yu;have Ti:=(Below.cell Po (bc Yv)).trans Yv;have H5:=HH.more Po;obtain⟨aT,-,hlx⟩:=af.aK H5.blk;unfold mG at aT;rw[HV.out, <-HM.out]at aT;obtain⟨dh,cW,hlq⟩:=af.aK pX;unfold iu at dh;have Dl:g<w3.heap.size:=bF hg bZ.size;have Su:x0<w3.heap.size:=bF HH.blk.lt bZ.size;have P4:=PM.lt;clear Dw di Po H5;go_upto_region 5 with fail
 obtain⟨U,hU⟩:=aD (iu K z');have Pn:Hid (U.length=34):=by rw[hU];rfl
 obtain⟨wa,hwa⟩:=aD (av w5 w3.heap.size 22 [K.az.own.ix,K.az.own.tag]);have HTa:Hid (af wa w3.heap.size 50 U.toArray):=by rw[hwa,hU];exact cX _ _ 22 _ pX
 have HBa:Hid (Below w w wa):=by rw[hwa];exact aw (Nat.le_of_lt P4) _ _ _ (ag bj acj)
 have HZa:Hid (af wa w.heap.size 50 zT.toArray):=by rw[hwa];exact aW Cc ae _ _
 change Code.wp _ _ _ _ (av w5 w3.heap.size 22 [K.az.own.ix,K.az.own.tag]);rw[<-hwa];have HU:=aa hU;clear hwa hU aT hlx dh cW hlq Th Ti pX Cc iW acj gw Yu Yv;refine wp_region_lit ?_;refine wpList_load_mid rfl 50 _ rfl w3.heap.size 0 rfl U _ (af.range HTa U (fun j v hv=>by rw[List.getElem?_toArray];exact hv)) underlying50 rfl (by rw[Pn.out];rfl) ?_;refine wpList_store_mid rfl 50 _ _ rfl w.heap.size 0 U.toArray rfl rfl (af.there HZa 0 _ (by rw[jx,Pn.out];decide)) (by rw[jx,Pn.out];rfl) (by rw[HU.out];exact dW _ _) ?_;rw[iR];have hQ:=aR (vs:=U) (cs:=zT) HZa (by rw[Pn.out];rfl);have hB:Below w w (av wa w.heap.size 0 U):=aw (aS _) _ _ _ HBa;change wpList _ _ _ _ _ (av wa w.heap.size 0 U);generalize av wa w.heap.size 0 U=wz at *;go_wp2_with fail;have ju:=run_loadVar_mid (P:=prog) wz w.heap.size 0 50 U _ (af.range hQ U (fun j v hv=>by rw[List.getElem?_toArray];exact hv)) underlying50 rfl (by rw[Pn.out];rfl);refine bodyPost_ret (pB results14 rfl ju) rfl ⟨_,by rw[HU.out],hB⟩
end
end Go.Proofs.YtjcjjiieblineaaGreat
