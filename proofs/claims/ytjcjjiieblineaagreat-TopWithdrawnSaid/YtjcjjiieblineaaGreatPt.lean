/- Walks and plain facts. No condition. -/
import Derived.Test.YtjcjjiieblineaaGreatPl
import Derived.Test.YtjcjjiieblineaaGreatPr
import Derived.Test.YtjcjjiieblineaaGreatPs
namespace Go.Proofs.YtjcjjiieblineaaGreat
open Go.RowKit Go.Proofs.Tryz
set_option maxHeartbeats 8000000
set_option maxRecDepth 100000
set_option linter.all false
variable {w w' w1 wx w5 W0 wB:World}{g i t p fuel g5 g6:Nat}{c:Mo.bH}{v:Value}{a:Act}{listed:Array Bool}{m':Mm}{o':Sl}{z':Sh}
theorem Kr(w:World)(g:Nat)(a:Addr)(n c:Nat)(hc:w.cell? ⟨g,0,none⟩=some (.slice (some a) n c)):Calls prog 107 #[.pointer g] w fun e w'=>e=.returned n/\w=w':=by have HY:=aa (oM w g a n c hc);go_enter func107,ntmps107;go_wp2_with fail;refine HY.mono ?_;exact Qt
structure StP (w:World) (X:Nat->Prop) (c:Mo.bH) (A:Option Addr) (n:Nat) (t:Int) (m:Mm) (q:Nat) (L:List Int) (x:Mo.Tk) (s:Sh):Prop where
 mem:xh w m L q
 ln:(L.length:Int)=Mo.bo c
 cs:Zg c n t
 mx:∀b,m.own b->¬X b
 xl:∀b,X b->b<w.heap.size
 cf:cA w (Iz w X m) .i64 A c.start
 tk:mF w (Iz w X m) x s
def Vp(X:Nat->Prop)(c:Mo.bH)(m:Mm)(q:Nat)(r:Mo.Rn)(w:World)(e:Ending)(w':World):Prop :=∃p m' s' o',w.heap.size<=p/\e=.returned (.tuple #[.agg (iu r.k s').toArray,.agg #[r.note,r.gF,.slice (Sl.A o') r.ops.length (Sl.c o')]])/\xh w' m' r.L q/\(r.L.length:Int)=Mo.bo c/\mF w' (Im w' X p m') r.k s'/\pN w' (Im w' X p m') o'.A r.ops/\bV w w' p m m'
namespace Mo
section
variable(c:bH) (t:Int) (r:Rn)
theorem Dd(h0:0<r.k.pc)(h:r.k.pc<=5):dY c t r=Rn.enter c t r:=by exact Qf
theorem Ay(h0:0<r.k.pc)(h:5<r.k.pc/\r.k.pc<=7):dY c t r=Rn.eD c t r:=by exact Qf
theorem Az(h0:0<r.k.pc)(h:7<r.k.pc/\r.k.pc<=10):dY c t r=Rn.eE c r:=by exact Qf
theorem yi(h0:0<r.k.pc)(h:10<r.k.pc/\r.k.pc<=12):dY c t r=Rn.eF c t r:=by exact Qf
theorem AA(h0:0<r.k.pc)(h:12<r.k.pc/\r.k.pc<=15):dY c t r=Rn.writes c t r:=by exact Qf
theorem xq(h0:0<r.k.pc)(h:15<r.k.pc/\r.k.pc<=19):dY c t r=Rn.bT c t r:=by exact Qf
theorem FZ(h0:0<r.k.pc)(h:19<r.k.pc/\r.k.pc<=23):dY c t r=Rn.ends c t r:=by exact Qf
theorem yj(h0:0<r.k.pc)(h:23<r.k.pc/\r.k.pc<=27):dY c t r=Rn.cH c t r:=by exact Qf
theorem De(h0:0<r.k.pc)(h:r.k.pc=28):dY c t r=Rn.leave c t r:=by exact Qf
theorem Df(h0:0<r.k.pc)(h:28<r.k.pc):dY c t r=Rn.waits c t r:=by exact Qf
end
end Mo
section
variable{w:World} {X:Nat->Prop} {c:Mo.bH} {A:Option Addr} {n k:Nat} {t:Int} {m:Mm} {q:Nat} {L:List Int} {x:Mo.Tk} {s:Sh} {N:Int}
theorem StP.rn(h:StP w X c A n t m q L x s)(hb:Below w w w')(hp:w.heap.size<=p)(hK:af w' p 176 (bp c A n k m.g t ⟨x,L,0,false,[]⟩ s dB)):RN w' (XB X w.heap.size p) p c A n k t m q ⟨x,L,0,false,[]⟩ s dB :=
 have hs:Sm (Iz w X m) w w':=fun b h1=>hb.block b h1.1
 have hm:∀b,Iz w X m b->Im w' (XB X w.heap.size p) p m b:=fun b h1=>⟨bF h1.1 hb.size,fun e=>by have:=h1.1;omega,h1.2.1,fun e=>e.elim h1.2.2 fun e=>by have:=h1.1;omega⟩
 ⟨hK,h.mem.more hb,h.ln,h.cs,fun h1=>by have:=h.mem.lt h1;omega,fun b h1 e=>e.elim (h.mx b h1) fun e=>by have:=h.mem.lt h1;omega,fun b h1=>h1.elim (fun h1=>bF (h.xl b h1) hb.size) fun h1=>Nat.lt_trans h1.2 hK.lt,(h.cf.same hs).mono hm,h.tk.move hs hm,pN.nil _ _ _⟩
theorem Vp.fin{k:Nat}{w6 w9:World}{m6:Mm}{r6:Mo.Rn}{s6:Sh}{o6:Sl}{e:Ending}(H:RN w6 (XB X w.heap.size p) p c A n k t m6 q r6 s6 o6)(F:bV w w6 p m m6)(hp:w.heap.size<=p)(hs:∀b,¬(w.heap.size<=b/\b<p)->w9.heap[b]?=w6.heap[b]?)(hb:Below 0 w6 w9)(he:e=.returned (.tuple #[.agg (iu r6.k s6).toArray,.agg #[r6.note,r6.gF,.slice o6.A r6.ops.length o6.c]])):Vp X c m q r6 w e w9 :=
 have hS:Sm (Im w6 (XB X w.heap.size p) p m6) w6 w9:=fun b h=>hs b fun e=>h.2.2.2 (.inr e)
 have hM:∀b,Im w6 (XB X w.heap.size p) p m6 b->Im w9 X p m6 b:=fun b h=>⟨bF h.1 hb.size,h.2.1,h.2.2.1,fun e=>h.2.2.2 (.inl e)⟩
 ⟨p,m6,s6,o6,hp,he,H.mem.same fun b h=>hs b fun e=>H.mx b h (.inr e),H.ln,H.tk.move hS hM,H.op.move hS hM,F.jE.trans hb,fun b h1 h2 h3=>(hs b ae).trans (F.same b h1 h2 h3),F.own,F.g⟩
def Qg(a:Nat)(X:Nat->Prop)(c:Mo.bH)(A:Option Addr)(n k:Nat)(t:Int)(m:Mm)(q:Nat)(x:Mo.Tk)(L:List Int)(s:Sh)(f:FuncId):Prop :=∀wx p,RN wx (XB X a p) p c A n k t m q ⟨x,L,0,false,[]⟩ s dB->Calls prog f #[.pointer p] wx (bY (XB X a p) p c A n k t m (q+1) (Mo.dY c t ⟨x,L,0,false,[]⟩) wx)
theorem Ks(H:StP w X c A n t m q L x s)(HB:Mo.RB c N ⟨x,L,0,false,[]⟩)(hF:Mo.FB c x)(hown:12<x.pc->x.pc<=15->0<=x.az.own.ix/\x.az.own.ix<Mo.bI c)(hN:N<=90000)(hq:q<=900000)(h0:0<x.pc):Calls prog 74 #[mH c A n k,.pointer (some ⟨m.g,0,none⟩),t,.agg (iu x s).toArray] w (Vp X c m (q+1) (Mo.dY c t ⟨x,L,0,false,[]⟩) w):=by
 have r8:=H.cs.t0;have tQ:=H.cs.t1;have Gv:c.bn<=1048575:=(Mo.aG H.cs.dL).2.2.2.2.2.1.2;have Kq:N<=100000:=ae;have hne:L≠[]:=fun e=>by have h:=H.ln;have h2:=(cZ H.cs.dL r8 tQ).1;rw[e]at h;simp at h;omega
 have HI:7<x.pc/\x.pc<=12->x.i<c.threads/\(x.buf.length:Int)=Mo.aZ c:=by intro h;have h2:=HB.f.a;unfold Mo.lA at h2;dsimp only at h2;omega
 obtain⟨gl,cl,hvl,hgl1,hgl2⟩:=H.mem.mv.form hne;have hcm:∀wx,Below w w wx->wx.cell? ⟨m.g,0,none⟩=some (.slice gl L.length cl):=fun wx hb=>by rw[(H.mem.more hb).mv.blk.cell 0,hvl];rfl
 have xA:=aa (fun wx hb=>Kr wx m.g ⟨gl,0,none⟩ L.length cl (hcm wx hb));have AQ:=aa (fun wx (hb:Below w w wx)=>tq wx H.cs.dL H.cs.n (H.cf.1.below hb) (k:=k));rw[<-H.ln]at AQ;obtain⟨ln,xz⟩:=aD L.length;rw[<-xz]at xA AQ;have uC:=aa (fun wx (p:Nat) (hb:Below w w wx) (hp:w.heap.size<=p)=>H.rn (k:=k) hb hp);have oW:=aa (fun b=>H.mem.lt (b:=b));obtain⟨w4,hw4⟩:=aD ((((w.alloc (cr c A n k)).alloc (.cells (iu x s).toArray 50)).alloc (.cells zT.toArray 50)).alloc (.cells #[oZ,false,oN] 142));have fJ:Hid (Below w w w4):=by rw[hw4];exact ak (ak (ak (ak (aj w) _) _) _) _
 have gV:Hid (af w4 w.heap.size 24 #[c.kind,c.threads,c.chans,c.cap,c.nodes,c.aJ,c.aB,c.tags,c.bn,c.ba,.slice A n k]):=by rw[hw4];exact(((af.new _ _ _).alloc _).alloc _).alloc _
 have fh:Hid (af w4 (w.heap.size+1) 50 (iu x s).toArray):=by rw[hw4];exact((af.newAt _ _ _ aF).alloc _).alloc _
 have jv:Hid (af w4 (w.heap.size+1+1) 50 zT.toArray):=by rw[hw4];exact(af.newAt _ _ _ aF).alloc _
 have qE:Hid (af w4 (w.heap.size+1+1+1) 142 #[oZ,false,oN]):=by rw[hw4];exact af.newAt _ _ _ aF
 have HS4:Hid (w4.heap.size=w.heap.size+1+1+1+1):=by unfold Hid;rw[hw4];simp
 unfold zT at hw4;obtain⟨T,hT⟩:=aD ((iu x s).toArray);rw[<-hT]at hw4 fh;rw[<-hT];have HT:=aa hT;clear hT;unfold mH;have PQ:=aa hw4;clear hw4 H;go_enter func74,ntmps74;go_wp2_with fail;rw[<-PQ.out];clear PQ;have Cz:=aa (fun wx (hx:Ext w4 wx)=>xA wx (ag fJ hx.out));have YX:=aa (fun wx (hx:Ext w4 wx)=>AQ wx (ag fJ hx.out));have hcc:=fun wx (hx:Ext w4 wx) i=>af.cell (gV.ag hx.out) i;have Nk:∀wx,Ext w4 wx->wx.cell? ⟨w.heap.size+1,0,none⟩=some (.int .i64 x.pc):=fun wx hx=>by rw[af.cell (fh.out.ag hx.out) 0,HT.out];rfl
 have hb0:(x.pc==0)=false:=by rw[cq];omega
 have hb1:decide (t<0)=false:=bJ ae;have hb2:decide (c.threads<=t)=false:=bJ ae;clear hcm xA AQ;go_region_held3(Ext w4) (with_reducible(repeat(first|assumption|exact Ext.start _|refine Ext.alloc ?_ _))) (first
  |((with_reducible refine(Cz.out _ bE).mono ?_);rintro e wA ⟨rfl,rfl⟩)
  |((with_reducible refine(YX.out _ bE).mono ?_);rintro e wB ⟨rfl,dE⟩;have lK:=Ext.to bE dE))
 have iW:=aa (ag fJ lK.out);have Ki:=aa (gV.ag lK.out);have Ba:=aa (fh.ag lK.out);have Cc:=aa (jv.ag lK.out);have rL:=aa (qE.ag lK.out);clear hcc Nk hb0 hb1 hb2 lK dE Cz YX gV fh jv qE fJ;have hcc:=fun i=>af.cell Ki i;have Nk:wB.cell? ⟨w.heap.size+1,0,none⟩=some (.int .i64 x.pc):=by rw[af.cell Ba.out 0,HT.out];rfl
 have gH:=Ki.lt;have uE:=Ba.lt;have hgz:=Cc.lt;have hgo:=rL.lt;go_upto_region 3 with fail
 refine wp_region_lit ?_;refine wpList_load_mid rfl 50 _ rfl (w.heap.size+1) 0 rfl T.toList _ (fun j v hv=>by rw[Nat.zero_add,af.cell Ba.out j];simpa using hv) underlying50 rfl (by rw[HT.out];rfl) ?_;rw[Array.toArray_toList];refine wpList_load_mid rfl 24 _ rfl w.heap.size 0 rfl [c.kind,c.threads,c.chans,c.cap,c.nodes,c.aJ,c.aB,c.tags,c.bn,c.ba,.slice A n k] _ (fun j v hv=>by rw[Nat.zero_add,af.cell Ki.out j];simpa using hv) underlying24 rfl (by kernel_rfl) ?_;refine ei rfl (.pointer (some ⟨m.g,0,none⟩)) rfl ?_;refine ei rfl t rfl ?_;obtain⟨R,hR⟩:=aD (bp c A n k m.g t ⟨x,L,0,false,[]⟩ s dB);refine ei rfl (.agg R) (by rw[hR,HT.out];kernel_rfl) ?_;have xx:=aa hR;clear hR;go_upto_region 5 with fail
 have jd:=aa (uC _ wB.heap.size (ak iW (.cells R 176)) iW.size (by rw[<-xx.out];exact af.new _ _ _));have Nx:=aa (Ba.alloc (.cells R 176));have HZ6:=aa (Cc.alloc (.cells R 176));have PR:=aa (rL.alloc (.cells R 176));have wT:=aa (ak iW (.cells R 176));have HP:=aa iW.size;clear hcc gH uC xx iW Ba Ki Cc rL;generalize wB.alloc (.cells R 176)=w5 at *;generalize wB.heap.size=p at *;have Nk:w5.cell? ⟨w.heap.size+1,0,none⟩=some (.int .i64 x.pc):=by rw[af.cell Nx.out 0,HT.out];rfl
 have hcs:x.pc<=5\/(5<x.pc/\x.pc<=7)\/(7<x.pc/\x.pc<=10)\/(10<x.pc/\x.pc<=12)\/(12<x.pc/\x.pc<=15)\/(15<x.pc/\x.pc<=19)\/(19<x.pc/\x.pc<=23)\/(23<x.pc/\x.pc<=27)\/x.pc=28\/28<x.pc:=ae;rcases hcs with h|h|h|h|h|h|h|h|h|h
 case' inl =>
  have HC:Hid (Qg w.heap.size X c A n k t m q x L s 108):=fun wx p hr=>by
   rw[Mo.Dd c t _ h0 h]
   exact FH hr HB Kq hq h0 h
 case' inr.inl =>
  have HC:Hid (Qg w.heap.size X c A n k t m q x L s 109):=fun wx p hr=>by
   rw[Mo.Ay c t _ h0 h]
   exact CV hr HB Kq hq h.1 h.2
 case' inr.inr.inl =>
  have HC:Hid (Qg w.heap.size X c A n k t m q x L s 110):=fun wx p hr=>by
   rw[Mo.Az c t _ h0 h]
   exact C6 hr HB hF Kq hq h.1 h.2
 case' inr.inr.inr.inl =>
  have HC:Hid (Qg w.heap.size X c A n k t m q x L s 111):=fun wx p hr=>by
   rw[Mo.yi c t _ h0 h]
   exact Aw hr HB (fun wy my qy sy r' hR e1 e2 e3 e4 _=>yh hR (by rw[e4];exact HB.k.i.1) (by rw[e4];exact(HI ⟨ae,h.2⟩).1) (by rw[e1];exact hF.b (by show x.pc=11\/x.pc=12;omega)) (by rw[e1];exact hF.cs) (by rw[e2];exact(HI ⟨ae,h.2⟩).2) (by rw[e2];exact HB.k.buf) (by rw[e3];exact Mo.lF (HB.f.aQ (by show x.pc≠0;omega)))) Kq hq h.1 h.2
 case' inr.inr.inr.inr.inl =>
  have HC:Hid (Qg w.heap.size X c A n k t m q x L s 112):=fun wx p hr=>by
   rw[Mo.AA c t _ h0 h]
   exact C5 hr HB (hown h.1 h.2) Kq hq h.1 h.2
 case' inr.inr.inr.inr.inr.inl =>
  have HC:Hid (Qg w.heap.size X c A n k t m q x L s 113):=fun wx p hr=>by
   rw[Mo.xq c t _ h0 h]
   exact ye hr HB Gv hq h.1 h.2
 case' inr.inr.inr.inr.inr.inr.inl =>
  have HC:Hid (Qg w.heap.size X c A n k t m q x L s 114):=fun wx p hr=>by
   rw[Mo.FZ c t _ h0 h]
   exact Kb hr HB Kq hq h.1 h.2
 case' inr.inr.inr.inr.inr.inr.inr.inl =>
  have HC:Hid (Qg w.heap.size X c A n k t m q x L s 115):=fun wx p hr=>by
   rw[Mo.yj c t _ h0 h]
   exact Ax hr HB hN hq h.1 h.2
 case' inr.inr.inr.inr.inr.inr.inr.inr.inl =>
  have HC:Hid (Qg w.heap.size X c A n k t m q x L s 116):=fun wx p hr=>by
   rw[Mo.De c t _ h0 h]
   exact FI hr hq
 case' inr.inr.inr.inr.inr.inr.inr.inr.inr =>
  have HC:Hid (Qg w.heap.size X c A n k t m q x L s 117):=fun wx p hr=>by
   rw[Mo.Df c t _ h0 h]
   exact FK hr HB Kq hq h
 all_goals
  clear hF hown hN hq HI Kq Gv HB h0;go_wp2_with fail;refine(HC _ _ jd).mono ?_;rintro e w6 ⟨rfl,m6,s6,o6,H6,F6⟩;clear HC;generalize Mo.dY c t ⟨x,L,0,false,[]⟩=r6 at *;have Zw:Hid (af w6 (w.heap.size+1+1) 50 zT.toArray):=(F6.same _ HZ6.lt ae (fun hb=>by have:=oW.out _ hb;omega)).trans HZ6;have Nq:Hid (af w6 (w.heap.size+1+1+1) 142 #[oZ,false,oN]):=(F6.same _ PR.lt ae (fun hb=>by have:=oW.out _ hb;omega)).trans PR;have uX:=aa ((bV.ext wT p m).trans F6);have H7:=aa H6;obtain⟨T6,UJ⟩:=aD (iu r6.k s6);have aU:=H6.lt;have HL6:Hid (T6.length=34):=by unfold Hid;rw[UJ];rfl
  have PZ:=aa UJ;clear F6 H6 UJ jd Nx PR wT Nk;go_wp2_with fail;have hs:∀wx:World,wx.heap[p]?=w6.heap[p]?->wx.rangeAt p 0 T6:=fun wx hx=>af.range (show af wx p 176 _ from hx.trans H7.blk) T6 (fun j v hv=>by
   rw[Ov, <-PZ.out,List.getElem?_toArray]
   exact List.getElem?_append_left (List.getElem?_eq_some_iff.1 hv).1▸hv)
  have h47:∀wx:World,wx.heap[p]?=w6.heap[p]?->wx.cell? ⟨p,47,none⟩=some (.int .i64 r6.note):=fun wx hx=>af.cell (show af wx p 176 _ from hx.trans H7.blk) 47;have h48:∀wx:World,wx.heap[p]?=w6.heap[p]?->wx.cell? ⟨p,48,none⟩=some (.bool r6.gF):=fun wx hx=>af.cell (show af wx p 176 _ from hx.trans H7.blk) 48;have h49:∀wx:World,wx.heap[p]?=w6.heap[p]?->wx.cell? ⟨p,49,none⟩=some (.slice o6.A r6.ops.length o6.c):=fun wx hx=>af.cell (show af wx p 176 _ from hx.trans H7.blk) 49;refine wp_region_held_drew (S:=fun wx:World=>wx.heap[p]?=w6.heap[p]?) (by kernel_rfl) rfl (fun hHeld=>?_);refine aO 0 hHeld ?_;refine aO 1 hHeld ?_;refine aO 2 hHeld ?_;refine tkH (i:=3) (oi:=⟨some 102,_,_,_,_,_⟩) rfl (by kernel_rfl) rfl (fun _ _ _ h=>h) hHeld (fun wx hx=>qa 50 _ rfl p 0 rfl T6 _ (hs wx hx) underlying50 rfl (by rw[HL6.out];rfl)) ?_;refine aO 4 hHeld ?_;refine aO 5 hHeld ?_;refine aO 6 hHeld ?_;refine aO 7 hHeld ?_;(try simp only[aC]);refine dJ 8 (fun K hK=>?_);rw[au (by rfl)];refine wp_store_mid 50 _ _ rfl (w.heap.size+1+1) 0 T6.toArray rfl rfl (af.there (af.jA Zw) 0 _ (by rw[jx,HL6.out];decide)) (by rw[jx,HL6.out];rfl) (by rw[PZ.out];exact dW _ _) ?_;rw[iR];refine hK.out _ _ (aM ae T6 0) (fun hHeld=>?_);clear hK K;(try simp only[aC]);have WY:=aa (aR (vs:=T6) (cs:=zT) (af.jA Zw) (by rw[HL6.out];rfl));have Ri:=aa (aW (af.jA Nq) (show w.heap.size+1+1+1≠w.heap.size+1+1 by omega) T6 0);have HS8:Hid (∀b,¬(w.heap.size<=b/\b<p)->(av w6.drew (w.heap.size+1+1) 0 T6).heap[b]?=w6.heap[b]?):=fun b hb=>aM ae T6 0;have Uu:Hid (Below 0 w6 (av w6.drew (w.heap.size+1+1) 0 T6)):=aw (aY _) _ _ _ ((aj w6).drew.mono (aY _));clear Nq Zw;generalize av w6.drew (w.heap.size+1+1) 0 T6=w8 at *;obtain⟨S1,U7,hgo8⟩:=af.aK Ri;refine dJ 9 (fun K hK=>?_);go_simp;refine hK.out _ _ (by
   refine(dp _ _ _ _ ?_).trans ((dp _ _ _ _ ?_).trans ((dp _ _ _ _ ?_).trans (HS8 p ae)))<;>(show p≠w.heap.size+1+1+1;omega)) (fun hHeld=>?_)
  clear hK K;(try simp only[aC]);refine wpAnyH_done (by kernel_rfl) ?_ _;clear hHeld;go_wp2_with fail;have hO9:=aR (vs:=[r6.note,r6.gF,.slice o6.A r6.ops.length o6.c]) (cs:=[oZ,false,oN]) Ri rfl;have hZ9:=aW WY (show w.heap.size+1+1≠w.heap.size+1+1+1 by omega) [r6.note,r6.gF,.slice o6.A r6.ops.length o6.c] 0;have hs9:∀b,¬(w.heap.size<=b/\b<p)->(av w8 (w.heap.size+1+1+1) 0 [r6.note,r6.gF,.slice o6.A r6.ops.length o6.c]).heap[b]?=w6.heap[b]?:=fun b hb=>(aM ae _ 0).trans (HS8 b hb);have xC:Below 0 w6 (av w8 (w.heap.size+1+1+1) 0 [r6.note,r6.gF,.slice o6.A r6.ops.length o6.c]):=aw (aY _) _ _ _ Uu;change bodyPost _ _ _ _ _ (av w8 (w.heap.size+1+1+1) 0 [r6.note,r6.gF,.slice o6.A r6.ops.length o6.c]);clear S1 U7 hgo8 HS8 Uu Ri WY;generalize av w8 (w.heap.size+1+1+1) 0 [r6.note,r6.gF,.slice o6.A r6.ops.length o6.c]=w9 at *;have ju:=run_loadVar_mid (P:=prog) w9 (w.heap.size+1+1) 0 50 T6 _ (af.range hZ9 T6 (fun j v hv=>by rw[List.getElem?_toArray];exact hv)) underlying50 rfl (by rw[HL6.out];rfl);have hro:=run_loadVar_mid (P:=prog) w9 (w.heap.size+1+1+1) 0 142 [r6.note,r6.gF,.slice o6.A r6.ops.length o6.c] _ (af.range hO9 _ (fun j v hv=>by rw[List.getElem?_toArray];exact hv)) underlying142 rfl (by kernel_rfl);exact bodyPost_ret (C7 results74 rfl rfl ju hro) rfl (Vp.fin H7 uX HP hs9 xC (by rw[<-PZ.out]))
end
section
variable{w:World} {x0:Nat} {A:Option Addr} {n k q:Nat} {x:Mo.Mc} {s:Sx}
theorem xr{w:World}(h:wx.heap[g]?=w.heap[g]?):wx.cell? ⟨g,i,none⟩=w.cell? ⟨g,i,none⟩:=by unfold World.cell?;simp only[h]
theorem MS.ady{b:Nat}(h:s.I w x0 b):b<w.heap.size/\s.V.ownBlock≠some b:=⟨h.1,fun e=>h.2.2 (.inr (.inr (.inr (.inr (.inl e)))))⟩
theorem MS.aca(H:MS w x0 A n k q x s){v':Value}{y:Mo.Tn}(hN:aH 96 3 Yd w1 0 (s.I w x0) v' (x.V++[y]))(hg:w.grownBy w1 s.V.ownBlock)(hf:v'.ownBlock=s.V.ownBlock\/v'.ownBlock=some w.heap.size) :
 MS (w1.setCell ⟨x0,15,none⟩ v') x0 A n k q {x with V:=x.V++[y]} {s with V:=v'}/\fB w (w1.setCell ⟨x0,15,none⟩ v') (s.U x0) (Sx.U {s with V:=v'} x0):=by
 obtain⟨rows,q1,q2,q3⟩:=H.V
 exact H.ads (aI.br q2 (Below.refl 0 w) hg (aY _) (aS _)) (fun b hb hn=>hg.block b hb fun e=>hn e.symm) hN fun b hb=>hf.elim (fun e=>.inl (e▸hb)) fun e=>.inr (by rw[hb]at e;injection e with e;omega)
def MsQ(x0:Nat)(A:Option Addr)(n k q:Nat)(x':Mo.Mc)(w:World)(s:Sx)(w':World):Prop:=∃q',q'<=q+1/\xJ x0 A n k q' x' w s w'
structure PkB (N:Int) (x:Mo.Mc) (t:Nat):Prop where
 T:t<x.T.length
 P:x.P.length=x.T.length
 S:x.S.length=x.T.length
 M:x.M.length=x.T.length
 p8:(Mo.gG x t).outs.length<=8
 seq:0<=(Mo.bu x t).seq/\(Mo.bu x t).seq<=1048575
 N:x.N.length<=900000
 tm:0<=x.time/\x.time<=1000000
structure PkR (N:Int) (n q:Nat) (y:Mo.Mc) (t:Nat):Prop where
 rb:Mo.RB y.c N ⟨Mo.bu y t,y.L,0,false,[]⟩
 fb:Mo.FB y.c (Mo.bu y t)
 own:12<(Mo.bu y t).pc->(Mo.bu y t).pc<=15->0<=(Mo.bu y t).az.own.ix/\(Mo.bu y t).az.own.ix<Mo.bI y.c
 L:(y.L.length:Int)=Mo.bo y.c
 cs:Zg y.c n t
 N9:N<=90000
 q9:q<=900000
structure PkY (N:Int) (n q:Nat) (y:Mo.Mc) (t:Nat):Prop where
 S:y.S.length=y.T.length
 M:y.M.length=y.T.length
 P:y.P.length=y.T.length
 sb:∀v∈y.S,0<=v/\v<=1000000
 r:PkR N n q y t
 N:y.N.length<=900000
 V:y.V.length<=1000000
 p8:(Mo.gG y t).outs.length<=8
 rq:(Mo.bu y t).aQ.cases.length<=1000000
def oo(w5:World)(x0:Nat)(A:Option Addr)(n k q:Nat)(y:Mo.Mc)(s:Sx)(r:Mo.Rn)(s5 s6:Value)(wx:World):Prop:=∃g5 g6 m' z',∃o':Sl,s5=.pointer (some ⟨g5,0,none⟩)/\s6=.pointer (some ⟨g6,0,none⟩)/\MS wx x0 A n k (q+1) {y with L:=r.L} {s with m:=m'}/\fB w5 wx (s.U x0) (Sx.U {s with m:=m'} x0)/\af wx g5 50 (iu r.k z').toArray/\af wx g6 142 #[r.note,r.gF,.slice o'.A r.ops.length o'.c]/\mF wx (Sx.I {s with m:=m'} wx x0) r.k z'/\pN wx (Sx.I {s with m:=m'} wx x0) o'.A r.ops/\w5.heap.size<=g5/\w5.heap.size<=g6/\¬Sx.U {s with m:=m'} x0 g5/\¬Sx.U {s with m:=m'} x0 g6
def Xp(s:Sx)(x0 a c b:Nat):Prop:=s.X x0 b\/(a<=b/\b<c)
theorem oo.of{y:Mo.Mc}{r:Mo.Rn}(H:MS w5 x0 A n k q y s)(hX:Ext w5 W0)(hp:W0.heap.size<=p)(hM:xh wB m' r.L (q+1))(hT:mF wB (Im wB (Xp s x0 w5.heap.size W0.heap.size) p m') r.k z')(hO:pN wB (Im wB (Xp s x0 w5.heap.size W0.heap.size) p m') o'.A r.ops)(hF:bV W0 wB p s.m m')(hB:Below 0 wB wx)(hs:∀b,b<wB.heap.size->¬(w5.heap.size<=b/\b<W0.heap.size)->wx.heap[b]?=wB.heap[b]?)(h5:af wx g5 50 (iu r.k z').toArray)(h6:af wx g6 142 #[r.note,r.gF,.slice o'.A r.ops.length o'.c])(l5:w5.heap.size<=g5)(l6:w5.heap.size<=g6)(n5:¬m'.own g5)(n6:¬m'.own g6):oo w5 x0 A n k q y s r (.pointer g5) (.pointer g6) wx:=by
 have hz:=hX.out.size
 have hzB:=hF.jE.size
 have F:bV w5 wx p s.m m':=⟨((hX.out.mono (aY _)).trans hF.jE).trans hB,fun b h1 h2 h3=>(hs b ae ae).trans ((hF.same b ae h2 h3).trans (hX.out.block b h1)),fun b hb=>(hF.own b hb).imp id fun h=>by omega,hF.g⟩
 obtain⟨h1,h2⟩:=H.Hf F ae (hM.same fun b hb=>hs b (hM.lt hb) fun e=>(hF.own b hb).elim (fun h=>by have:=H.mem.lt h;omega) fun h=>by omega)
 have hm:Sm (Im wB (Xp s x0 w5.heap.size W0.heap.size) p m') wB wx:=fun b hb=>hs b hb.1 fun e=>hb.2.2.2 (.inr e)
 have hI:∀b,Im wB (Xp s x0 w5.heap.size W0.heap.size) p m' b->Sx.I {s with m:=m'} wx x0 b:=fun b hb=>⟨bF hb.1 hB.size,hb.2.2.1,fun e=>hb.2.2.2 (.inl e)⟩
 exact⟨g5,g6,m',z',o',rfl,rfl,h1,h2,h5,h6,hT.move hm hI,hO.move hm hI,l5,l6,fun e=>e.elim (fun e=>Nat.lt_irrefl _ (bF (H.ul (.inl e)) l5)) n5,fun e=>e.elim (fun e=>Nat.lt_irrefl _ (bF (H.ul (.inl e)) l6)) n6⟩
theorem qb{P:Prop}(h:P:=by with_reducible(repeat(first|assumption|exact Ext.start _|exact Ext.fZ _ _|exact Ext.Aj _ _ _|refine Ext.alloc ?_ _))):P:=h
def StT(X:Nat->Prop)(m:Mm)(q:Nat)(r:Mo.Rn)(w:World)(e:Ending)(w':World):Prop:=∃p m' s',∃o':Sl,∃T1:List Value,w.heap.size<=p/\e=.returned (.tuple #[.agg T1.toArray,.agg #[r.note,r.gF,.slice o'.A r.ops.length o'.c]])/\T1=iu r.k s'/\xh w' m' r.L q/\mF w' (Im w' X p m') r.k s'/\pN w' (Im w' X p m') o'.A r.ops/\bV w w' p m m'
theorem Vp.letter{X:Nat->Prop}{m:Mm}{r:Mo.Rn}{e:Ending}(h:Vp X c m q r w e w'):StT X m q r w e w':=by obtain⟨p,m',s',o',h1,h2,h3,_,h4,h5,h6⟩:=h;exact⟨p,m',s',o',_,h1,h2,rfl,h3,h4,h5,h6⟩
def PX(w:World)(O:Nat->Prop)(wx:World):Prop:=Below 0 w wx/\∀b,b<w.heap.size->¬O b->wx.heap[b]?=w.heap[b]?
section
variable{wx wy:World} {O:Nat->Prop}
theorem PX.of(h:Ext w wx)(O:Nat->Prop):PX w O wx:=⟨h.out.mono (aY _),fun b hb _=>h.out.block b hb⟩
theorem PX.frr{m:Mm}(h:Ext w W0)(F:bV W0 wB p m m')(hp:W0.heap.size<=p):PX w m.own wB:=⟨(h.out.mono (aY _)).trans F.jE,fun b hb hn=>(F.same b (bF hb h.out.size) (by have:=h.out.size;omega) hn).trans (h.out.block b hb)⟩
theorem PX.more(h:PX w O wx)(hb:Below wx wx wy):PX w O wy:=⟨h.1.trans (hb.mono (aY _)),fun b h1 h2=>(hb.block b (bF h1 h.1.size)).trans (h.2 b h1 h2)⟩
theorem PX.alloc(h:PX w O wx)(o:Obj):PX w O (wx.alloc o):=h.more (ak (aj _) o)
theorem PX.av(h:PX w O wx){g:Nat}(hg:w.heap.size<=g)(vs:List Value)(i:Nat):PX w O (av wx g i vs):=⟨aw (aY _) _ _ _ h.1,fun b h1 h2=>(aM ae vs i).trans (h.2 b h1 h2)⟩
end
theorem oo.leaf{W:World}{y:Mo.Mc}{r:Mo.Rn}(H:MS w5 x0 A n k q y s)(hX:Ext w5 W0)(hp:W0.heap.size<=p)(hM:xh wB m' r.L (q+1))(hT:mF wB (Im wB (Xp s x0 w5.heap.size W0.heap.size) p m') r.k z')(hO:pN wB (Im wB (Xp s x0 w5.heap.size W0.heap.size) p m') o'.A r.ops)(hF:bV W0 wB p s.m m')(hB:Below wB wB W){T1:List Value}(kY:T1=iu r.k z')(h5:af W g5 50 zT.toArray)(h6:af W g6 142 ([oZ,false,oN]:VL).toArray)(hne:g5≠g6)(l5:w5.heap.size<=g5)(l6:w5.heap.size<=g6)(k5:wB.heap.size<=g5\/g5<W0.heap.size)(k6:wB.heap.size<=g6\/g6<W0.heap.size):oo w5 x0 A n k q y s r (.pointer g5) (.pointer g6) (av (av W g5 0 T1) g6 0 ([r.note,r.gF,.slice o'.A r.ops.length o'.c]:VL)):=by refine oo.of H hX hp hM hT hO hF (aw (aY _) _ _ _ (aw (aY _) _ _ _ (hB.mono (aY _)))) (fun b h1 h2=>(aM ae _ _).trans ((aM ae _ _).trans (hB.block b h1))) ?_ (aR (aW h6 hne.symm _ _) rfl) l5 l6 (fun e=>(hF.own _ e).elim (fun h=>by have:=H.mem.lt h;omega) fun h=>k5.elim (fun h'=>by have:=hM.lt e;omega) fun h'=>by omega) (fun e=>(hF.own _ e).elim (fun h=>by have:=H.mem.lt h;omega) fun h=>k6.elim (fun h'=>by have:=hM.lt e;omega) fun h'=>by omega);rw[<-kY];exact aW (aR h5 (by rw[kY];rfl)) hne _ _
theorem MS.step(H:MS w x0 A n k q x s){N:Int}(B:PkR N n q x t)(ht:t<x.T.length){z:Sh}(hz:mF w (s.I w x0) (Mo.bu x t) z)(hp:(Mo.bu x t).pc≠0)(hx:Ext w wx):Calls prog 74 #[mH x.c A n k,.pointer (some ⟨s.m.g,0,none⟩),t,.agg (iu (Mo.bu x t) z).toArray] wx (Vp (Xp s x0 w.heap.size wx.heap.size) x.c s.m (q+1) (Mo.dY x.c t ⟨Mo.bu x t,x.L,0,false,[]⟩) wx):=by
 have hsz:=hx.out.size;have hm:Sm (s.I w x0) w wx:=fun b hb=>hx.out.block b hb.1;have hI:∀b,s.I w x0 b->Iz wx (Xp s x0 w.heap.size wx.heap.size) s.m b:=fun b hb=>⟨bF hb.1 hsz,hb.2.1,fun e=>e.elim hb.2.2 fun e=>by have:=hb.1;omega⟩
 have bM:=B.rb.f.a;unfold Mo.lA at bM;refine Ks (N:=N) ⟨H.mem.more hx.out,B.L,B.cs,fun b hb e=>e.elim (H.mx b hb) fun e=>by have:=H.mem.lt hb;omega,fun b hb=>hb.elim (fun h=>bF (H.ul (.inl h)) hsz) fun h=>h.2,(H.cf.same hm).mono hI,hz.move hm hI⟩ B.rb B.fb B.own B.N9 B.q9 ?_;have h1:=bM.1.1;dsimp only at h1;omega
theorem fB.blk{w:World}{U U':Nat->Prop}(h:fB w w' U U'){e:TypeId}{a:Array Value}(hb:af w g e a)(hn:¬U g):af w' g e a/\¬U' g:=⟨af.qU hb (h.same g hb.lt hn),fun e=>(h.own g e).elim hn fun e=>by have:=hb.lt;omega⟩
namespace Mo
theorem Tc{x xa y y2 x3 x4 x5 x6:Mc}{r:Rn}{K:Tk}{rw:Bool}{yv:Tn}{rn:Int}(RF:xa={x with time:=x.time+1})(hy:y=ea xa t)(hK:K=bu y t)(hp:¬K.pc=0)(DI:y2=if K.waits=true then y else{y with S:=y.S.set t (y.S.getD t 0+1),M:=y.M.set t (max (y.M.getD t 0) (y.S.getD t 0+1))})(hr:r=dY y2.c t ⟨K,y2.L,0,false,[]⟩)(hx3:x3={y2 with L:=r.L})(hx4:x4={x3 with T:=x3.T.set t r.k})(Zx:rw=r.gF)(Yl:yv=⟨x4.time,t,r.ops⟩)(Wo:x5=if rw=true then{x4 with V:=x4.V++[yv]}else x4)(uB:rn=r.note)(Kn:x6=if rn≠0 then{x5 with N:=x5.N++[⟨rn,t,r.k.seq,x5.time,r.k.aQ,r.k.res⟩]}else x5):lZ x t=if rn=3/\(gG y t).on=true then{x6 with P:=y.P.set t (ja (gG y t) r.k.res)}else x6:=by
 have hc:y.c=x.c:=by rw[hy,po.2,RF]
 unfold lZ;dsimp only;rw[<-RF, <-hy, <-hK,ai hp];have hc2:y2.c=x.c:=by rw[DI];split<;>exact hc
 have hL2:y2.L=y.L:=by rw[DI];split<;>rfl
 rw[hc2,hL2]at hr;rw[<-DI, <-hr];subst Kn Wo Yl Zx uB hx4 hx3;have hP2:y2.P=y.P:=by rw[DI];split<;>rfl
 have hP3:gG y2 t=gG y t:=by unfold gG;rw[hP2]
 rw[<-hP2, <-hP3];clear hr DI;cases h1:r.gF<;>by_cases h2:r.note=0<;>simp only[h1,h2,if_true,if_false,ne_eq,not_true_eq_false,not_false_eq_true,Bool.false_eq_true,ite_true,ite_false]<;>rfl
end Mo
theorem Td(H:MS w x0 A n k q x s)(t:Nat){N:Int}(B:PkB N x t)(BY:PkY N n q (Mo.ea {x with time:=x.time+1} t) t) :
 Calls prog 46 #[.pointer x0,t] w fun e w'=>e=.returned oZ/\MsQ x0 A n k q (Mo.lZ x t) w s w':=by
 have OZ:=B.tm
 have e1:IntKind.i64.wrap (x.time+1)=x.time+1:=bK _ ae
 obtain⟨xa,RF⟩:∃xa:Mo.Mc,xa={x with time:=x.time+1}:=⟨_,rfl⟩
 obtain⟨y,hy⟩:=aD (Mo.ea xa t)
 rw[<-RF, <-hy]at BY
 have HH:=aa H;have HB:=aa B;have Bb:=aa BY;have O8:=aa RF;have HY:=aa hy
 obtain⟨aT,kB,hlx⟩:=af.aK H.blk
 unfold mG at aT
 clear H B BY OZ RF hy
 go_enter func46,ntmps46
 go_upto_region 2 with fail
 obtain⟨MA,XS⟩:=MS.tick HH (x.time+1)
 rw[<-O8.out]at MA
 have ud:=aa MA;have sj:=aa XS
 clear MA XS aT kB hlx
 generalize w.setCell ⟨x0,18,none⟩ (.int .i64 (x.time+1))=w1 at *
 have Vh:=aa (S6 ud t (by rw[O8.out];exact HB.T) (by rw[O8.out];exact HB.P) (by rw[O8.out];exact HB.S) (by rw[O8.out];exact HB.p8) (by rw[O8.out];exact HB.seq.1) (by rw[O8.out];exact HB.seq.2) (by rw[O8.out];exact bm HB.N ah))
 rw[<-HY.out]at Vh
 go_wp2_with fail
 refine Vh.mono ?_
 rintro e w2 ⟨rfl,hE⟩
 obtain⟨s2,AL,hF2⟩:=hE
 have sJ:=aa AL;have p3:=aa (fB.trans sj hF2)
 have hyT:t<y.T.length:=by rw[HY.out,Mo.po.1,O8.out];exact HB.T
 obtain⟨gT,dT,z,hv,hgT,_,hz,hc,hfT⟩:=AL.task hyT
 obtain⟨Kt,hK⟩:=aD (Mo.bu y t)
 have HKE:=aa hK
 rw[<-hK]at hc hz
 obtain⟨aT,-,hlx⟩:=af.aK AL.blk
 unfold mG at aT
 rw[hv]at aT
 have c0:=hc 0 _ rfl
 rw[Nat.add_zero]at c0
 have c32:=hc 32 _ rfl
 have HV:=aa hv;have HZ:=aa hz;have HC:=aa hc;have HT:=aa hyT;have uA:=aa hfT
 clear AL hF2 Vh ud sj hK hv hz hc hfT
 by_cases nz:Kt.pc=0
 ·have d1:(Kt.pc==0)=true:=by rw[nz];rfl
  have HP:=aa nz;clear nz;go_wp2_with fail;go_ret;have hM:Mo.lZ x t=y:=by unfold Mo.lZ;dsimp only;rw[<-O8.out, <-HY.out, <-HKE.out,au HP.out]
  rw[hM];exact⟨rfl,q,bU q,s2,sJ,p3⟩
 have d1:(Kt.pc==0)=false:=by simpa using nz
 have HP:=aa nz
 clear nz
 obtain⟨y2,DI⟩:∃y2:Mo.Mc,y2=if Kt.waits=true then y else{y with S:=y.S.set t (y.S.getD t 0+1),M:=y.M.set t (max (y.M.getD t 0) (y.S.getD t 0+1))}:=⟨_,rfl⟩
 have Qe:=aa DI
 clear DI
 obtain⟨wt,hwt⟩:=aD Kt.waits
 rw[<-hwt]at c32
 have HWT:=aa hwt
 clear hwt
 go_upto_if 34 with fail
 go_cut[] (fun wx=>MS wx x0 A n k q y2 s2/\fB w wx (s.U x0) (s2.U x0))
 case first =>
  cases wt with
  |true=>go_wp2_with fail;go_meet;exact⟨by rw[Qe.out,au HWT.out.symm];exact sJ.out,p3⟩
  |false =>
   have Am:t<y.S.length:=by rw[Bb.out.S];exact HT.out
   obtain⟨gS,dS,Qd,_,hgS⟩:=aL.form sJ.S (by intro e;rw[e]at Am;exact absurd Am (Nat.not_lt_zero _));have Hi:=sJ.S;rw[Qd]at Hi;have Vf:=aL.cell Hi (cD Am);have hfS:=fun i=>aL.frozen Hi i;have hbS:=Bb.sb _ (List.getElem_mem Am);obtain⟨sv,hsv⟩:=aD (y.S[t]);have HSV:Hid (y.S.getD t 0=sv):=by unfold Hid;rw[hsv,eR,cD Am];rfl
   rw[<-hsv]at Vf hbS;have e2:IntKind.i64.wrap (sv+1)=sv+1:=bK _ ae;rw[Qd]at aT;have Yf:=aa Qd;have HS0:=aa Am;obtain⟨ln,xz⟩:=aD y.S.length;rw[<-xz]at aT Am;clear Qd Hi hsv xz;go_upto_region 7 with fail
   obtain⟨wH,zW⟩:=MS.ab0 sJ Yf t (sv+1);have nU:=aa wH;have sg:=aa (fB.trans p3 zW);clear wH zW aT Vf hfS Am hgS hlx c0 c32 hgT;generalize w2.setCell ⟨gS,t,none⟩ (.int .i64 (sv+1))=w3 at *;have Zn:t<y.M.length:=by rw[Bb.out.M];exact HT.out
   obtain⟨gM,dM,Zy,_,hgM⟩:=aL.form nU.M (by intro e;dsimp only at e;rw[e]at Zn;exact absurd Zn (Nat.not_lt_zero _));dsimp only at Zy;have hoM:=nU.M;rw[Zy]at hoM;have hcM:=aL.cell hoM (cD Zn);have hfM:=fun i=>aL.frozen hoM i;have Hi:=nU.S;rw[Yf.out]at Hi;dsimp only at Hi;have Vf:=aL.cell (i:=t) (z:=sv+1) Hi (List.getElem?_set_self HS0);obtain⟨mv,Y5⟩:=aD (y.M[t]);have HMV:Hid (y.M.getD t 0=mv):=by unfold Hid;rw[Y5,eR,cD Zn];rfl
   rw[<-Y5]at hcM;have hSM:gS≠gM:=fun e=>nU.sm gS (by rw[Yf.out];rfl) (by rw[Zy,e];rfl);have hxM:x0≠gM:=fun e=>nU.far.2.2.2.2.2 gM (by rw[Zy];rfl) e.symm;have HVM:=aa Zy;have Am:=HS0.out;clear Zy hoM Hi Y5;have aT:=fun(wx:World) (hx:wx.heap[x0]?=w3.heap[x0]?/\wx.heap[gS]?=w3.heap[gS]?) i=>af.cell (af.qU nU.blk hx.1) i;unfold mG at aT;rw[Yf.out,HVM.out]at aT;dsimp only[cK]at aT;have hcs:∀wx:World,(wx.heap[x0]?=w3.heap[x0]?/\wx.heap[gS]?=w3.heap[gS]?)->wx.cell? ⟨gS,t,none⟩=some (.int .i64 (sv+1)):=fun wx hx=>(xr hx.2).trans Vf;refine wp_region_held_drew (S:=fun wx:World=>wx.heap[x0]?=w3.heap[x0]?/\wx.heap[gS]?=w3.heap[gS]?) (by kernel_rfl) ⟨rfl,rfl⟩ (fun hHeld=>?_);refine aO 0 hHeld ?_;refine aO 1 hHeld ?_;refine aO 2 hHeld ?_;refine aO 3 hHeld ?_;refine aO 4 hHeld ?_;refine aO 5 hHeld ?_;refine aO 6 hHeld ?_;refine aO 7 hHeld ?_;refine aO 8 hHeld ?_;refine aO 9 hHeld ?_;refine aO 10 hHeld ?_;refine aO 12 hHeld ?_;refine aO 13 hHeld ?_;refine aO 14 hHeld ?_;refine aO 15 hHeld ?_;refine aO 16 hHeld ?_;refine aO 17 hHeld ?_;refine aO 18 hHeld ?_;(try simp only[aC]);refine dJ 11 (fun K hK=>?_);go_simp;refine hK.out _ _ bE (fun hHeld=>?_);clear hK K;(try simp only[aC]);refine aO 19 hHeld ?_;refine aO 20 hHeld ?_;(try simp only[aC]);refine dJ 21 (fun K hK=>?_);go_simp;have hmx:(if mv<sv+1 then sv+1 else mv)=max mv (sv+1):=by split<;>omega
   obtain⟨MQ,Yi⟩:=MS.adq nU HVM t (if mv<sv+1 then sv+1 else mv);have YW:(World.drew (w3.setCell ⟨gM,t,none⟩ (.int .i64 (if mv<sv+1 then sv+1 else mv)))).heap[x0]?=w3.heap[x0]?/\(World.drew (w3.setCell ⟨gM,t,none⟩ (.int .i64 (if mv<sv+1 then sv+1 else mv)))).heap[gS]?=w3.heap[gS]?:=⟨((aj _).drew.block x0 MQ.blk.lt).trans (dp w3 ⟨gM,t,none⟩ _ x0 hxM),((aj _).drew.block gS (MQ.ul (.inl (.inr (.inr (.inr (.inr (.inr (.inl (by rw[Yf.out];rfl))))))))) ).trans (dp w3 ⟨gM,t,none⟩ _ gS hSM)⟩
   have DI:y2={y with S:=y.S.set t (sv+1),M:=y.M.set t (if mv<sv+1 then sv+1 else mv)}:=by rw[Qe.out,ai (by rw[<-HWT.out];decide),HSV.out,HMV.out,hmx]
   have oC:Hid (MS (World.drew (w3.setCell ⟨gM,t,none⟩ (.int .i64 (if mv<sv+1 then sv+1 else mv)))) x0 A n k q y2 s2):=by rw[DI];exact MQ.more (aj _).drew
   clear DI;have oG:=aa (fB.trans sg (fB.trans Yi (fB.ext (aj _).drew _)));clear MQ Yi hmx;generalize(World.drew (w3.setCell ⟨gM,t,none⟩ (.int .i64 (if mv<sv+1 then sv+1 else mv))))=w5 at *;refine hK.out _ _ YW (fun hHeld=>?_);clear hK K;(try simp only[aC]);refine wpAnyH_done (by kernel_rfl) ?_ _;generalize(if mv<sv+1 then sv+1 else mv)=mx;clear hHeld YW aT hcs hcM hfM Vf hgM hSM hxM Am Zn e2 hbS;go_wp2_with fail;go_meet;exact⟨oC,oG⟩
 case rest =>
  obtain⟨hM5,Hb⟩:=hcut;have oC:=aa hM5;have oG:=aa Hb;clear hM5 Hb aT hlx hgT c0 c32 sJ p3;obtain⟨w5,Dw⟩:=aD wc;rw[<-Dw]at oC oG ⊢;clear Dw;go_upto_region 8 with fail
  have Zz:y2.T=y.T:=by rw[Qe.out];split<;>rfl
  have ht2:t<y2.T.length:=by rw[Zz];exact HT.out
  have hK2:Mo.bu y2 t=Kt:=by rw[HKE.out];unfold Mo.bu;rw[Zz]
  have g9:Hid (PkR N n q y2 t):=by unfold Hid;rw[Qe.out];split<;>exact⟨Bb.r.rb,Bb.r.fb,Bb.r.own,Bb.r.L,Bb.r.cs,Bb.r.N9,Bb.r.q9⟩
  obtain⟨gU,dU,zu,hvU,hgU,_,hzu,hcU,hfU⟩:=oC.task ht2;obtain⟨T0,tC⟩:=aD (iu Kt zu);have Zp:Hid (T0.length=34):=by unfold Hid;rw[tC];rfl
  obtain⟨r,hr⟩:=aD (Mo.dY y2.c t ⟨Kt,y2.L,0,false,[]⟩);have Zc:=aa hr;have HST:=aa (fun(wx:World) (hx:Ext w5 wx)=>(MS.step oC g9 ht2 hzu (by rw[hK2];exact HP.out) hx).mono (fun e w' h=>Vp.letter h));rw[hK2, <-hr, <-tC]at HST;rw[hK2]at hcU;have Qb:Hid (∀wx:World,PX w5 s2.m.own wx->wx.rangeAt gU (t*34) T0):=fun wx hx j v hv=>(xr (hx.2 gU hgU (fun e=>oC.mx gU e (.inr (.inl (by rw[hvU];rfl)))))).trans (hcU j v (by rw[<-tC];exact hv));have aT:=fun(wx:World) (hx:PX w5 s2.m.own wx) i=>af.cell (af.qU oC.blk (hx.2 x0 oC.blk.lt fun e=>oC.mx x0 e (.inl rfl))) i;unfold mG at aT;rw[hvU]at aT;have KQ:=ht2;unfold mH at HST;have HVU:=aa hvU;have PO:=aa hcU;have HFU:=aa hfU;have HZU:=aa hzu;have jv:=aa hK2;have yf:=aa Zz;clear hvU hcU hfU hzu hK2 Zz hr tC ht2;go_cut[5,6] (fun s5 s6 wx=>oo w5 x0 A n k q y2 s2 r s5 s6 wx);case first =>
   refine wp_region_held_drew (S:=PX w5 s2.m.own) (by kernel_rfl) (PX.of (Ext.start _) _) (fun hHeld=>?_);refine aO 0 hHeld ?_;refine aO 1 hHeld ?_;refine aO 2 hHeld ?_;refine aO 3 hHeld ?_;refine aO 4 hHeld ?_;refine aO 5 hHeld ?_;refine aO 6 hHeld ?_;refine aO 7 hHeld ?_;refine aO 8 hHeld ?_;refine aO 9 hHeld ?_;refine aO 10 hHeld ?_;refine aO 11 hHeld ?_;refine aO 12 hHeld ?_;refine aO 13 hHeld ?_;refine aO 14 hHeld ?_;(try simp only[aC]);refine ldT 15 hHeld gU (t*34) T0 Zp Qb ?_;(try simp only[aC]);refine wpAnyH_ready (rs:=[16,20,21]) (by kernel_rfl) aF ?_;refine(AllReadyH.cons (o:=⟨some 82,_,_,_,_,_⟩) rfl (fun K hK=>?_) (AllReadyH.cons (o:=⟨some 5,_,_,_,_,_⟩) rfl (fun K hK=>?_) (AllReadyH.cons (o:=⟨some 6,_,_,_,_,_⟩) rfl (fun K hK=>?_) AllReadyH.nil)))
   ·go_simp;refine(HST _ qb).mono ?_;rintro e wB ⟨p,mB,zB,oB,T1,Hp,rfl,kY,FO,Hq,Hr,pA⟩;have gw:=aa kY;have Qh:=aa FO;have Qi:=aa Hq;have Qj:=aa Hr;have r5:=aa pA;have r4:=aa Hp;clear kY FO Hq Hr pA Hp;go_wp2_with fail;refine hK.out _ _ (PX.frr (qb:Ext w5 _) r5 r4) (fun hHeld=>?_);clear hK K;(try simp only[aC]);refine aO 17 hHeld ?_;refine aO 18 hHeld ?_;refine aO 19 hHeld ?_;(try simp only[aC]);refine wpAnyH_ready (rs:=[20,21]) (by kernel_rfl) aF ?_;refine(AllReadyH.cons (o:=⟨some 5,_,_,_,_,_⟩) rfl (fun K hK=>?_) (AllReadyH.cons (o:=⟨some 6,_,_,_,_,_⟩) rfl (fun K hK=>?_) AllReadyH.nil))
    ·go_simp;refine hK.out _ _ (by first|exact PX.alloc bE _|exact(PX.alloc bE _).more (aj _).drew|exact PX.of (qb:Ext w5 _) _) (fun hHeld=>?_);clear hK K;(try simp only[aC]);refine dJ 21 (fun K hK=>?_);go_simp;refine hK.out _ _ (by first|exact PX.alloc bE _|exact(PX.alloc bE _).more (aj _).drew|exact PX.of (qb:Ext w5 _) _) (fun hHeld=>?_);clear hK K;(try simp only[aC]);have hB:Below wB wB ((wB.alloc (.cells zT.toArray 50)).alloc (.cells #[oZ,false,oN] 142)):=ak (ak (aj wB) _) _;have h5:af ((wB.alloc (.cells zT.toArray 50)).alloc (.cells #[oZ,false,oN] 142)) wB.heap.size 50 zT.toArray:=(af.new _ _ _).alloc _;have h6:af ((wB.alloc (.cells zT.toArray 50)).alloc (.cells (#[oZ,false,oN]:VA) 142)) (wB.heap.size+1) 142 ([oZ,false,oN]:VL).toArray:=af.newAt _ _ _ aF;have hz:w5.heap.size<=wB.heap.size:=(bm (qb:Ext w5 w5.drew).out.size r5.jE.size)
     have hne:wB.heap.size≠(wB.heap.size+1):=ae;have hL:=oo.leaf oC (qb:Ext w5 w5.drew) r4 Qh Qi Qj r5 hB gw h5 h6 hne ae ae (.inl (aS _)) (.inl (bU _));refine dJ 22 (fun K hK=>?_);refine O1 wB.heap.size 0 T1 (by rw[gw.out];rfl) (by rw[gw.out];exact dW _ _) (af.there h5 0 34 ah) ?_;exact acb
    ·go_simp;refine hK.out _ _ (by first|exact PX.alloc bE _|exact(PX.alloc bE _).more (aj _).drew|exact PX.of (qb:Ext w5 _) _) (fun hHeld=>?_);clear hK K;(try simp only[aC]);refine dJ 20 (fun K hK=>?_);go_simp;refine hK.out _ _ (by first|exact PX.alloc bE _|exact(PX.alloc bE _).more (aj _).drew|exact PX.of (qb:Ext w5 _) _) (fun hHeld=>?_);clear hK K;(try simp only[aC]);have hB:Below wB wB ((wB.alloc (.cells #[oZ,false,oN] 142)).alloc (.cells zT.toArray 50)):=ak (ak (aj wB) _) _;have h5:af ((wB.alloc (.cells #[oZ,false,oN] 142)).alloc (.cells zT.toArray 50)) (wB.heap.size+1) 50 zT.toArray:=af.newAt _ _ _ aF;have h6:af ((wB.alloc (.cells (#[oZ,false,oN]:VA) 142)).alloc (.cells zT.toArray 50)) wB.heap.size 142 ([oZ,false,oN]:VL).toArray:=(af.new _ _ _).alloc _;have hz:w5.heap.size<=wB.heap.size:=(bm (qb:Ext w5 w5.drew).out.size r5.jE.size)
     have hne:(wB.heap.size+1)≠wB.heap.size:=ae;have hL:=oo.leaf oC (qb:Ext w5 w5.drew) r4 Qh Qi Qj r5 hB gw h5 h6 hne ae ae (.inl (bU _)) (.inl (aS _));refine dJ 22 (fun K hK=>?_);refine O1 (wB.heap.size+1) 0 T1 (by rw[gw.out];rfl) (by rw[gw.out];exact dW _ _) (af.there h5 0 34 ah) ?_;exact acb
   ·go_simp;refine hK.out _ _ (by first|exact PX.alloc bE _|exact(PX.alloc bE _).more (aj _).drew|exact PX.of (qb:Ext w5 _) _) (fun hHeld=>?_);clear hK K;(try simp only[aC]);refine wpAnyH_ready (rs:=[16,21]) (by kernel_rfl) aF ?_;refine(AllReadyH.cons (o:=⟨some 82,_,_,_,_,_⟩) rfl (fun K hK=>?_) (AllReadyH.cons (o:=⟨some 6,_,_,_,_,_⟩) rfl (fun K hK=>?_) AllReadyH.nil))
    ·go_simp;refine(HST _ qb).mono ?_;rintro e wB ⟨p,mB,zB,oB,T1,Hp,rfl,kY,FO,Hq,Hr,pA⟩;have gw:=aa kY;have Qh:=aa FO;have Qi:=aa Hq;have Qj:=aa Hr;have r5:=aa pA;have r4:=aa Hp;clear kY FO Hq Hr pA Hp;go_wp2_with fail;refine hK.out _ _ (PX.frr (qb:Ext w5 _) r5 r4) (fun hHeld=>?_);clear hK K;(try simp only[aC]);refine aO 17 hHeld ?_;refine aO 18 hHeld ?_;refine aO 19 hHeld ?_;(try simp only[aC]);refine dJ 21 (fun K hK=>?_);go_simp;refine hK.out _ _ (by first|exact PX.alloc bE _|exact(PX.alloc bE _).more (aj _).drew|exact PX.of (qb:Ext w5 _) _) (fun hHeld=>?_);clear hK K;(try simp only[aC]);have hB:Below wB wB (wB.alloc (.cells #[oZ,false,oN] 142)):=ak (aj wB) _;have h5:af (wB.alloc (.cells #[oZ,false,oN] 142)) w5.heap.size 50 zT.toArray:=(af.ag (show af wB w5.heap.size _ _ from(r5.same w5.heap.size (by first|(simp;done)|(simp;omega)) (by have:=r4.out;simp at this;omega) (fun e=>by have:=oC.mem.lt e;omega)).trans (af.new w5 _ _)) (ak (aj wB) _))
     have h6:af (wB.alloc (.cells (#[oZ,false,oN]:VA) 142)) wB.heap.size 142 ([oZ,false,oN]:VL).toArray:=af.new _ _ _;have hz:w5.heap.size<=wB.heap.size:=(bm (qb:Ext w5 (w5.alloc (.cells zT.toArray 50)).drew).out.size r5.jE.size)
     have hne:w5.heap.size≠wB.heap.size:=(by have h1:=r5.jE.size;simp at h1;omega)
     have hL:=oo.leaf oC (qb:Ext w5 (w5.alloc (.cells zT.toArray 50)).drew) r4 Qh Qi Qj r5 hB gw h5 h6 hne (aS _) ae (.inr (by first|(simp;done)|(simp;omega))) (.inl (aS _));refine dJ 22 (fun K hK=>?_);refine O1 w5.heap.size 0 T1 (by rw[gw.out];rfl) (by rw[gw.out];exact dW _ _) (af.there h5 0 34 ah) ?_;refine hK.out _ _ (PX.av bE (aS _) _ _) (fun hHeld=>?_);clear hK K;(try simp only[aC]);obtain⟨u7,Hk,hl6⟩:=af.aK (aW h6 hne.symm T1 0);(try unfold zT at u7);(try unfold zT at Hk);(try unfold zT at hl6);refine dJ 23 (fun K hK=>?_);go_simp;refine hK.out _ _ (PX.av bE ae [r.note,r.gF,.slice oB.A r.ops.length oB.c] 0) (fun hHeld=>?_);exact Vq
    ·go_simp;refine hK.out _ _ (by first|exact PX.alloc bE _|exact(PX.alloc bE _).more (aj _).drew|exact PX.of (qb:Ext w5 _) _) (fun hHeld=>?_);clear hK K;(try simp only[aC]);refine dJ 16 (fun K hK=>?_);go_simp;refine(HST _ qb).mono ?_;rintro e wB ⟨p,mB,zB,oB,T1,Hp,rfl,kY,FO,Hq,Hr,pA⟩;have gw:=aa kY;have Qh:=aa FO;have Qi:=aa Hq;have Qj:=aa Hr;have r5:=aa pA;have r4:=aa Hp;clear kY FO Hq Hr pA Hp;go_wp2_with fail;refine hK.out _ _ (PX.frr (qb:Ext w5 _) r5 r4) (fun hHeld=>?_);clear hK K;(try simp only[aC]);refine aO 17 hHeld ?_;refine aO 18 hHeld ?_;refine aO 19 hHeld ?_;(try simp only[aC]);have hB:Below wB wB wB:=aj wB;have h5:af wB w5.heap.size 50 zT.toArray:=(r5.same w5.heap.size (by first|(simp;done)|(simp;omega)) (by have:=r4.out;simp at this;omega) (fun e=>by have:=oC.mem.lt e;omega)).trans ((af.new w5 _ _).alloc _);have h6:af wB (w5.heap.size+1) 142 ([oZ,false,oN]:VL).toArray:=(r5.same (w5.heap.size+1) (by first|(simp;done)|(simp;omega)) (by have:=r4.out;simp at this;omega) (fun e=>by have:=oC.mem.lt e;omega)).trans (af.newAt (w5.alloc (.cells zT.toArray 50)) _ _ aF);have hz:w5.heap.size<=wB.heap.size:=(bm (qb:Ext w5 ((w5.alloc (.cells zT.toArray 50)).alloc (.cells #[oZ,false,oN] 142)).drew).out.size r5.jE.size)
     have hne:w5.heap.size≠(w5.heap.size+1):=ae;have hL:=oo.leaf oC (qb:Ext w5 ((w5.alloc (.cells zT.toArray 50)).alloc (.cells #[oZ,false,oN] 142)).drew) r4 Qh Qi Qj r5 hB gw h5 h6 hne (aS _) (bU _) (.inr (by first|(simp;done)|(simp;omega))) (.inr (by first|(simp;done)|(simp;omega)));refine dJ 22 (fun K hK=>?_);refine O1 w5.heap.size 0 T1 (by rw[gw.out];rfl) (by rw[gw.out];exact dW _ _) (af.there h5 0 34 ah) ?_;refine hK.out _ _ (PX.av bE (aS _) _ _) (fun hHeld=>?_);clear hK K;(try simp only[aC]);obtain⟨u7,Hk,hl6⟩:=af.aK (aW h6 hne.symm T1 0);(try unfold zT at u7);(try unfold zT at Hk);(try unfold zT at hl6);refine dJ 23 (fun K hK=>?_);go_simp;refine hK.out _ _ (PX.av bE (bU _) [r.note,r.gF,.slice oB.A r.ops.length oB.c] 0) (fun hHeld=>?_);exact Vq
   ·go_simp;refine hK.out _ _ (by first|exact PX.alloc bE _|exact(PX.alloc bE _).more (aj _).drew|exact PX.of (qb:Ext w5 _) _) (fun hHeld=>?_);clear hK K;(try simp only[aC]);refine wpAnyH_ready (rs:=[16,20]) (by kernel_rfl) aF ?_;refine(AllReadyH.cons (o:=⟨some 82,_,_,_,_,_⟩) rfl (fun K hK=>?_) (AllReadyH.cons (o:=⟨some 5,_,_,_,_,_⟩) rfl (fun K hK=>?_) AllReadyH.nil))
    ·go_simp;refine(HST _ qb).mono ?_;rintro e wB ⟨p,mB,zB,oB,T1,Hp,rfl,kY,FO,Hq,Hr,pA⟩;have gw:=aa kY;have Qh:=aa FO;have Qi:=aa Hq;have Qj:=aa Hr;have r5:=aa pA;have r4:=aa Hp;clear kY FO Hq Hr pA Hp;go_wp2_with fail;refine hK.out _ _ (PX.frr (qb:Ext w5 _) r5 r4) (fun hHeld=>?_);clear hK K;(try simp only[aC]);refine aO 17 hHeld ?_;refine aO 18 hHeld ?_;refine aO 19 hHeld ?_;(try simp only[aC]);refine dJ 20 (fun K hK=>?_);go_simp;refine hK.out _ _ (by first|exact PX.alloc bE _|exact(PX.alloc bE _).more (aj _).drew|exact PX.of (qb:Ext w5 _) _) (fun hHeld=>?_);clear hK K;(try simp only[aC]);have hB:Below wB wB (wB.alloc (.cells zT.toArray 50)):=ak (aj wB) _;have h5:af (wB.alloc (.cells zT.toArray 50)) wB.heap.size 50 zT.toArray:=af.new _ _ _;have h6:af (wB.alloc (.cells zT.toArray 50)) w5.heap.size 142 ([oZ,false,oN]:VL).toArray:=(af.ag (show af wB w5.heap.size _ _ from(r5.same w5.heap.size (by first|(simp;done)|(simp;omega)) (by have:=r4.out;simp at this;omega) (fun e=>by have:=oC.mem.lt e;omega)).trans (af.new w5 _ _)) (ak (aj wB) _))
     have hz:w5.heap.size<=wB.heap.size:=(bm (qb:Ext w5 (w5.alloc (.cells #[oZ,false,oN] 142)).drew).out.size r5.jE.size)
     have hne:wB.heap.size≠w5.heap.size:=(by have h1:=r5.jE.size;simp at h1;omega)
     have hL:=oo.leaf oC (qb:Ext w5 (w5.alloc (.cells (#[oZ,false,oN]:VA) 142)).drew) r4 Qh Qi Qj r5 hB gw h5 h6 hne ae (aS _) (.inl (aS _)) (.inr (by first|(simp;done)|(simp;omega)));refine dJ 22 (fun K hK=>?_);refine O1 wB.heap.size 0 T1 (by rw[gw.out];rfl) (by rw[gw.out];exact dW _ _) (af.there h5 0 34 ah) ?_;refine hK.out _ _ (PX.av bE ae _ _) (fun hHeld=>?_);exact acd
    ·go_simp;refine hK.out _ _ (by first|exact PX.alloc bE _|exact(PX.alloc bE _).more (aj _).drew|exact PX.of (qb:Ext w5 _) _) (fun hHeld=>?_);clear hK K;(try simp only[aC]);refine dJ 16 (fun K hK=>?_);go_simp;refine(HST _ qb).mono ?_;rintro e wB ⟨p,mB,zB,oB,T1,Hp,rfl,kY,FO,Hq,Hr,pA⟩;have gw:=aa kY;have Qh:=aa FO;have Qi:=aa Hq;have Qj:=aa Hr;have r5:=aa pA;have r4:=aa Hp;clear kY FO Hq Hr pA Hp;go_wp2_with fail;refine hK.out _ _ (PX.frr (qb:Ext w5 _) r5 r4) (fun hHeld=>?_);clear hK K;(try simp only[aC]);refine aO 17 hHeld ?_;refine aO 18 hHeld ?_;refine aO 19 hHeld ?_;(try simp only[aC]);have hB:Below wB wB wB:=aj wB;have h5:af wB (w5.heap.size+1) 50 zT.toArray:=(r5.same (w5.heap.size+1) (by first|(simp;done)|(simp;omega)) (by have:=r4.out;simp at this;omega) (fun e=>by have:=oC.mem.lt e;omega)).trans (af.newAt (w5.alloc (.cells #[oZ,false,oN] 142)) _ _ aF);have h6:af wB w5.heap.size 142 ([oZ,false,oN]:VL).toArray:=(r5.same w5.heap.size (by first|(simp;done)|(simp;omega)) (by have:=r4.out;simp at this;omega) (fun e=>by have:=oC.mem.lt e;omega)).trans ((af.new w5 _ _).alloc _);have hz:w5.heap.size<=wB.heap.size:=(bm (qb:Ext w5 ((w5.alloc (.cells #[oZ,false,oN] 142)).alloc (.cells zT.toArray 50)).drew).out.size r5.jE.size)
     have hne:(w5.heap.size+1)≠w5.heap.size:=ae;have hL:=oo.leaf oC (qb:Ext w5 ((w5.alloc (.cells (#[oZ,false,oN]:VA) 142)).alloc (.cells zT.toArray 50)).drew) r4 Qh Qi Qj r5 hB gw h5 h6 hne (bU _) (aS _) (.inr (by first|(simp;done)|(simp;omega))) (.inr (by first|(simp;done)|(simp;omega)));refine dJ 22 (fun K hK=>?_);refine O1 (w5.heap.size+1) 0 T1 (by rw[gw.out];rfl) (by rw[gw.out];exact dW _ _) (af.there h5 0 34 ah) ?_;refine hK.out _ _ (PX.av bE (bU _) _ _) (fun hHeld=>?_);exact acd
  case rest =>
   obtain⟨g5,g6,m6,z6,o6,rfl,rfl,S4,DC,h5,h6,hTk,hOp,l5,l6,n5,n6⟩:=hcut;clear aT HST Qb Zp PO HFU HZU;obtain⟨x3,hx3⟩:∃x3:Mo.Mc,x3={y2 with L:=r.L}:=⟨_,rfl⟩
   obtain⟨s3,hs3⟩:∃s3:Sx,s3={s2 with m:=m6}:=⟨_,rfl⟩
   rw[<-hx3, <-hs3]at S4;rw[<-hs3]at DC hTk hOp n5 n6;have Dg:s3.T=.slice gU x3.T.length dU:=by rw[hs3,hx3];exact HVU.out
   have Sv:t<x3.T.length:=by rw[hx3];exact KQ
   obtain⟨T1,kY⟩:=aD (iu r.k z6);rw[<-kY]at h5;have C8:=aa S4;have KU:=aa (fB.trans oG DC);have H5:=aa h5;have H6:=aa h6;have p6:=aa hTk;have Bc:=aa hOp;have HX3:=aa hx3;have HS3:=aa hs3;have O9:=aa Dg;have ue:=aa Sv;have gw:=aa kY;have N5:=aa n5;have N6:=aa n6;have aet:x0≠g5:=fun e=>n5 (.inl (.inl e.symm));have ace:g5≠gU:=fun e=>n5 (.inl (.inr (.inl (by rw[Dg,e];rfl))));have adz:g6≠gU:=fun e=>n6 (.inl (.inr (.inl (by rw[Dg,e];rfl))));have Ve:x0≠gU:=fun e=>S4.far.1 gU (by rw[Dg];rfl) e.symm;have Zr:Hid (MS wc.drew x0 A n k (q+1) x3 s3):=S4.more (aj wc).drew;have HTh:Hid (wc.drew.there gU (t*34) 34):=by
    obtain⟨g',d',z',hv',_,_,_,hc',hf'⟩:=Zr.task Sv;have h1:=hv'.symm.trans Dg;injection h1 with h1
    injection h1 with h1
    injection h1 with h1
    subst h1;exact fun j hj=>⟨by rw[hc' j _ (cD (show j<(iu (Mo.bu x3 t) z').length from hj))];rfl,hf' _⟩
   have MO:Hid (mF wc.drew (s3.I wc.drew x0) r.k z6):=hTk.move (fun b hb=>(aj wc).drew.block b hb.1) fun b hb=>⟨bF hb.1 (aj wc).drew.size,hb.2⟩
   clear S4 DC h5 h6 hTk hOp hx3 hs3 kY n5 n6 Sv;go_upto_region 9 with fail
   have aT:=fun(wx:World) (hx:wx.heap[x0]?=wc.heap[x0]?/\wx.heap[g5]?=wc.heap[g5]?) i=>af.cell (af.qU C8.blk hx.1) i;unfold mG at aT;rw[Dg]at aT;have aeu:=ue.out;have Ut:∀wx:World,(wx.heap[x0]?=wc.heap[x0]?/\wx.heap[g5]?=wc.heap[g5]?)->wx.rangeAt g5 0 T1:=fun wx hx=>af.range (af.qU H5 hx.2) T1 fun j v hv=>by rw[List.getElem?_toArray];exact hv
   refine wp_region_held_drew (S:=fun wx:World=>wx.heap[x0]?=wc.heap[x0]?/\wx.heap[g5]?=wc.heap[g5]?) (by kernel_rfl) ⟨rfl,rfl⟩ (fun hHeld=>?_);refine aO 0 hHeld ?_;refine aO 1 hHeld ?_;refine aO 2 hHeld ?_;refine aO 3 hHeld ?_;refine aO 4 hHeld ?_;(try simp only[aC]);refine ldT 5 hHeld g5 0 T1 (by rw[gw.out];rfl) Ut ?_;refine aO 6 hHeld ?_;(try simp only[aC]);refine dJ 7 (fun K hK=>?_);refine O1 gU (t*34) T1 (by rw[gw.out];rfl) (by rw[gw.out];exact dW _ _) HTh ?_;refine hK.out _ _ ⟨aM Ve _ _,aM ace _ _⟩ (fun hHeld=>?_);clear hK K;(try simp only[aC]);refine wpAnyH_done (by kernel_rfl) ?_ _;clear hHeld aT Ut;obtain⟨Yg,S5⟩:=MS.abZ Zr O9 ue r.k z6 MO;rw[<-gw.out]at Yg S5;obtain⟨x4,hx4⟩:∃x4:Mo.Mc,x4={x3 with T:=x3.T.set t r.k}:=⟨_,rfl⟩
   rw[<-hx4]at Yg;have HX4:=aa hx4;have H57:=aa (aW (show af wc.drew g5 50 T1.toArray from H5.out) ace T1 (t*34));have ZA:=aa (aW (show af wc.drew g6 142 #[r.note,r.gF,.slice o6.A r.ops.length o6.c]from H6.out) adz T1 (t*34));have Ar:=aa Yg;have uX:=aa (fB.trans KU (fB.trans (fB.ext (aj wc).drew _) S5));have Nq:Hid (pN (av wc.drew gU (t*34) T1) (s3.I (av wc.drew gU (t*34) T1) x0) o6.A r.ops):=Bc.move (fun b hb=>aM (fun e=>hb.2.2 (.inr (.inl (by rw[O9.out,e];rfl)))) T1 (t*34)) fun b hb=>⟨by rw[bw];exact hb.1,hb.2⟩
   clear Yg S5 hx4 HTh MO Zr H5 H6 C8 KU p6 Bc;generalize av wc.drew gU (t*34) T1=w7 at *;obtain⟨u7,-,hl6⟩:=af.aK ZA;have YO:Hid (x4.V.length<=1000000):=by unfold Hid;rw[HX4.out,HX3.out,Qe.out];split<;>exact Bb.V
   obtain⟨rw,Zx⟩:=aD r.gF;have EB:=aa Zx;rw[<-Zx]at u7;rw[<-Zx]at ZA;clear Zx;obtain⟨yv,Yl⟩:∃yv:Mo.Tn,yv=⟨x4.time,t,r.ops⟩:=⟨_,rfl⟩
   obtain⟨x5,Wo⟩:∃x5:Mo.Mc,x5=if rw=true then{x4 with V:=x4.V++[yv]}else x4:=⟨_,rfl⟩
   have sZ:=aa Wo;have HYV:=aa Yl;clear Wo Yl;go_upto_if 93 with fail
   go_cut[] (fun wx=>xJ x0 A n k (q+1) x5 w7 s3 wx);case first =>
    cases rw
    case' false=>go_wp2_with fail;go_meet;rw[sZ.out];exact⟨s3,Ar,fB.refl _ _⟩
    case' true =>
     have Yl:=HYV.out;go_upto_region 11 with fail
     clear u7 hl6;have Va:g6<w7.heap.size:=ZA.lt;have zo:Hid (MS (w7.alloc (.cells #[x4.time,t,.slice o6.A r.ops.length o6.c] 96)).drew x0 A n k (q+1) x4 s3):=Ar.more (ak (aj w7) _).drew;have hx1:w7.drew.cell? ⟨x0,15,none⟩=some s3.V:=Ar.blk.cell 15;have hx2:(w7.alloc (.cells #[x4.time,t,.slice o6.A r.ops.length o6.c] 96)).drew.cell? ⟨x0,15,none⟩=some s3.V:=zo.blk.cell 15;have hx0:w7.cell? ⟨x0,15,none⟩=some s3.V:=hx1;have Pa:(w7.alloc (.cells #[x4.time,t,.slice o6.A r.ops.length o6.c] 96)).drew.cell? ⟨x0,18,none⟩=some (.int .i64 x4.time):=zo.blk.cell 18;have hlw:x0<w7.heap.size:=Ar.blk.lt;have hgx:g6≠x0:=fun e=>N6 (.inl (.inl e));have Vd:Hid (pN (w7.alloc (.cells #[x4.time,t,.slice o6.A r.ops.length o6.c] 96)).drew (Sx.I s3 (w7.alloc (.cells #[x4.time,t,.slice o6.A r.ops.length o6.c] 96)).drew x0) o6.A r.ops):=Nq.move (fun b hb=>(ak (aj w7) _).drew.block b hb.1) fun b hb=>⟨bF hb.1 (ak (aj w7) _).drew.size,hb.2⟩
     have oW:Hid (Rd (w7.alloc (.cells #[x4.time,t,.slice o6.A r.ops.length o6.c] 96)).drew w7.heap.size [x4.time,t,.slice o6.A r.ops.length o6.c]):=Rd.lit w7 [x4.time,t,.slice o6.A r.ops.length o6.c] 96;have u7:=fun(wx:World) (hx:(wx.heap[g6]?=w7.heap[g6]?/\wx.cell? ⟨x0,18,none⟩=some (.int .i64 x4.time))) i=>af.cell (af.qU ZA hx.1) i;have adA:=fun(wx:World) (hx:(wx.heap[g6]?=w7.heap[g6]?/\wx.cell? ⟨x0,18,none⟩=some (.int .i64 x4.time)))=>hx.2;refine wp_region_held_drew (S:=fun wx:World=>(wx.heap[g6]?=w7.heap[g6]?/\wx.cell? ⟨x0,18,none⟩=some (.int .i64 x4.time))) (by kernel_rfl) ⟨rfl,Ar.blk.cell 18⟩ (fun hHeld=>?_);refine aO 0 hHeld ?_;refine aO 1 hHeld ?_;refine aO 2 hHeld ?_;refine aO 3 hHeld ?_;refine aO 5 hHeld ?_;refine aO 6 hHeld ?_;refine aO 7 hHeld ?_;refine aO 8 hHeld ?_;refine aO 9 hHeld ?_;refine aO 10 hHeld ?_;refine aO 11 hHeld ?_;refine aO 12 hHeld ?_;(try simp only[aC]);refine wpAnyH_ready (rs:=[4,13]) (by kernel_rfl) aF ?_;refine(AllReadyH.cons (o:=⟨some 98,_,_,_,_,_⟩) rfl (fun K hK=>?_) (AllReadyH.cons (o:=⟨some 107,_,_,_,_,_⟩) rfl (fun K hK=>?_) AllReadyH.nil));go_simp;refine hK.out _ _ (by first|assumption|exact⟨(ak (aj w7) _).drew.block g6 Va,Pa⟩) (fun hHeld=>?_);clear hK K;(try simp only[aC]);refine dJ 13 (fun K hK=>?_);go_simp;refine hK.out _ _ (by first|assumption|exact⟨(ak (aj w7) _).drew.block g6 Va,Pa⟩) (fun hHeld=>?_);clear hK K;(try simp only[aC]);rotate_left;go_simp;refine hK.out _ _ (by first|assumption|exact⟨(ak (aj w7) _).drew.block g6 Va,Pa⟩) (fun hHeld=>?_);clear hK K;(try simp only[aC]);refine dJ 4 (fun K hK=>?_);go_simp;refine hK.out _ _ (by first|assumption|exact⟨(ak (aj w7) _).drew.block g6 Va,Pa⟩) (fun hHeld=>?_);clear hK K;(try simp only[aC]);all_goals
      refine dJ 14 (fun K hK=>?_);refine ny rfl _ _ 31 rfl 96 3 40 _ gW underlying31 vw rfl ah _ x4.V rfl zo.V (fun b h=>MS.ady h) _ _ [x4.time,t,.slice o6.A r.ops.length o6.c] rfl (List.all_eq_true.1 (by rfl)) rfl oW (y:=yv) ⟨⟨o6.A,o6.c⟩,by rw[Yl];rfl,by rw[Yl];exact Vd.out⟩ (by have:=YO.out;omega) YO ?_;intro v5 w8 kv sr di;obtain⟨B5,d5,xX⟩:=aH.shape kv;obtain⟨l5',jm⟩:∃l5,l5=(x4.V++[yv]).length:=⟨_,rfl⟩
      rw[<-jm]at xX;subst xX;clear jm;have Ko:w8.heap[g6]?=w7.heap[g6]?:=(sr.block g6 (bF Va (ak (aj w7) _).drew.size) (fun e=>N6 (.inl (.inr (.inr (.inr (.inr (.inl e.symm)))))))).trans ((ak (aj w7) _).drew.block g6 Va);have oc:af w8 x0 101 (mG A n k x4 s3):=(sr.block x0 zo.blk.lt fun e=>zo.far.2.2.2.1 x0 e.symm rfl).trans zo.blk;obtain⟨FN,hf5,CE⟩:=af.aK oc;unfold mG at FN;have rL:=aa kv;have S3:=aa sr;have iW:=aa di;have xD:=aa oc;clear kv sr di oc;refine hK.out _ _ ⟨Ko,xD.cell 18⟩ (fun hHeld=>?_);clear hK K;(try simp only[aC]);refine aO 15 hHeld ?_;refine aO 16 hHeld ?_;(try simp only[aC]);refine dJ 17 (fun K hK=>?_);go_simp;refine hK.out _ _ ⟨(dp w8 ⟨x0,15,none⟩ _ g6 hgx).trans Ko,(xD.bb 15 _).cell 18⟩ (fun hHeld=>?_);clear hK K;(try simp only[aC]);refine wpAnyH_done (by kernel_rfl) ?_ _;obtain⟨hM,hF⟩:=MS.aca zo rL S3 iW;(try clear aT);clear FN hf5 CE u7 adA hHeld hx0 hx1 hx2 Pa;go_wp2_with fail;go_meet;rw[sZ.out,au trivial];exact⟨_,hM,fB.trans (fB.ext (ak (aj w7) _).drew _) hF⟩
   case rest =>
    obtain⟨s5,ZB,OB⟩:=hcut;obtain⟨h5,n5⟩:=fB.blk OB H57 N5;obtain⟨h6,n6⟩:=fB.blk OB ZA N6;have Ve:x5.T=x3.T.set t r.k:=by rw[sZ.out,HX4.out];split<;>rfl
    have hxN:x5.N=y.N:=by rw[sZ.out,HX4.out,HX3.out,Qe.out];split<;>split<;>rfl
    have Vk:x5.P=y.P:=by rw[sZ.out,HX4.out,HX3.out,Qe.out];split<;>split<;>rfl
    have htT:t<x5.T.length:=by rw[Ve,cK];exact ue.out
    have oc:Mo.bu x5 t=r.k:=by unfold Mo.bu;rw[Ve,eR,List.getElem?_set_self ue.out];rfl
    have Pb:r.k.aQ=Kt.aQ:=by rw[Zc.out];exact(Mo.E8 _ _ _).1
    have nS:r.note≠1:=by rw[Zc.out];exact Mo.JH _ _
    have hno:=Hg ZB r.note t htT r.k.res (by rw[oc,Pb,HKE.out];exact Bb.rq) (by rw[hxN];exact bm Bb.N ah);rw[oc,ai nS]at hno;obtain⟨rn,uB⟩:=aD r.note;rw[<-uB]at hno h6;have ZC:=fun(wx:World) (hx:wx.heap[g5]?=_)=>(af.cell (af.qU h5 hx) 27).trans (by rw[gw.out];rfl:_=some (.int .i64 r.k.res.seq));have VX:=fun(wx:World) (hx:wx.heap[g5]?=_)=>(af.cell (af.qU h5 hx) 28).trans (by rw[gw.out];rfl:_=some (.int .i64 r.k.res.cs));have ZE:=fun(wx:World) (hx:wx.heap[g5]?=_)=>(af.cell (af.qU h5 hx) 29).trans (by rw[gw.out];rfl:_=some (.int .i64 r.k.res.code));have ZF:=fun(wx:World) (hx:wx.heap[g5]?=_)=>(af.cell (af.qU h5 hx) 30).trans (by rw[gw.out];rfl:_=some (.int .i64 r.k.res.value));obtain⟨x6,Kn⟩:∃x6:Mo.Mc,x6=if rn≠0 then{x5 with N:=x5.N++[⟨rn,t,r.k.seq,x5.time,r.k.aQ,r.k.res⟩]}else x5:=⟨_,rfl⟩
    have acf:x6.P=y.P:=by rw[Kn];split<;>exact Vk
    have hpk:=Mo.Tc O8 HY HKE HP Qe Zc HX3 HX4 EB HYV sZ uB Kn;have HM9:=aa ZB;have Sq:=aa (fB.trans uX OB);have H59:=aa h5;have H69:=aa h6;have N59:=aa n5;have N69:=aa n6;have xy:=aa hno;have OY:=aa hpk;have PY:=aa Kn;have HQP:=aa acf;have H27:=aa ZC;have H28:=aa VX;have H29:=aa ZE;have H30:=aa ZF;obtain⟨rs,hrs⟩:=aD r.k.res;have zZ:=aa hrs;rw[<-hrs]at xy PY OY H27 H28 H29 H30;obtain⟨u7,-,hl6⟩:=af.aK h6;clear ZB OB h5 h6 n5 n6 hno hpk Kn acf Ve hxN Vk htT oc Pb nS uB Ar uX H57 ZA Nq N5 N6 ZC VX ZE ZF hrs;have ZC:=H27.out _ rfl;have VX:=H28.out _ rfl;have ZE:=H29.out _ rfl;have ZF:=H30.out _ rfl;have CE:=H59.lt;go_upto_if 113 with fail
    go_cut[] (fun wx=>xJ x0 A n k (q+1) x6 wc s5 wx);case first =>
     by_cases hn:rn=0
     ·have d1:(rn !=0)=false:=by rw[hn];rfl
      have HN:=aa hn;clear hn;go_wp2_with fail;go_meet;rw[PY.out,ai (fun e=>e HN.out)];exact⟨s5,HM9,fB.refl _ _⟩
     ·have d1:(rn !=0)=true:=by simpa using hn
      have HN:=aa hn;clear hn;go_wp2_with fail;refine xy.mono ?_;rintro e w9 ⟨rfl,hE⟩;have HE:=aa hE;clear hE;go_wp2_with fail;go_meet;rw[PY.out,au HN.out];exact HE.out
    case rest =>
     obtain⟨s6,Pc,Te⟩:=hcut;obtain⟨h5,n5⟩:=fB.blk Te H59 N59;obtain⟨h6,-⟩:=fB.blk Te H69 N69;obtain⟨gQ,dQ,zr,Kp,hgQ,hgx,Vj,hzl,hcQ,hfQ⟩:=Pc.FP (show t<x6.P.length by rw[HQP.out,Bb.out.P];exact HT.out);have JW:Mo.gG x6 t=Mo.gG y t:=by unfold Mo.gG;rw[HQP.out]
     rw[JW]at Vj hzl hcQ;have Vg:=Bb.p8;obtain⟨p,hp⟩:=aD (Mo.gG y t);rw[<-hp]at Vj hzl hcQ OY Vg;obtain⟨on,jN⟩:=aD p.on;rw[<-jN]at OY;have c0:=hcQ 0 _ rfl;rw[Nat.add_zero, <-jN]at c0;have c1:=hcQ 1 _ rfl;have c2:=hcQ 2 _ rfl;have c3:=hcQ 3 _ rfl;have c4:=hcQ 4 _ rfl;have c5:=hcQ 5 _ rfl;have c6:=hcQ 6 _ rfl;have uE:=zl wc.drew p zr rs (Vj.1.below (aj wc).drew) Vg hzl;have Pd:=aa Pc;have J9:=aa (fB.trans Sq Te);have Yh:=aa Kp;have H5A:=aa h5;have Ur:=aa jN;have HPE:=aa hp;obtain⟨u7,-,hl6⟩:=af.aK h6;obtain⟨aT,-,hlx⟩:=af.aK Pc.blk;unfold mG at aT;rw[Kp]at aT;have X2:t<x6.P.length:=by rw[HQP.out,Bb.out.P];exact HT.out
     obtain⟨p',nA⟩:=aD (Mo.ja p rs);rw[<-nA]at uE OY;unfold kM at uE;(try dsimp only at uE);rw[<-jN]at uE;have Zs:=aa uE;have FE:=aa X2;have Vk:x0≠gQ:=fun e=>Pc.far.2.1 gQ (by rw[Kp];rfl) e.symm;have adB:g5≠gQ:=fun e=>n5 (.inl (e▸hgx));clear Pc Te h5 h6 n5 hp nA jN JW Kp Vj hzl hcQ Vg uE ZC VX ZE ZF;by_cases h3:rn=3;rotate_left
     ·have d3:(rn==3)=false:=by simpa using h3
      have H3:=aa h3;clear h3;go_wp2_with fail;go_ret;rw[OY.out,ai (fun e=>H3.out e.1)];exact⟨rfl,q+1,aS _,s6,Pd,J9⟩
     have d3:(rn==3)=true:=by rw[h3];rfl
     have H3:=aa h3;clear h3;cases on
     ·go_wp2_with fail;go_ret;rw[OY.out,ai (fun e=>by cases e.2)];exact⟨rfl,q+1,aS _,s6,Pd,J9⟩
     go_upto_region 15 with fail
     clear aT u7 hl6;have aT:=fun(wx:World) (hx:wx.heap[x0]?=wc.heap[x0]?/\wx.heap[g5]?=wc.heap[g5]?) i=>af.cell (af.qU Pd.blk hx.1) i;unfold mG at aT;rw[Yh.out]at aT;have ZC:=fun(wx:World) (hx:wx.heap[x0]?=wc.heap[x0]?/\wx.heap[g5]?=wc.heap[g5]?)=>(af.cell (af.qU H5A hx.2) 27).trans (by rw[gw.out,zZ.out];rfl:_=some (.int .i64 rs.seq));have VX:=fun(wx:World) (hx:wx.heap[x0]?=wc.heap[x0]?/\wx.heap[g5]?=wc.heap[g5]?)=>(af.cell (af.qU H5A hx.2) 28).trans (by rw[gw.out,zZ.out];rfl:_=some (.int .i64 rs.cs));have ZE:=fun(wx:World) (hx:wx.heap[x0]?=wc.heap[x0]?/\wx.heap[g5]?=wc.heap[g5]?)=>(af.cell (af.qU H5A hx.2) 29).trans (by rw[gw.out,zZ.out];rfl:_=some (.int .i64 rs.code));have ZF:=fun(wx:World) (hx:wx.heap[x0]?=wc.heap[x0]?/\wx.heap[g5]?=wc.heap[g5]?)=>(af.cell (af.qU H5A hx.2) 30).trans (by rw[gw.out,zZ.out];rfl:_=some (.int .i64 rs.value));have CE:=H5A.lt;refine wp_region_held_drew (S:=fun wx:World=>wx.heap[x0]?=wc.heap[x0]?/\wx.heap[g5]?=wc.heap[g5]?) (by kernel_rfl) ⟨rfl,rfl⟩ (fun hHeld=>?_);refine aO 0 hHeld ?_;refine aO 1 hHeld ?_;refine aO 2 hHeld ?_;refine aO 3 hHeld ?_;refine aO 4 hHeld ?_;refine aO 5 hHeld ?_;refine aO 6 hHeld ?_;refine aO 7 hHeld ?_;refine aO 8 hHeld ?_;refine aO 9 hHeld ?_;refine aO 10 hHeld ?_;refine aO 12 hHeld ?_;refine aO 13 hHeld ?_;(try simp only[aC]);refine dJ 11 (fun K hK=>?_);go_simp;refine hK.out _ _ bE (fun hHeld=>?_);clear hK K;(try simp only[aC]);refine dJ 14 (fun K hK=>?_);go_simp;refine Zs.mono ?_;rintro e w6 ⟨zg,rfl,Vl,fO⟩;have C8:=aa (Pd.more (ag (aj wc).drew fO));have Bc:=aa Vl;have e0:=(Below.cell fO (bc c0)).trans c0;have e1:=(Below.cell fO (bc c1)).trans c1;have e2:=(Below.cell fO (bc c2)).trans c2;have e3:=(Below.cell fO (bc c3)).trans c3;have e4:=(Below.cell fO (bc c4)).trans c4;have e5:=(Below.cell fO (bc c5)).trans c5;have e6:=(Below.cell fO (bc c6)).trans c6;have JW:=C8.P;rw[Yh.out]at JW;have Hk:=fun i=>aH.ck JW i;have Zt:w6.heap[x0]?=wc.heap[x0]?/\w6.heap[g5]?=wc.heap[g5]?:=⟨fO.block x0 hlx,fO.block g5 CE⟩
     have wT:=aa fO;clear c0 c1 c2 c3 c4 c5 c6 Vl fO JW;go_wp2_with fail;refine hK.out _ _ Zt (fun hHeld=>?_);clear hK K;(try simp only[aC]);refine aO 15 hHeld ?_;(try simp only[aC]);refine dJ 16 (fun K hK=>?_);go_simp;refine hK.out _ _ ⟨(aM Vk (kM p' zg) (t*7)).trans Zt.1,(aM adB (kM p' zg) (t*7)).trans Zt.2⟩ (fun hHeld=>?_);clear hK K;(try simp only[aC]);refine wpAnyH_done (by kernel_rfl) ?_ _;clear hHeld;have hU:=fun b hb=>Pd.ul (b:=b) hb;obtain⟨hM,hF⟩:=MS.Ye C8 Yh FE p' zg ⟨Bc.1.mono fun b hb=>⟨hb.2,fun e=>Nat.lt_irrefl _ (bF (hU b (.inr e)) hb.1),fun e=>Nat.lt_irrefl _ (bF (hU b (.inl e)) hb.1)⟩,Bc.2⟩;unfold kM at hM hF;rw[HQP.out]at hM;have Ar:=aa hM;have uX:=aa (fB.trans (fB.trans J9 (fB.ext (ag (aj wc).drew wT) _)) hF);clear hM hF e0 e1 e2 e3 e4 e5 e6 Hk aT hU ZC VX ZE ZF;go_wp2_with fail;go_ret;rw[OY.out,au ⟨H3.out,trivial⟩];exact⟨rfl,q+1,aS _,s6,Ar,uX⟩
end
section
variable{w:World} {x0:Nat} {A:Option Addr} {n k q:Nat} {x:Mo.Mc} {s:Sx}
theorem xJ.ahead{q':Nat}{x':Mo.Mc}(h:xJ x0 A n k q' x' w1 s w')(hb:Below w w w1):xJ x0 A n k q' x' w s w':=by obtain⟨s',h1,h2⟩:=h;exact⟨s',h1,fB.trans (fB.ext hb _) h2⟩
def DoB(N:Int)(n q:Nat)(x:Mo.Mc)(e:Mo.Ev):Prop:=0<=e.th->e.th<x.T.length->PkB N x e.th.toNat/\PkY N n q (Mo.ea {x with time:=x.time+1} e.th.toNat) e.th.toNat
theorem Vr(H:MS w x0 A n k q x s)(e:Mo.Ev)(z o:Sl){N:Int}(B:DoB N n q x e)(hq:dv w (s.I w x0) bk z.A e.aQ.cases)(hl:e.aQ.cases.length<=9223372036854775807)(ho:bC w .i64 o.A e.outs)(hol:e.outs.length<=9223372036854775807)(hoc:e.outs.length<=o.c) :
 Calls prog 17 #[.pointer x0,.agg (FR e z o).toArray] w fun r w'=>r=.returned (.int .i64 (Mo.zz x e).2)/\MsQ x0 A n k q (Mo.zz x e).1 w s w':=by
 obtain⟨w1,kI⟩:=aD (w.alloc (.cells (FR e z o).toArray 57))
 have bj:Hid (Below w w w1):=by rw[kI];exact ak (aj w) _
 have gI:Hid (af w1 w.heap.size 57 (FR e z o).toArray):=by rw[kI];exact af.new _ _ _
 have H1:=H.more bj
 have ud:=aa H1
 have Ym:=aa (pR H1);have Ux:=aa (zn H1 e.th)
 have iE:Hid (dv w1 (s.I w1 x0) bk z.A e.aQ.cases):=(hq.same (fun b hb=>bj.block b hb.1)).mono fun b hb=>⟨bF hb.1 bj.size,hb.2⟩
 have jO:=aa (ho.below bj)
 have xy:Hid (∀w',w1=w'->(Mo.zz x e)=(x,15)->Ending.returned (.int .i64 15)=.returned (.int .i64 (Mo.zz x e).2)/\MsQ x0 A n k q (Mo.zz x e).1 w s w'):=fun w' h1 h2=>by
  rw[h2, <-h1]
  exact⟨rfl,q,bU q,s,ud,fB.ext bj _⟩
 have HB:=aa B;have ng:=aa kI
 obtain⟨jG,-,hlr⟩:=af.aK gI
 unfold FR at jG ng ⊢
 clear H B hq ho H1 kI
 go_enter func17,ntmps17
 go_upto_region 1 with fail
 rw[<-ng.out]
 clear ng
 go_wp2_with fail
 refine Ym.mono ?_
 rintro r w2 ⟨rfl,rfl⟩
 go_wp2_with fail
 refine Ux.mono ?_
 rintro r w2 ⟨rfl,rfl⟩
 by_cases ht:0<=e.th/\e.th<x.T.length
 rotate_left
 ·have d1:decide (0<=e.th/\e.th<x.T.length)=false:=bJ ht;have HT:=aa ht;clear ht;go_wp2_with fail;go_ret;exact xy.out _ rfl (by unfold Mo.zz;rw[au (by have:=HT.out;omega)])
 have d1:decide (0<=e.th/\e.th<x.T.length)=true:=dg ht
 have bq:=aa (HB ht.1 ht.2)
 have HD:Hid (∀y,(if e.kind=1 then(Mo.lZ x e.th.toNat,0)else if e.kind=2 then Mo.j9 x e.th.toNat e.aQ else if e.kind=3 then Mo.jJ x e.th.toNat e.ek e.outs else(x,(15:Int)))=y->Mo.zz x e=y):=fun y h=>by unfold Mo.zz;rw[ai ae];exact h
 obtain⟨t,Vm⟩:∃t:Nat,e.th=(t:Int):=⟨e.th.toNat,ae⟩
 have htt:e.th.toNat=t:=ae
 rw[htt]at bq HD
 have HT:Hid (e.th=(t:Int)):=Vm
 rw[Vm]at jG
 clear ht htt Vm HB
 by_cases h1:e.kind=1
 ·have d2:(e.kind==1)=true:=by simpa using h1
  have ZG:=aa (HD _ (au h1));have HC:=aa (Td ud t bq.1 bq.2);clear h1;go_wp2_with fail;refine HC.mono ?_;rintro r w2 ⟨rfl,q',hq',hE⟩;have HE:=aa hE;have HQ':=aa hq';clear hE hq';go_wp2_with fail;go_ret;rw[ZG.out];exact⟨rfl,q',HQ',HE.ahead bj⟩
 have d2:(e.kind==1)=false:=by simpa using h1
 by_cases h2:e.kind=2
 ·have d3:(e.kind==2)=true:=by simpa using h2
  have ZG:=aa (HD _ ((ai h1).trans (au h2)));have HC:=aa (S8 ud t bq.1.T (by rw[bq.out.1.P]) (by rw[bq.out.1.S]) e.aQ z iE hl bq.1.seq.1 bq.1.seq.2 bq.1.N bq.1.tm);unfold ml at HC;clear h1 h2;exact Vs
 have d3:(e.kind==2)=false:=by simpa using h2
 by_cases h3:e.kind=3
 ·have d4:(e.kind==3)=true:=by simpa using h3
  have ZG:=aa (HD _ ((ai h1).trans ((ai h2).trans (au h3))));have HC:=aa (Tb ud e z o t HT bq.1.T (by rw[bq.out.1.P]) jO hol hoc bq.1.tm);unfold FR at HC;rw[HT.out]at HC;clear h1 h2 h3;exact Vs
 have d4:(e.kind==3)=false:=by simpa using h3
 have ZG:=aa (HD _ ((ai h1).trans ((ai h2).trans (ai h3))))
 clear h1 h2 h3
 go_wp2_with fail
 go_ret
 exact xy.out _ rfl ZG
end
structure K5 (i:Nat) (x:Mo.Mc):Prop where
 B:Mo.MB (64+i) i (2*i) i x
 C:Mo.MC 80000 x
 I:Mo.MI (Mo.bI x.c) x.c.tags x
 th:x.c.threads<=4
 DF:Mo.bo x.c<=1048576
section
variable{x:Mo.Mc} {i:Nat}
theorem acg(e:Mo.Ev):(Mo.zz x e).1.c=x.c:=by
 have hb:∀(y:Mo.Mc) t q,(Mo.cT y t q).1.c=y.c:=fun y t q=>by unfold Mo.cT;dsimp only;split<;>rfl
 unfold Mo.zz;split
 ·rfl
 split
 ·unfold Mo.lZ;dsimp only;have hg:(Mo.ea {x with time:=x.time+1} e.th.toNat).c=x.c:=Mo.po.2;repeat' split
  all_goals exact hg
 split
 ·unfold Mo.j9;dsimp only;repeat' split
  all_goals first|rfl|exact hb _ _ _
 split
 ·unfold Mo.jJ;repeat' split
  all_goals rfl
 ·rfl
theorem K5.next(h:K5 i x)(hi:i<=70000)(e:Mo.Ev):K5 (i+1) (Mo.zz x e).1:=by
 have hc:=acg (x:=x) e;refine⟨?_,Mo.aa7 h.C h.B ae ae e,?_,by rw[hc];exact h.th,by rw[hc];exact h.DF⟩
 ·have:=Mo.aa5 h.B ae ae e;rw[show(64+(i:Int)+1)=64+((i+1:Nat):Int)by omega,show 2*i+2=2*(i+1)by omega]at this;exact this
 ·rw[hc];exact Mo.aah e (Mo.vS h.B.dL) h.I
theorem K5.new(h:Mo.aN c=true)(ht:c.threads<=4)(hn:Mo.bo c<=1048576):K5 0 (Mo.kG c):=⟨Mo.Xg h,Mo.Xk,Mo.L6 h,ht,hn⟩
theorem K5.do_(h:K5 i x)(hi:i<=25000){n q:Nat}(hn:n=x.c.start.length)(hq:q<=i)(e:Mo.Ev):DoB (65+i) n q x e:=by
 intro h0 h1;obtain⟨t,Vm⟩:∃t:Nat,e.th=(t:Int):=⟨e.th.toNat,ae⟩
 rw[Vm]at h1 ⊢;have ht:t<x.T.length:=ae;show PkB _ x t/\PkY _ n q (Mo.ea {x with time:=x.time+1} t) t;have hB:=h.B;have hp:=Mo.aG hB.dL;have a1:=hB.T;have a2:=hB.P;have a3:=hB.S;have a4:=hB.M;have a5:=hB.N;have a6:=hB.time;have hs:=(hB.at_ ht).a.seq;have g1:=Mo.Ag hB.tick ae ht;have g2:(Mo.ea {x with time:=x.time+1} t).T.length=x.T.length:=Mo.po.1;have g3:(Mo.ea {x with time:=x.time+1} t).c=x.c:=Mo.po.2;have g4:=Mo.G8 (x:={x with time:=x.time+1}) ⟨h.C.T,h.C.N,h.C.V⟩ t;have g5:=(Mo.GC (x:={x with time:=x.time+1}) (t:=t) (h.I.same rfl rfl rfl rfl) ht).1;generalize Mo.ea {x with time:=x.time+1} t=y at g1 g2 g3 g4 g5 ⊢;have Et:t<y.T.length:=ae;have b1:=g1.T;have b2:=g1.P;have b3:=g1.S;have b4:=g1.M;have b5:=g1.N;have b6:=g1.V;have hm:=g1.mono (n':=65+(i:Int)) (a':=i+1) (b':=2*i+1) (d':=i) ae (aS _) (aS _) (aS _);have hK:=g5.all _ (dO (Mo.lC Et));refine⟨⟨ht,ae,ae,ae,hB.NQ t,ae,ae,ae⟩,⟨ae,ae,ae,fun v hv=>by have:=g1.sb v hv;omega,⟨hm.rb Et,(hm.at_ Et).b,fun p1 p2=>?_,g1.L,⟨g1.dL,by rw[g3];exact hn,by rw[g3];exact h.th,by rw[g3];exact h.DF,ae,ae⟩,ae,ae⟩,ae,ae,g1.NQ t,by have:=g4.at_ t;omega⟩⟩;have h7:=hK.mid ae ae;rcases hK.az.own with h8|h8
 ·exact absurd h8 h7.1
 ·rw[g3];exact⟨h8.1,h8.2.1⟩
end
section
variable{P:Program} {ops:Array Oper} {Q:Exit->Act->World->Prop} {md:Region.Mode} {S:World->Prop} {n:Nat}
def wpAnyS(n:Nat)(P:Program)(md:Region.Mode)(ops:Array Oper)(Q:Exit->Act->World->Prop)(S:World->Prop):Nat->Array Bool->Act->World->Prop
 |0,listed,a,w=>Region.ready md ops listed=[]/\Q .normal a w
 |fuel+1,listed,a,w=>(Region.ready md ops listed=[]->Q .normal a w)/\∀i∈Region.ready md ops listed,wpOp P ops Q i (fun a' w'=>(i<n->S w')/\wpAnyS n P md ops Q S fuel (listed.setIfInBounds i true) a' w') a w
theorem wpAnyS.any:∀(fuel:Nat) (listed:Array Bool) (a:Act) (w:World),wpAnyS n P md ops Q S fuel listed a w->wpAny P md ops Q fuel listed a w
 |0,_,_,_,h=>h
 |fuel+1,_,_,_,h=>⟨h.1,fun i hi=>wpOp_mono (fun _ _ h'=>wpAnyS.any fuel _ _ _ h'.2) (h.2 i hi)⟩
theorem wpAnyS.Vt:∀(fuel:Nat) (listed:Array Bool) (a:Act) (w:World),(∀i,i<n->listed.getD i true=true)->wpAnyH P md ops Q (fun _=>True) fuel listed a w->wpAnyS n P md ops Q S fuel listed a w
 |0,_,_,_,_,h=>h
 |fuel+1,listed,_,_,hl,h=>⟨h.1,fun i hi=>by
  have hr:=(mem_ready.1 hi).1
  have hn:¬i<n:=fun e=>by rw[hl i e]at hr;cases hr
  exact wpOp_mono (fun _ _ h'=>⟨fun e=>absurd e hn,wpAnyS.Vt fuel _ _ _ (fun j hj=>by rw[getD_set_ne true ae];exact hl j hj) h'.2⟩) (h.2 i hi)⟩
theorem wpAnyS.late(h:wpAnyH P md ops Q (fun _=>True) fuel listed a w)(hl:((List.range n).all fun i=>listed.getD i true)=true:=by kernel_rfl):wpAnyS n P md ops Q S fuel listed a w:=wpAnyS.Vt fuel listed a w (fun i hi=>List.all_eq_true.1 hl i (List.mem_range.2 hi)) h
def F0(n i:Nat)(md:Region.Mode)(ops:Array Oper):Bool:=decide (i<n) && ((List.range ops.size).all fun j=>decide (j<n) || match ops[j]? with|some o=>o.after.any fun e=>Region.binds md e && e.on==i|none=>true)
theorem wpAnyS.first{oi:Oper}(hi:ops[i]?=some oi)(ach:∀(j:Nat) (o:Oper) cs b,ops[j]?=some o->o.op≠.select cs b)(hlt:F0 n i md ops=true)(hQ:∀c a w,Q (.panic c) (a.put oi.dst v) w->Q (.panic c) a w) :
 ∀(fuel:Nat) (listed:Array Bool) (a:Act) (w:World),
  (∀j oj,ops[j]?=some oj->j≠i->listed.getD j true=false->(∀e∈oj.after,Region.binds md e=true->e.on≠i)->oi.apart ops oj=true) ->
  i∈Region.ready md ops listed->YieldsIf P ops S oi v a->S w ->
  wpAnyS n P md ops Q S fuel (listed.setIfInBounds i true) (a.put oi.dst v) w->wpAnyS n P md ops Q S (fuel+1) listed a w:=by
 intro fuel
 induction fuel with
 |zero =>
  intro listed a w _ hr hy hS H;refine⟨fun h=>(by rw[h]at hr;cases hr),fun j hj=>?_⟩;by_cases Vu:j=i
  ·subst Vu;exact hy.wpOp hi hS ⟨fun _=>hS,H⟩
  ·have:=ready_mono hj Vu;rw[H.1]at this;cases this
 |succ fuel ih =>
  intro listed a w Gh hr hy hS H;refine⟨fun h=>(by rw[h]at hr;cases hr),fun j hj=>?_⟩;by_cases Vu:j=i
  ·subst Vu;exact hy.wpOp hi hS ⟨fun _=>hS,H⟩
  ·have h1:=H.2 j (ready_mono hj Vu);obtain⟨hjun,oj,hoj,hall⟩:=mem_ready.1 hj;have Nw:∀e∈oj.after,Region.binds md e=true->e.on≠i:=fun e he hb heq=>by
    have h1:=hall e he hb
    have h0:=(mem_ready.1 hr).1
    rw[heq]at h1
    rcases Nat.lt_or_ge i listed.size with h'|h'
    ·simp[h']at h0 h1;rw[h0]at h1;cases h1
    ·simp[Array.getElem?_eq_none h']at h1
   have Dv:j<n:=by
    simp only[F0,dI,List.all_eq_true,List.mem_range,Bool.or_eq_true,cU]at hlt;rcases hlt.2 j (Array.getElem?_eq_some_iff.1 hoj).1 with h|h
    ·exact h
    ·rw[hoj]at h;obtain⟨e,he,hb⟩:=Array.any_eq_true'.1 h;simp only[dI,beq_iff_eq]at hb;exact absurd hb.2 (Nw e he hb.1)
   have h2:=wpOp_putIf hoj (Gh j oj hoj Vu hjun Nw) (fun cs b=>ach i oi cs b hi) (fun cs b=>ach j oj cs b hoj) hQ hy h1;have Yn:∀k ok,ops[k]?=some ok->k≠i->(listed.setIfInBounds j true).getD k true=false ->
    (∀e∈ok.after,Region.binds md e=true->e.on≠i)->oi.apart ops ok=true:=fun k ok hk Y1 hun hno=>by
    refine Gh k ok hk Y1 ?_ hno
    by_cases hjk:j=k
    ·subst hjk;exact hjun
    ·rw[getD_set_ne true hjk]at hun;exact hun
   refine wpOp_mono (fun a' w' h3=>⟨fun _=>h3.2.1 Dv,ih (listed.setIfInBounds j true) a' w' Yn (ready_mono hr (Ne.symm Vu)) h3.1 (h3.2.1 Dv) ?_⟩) h2;rw[Array.setIfInBounds_comm _ _ Vu];exact h3.2.2
theorem DJ(i:Nat){d:Tmp}{o1 o2 o3 o4 o5}(hS:S w)(h:wpAnyS n P md ops Q S fuel (listed.setIfInBounds i true) (a.put (some d) v) w)(hi:ops[i]?=some ⟨some d,o1,o2,o3,o4,o5⟩:=by rfl)(hb:(Region.noSelect ops && (Region.free md ops listed i && ((Region.ready md ops listed).contains i && F0 n i md ops)))=true:=by kernel_rfl)(hw:Region.wanted ⟨some d,o1,o2,o3,o4,o5⟩ (yielded ops a.tmps)=true:=by rfl)(hQ:∀c a w,Q (.panic c) (a.put (some d) v) w->Q (.panic c) a w:=by exact fun _ _ _ h=>h)(hy:∀w,S w->(execOp a.eval ⟨some d,o1,o2,o3,o4,o5⟩).run P w=.ok (.value v) w:=by intro w hSw;(try dsimp only at hSw);first|(go_simp;done)|(go_simp;with_reducible rfl)):wpAnyS n P md ops Q S (fuel+1) listed a w:=by
 simp only[dI]at hb
 exact wpAnyS.first hi (Region.noSelect_spec hb.1) hb.2.2.2 hQ fuel listed a w (Region.free_spec hi hb.2.1) (by simpa using hb.2.2.1) (Or.inl ⟨hw,hy⟩) hS h
theorem Yo(i:Nat){d:Option Tmp}{o1 o2 o3 o4 o5}(h:∀K':Act->World->Prop,Shut (∀a w,S w->(S w->wpAnyS n P md ops Q S fuel (listed.setIfInBounds i true) a w)->K' a w)->if Region.wanted ⟨d,o1,o2,o3,o4,o5⟩ (yielded ops a.tmps)=true then Oper.wp P ⟨d,o1,o2,o3,o4,o5⟩ a w K' Q else K' (a.put d undef) w)(hi:ops[i]?=some ⟨d,o1,o2,o3,o4,o5⟩:=by rfl)(hr:Region.ready md ops listed=[i]:=by kernel_rfl):wpAnyS n P md ops Q S (fuel+1) listed a w:=by
 refine⟨fun h0=>(by rw[hr]at h0;cases h0),fun j hj=>?_⟩
 rw[hr]at hj
 obtain rfl:=List.mem_singleton.1 hj
 exact wpOp_step hi (fun K' hK=>h K' (fun a w hS hW=>hK a w ⟨fun _=>hS,hW hS⟩))
theorem uk(n:Nat)(S:World->Prop){id:Nat}(hm:P.follows .mixedOrders=true)(hS:S w.drew)(h:S w.drew->wpAnyS n P .any ops Q S ops.size (Array.replicate ops.size false) a w.drew):(Code.region id ops true).wp P Q a w:=wp_region_any hm (wpAnyS.any _ _ _ _ (h hS))
end
end Go.Proofs.YtjcjjiieblineaaGreat
