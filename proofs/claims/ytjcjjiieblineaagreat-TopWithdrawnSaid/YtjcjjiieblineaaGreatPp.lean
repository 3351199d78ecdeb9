/- Walks and plain facts. No condition. -/
import Derived.Test.YtjcjjiieblineaaGreatSd
import Derived.Test.YtjcjjiieblineaaGreatPf
import Derived.Test.YtjcjjiieblineaaGreatPo
namespace Go.Proofs.YtjcjjiieblineaaGreat
open Go.RowKit Go.Proofs.Tryz
set_option maxHeartbeats 8000000
set_option maxRecDepth 100000
set_option linter.all false
variable {w w1:World}{α:Type}{m i fuel:Nat}{v:Value}{S:Nat->Prop}{a:Act}{P:Program}{Q:Exit->Act->World->Prop}{ops:Array Oper}{o oi:Oper}{listed:Array Bool}{E:Prop}{md:Region.Mode}{xs:List α}
theorem CU(t e:TypeId)(ht:P.underlying t=some (.slice e)){z:Option Value}{sz by_:Nat}(hi:(P.info? e).map (fun i=>(i.zero,i.size,i.bytes))=some (z,sz,by_))(A:Option Addr)(n c:Nat)(hm:n<=c)(hA:A=none->n=0)(w:World) :
 (Instr.slice t (.slice A n c) none (some (.int .i64 n)) (some (.int .i64 n))).run P w=.ok (.slice A n n) w:=by
 cases hq:P.info? e with
 |none=>rw[hq]at hi;cases hi
 |some i =>
  have h0:0<=(n:Int)/\(n:Int)<=(c:Int):=ae;cases A with
  |none=>have hn:=hA rfl;subst hn;simp[Instr.slice,Instr.sliceBounds,run_underlying ht,sizeOf,typeInfo,hq,run_sliceBound_if]
  |some a=>simp[Instr.slice,Instr.sliceBounds,run_underlying ht,sizeOf,typeInfo,hq,run_sliceBound_if,h0,add_zero]
theorem pQ:(prog.info? 44).map (fun i=>(i.zero,i.size,i.bytes))=some (some (.int .u64 0),1,8):=by kernel_rfl
theorem xk(w:World)(A:Option Addr)(n c:Nat)(hm:n<=c)(hA:A=none->n=0):Calls prog 158 #[.slice A n c] w fun e w'=>e=.returned (.slice A n n)/\w=w':=by have hs:=CU (P:=prog) 43 44 underlying43 pQ A n c hm hA;clear hm hA;go_enter func158,ntmps158;go_wp2_with fail;go_ret;exact⟨rfl,rfl⟩
theorem SM(w:World)(A:Option Addr)(n c:Nat)(hm:n<=c)(hA:A=none->n=0):Calls prog 165 #[.slice A n c] w fun e w'=>e=.returned (.slice A n n)/\w=w':=by have hs:=CU (P:=prog) 45 66 underlying45 mR A n c hm hA;clear hm hA;go_enter func165,ntmps165;go_wp2_with fail;go_ret;exact⟨rfl,rfl⟩
theorem qL{K:Act->World->Prop}(hgd:o.guard=none)(s x:Operand)(t:TypeId)(ho:o.op=.call {callee:=.builtin .append,args:=#[s,x],argTypes:=#[t,t]})(e:TypeId)(k:IntKind)(ht:P.underlying t=some (.slice e))(hi:(P.info? e).map (fun i=>(i.zero,i.size,i.bytes))=some (some (.int k 0),1,8))(A:Option Addr)(n:Nat)(zs:List Int)(hs:a.eval s=.slice A n n)(hn:n=zs.length)(hr:bC w k A zs)(B:Addr)(c:Nat)(z:Int)(hx:a.eval x=.slice (some B) 1 c)(MH:bC w k (some B) [z])(hb:n<=1000000)(h:∀A' c' w',aL w' w.heap.size e k (.slice A' (n+1) c') (zs++[z])->Below w w w'->K (a.put o.dst (.slice A' (n+1) c')) w') :
 if Region.wanted o (yielded ops a.tmps)=true then Oper.wp P o a w K Q else E:=by
 obtain⟨i,iY,hz0,hz1,hz2⟩:=info_parts hi
 refine step_append_grows hgd s x t ho e i (.int k 0) 1 8 ht iY hz0 hz1 hz2 rfl ah A n n (zs.map (Value.int k)) hs (fun e=>?_) (by simp[hn]) (fun b hb j u hu=>?_) B 1 c [.int k z] hx rfl (fun j u hu=>?_) (by simp[Value.oneCell']) ae (by unfold maxLen;omega) ae (fun v' w' hown hg=>?_)
 ·subst e;have:=hr.nD;rw[this]at hn;exact⟨hn,hn⟩
 ·obtain⟨ad,h1,h2⟩:=hr j u hu;rw[hb]at h1;injection h1 with h1
  subst h1;exact h2
 ·obtain⟨ad,h1,h2⟩:=MH j u hu;injection h1 with h1
  subst h1;exact h2
 ·have hO:aL w' w.heap.size e k v' (zs++[z]):=by
   unfold aL;rw[List.map_append];subst hn;simpa using hown
  obtain⟨A',c',hv⟩:=hO.shape
  rw[eN,gC, <-hn]at hv
  subst hv
  exact h A' c' w' hO ((Below.refl _ w).grown hg (aS _) (fun b hb=>by cases hb))
section
variable{w:World} {X:Nat->Prop} {p:Nat} {c:Mo.bH} {A:Option Addr} {n k:Nat} {t:Int} {m:Mm} {q:Nat} {r:Mo.Rn} {s:Sh} {o:Sl} {N:Int}
end
theorem tkH{S:World->Prop}(hi:ops[i]?=some oi)(hb:(Region.noSelect ops && (Region.free md ops listed i && (Region.ready md ops listed).contains i))=true)(hw:Region.wanted oi (yielded ops a.tmps)=true)(hQ:∀c a w,Q (.panic c) (a.put oi.dst v) w->Q (.panic c) a w)(hS:S w)(hy:∀w,S w->(execOp a.eval oi).run P w=.ok (.value v) w)(h:wpAnyH P md ops Q S fuel (listed.setIfInBounds i true) (a.put oi.dst v) w):wpAnyH P md ops Q S (fuel+1) listed a w:=by
 simp only[dI]at hb
 exact wpAnyH_take hi hb.1 hb.2.1 hb.2.2 hQ (Or.inl ⟨hw,hy⟩) hS h
theorem tkU{S:World->Prop}(hi:ops[i]?=some oi)(hb:(Region.noSelect ops && (Region.free md ops listed i && (Region.ready md ops listed).contains i))=true)(hw:Region.wanted oi (yielded ops a.tmps)=false)(hQ:∀c a w,Q (.panic c) (a.put oi.dst undef) w->Q (.panic c) a w)(hS:S w)(h:wpAnyH P md ops Q S fuel (listed.setIfInBounds i true) (a.put oi.dst undef) w):wpAnyH P md ops Q S (fuel+1) listed a w:=by
 simp only[dI]at hb
 exact wpAnyH_take hi hb.1 hb.2.1 hb.2.2 hQ (Or.inr ⟨hw,rfl⟩) hS h
theorem aO{S:World->Prop}(i:Nat){d:Tmp}{o1 o2 o3 o4 o5}(hS:S w)(h:wpAnyH P md ops Q S fuel (listed.setIfInBounds i true) (a.put (some d) v) w)(hi:ops[i]?=some ⟨some d,o1,o2,o3,o4,o5⟩:=by rfl)(hb:(Region.noSelect ops && (Region.free md ops listed i && (Region.ready md ops listed).contains i))=true:=by kernel_rfl)(hw:Region.wanted ⟨some d,o1,o2,o3,o4,o5⟩ (yielded ops a.tmps)=true:=by rfl)(hQ:∀c a w,Q (.panic c) (a.put (some d) v) w->Q (.panic c) a w:=by exact fun _ _ _ h=>h)(hy:∀w,S w->(execOp a.eval ⟨some d,o1,o2,o3,o4,o5⟩).run P w=.ok (.value v) w:=by intro w hSw;(try dsimp only at hSw);first|(go_simp;done)|(go_simp;with_reducible rfl)):wpAnyH P md ops Q S (fuel+1) listed a w:=tkH hi hb hw hQ hS hy h
theorem Ao{S:World->Prop}(i:Nat){d:Tmp}{o1 o2 o3 o4 o5}(hS:S w)(h:wpAnyH P md ops Q S fuel (listed.setIfInBounds i true) (a.put (some d) undef) w)(hi:ops[i]?=some ⟨some d,o1,o2,o3,o4,o5⟩:=by rfl)(hb:(Region.noSelect ops && (Region.free md ops listed i && (Region.ready md ops listed).contains i))=true:=by kernel_rfl)(hw:Region.wanted ⟨some d,o1,o2,o3,o4,o5⟩ (yielded ops a.tmps)=false:=by rfl)(hQ:∀c a w,Q (.panic c) (a.put (some d) undef) w->Q (.panic c) a w:=by exact fun _ _ _ h=>h):wpAnyH P md ops Q S (fuel+1) listed a w:=tkU hi hb hw hQ hS h
theorem dJ{S:World->Prop}(i:Nat){d:Option Tmp}{o1 o2 o3 o4 o5}(h:∀K':Act->World->Prop,Shut (∀a w,S w->(S w->wpAnyH P md ops Q S fuel (listed.setIfInBounds i true) a w)->K' a w)->if Region.wanted ⟨d,o1,o2,o3,o4,o5⟩ (yielded ops a.tmps)=true then Oper.wp P ⟨d,o1,o2,o3,o4,o5⟩ a w K' Q else K' (a.put d undef) w)(hi:ops[i]?=some ⟨d,o1,o2,o3,o4,o5⟩:=by rfl)(hr:Region.ready md ops listed=[i]:=by kernel_rfl):wpAnyH P md ops Q S (fuel+1) listed a w:=wpAnyH_ready hr aF (AllReadyH.cons hi h AllReadyH.nil)
theorem aC:(∀(a:Act) (d:Tmp) (v:Value),a.put (some d) v={a with tmps:=a.tmps.setIfInBounds d v})/\(∀(a:Act) (v:Value),a.put none v=a)/\(∀(l:List Value) (i:Nat) (x:Value),l.toArray.setIfInBounds i x=(l.set i x).toArray)/\(∀(a:Value) (l:List Value) (x:Value),(a::l).set 0 x=x::l)/\∀(a:Value) (l:List Value) (i:Nat) (x:Value),(a::l).set (i+1) x=a::l.set i x:=⟨fun _ _ _=>rfl,fun _ _=>rfl,fun _ _ _=>by simp,fun _ _ _=>rfl,fun _ _ _ _=>rfl⟩
section
variable{w:World} {X:Nat->Prop} {p:Nat} {c:Mo.bH} {A:Option Addr} {n k:Nat} {t:Int} {m:Mm} {q:Nat} {r:Mo.Rn} {s:Sh} {o:Sl} {N:Int}
def ui(w:World)(y:Mo.Rs)(s2:Value)(wx:World):Prop:=∃g,s2=.pointer (some ⟨g,0,none⟩)/\af wx g 48 #[y.seq,y.cs,y.code,y.value]/\w.heap.size<=g/\Below w w wx
theorem ui.last{w:World}(hb:Below w w w1)(y:Mo.Rs):ui w y (.pointer w1.heap.size) (w1.alloc (pD y.seq y.cs y.code y.value)):=⟨_,rfl,af.new _ _ _,hb.size,ak hb _⟩
theorem ui.mid{w:World}{a0 a1 a2 a3:Value}(hk:af w1 w.heap.size 48 #[a0,a1,a2,a3])(hb:Below w w w1)(y:Mo.Rs):ui w y (.pointer w.heap.size) (av w1 w.heap.size 0 [y.seq,y.cs,y.code,y.value]):=⟨_,rfl,aR hk rfl,aS _,aw (aS _) _ _ _ hb⟩
theorem zj{x:Int}(h0:0<=x)(h1:x<=4611686018427387904):IntKind.u64.wrap x=x:=by simp only[ig];omega
theorem Oy(H:RN w X p c A n k t m q r s o)(HB:Mo.RB c N r)(hN:N<=100000)(hq:q<=900000)(bM:r.k.pc=6):Calls prog 109 #[.pointer p] w (bY X p c A n k t m (q+1) (Mo.Rn.eD c t r) w):=by
 have jD:=HB.k.round;have nP:=HB.k.base;unfold Mo.ur at nP;have hE:Mo.Rn.eD c t r=if Mo.ax r.L (Mo.bA c r.k.base.ix)≠r.k.base.tag then Mo.Rn.fail c r else{r with k:={r.k with i:=0,buf:=[],pc:=7}}:=by unfold Mo.Rn.eD;rw[au bM]
 rw[hE];have uj:0<=Mo.bA c r.k.base.ix:=by have h1:=kn H.cs.dL (i:=r.k.base.ix) (by omega) (by omega);have h2:=(Mo.aG H.cs.dL).1.1;unfold Mo.bA;omega
 have kO:=aa (fun wx (h:RN wx X p c A n k t m q r s o)=>jg h r.k.base.ix r.k.base.tag (by omega) (by omega));have j5:=aa (fun wx (h:RN wx X p c A n k t m q r s o)=>cg h hq _ uj);obtain⟨x,hx⟩:∃x,x=Mo.ax r.L (Mo.bA c r.k.base.ix):=⟨_,rfl⟩
 rw[<-hx]at j5 ⊢;have htw:IntKind.u64.wrap r.k.base.tag=r.k.base.tag:=zj (by omega) (by omega);have HH:=aa H;obtain⟨fp,fL,cB,HFm,aU⟩:=H.stand;have aT:=HH.out.cx;unfold bp at aT;have aA:=fun i=>af.cell HH.out.blk i;unfold bp at aA;rw[bM]at aA;have Ac:=aa (fun wx mx (h:RN wx X p c A n k t mx (q+1) r s o)=>tK h jD.1 (by omega));clear hE bM H hx uj nP jD;by_cases fM:x=r.k.base.tag
 ·have oy:(x !=r.k.base.tag)=false:=by rw[fM];exact bne_self_eq_false _
  rw[ai (fun h=>h fM)];clear fM;go_enter func109,ntmps109;go_wp2_with fail;clear aA;go_region_held3(RX w p m 0 0) (exact ft) (first
   |((with_reducible refine(kO.out _ (by assumption)).mono ?_);rintro e wA ⟨rfl,bN⟩;have kC:=RX.below (by assumption) bN;have lL:=cB.out _ _ (by assumption) bN;have mn:=HFm.out _ _ (by assumption) bN)
   |((with_reducible refine(j5.out _ (by assumption)).mono ?_);rintro e wC ⟨rfl,mC,hC,fC⟩;have iT:=RX.acc (by assumption) HH.out.blk fC (hC.kept fC rfl);have dG:=bV.trans (by assumption) fC))
  all_goals
   have HR:=aa hC;have HF:=aa dG;clear hC fC dG aT aU;obtain⟨aA,bh,aU⟩:=af.aK HR.out.blk;unfold bp at aA;go_wp2_with fail;refine bodyPost_ret (v:=.tuple #[]) (by simp[results,results109,go_sem]) rfl ?_;refine bY.then HF.out ?_;exact bY.leaf HR.out {s with bf:=dB} o {HR.out.tk with bf:=cA.nil _ _ _ _,lb:=aY _} HR.out.op rfl
 ·have oy:(x !=r.k.base.tag)=true:=by rw[bne_iff_ne];exact fM
  rw[au fM];clear fM;go_enter func109,ntmps109;go_wp2_with fail;clear aA;go_region_held3(RX w p m 0 0) (exact ft) (first
   |((with_reducible refine(kO.out _ (by assumption)).mono ?_);rintro e wA ⟨rfl,bN⟩;have kC:=RX.below (by assumption) bN;have lL:=cB.out _ _ (by assumption) bN;have mn:=HFm.out _ _ (by assumption) bN)
   |((with_reducible refine(j5.out _ (by assumption)).mono ?_);rintro e wC ⟨rfl,mC,hC,fC⟩;have iT:=RX.acc (by assumption) HH.out.blk fC (hC.kept fC rfl);have dG:=bV.trans (by assumption) fC))
  all_goals
   have HR:=aa hC;have HF:=aa dG;clear hC fC dG aT aU;go_wp2_with fail;refine(Ac.out _ _ HR.out).mono ?_;rintro e w3 ⟨rfl,hX⟩;have HX:=aa hX;clear hX;go_wp2_with fail;refine bodyPost_ret (v:=.tuple #[]) (by simp[results,results109,go_sem]) rfl ?_;exact bY.then HF.out ⟨rfl,HX.out⟩
theorem Oz(H:RN w X p c A n k t m q r s o)(HB:Mo.RB c N r)(hN:N<=100000)(hq:q<=900000)(bM:r.k.pc=7):Calls prog 109 #[.pointer p] w (bY X p c A n k t m (q+1) (Mo.Rn.eD c t r) w):=by
 have nP:=HB.k.base;unfold Mo.ur at nP;have hi:=HB.k.i;have hsz:=size_le H.cs.dL;have vE:r.k.i<Mo.aZ c/\(r.k.buf.length:Int)=r.k.i:=by have:=HB.f.a;unfold Mo.lA at this;exact this.2.1 bM
 have uj:0<=Mo.bA c r.k.base.ix/\Mo.bA c r.k.base.ix<=100000000:=by have h1:=kn H.cs.dL (i:=r.k.base.ix) (by omega) (by omega);have h2:=(Mo.aG H.cs.dL).1;unfold Mo.bA;omega
 have kO:=aa (fun wx (h:RN wx X p c A n k t m q r s o)=>jg h r.k.base.ix r.k.base.tag (by omega) (by omega));obtain⟨a,ha⟩:∃a,a=Mo.bA c r.k.base.ix:=⟨_,rfl⟩
 rw[<-ha]at uj kO;have j5:=aa (fun wx (h:RN wx X p c A n k t m q r s o)=>cg h hq (a+1+r.k.i) (by omega));obtain⟨x,hx⟩:∃x,x=Mo.ax r.L (a+1+r.k.i):=⟨_,rfl⟩
 rw[<-hx]at j5;have e1:IntKind.i64.wrap (a+1)=a+1:=jB (by omega) (by omega);have e2:IntKind.i64.wrap (a+1+r.k.i)=a+1+r.k.i:=jB (by omega) (by omega);have gu:=aa (fun wx=>xk wx s.bf.A r.k.buf.length s.bf.c H.tk.lb (fun e=>by have h:=H.tk.bf.1;rw[e]at h;rw[h.nD];rfl));have hbn:r.k.buf.length<=100000:=by omega
 have SN:=aa hbn;have HH:=aa H;obtain⟨fp,fL,cB,HFm,aU⟩:=H.stand;have aA:=fun i=>af.cell HH.out.blk i;unfold bp at aA;rw[bM]at aA;have HA:=aa ha;have HX:=aa hx;have Ap:=aa bM;have HIL:=aa vE;have HI:=aa hi;have yL:=aa HB;clear bM H hx uj nP ha vE hi hsz HB hbn;go_enter func109,ntmps109;go_wp2_with fail;have c16:w.drew.cell? ⟨p,16,none⟩=some (.slice s.bf.A r.k.buf.length s.bf.c):=aA 16;clear aA;obtain⟨aT,py,kB,hlx⟩:=HH.out.DG 16 17;unfold bp at aT;refine wp_region_held_drew (S:=(RX w p m 16 17)) (by kernel_rfl) (RX.start HH.out.blk _ _ _) (fun hHeld=>?_);refine aO 0 (by assumption) ?_;(try simp only[aC]);refine aO 1 (by assumption) ?_;(try simp only[aC]);refine aO 2 (by assumption) ?_;(try simp only[aC]);refine aO 3 (by assumption) ?_;(try simp only[aC]);refine aO 4 (by assumption) ?_;(try simp only[aC]);refine aO 7 (by assumption) ?_;(try simp only[aC]);refine aO 8 (by assumption) ?_;(try simp only[aC]);refine aO 9 (by assumption) ?_;(try simp only[aC]);refine aO 10 (by assumption) ?_;(try simp only[aC]);refine aO 11 (by assumption) ?_;(try simp only[aC]);refine aO 12 (by assumption) ?_;(try simp only[aC]);refine aO 13 (by assumption) ?_;(try simp only[aC]);refine aO 16 (by assumption) ?_;(try simp only[aC]);refine aO 17 (by assumption) ?_;(try simp only[aC]);refine aO 18 (by assumption) ?_;(try simp only[aC]);refine aO 19 (by assumption) ?_;(try simp only[aC]);refine aO 20 (by assumption) ?_;(try simp only[aC]);refine dJ 5 (fun K hK=>?_);go_simp;refine hK.out _ _ ft (fun hHeld=>?_);clear hK K;(try simp only[aC]);refine dJ 6 (fun K hK=>?_);go_simp;((with_reducible refine(gu.out _).mono ?_);rintro e wA ⟨rfl,rfl⟩);go_wp2_with fail;refine hK.out _ _ ft (fun hHeld=>?_);clear hK K;(try simp only[aC]);refine dJ 14 (fun K hK=>?_);go_simp;((with_reducible refine(kO.out _ (by assumption)).mono ?_);rintro e wB ⟨rfl,dE⟩;have lK:=RX.below (by assumption) dE;have xI:=cB.out _ _ (by assumption) dE;have pA:=HFm.out _ _ (by assumption) dE);go_wp2_with fail;refine hK.out _ _ ft (fun hHeld=>?_);clear hK K;(try simp only[aC]);refine aO 15 (by assumption) ?_;(try simp only[aC]);refine aO 21 (by assumption) ?_;(try simp only[aC]);refine dJ 22 (fun K hK=>?_);go_simp;((with_reducible refine(j5.out _ (by assumption)).mono ?_);rintro e wC ⟨rfl,mC,hC,fC⟩;have iT:=RX.acc (by assumption) HH.out.blk fC (hC.kept fC rfl);have dG:=bV.trans (by assumption) fC);go_wp2_with fail;refine hK.out _ _ ft (fun hHeld=>?_);clear hK K;(try simp only[aC]);refine dJ 23 (fun K hK=>?_);go_simp;refine hK.out _ _ ft (fun hHeld=>?_);clear hK K;(try simp only[aC]);refine dJ 24 (fun K hK=>?_);(refine qL rfl _ _ 43 rfl 44 .u64 underlying43 pQ s.bf.A r.k.buf.length r.k.buf rfl rfl ?_ ⟨wC.heap.size,0,none⟩ 1 x rfl ?_ ?_ ?_;(exact hC.tk.bf.1.alloc _);(exact bC.one _ .u64 _ _);(exact bm SN.out (by decide));intro A5 c5 w5 eM di;have xb:=RX.below (by assumption) di);refine hK.out _ _ ft (fun hHeld=>?_);clear hK K;(try simp only[aC]);refine aO 25 (by assumption) ?_;(try simp only[aC]);refine aO 26 (by assumption) ?_;(try simp only[aC]);refine aO 27 (by assumption) ?_;(try simp only[aC]);refine dJ 28 (fun K hK=>?_);go_simp;refine hK.out _ _ ft (fun hHeld=>?_);clear hK K;(try simp only[aC]);refine wpAnyH_done (by kernel_rfl) ?_ _;have jd:=aa (hC.more (ag (ak (aj _) _) di));have oG:=aa (dG.trans (bV.ext (ag (ak (aj _) _) di) p mC));have si:∀b,(wC.alloc (.cells #[.int .u64 x] 44)).heap.size<=b->b<w5.heap.size->Im w5 X p mC b:=fun b h0 h1=>Im.fresh hC (by simp at h0;omega) h1;obtain⟨b1,hb1⟩:∃b1,b1=r.k.buf++[x]:=⟨_,rfl⟩
 have hbl:r.k.buf.length+1=b1.length:=by rw[hb1];simp
 have hbi:(b1.length:Int)=r.k.i+1:=by have:=HIL.out.2;omega
 have hbu:Mo.eH b1:=by rw[hb1];exact yL.out.k.buf.app (Mo.eH.one (by rw[HX.out];exact yL.out.L.at_ _))
 rw[<-hb1]at eM;rw[hbl]at eM ⊢;have H7:RN (w5.setCell ⟨p,16,none⟩ (.slice A5 b1.length c5)) X p c A n k t mC (q+1) {r with k:={r.k with buf:=b1}} {s with bf:=⟨A5,c5⟩} o:=RN.leaf jd.out {s with bf:=⟨A5,c5⟩} o {jd.out.tk with bf:=⟨eM.pU.2,fun ad ha _=>by subst ha;exact si _ (aX eM rfl).1 (aX eM rfl).2⟩,lb:=eM.cap.2} jd.out.op rfl;have F7:bV w5 (w5.setCell ⟨p,16,none⟩ (.slice A5 b1.length c5)) p mC mC:=((fe.refl _ _).set _ _).fr _;have Zk:=aa H7;have uX:=aa (oG.out.trans F7);have HBI:=aa hbi;have HBU:=aa hbu;have bj:=aa hb1;clear H7 F7 si eM di xb lK xI pA dE hC fC iT dG hHeld hb1 hbl hbi hbu jd oG aT py kB hlx c16;generalize w5.setCell ⟨p,16,none⟩ (.slice A5 b1.length c5)=w7 at *;have iY:=HI.out;have xA:=aa (size_le Zk.out.cs.dL);obtain⟨aA,bh,aU⟩:=af.aK Zk.out.blk;unfold bp at aA;go_wp2_with fail;have H8:RN (w7.setCell ⟨p,9,none⟩ (.int .i64 (r.k.i+1))) X p c A n k t mC (q+1) {r with k:={r.k with buf:=b1,i:=r.k.i+1}} {s with bf:=⟨A5,c5⟩} o:=RN.leaf Zk.out {s with bf:=⟨A5,c5⟩} o {Zk.out.tk with} Zk.out.op rfl;have HF8:=aa (uX.out.trans (((fe.refl w7 p).set 9 (.int .i64 (r.k.i+1))).fr mC));have HH8:=aa H8;clear H8 aA bh aU Zk uX;generalize w7.setCell ⟨p,9,none⟩ (.int .i64 (r.k.i+1))=w8 at *;have aU:=HH8.out.lt;have fp:=HH8.out.more (aj w8).drew;have fL:=HF8.out.trans (bV.ext (aj w8).drew p mC);have Cz:=aa (fun wx (h:RN wx X p c A n k t mC (q+1) {r with k:={r.k with buf:=b1,i:=r.k.i+1}} {s with bf:=⟨A5,c5⟩} o)=>zi h);have adl:=aa (fun wx wy (h:RN wx X p c A n k t mC (q+1) {r with k:={r.k with buf:=b1,i:=r.k.i+1}} {s with bf:=⟨A5,c5⟩} o) (hb:Below wx wx wy)=>h.more hb);have adm:=aa (fun wx wy (h:bV w wx p m mC) (hb:Below wx wx wy)=>h.trans (bV.ext hb p mC));have aT:=HH8.out.cx;unfold bp at aT;go_region_held3(RX w8 p mC 0 0) (with_reducible(repeat(first|assumption|exact RX.start HH8.out.blk _ _ _|refine RX.alloc ?_ _))) (
  ((with_reducible refine(Cz.out _ (by assumption)).mono ?_);rintro e w9 ⟨rfl,xC⟩;have hX9:=RX.below (by assumption) xC;have OA:=adl.out _ _ (by assumption) xC;have OB:=adm.out _ _ (by assumption) xC))
 have Zl:=aa OA;have Sq:=aa OB;clear xC OA OB hX9 fp fL aT aU HH8 HF8;obtain⟨aA,bh,aU⟩:=af.aK Zl.out.blk;unfold bp at aA;have HE0:Hid (Mo.Rn.eD c t r=if r.k.i+1<Mo.aZ c then{r with k:={r.k with buf:=b1,i:=r.k.i+1}}else(if r.k.slow=true/\(Mo.fS c b1 t).seq=r.k.seq then{r with k:={r.k with buf:=b1,i:=0,found:=[],pc:=20,res:=Mo.fS c b1 t}}else{r with k:={r.k with buf:=b1,i:=0,found:=[],pc:=8}})):=by unfold Hid Mo.Rn.eD;rw[ai (by rw[Ap.out];decide)];dsimp only;rw[<-HA.out, <-HX.out, <-bj.out]
 by_cases hlt:r.k.i+1<Mo.aZ c
 ·have HE:Hid (Mo.Rn.eD c t r={r with k:={r.k with buf:=b1,i:=r.k.i+1}}):=by unfold Hid;rw[HE0.out,au hlt]
  go_wp2_with fail;refine bodyPost_ret (v:=.tuple #[]) (by simp[results,results109,go_sem]) rfl ?_;rw[HE.out];exact⟨rfl,_,_,_,Zl.out,Sq.out⟩
 ·have HE:Hid (Mo.Rn.eD c t r=if r.k.slow=true/\(Mo.fS c b1 t).seq=r.k.seq then{r with k:={r.k with buf:=b1,i:=0,found:=[],pc:=20,res:=Mo.fS c b1 t}}else{r with k:={r.k with buf:=b1,i:=0,found:=[],pc:=8}}):=by unfold Hid;rw[HE0.out,ai hlt]
  have kt:Hid ((b1.length:Int)=Mo.aZ c):=by unfold Hid;have:=HBI.out;have:=HIL.out.1;omega
  clear HE0;go_wp2_with fail;have H10:RN (((w9.setCell ⟨p,9,none⟩ oZ).setCell ⟨p,20,none⟩ oN).setCell ⟨p,0,none⟩ (.int .i64 8)) X p c A n k t mC (q+1) {r with k:={r.k with buf:=b1,i:=0,found:=[],pc:=8}} {s with bf:=⟨A5,c5⟩,fo:=dB} o:=RN.leaf Zl.out {s with bf:=⟨A5,c5⟩,fo:=dB} o {Zl.out.tk with fo:=pN.nil _ _ _,lf:=aY _} Zl.out.op rfl;have yc:=aa H10;have J9:=aa (Sq.out.trans (((((fe.refl w9 p).set 9 oZ).set 20 oN).set 0 (.int .i64 8)).fr mC));clear H10 Zl Sq aA bh aU;generalize(((w9.setCell ⟨p,9,none⟩ oZ).setCell ⟨p,20,none⟩ oN).setCell ⟨p,0,none⟩ (.int .i64 8))=uU at *;have aU:=yc.out.lt;have AK:=aa (fun wx (hx:Below uU uU wx)=>tL (yc.out.more hx) b1 A5 b1.length c5 rfl kt.out HBU.out (yc.out.more hx).tk.bf.1 t yc.out.cs.t0 yc.out.cs.t1);obtain⟨y,hy⟩:∃y,y=Mo.fS c b1 t:=⟨_,rfl⟩
  rw[<-hy]at AK HE;clear hy;have aT:=yc.out.cx;unfold bp at aT;go_cut[2] (fun s2 wx=>ui uU y s2 wx);case first =>
   go_region_held3(RX uU p mC 0 0) (with_reducible(repeat(first|assumption|exact RX.start yc.out.blk _ _ _|exact RX.fZ yc.out.blk _ _ _ _|refine RX.alloc ?_ _|refine RX.far ?_ (aS _) _ _))) (((with_reducible refine(AK.out _ (by first|exact(aj uU).drew|exact(ak (aj uU) _).drew)).mono ?_);rintro e w11 ⟨rfl,X5⟩;have aes:=RX.below (by assumption) X5;have pJ:=ag (by first|exact(aj uU).drew|exact(ak (aj uU) _).drew:Below uU uU _) X5;(try(have tV:=(af.dr (af.new uU _ _)).ag X5;have hcK:=fun i=>af.cell tV i;have hfK:=fun i=>af.free tV i;have hgK:=tV.lt))));all_goals
    go_wp2_with fail;go_meet;first
     |with_reducible exact ui.last pJ y
     |(change ui _ _ _ (av w11 uU.heap.size 0 [y.seq,y.cs,y.code,y.value]);with_reducible exact ui.mid tV pJ y)
  case rest =>
   obtain⟨g,rfl,hK,hg,hb⟩:=hcut;have HR:=aa (yc.out.more hb);have HF:=aa (J9.out.trans (bV.ext hb p mC));have HG:=aa hK;have hpg:p<g:=by omega
   obtain⟨cQ,-,fV⟩:=af.aK HG.out;have hgx:=HR.out.lt;obtain⟨aA,bh,-⟩:=af.aK HR.out.blk;unfold bp at aA;clear aT aU hK hg hb AK yc J9;rcases hs:r.k.slow with _|_
   ·have iD:Hid (Mo.Rn.eD c t r={r with k:={r.k with buf:=b1,i:=0,found:=[],pc:=8}}):=by unfold Hid;rw[HE.out,ai (fun h=>by rw[hs]at h;cases h.1)]
    exact UX
   ·by_cases Gv:y.seq=r.k.seq
    ·have iD:Hid (Mo.Rn.eD c t r={r with k:={r.k with buf:=b1,i:=0,found:=[],pc:=20,res:=y}}):=by unfold Hid;rw[HE.out,au ⟨hs,Gv⟩]
     have adn:(y.seq==r.k.seq)=true:=by rw[Gv];exact beq_self_eq_true _
     clear Gv;go_wp2_with fail;go_quiet(fail);go_wp2_with fail;go_end0;rw[iD.out];refine bY.then HF.out ?_;exact bY.leaf HR.out {s with bf:=⟨A5,c5⟩,fo:=dB} o {HR.out.tk with} HR.out.op rfl
    ·have iD:Hid (Mo.Rn.eD c t r={r with k:={r.k with buf:=b1,i:=0,found:=[],pc:=8}}):=by unfold Hid;rw[HE.out,ai (fun h=>Gv h.2)]
     have adn:(y.seq==r.k.seq)=false:=by rw[cq];exact Gv
     clear Gv;exact UX
theorem CV(H:RN w X p c A n k t m q r s o)(HB:Mo.RB c N r)(hN:N<=100000)(hq:q<=900000)(h1:6<=r.k.pc)(h2:r.k.pc<=7):Calls prog 109 #[.pointer p] w (bY X p c A n k t m (q+1) (Mo.Rn.eD c t r) w):=by
 rcases(by omega:r.k.pc=6\/r.k.pc=7)with h|h
 ·exact Oy H HB hN hq h
 ·exact Oz H HB hN hq h
end
section
variable{w:World} {X:Nat->Prop} {p:Nat} {c:Mo.bH} {A:Option Addr} {n k:Nat} {t:Int} {m:Mm} {q:Nat} {r:Mo.Rn} {s:Sh} {o:Sl} {N:Int}
theorem FI(H:RN w X p c A n k t m q r s o)(hq:q<=900000):Calls prog 116 #[.pointer p] w (bY X p c A n k t m (q+1) (Mo.Rn.leave c t r) w):=by
 have ha:=(cZ H.cs.dL H.cs.t0 H.cs.t1).2.2.1;have HA:=aa (fun wx=>rM wx H.cs.dL A k n t H.cs.t0 (by have:=H.cs.t1;have:=H.cs.th;omega));have HST:=aa (fun wx (h:RN wx X p c A n k t m q r s o)=>eh h hq (Mo.ou c t) 0 ha.1 ha.2);have HH:=aa H;obtain⟨fp,fL,cB,HFm,aU⟩:=H.stand;have aT:=HH.out.cx;unfold bp at aT;obtain⟨aA,bh,-⟩:=af.aK HH.out.blk;unfold bp at aA;clear H ha;by_cases Ka:r.k.res.code=14
 ·have hE:Mo.Rn.leave c t r={r.store (Mo.ou c t) 0 with note:=2,k:=(Mo.eX 29 r.k.seq r.k.aQ r.k.az r.k.res true)}:=by unfold Mo.Rn.leave;dsimp only;rw[ai (fun h=>h Ka)]
  rw[hE];have h14:(r.k.res.code !=14)=false:=by rw[Ka];rfl
  clear hE Ka;go_enter func116,ntmps116;go_wp2_with fail;clear aA bh;go_region_held3(RX w p m 0 0) (exact ft) (first
   |((with_reducible refine(HA.out _).mono ?_);rintro e wA ⟨rfl,bN⟩;have kC:=RX.below (by assumption) bN;(try have lL:=cB.out _ _ (by assumption) bN);(try have mn:=HFm.out _ _ (by assumption) bN))
   |((with_reducible refine(HST.out _ (by assumption)).mono ?_);rintro e wC ⟨rfl,mC,hC,fC⟩;have iT:=RX.acc (by assumption) HH.out.blk fC (hC.kept fC rfl);have dG:=bV.trans (by assumption) fC))
  all_goals
   have HR:=aa hC;have HF:=aa dG;clear hC fC dG aT aU;obtain⟨aA,bh,aU⟩:=af.aK HR.out.blk;unfold bp Mo.Rn.store at aA;dsimp only at aA;go_wp2_with fail;clear aA bh aU;have jK:RN (wC.setCell ⟨p,47,none⟩ (.int .i64 2)) X p c A n k t mC (q+1) {r.store (Mo.ou c t) 0 with note:=2} s o:=RN.leaf HR.out s o {HR.out.tk with} HR.out.op rfl;have H2:=aa jK;have nv:=aa (((fe.refl wC p).set 47 (.int .i64 2)).fr mC);clear jK;generalize(wC.setCell ⟨p,47,none⟩ (.int .i64 2))=w2 at *;obtain⟨aA,bh,-⟩:=af.aK H2.out.blk;unfold bp Mo.Rn.store at aA;dsimp only at aA;have aU:=H2.out.lt;go_still_tail 24,(by kernel_rfl)
   change wpList _ _ _ _ _ w2.drew;refine wpList_store_mid rfl 50 _ _ rfl p 0 (iu (Mo.eX 29 r.k.seq r.k.aQ r.k.az r.k.res true) {cs:=s.cs,bf:=dB,nx:=dB,ar:=dB,fo:=dB,se:=dB,fr:=s.fr,ol:=s.ol}).toArray rfl rfl (af.there (af.jA H2.out.blk) 0 34 (by show 34<=50;decide)) (by kernel_rfl) (dW _ _) ?_;rw[iR];clear aA bh;generalize Dw:av w2.drew p 0 (iu (Mo.eX 29 r.k.seq r.k.aQ r.k.az r.k.res true) {cs:=s.cs,bf:=dB,nx:=dB,ar:=dB,fo:=dB,se:=dB,fr:=s.fr,ol:=s.ol}).toArray.toList=w5;have Y4:=aa Dw;clear Dw;go_wp2_with fail;go_end0;rw[<-Y4.out];refine bY.then (HF.out.trans nv.out) ?_;apply bY.at_ (s':={cs:=s.cs,bf:=dB,nx:=dB,ar:=dB,fo:=dB,se:=dB,fr:=s.fr,ol:=s.ol}) (o':=o) H2.out;case hA=>exact(fe.refl _ _).drew.av _ _
   case hK=>exact af.whole (af.jA H2.out.blk) _ _
   case he=>rfl
   case hL=>rfl
   case tk=>exact⟨H2.out.tk.cs,cA.nil _ _ _ _,cA.nil _ _ _ _,cA.nil _ _ _ _,pN.nil _ _ _,cA.nil _ _ _ _,H2.out.tk.fr,H2.out.tk.ol,aY _,aY _,aY _,aY _,H2.out.tk.lr,H2.out.tk.lo⟩
   case op=>exact H2.out.op
 ·have hE:Mo.Rn.leave c t r=(r.store (Mo.ou c t) 0).finish:=by unfold Mo.Rn.leave;dsimp only;rw[au Ka]
  rw[hE];have h14:(r.k.res.code !=14)=true:=by rw[bne_iff_ne];exact Ka
  have K0:=aa (fun wx mx (h:RN wx X p c A n k t mx (q+1) (r.store (Mo.ou c t) 0) s o)=>pz h);clear hE Ka;go_enter func116,ntmps116;go_wp2_with fail;clear aA bh;go_region_held3(RX w p m 0 0) (exact ft) (first
   |((with_reducible refine(HA.out _).mono ?_);rintro e wA ⟨rfl,bN⟩;have kC:=RX.below (by assumption) bN;(try have lL:=cB.out _ _ (by assumption) bN);(try have mn:=HFm.out _ _ (by assumption) bN))
   |((with_reducible refine(HST.out _ (by assumption)).mono ?_);rintro e wC ⟨rfl,mC,hC,fC⟩;have iT:=RX.acc (by assumption) HH.out.blk fC (hC.kept fC rfl);have dG:=bV.trans (by assumption) fC))
  all_goals
   have HR:=aa hC;have HF:=aa dG;clear hC fC dG aT aU;obtain⟨aA,bh,aU⟩:=af.aK HR.out.blk;unfold bp Mo.Rn.store at aA;dsimp only at aA;go_wp2_with fail;refine(K0.out _ _ HR.out).mono ?_;rintro e w3 ⟨rfl,hX⟩;have HX:=aa hX;clear hX;go_wp2_with fail;refine bodyPost_ret (v:=.tuple #[]) (by simp[results,results116,go_sem]) rfl ?_;exact bY.then HF.out ⟨rfl,HX.out⟩
end
section
variable{w:World} {X:Nat->Prop} {p:Nat} {c:Mo.bH} {A:Option Addr} {n k:Nat} {t:Int} {m:Mm} {q:Nat} {r:Mo.Rn} {s:Sh} {o:Sl} {N:Int}
theorem SP{c:Mo.bH}(hc:Mo.aN c=true):c.threads<=Mo.aZ c:=by
 have hp:=Mo.aG hc;have h0:0<=Mo.dm c:=by
  unfold Mo.dm;have h1:=hp.2.2.2.2.2.2.1;have h2:=hp.2.2.2.2.2.2.2.1;have h3:0<=c.chans*(1+c.cap):=gO h2 ae;split
  ·omega
  ·split<;>omega
 unfold Mo.aZ;rw[ai (by rw[hc];decide)];omega
theorem OC(H:RN w X p c A n k t m q r s o)(hq:q<=900000)(bM:r.k.pc=37):Calls prog 184 #[.pointer p] w (bY X p c A n k t m (q+1) (Mo.Rn.waits c t r) w):=by
 have ha:=(cZ H.cs.dL H.cs.t0 H.cs.t1).2.1;have HA:=aa (fun wx=>oY wx H.cs.dL A k n t H.cs.t0 (by have:=H.cs.t1;have:=H.cs.th;omega));have HST:=aa (fun wx (h:RN wx X p c A n k t m q r s o)=>eh h hq (Mo.gZ c t) 0 ha.1 ha.2);have hE:Mo.Rn.waits c t r=(r.store (Mo.gZ c t) 0).pc 38:=by unfold Mo.Rn.waits;rw[ai ae,ai ae,ai ae,ai ae,ai ae,ai ae,ai ae,ai ae,au bM]
 rw[hE];have HH:=aa H;obtain⟨fp,fL,cB,HFm,aU⟩:=H.stand;have aT:=HH.cx;unfold bp at aT;obtain⟨aA,bh,-⟩:=af.aK HH.blk;unfold bp at aA;rw[bM]at aA;clear H ha hE bM;go_enter func184,ntmps184;exact abL
theorem OD(H:RN w X p c A n k t m q r s o)(HB:Mo.RB c N r)(hq:q<=900000)(bM:r.k.pc=38):Calls prog 184 #[.pointer p] w (bY X p c A n k t m (q+1) (Mo.Rn.waits c t r) w):=by
 have ha:=(cZ H.cs.dL H.cs.t0 H.cs.t1).2.2.1;have hw:=HB.k.word;have HA:=aa (fun wx=>rM wx H.cs.dL A k n t H.cs.t0 (by have:=H.cs.t1;have:=H.cs.th;omega));have lB:=aa (fun wx=>ke wx r.k.word hw.1 hw.2);rw[show rS r.k.word=(Mo.cS r.k.word).seq from rfl,show rC r.k.word=(Mo.cS r.k.word).cs from rfl,show rO r.k.word=(Mo.cS r.k.word).code from rfl,show rV r.k.word=(Mo.cS r.k.word).value from rfl]at lB;have HST:=aa (fun wx (h:RN wx X p c A n k t m q r s o)=>eh h hq (Mo.ou c t) 0 ha.1 ha.2);have HH:=aa H;obtain⟨fp,fL,cB,HFm,aU⟩:=H.stand;have aT:=HH.out.cx;unfold bp at aT;obtain⟨aA,bh,-⟩:=af.aK HH.out.blk;unfold bp at aA;rw[bM]at aA;clear H ha HB;rcases SQ:Mo.lY r.k r.k.word with _|_
 ·have hE:Mo.Rn.waits c t r=(r.store (Mo.ou c t) 0).pc 29:=by unfold Mo.Rn.waits;rw[ai (by omega),ai (by omega),ai (by omega),ai (by omega),ai (by omega),ai (by omega),ai (by omega),ai (by omega),ai (by omega),au bM];dsimp only;rw[ai (by rw[SQ];decide)];try rfl
  rw[hE];clear hE;go_enter func184,ntmps184;go_wp2_with fail;clear aA bh;go_region_held3(RX w p m 0 0) (exact ft) (first
   |((with_reducible refine(HA.out _).mono ?_);rintro e wA ⟨rfl,bN⟩;have kC:=RX.below (by assumption) bN;(try have lL:=cB.out _ _ (by assumption) bN);(try have mn:=HFm.out _ _ (by assumption) bN))
   |((with_reducible refine(HST.out _ (by assumption)).mono ?_);rintro e wC ⟨rfl,mC,hC,fC⟩;have iT:=RX.acc (by assumption) HH.out.blk fC (hC.kept fC rfl);have dG:=bV.trans (by assumption) fC))
  all_goals
   have HR:=aa hC;have HF:=aa dG;clear hC fC dG aT aU;obtain⟨aA,bh,aU⟩:=af.aK HR.out.blk;unfold bp Mo.Rn.store at aA;dsimp only at aA;go_wp2_with fail;clear aA bh aU;have jK:RN (wC.setCell ⟨p,0,none⟩ (.int .i64 29)) X p c A n k t mC (q+1) ((r.store (Mo.ou c t) 0).pc 29) s o:=RN.leaf HR.out s o {HR.out.tk with} HR.out.op rfl;have H2:=aa jK;have nv:=aa (((fe.refl wC p).set 0 (.int .i64 29)).fr mC);clear jK;generalize(wC.setCell ⟨p,0,none⟩ (.int .i64 29))=w2 at *;have OE:=aa (pO H2.out r.k.word hw);rw[show Mo.lY ((r.store (Mo.ou c t) 0).pc 29).k r.k.word=false from SQ]at OE;obtain⟨aA,-,aU⟩:=af.aK H2.out.blk;unfold bp Mo.Rn.pc Mo.Rn.store at aA;dsimp only at aA;go_wp2_with fail;(with_reducible refine OE.out.mono ?_);rintro e w5 ⟨rfl,di⟩;have jd:=aa (H2.out.more di);have oG:=aa ((HF.out.trans nv.out).trans (bV.ext di p mC));clear di aA aU;obtain⟨aA,bh,aU⟩:=af.aK jd.out.blk;unfold bp Mo.Rn.pc Mo.Rn.store at aA;dsimp only at aA;go_wp2_with fail;go_end0;exact⟨rfl,_,_,_,jd.out,oG.out⟩
 ·have hE:Mo.Rn.waits c t r={(r.store (Mo.ou c t) 0).pc 29 with k:={(r.k)with pc:=22,res:=Mo.cS r.k.word,cu:=0}}:=by unfold Mo.Rn.waits;rw[ai (by omega),ai (by omega),ai (by omega),ai (by omega),ai (by omega),ai (by omega),ai (by omega),ai (by omega),ai (by omega),au bM];dsimp only;rw[au SQ];try rfl
  rw[hE];clear hE;go_enter func184,ntmps184;go_wp2_with fail;clear aA bh;go_region_held3(RX w p m 0 0) (exact ft) (first
   |((with_reducible refine(HA.out _).mono ?_);rintro e wA ⟨rfl,bN⟩;have kC:=RX.below (by assumption) bN;(try have lL:=cB.out _ _ (by assumption) bN);(try have mn:=HFm.out _ _ (by assumption) bN))
   |((with_reducible refine(HST.out _ (by assumption)).mono ?_);rintro e wC ⟨rfl,mC,hC,fC⟩;have iT:=RX.acc (by assumption) HH.out.blk fC (hC.kept fC rfl);have dG:=bV.trans (by assumption) fC))
  all_goals
   have HR:=aa hC;have HF:=aa dG;clear hC fC dG aT aU;obtain⟨aA,bh,aU⟩:=af.aK HR.out.blk;unfold bp Mo.Rn.store at aA;dsimp only at aA;go_wp2_with fail;clear aA bh aU;have jK:RN (wC.setCell ⟨p,0,none⟩ (.int .i64 29)) X p c A n k t mC (q+1) ((r.store (Mo.ou c t) 0).pc 29) s o:=RN.leaf HR.out s o {HR.out.tk with} HR.out.op rfl;have H2:=aa jK;have nv:=aa (((fe.refl wC p).set 0 (.int .i64 29)).fr mC);clear jK;generalize(wC.setCell ⟨p,0,none⟩ (.int .i64 29))=w2 at *;have OE:=aa (pO H2.out r.k.word hw);rw[show Mo.lY ((r.store (Mo.ou c t) 0).pc 29).k r.k.word=true from SQ]at OE;obtain⟨aA,-,aU⟩:=af.aK H2.out.blk;unfold bp Mo.Rn.pc Mo.Rn.store at aA;dsimp only at aA;go_wp2_with fail;(with_reducible refine OE.out.mono ?_);rintro e w5 ⟨rfl,di⟩;have jd:=aa (H2.out.more di);have oG:=aa ((HF.out.trans nv.out).trans (bV.ext di p mC));clear di aA aU;obtain⟨aA,bh,aU⟩:=af.aK jd.out.blk;unfold bp Mo.Rn.pc Mo.Rn.store at aA;dsimp only at aA;go_wp2_with fail;(with_reducible refine(lB.out _).mono ?_);rintro e w6 ⟨rfl,fO⟩;have KN:=aa (jd.out.more fO);have KU:=aa (oG.out.trans (bV.ext fO p mC));clear fO aA bh aU;obtain⟨aA,bh,aU⟩:=af.aK KN.out.blk;unfold bp Mo.Rn.pc Mo.Rn.store at aA;dsimp only at aA;go_wp2_with fail;go_end0;refine bY.then KU.out ?_;exact bY.leaf KN.out s o {KN.out.tk with} KN.out.op rfl
theorem OG(H:RN w X p c A n k t m q r s o)(HB:Mo.RB c N r)(hq:q<=900000)(bM:r.k.pc=35):Calls prog 184 #[.pointer p] w (bY X p c A n k t m (q+1) (Mo.Rn.waits c t r) w):=by
 have nP:=HB.k.base;unfold Mo.ur at nP;have hsz:=size_le H.cs.dL;have ji:=H.cs.th;have htt:=H.cs.t1;have r8:=H.cs.t0;have uj:0<=Mo.bA c r.k.base.ix/\Mo.bA c r.k.base.ix<=100000000:=by have h1:=kn H.cs.dL (i:=r.k.base.ix) (by omega) (by omega);have h2:=(Mo.aG H.cs.dL).1;unfold Mo.bA;omega
 have hE:Mo.Rn.waits c t r=if Mo.ax r.L (Mo.bA c r.k.base.ix)=r.k.base.tag then r.pc 36 else r.pc 37:=by unfold Mo.Rn.waits;rw[ai (by omega),ai (by omega),ai (by omega),ai (by omega),ai (by omega),ai (by omega),au bM];split<;>rfl
 rw[hE];have kO:=aa (fun wx (h:RN wx X p c A n k t m q (r.pc 37) s o)=>jg h r.k.base.ix r.k.base.tag (by omega) (by omega));have j5:=aa (fun wx (h:RN wx X p c A n k t m q (r.pc 37) s o)=>cg h hq _ uj.1);obtain⟨x,hx⟩:∃x,x=Mo.ax r.L (Mo.bA c r.k.base.ix):=⟨_,rfl⟩
 rw[show(r.pc 37).L=r.L from rfl, <-hx]at j5;rw[<-hx];have htw:IntKind.u64.wrap r.k.base.tag=r.k.base.tag:=zj (by omega) (by omega);have HH:=aa H;have aU:=H.lt;obtain⟨aA,bh,-⟩:=af.aK HH.out.blk;unfold bp at aA;rw[bM]at aA;clear hE bM H hx uj nP hsz HB;by_cases fM:x=r.k.base.tag
 ·rw[au fM];have oy:(x==r.k.base.tag)=true:=by rw[fM];exact beq_self_eq_true _
  clear fM;go_enter func184,ntmps184;go_upto_region 3 with fail
  clear aA bh aU;have jK:RN (w.setCell ⟨p,0,none⟩ (.int .i64 37)) X p c A n k t m q (r.pc 37) s o:=RN.leaf HH.out s o {HH.out.tk with} HH.out.op rfl;have H2:=aa jK;have nv:=aa (((fe.refl w p).set 0 (.int .i64 37)).fr m);clear jK;generalize(w.setCell ⟨p,0,none⟩ (.int .i64 37))=w2 at *;have fP:=aa H2.out;obtain⟨fp,fL,cB,HFm,aU⟩:=H2.out.stand;have aT:=fP.out.cx;unfold bp Mo.Rn.pc at aT;dsimp only at aT;go_wp2_with fail;go_region_held3(RX w2 p m 0 0) (exact ft) (first
   |((with_reducible refine(kO.out _ (by assumption)).mono ?_);rintro e wA ⟨rfl,bN⟩;have kC:=RX.below (by assumption) bN;(try have lL:=cB.out _ _ (by assumption) bN);(try have mn:=HFm.out _ _ (by assumption) bN))
   |((with_reducible refine(j5.out _ (by assumption)).mono ?_);rintro e wC ⟨rfl,mC,hC,fC⟩;have iT:=RX.acc (by assumption) fP.out.blk fC (hC.kept fC rfl);have dG:=bV.trans (by assumption) fC))
  all_goals
   have HR:=aa hC;have HF:=aa (nv.out.trans dG);exact UY
 ·rw[ai fM];have oy:(x==r.k.base.tag)=false:=by rw[cq];exact fM
  clear fM;go_enter func184,ntmps184;go_upto_region 3 with fail
  clear aA bh aU;have jK:RN (w.setCell ⟨p,0,none⟩ (.int .i64 37)) X p c A n k t m q (r.pc 37) s o:=RN.leaf HH.out s o {HH.out.tk with} HH.out.op rfl;have H2:=aa jK;have nv:=aa (((fe.refl w p).set 0 (.int .i64 37)).fr m);clear jK;generalize(w.setCell ⟨p,0,none⟩ (.int .i64 37))=w2 at *;have fP:=aa H2.out;obtain⟨fp,fL,cB,HFm,aU⟩:=H2.out.stand;have aT:=fP.out.cx;unfold bp Mo.Rn.pc at aT;dsimp only at aT;go_wp2_with fail;go_region_held3(RX w2 p m 0 0) (exact ft) (first
   |((with_reducible refine(kO.out _ (by assumption)).mono ?_);rintro e wA ⟨rfl,bN⟩;have kC:=RX.below (by assumption) bN;(try have lL:=cB.out _ _ (by assumption) bN);(try have mn:=HFm.out _ _ (by assumption) bN))
   |((with_reducible refine(j5.out _ (by assumption)).mono ?_);rintro e wC ⟨rfl,mC,hC,fC⟩;have iT:=RX.acc (by assumption) fP.out.blk fC (hC.kept fC rfl);have dG:=bV.trans (by assumption) fC))
  all_goals
   have HR:=aa hC;have HF:=aa (nv.out.trans dG);clear hC fC dG aT aU;exact UZ
theorem OH(H:RN w X p c A n k t m q r s o)(HB:Mo.RB c N r)(hq:q<=900000)(bM:r.k.pc=36):Calls prog 184 #[.pointer p] w (bY X p c A n k t m (q+1) (Mo.Rn.waits c t r) w):=by
 have nP:=HB.k.base;unfold Mo.ur at nP;have hsz:=size_le H.cs.dL;have ji:=H.cs.th;have htt:=H.cs.t1;have r8:=H.cs.t0;have uj:0<=Mo.bA c r.k.base.ix/\Mo.bA c r.k.base.ix<=100000000:=by have h1:=kn H.cs.dL (i:=r.k.base.ix) (by omega) (by omega);have h2:=(Mo.aG H.cs.dL).1;unfold Mo.bA;omega
 have hE:Mo.Rn.waits c t r={r with k:={r.k with word:=Mo.ax r.L (Mo.bA c r.k.base.ix+1+Mo.aZ c-c.threads+t),pc:=37}}:=by unfold Mo.Rn.waits;rw[ai (by omega),ai (by omega),ai (by omega),ai (by omega),ai (by omega),ai (by omega),ai (by omega),au bM]
 rw[hE];have kO:=aa (fun wx (h:RN wx X p c A n k t m q r s o)=>jg h r.k.base.ix r.k.base.tag (by omega) (by omega));have xA:=aa (fun wx (h:RN wx X p c A n k t m q r s o)=>zi h);obtain⟨a,ha⟩:∃a,a=Mo.bA c r.k.base.ix:=⟨_,rfl⟩
 obtain⟨z,hz⟩:∃z,z=Mo.aZ c:=⟨_,rfl⟩
 have hzt:c.threads<=z:=by rw[hz];exact SP H.cs.dL
 rw[<-ha]at uj kO;rw[<-hz]at hsz xA;have j5:=aa (fun wx (h:RN wx X p c A n k t m q r s o)=>cg h hq (a+1+z-c.threads+t) (by omega));rw[<-ha, <-hz];obtain⟨x,hx⟩:∃x,x=Mo.ax r.L (a+1+z-c.threads+t):=⟨_,rfl⟩
 rw[<-hx]at j5 ⊢;have e1:IntKind.i64.wrap (a+1)=a+1:=jB (by omega) (by omega);have e2:IntKind.i64.wrap (a+1+z)=a+1+z:=jB (by omega) (by omega);have e3:IntKind.i64.wrap (a+1+z-c.threads)=a+1+z-c.threads:=jB (by omega) (by omega);have e4:IntKind.i64.wrap (a+1+z-c.threads+t)=a+1+z-c.threads+t:=jB (by omega) (by omega);have HH:=aa H;obtain⟨fp,fL,cB,HFm,aU⟩:=H.stand;obtain⟨aA,bh,-⟩:=af.aK HH.out.blk;unfold bp at aA;rw[bM]at aA;clear hE bM H hx uj nP hsz HB ha hz ji htt r8 hzt;go_enter func184,ntmps184;go_wp2_with fail;clear aA bh;obtain⟨aT,py,kB,hlx⟩:=HH.out.DG 18 19;unfold bp at aT;go_region_held3(RX w p m 18 19) (exact ft) (first
  |((with_reducible refine(kO.out _ (by assumption)).mono ?_);rintro e wA ⟨rfl,bN⟩;have kC:=RX.below (by assumption) bN;(try have lL:=cB.out _ _ (by assumption) bN);(try have mn:=HFm.out _ _ (by assumption) bN))
  |((with_reducible refine(xA.out _ (by assumption)).mono ?_);rintro e wB ⟨rfl,dE⟩;have lK:=RX.below (by assumption) dE;(try have xI:=cB.out _ _ (by assumption) dE);(try have pA:=HFm.out _ _ (by assumption) dE))
  |((with_reducible refine(j5.out _ (by assumption)).mono ?_);rintro e wC ⟨rfl,mC,hC,fC⟩;have iT:=RX.acc (by assumption) HH.out.blk fC (hC.kept fC rfl);have dG:=bV.trans (by assumption) fC))
 all_goals
  have HR:=aa hC;have HF:=aa dG;clear hC fC dG aT py kB hlx aU;exact X6
theorem FJ(H:RN w X p c A n k t m q r s o)(HB:Mo.RB c N r)(hq:q<=900000)(h1:35<=r.k.pc):Calls prog 184 #[.pointer p] w (bY X p c A n k t m (q+1) (Mo.Rn.waits c t r) w):=by
 have h2:=HB.f.a.1.2;rcases(by omega:r.k.pc=35\/r.k.pc=36\/r.k.pc=37\/r.k.pc=38)with h|h|h|h
 ·exact OG H HB hq h
 ·exact OH H HB hq h
 ·exact OC H hq h
 ·exact OD H HB hq h
end
section
variable{w:World} {X:Nat->Prop} {p:Nat} {c:Mo.bH} {A:Option Addr} {n k:Nat} {t:Int} {m:Mm} {q:Nat} {r:Mo.Rn} {s:Sh} {o:Sl} {N:Int}
theorem OI(H:RN w X p c A n k t m q r s o)(HB:Mo.RB c N r)(hN:N<=100000)(hq:q<=900000)(bM:r.k.pc=30):Calls prog 117 #[.pointer p] w (bY X p c A n k t m (q+1) (Mo.Rn.waits c t r) w):=by
 have HL:=aa (cg H hq 1 ah);have hx0:=(HB.L.at_ 1).1;have hx1:=HB.g;have hE:Mo.Rn.waits c t r={r with k:={r.k with il:=Mo.ax r.L 1,pc:=31}}:=by unfold Mo.Rn.waits;rw[ai ae,au bM]
 rw[hE];obtain⟨x,hx⟩:=aD (Mo.ax r.L 1);rw[<-hx]at HL hx0 hx1 ⊢;have DB:IntKind.i64.wrap x=x:=jB hx0 ae;have HH:=aa H;obtain⟨fp,fL,cB,HFm,aU⟩:=H.stand;obtain⟨aA,bh,-⟩:=af.aK HH.blk;unfold bp at aA;rw[bM]at aA;clear H hE bM hx HB fp fL;go_enter func117,ntmps117;exact abJ
theorem OJ(H:RN w X p c A n k t m q r s o)(HB:Mo.RB c N r)(hq:q<=900000)(bM:r.k.pc=32):Calls prog 117 #[.pointer p] w (bY X p c A n k t m (q+1) (Mo.Rn.waits c t r) w):=by
 have HL:=aa (cg H hq 0 ah);have hx0:=HB.L.at_ 0;have hE:Mo.Rn.waits c t r={r with k:={r.k with base:=(Mo.gy (Mo.ax r.L 0)).1,pc:=33}}:=by unfold Mo.Rn.waits;rw[ai ae,ai ae,ai ae,au bM]
 rw[hE];obtain⟨x,hx⟩:=aD (Mo.ax r.L 0);rw[<-hx]at HL hx0 ⊢;have lB:=aa (fun wx=>yx wx x hx0.1 hx0.2);have HH:=aa H;obtain⟨fp,fL,cB,HFm,aU⟩:=H.stand;obtain⟨aA,bh,-⟩:=af.aK HH.blk;unfold bp at aA;rw[bM]at aA;clear H hE bM hx HB hx0 fp fL;go_enter func117,ntmps117;exact abK
theorem OL(H:RN w X p c A n k t m q r s o)(HB:Mo.RB c N r)(hN:N<=100000)(hq:q<=900000)(bM:r.k.pc=31):Calls prog 117 #[.pointer p] w (bY X p c A n k t m (q+1) (Mo.Rn.waits c t r) w):=by
 have hep:=HB.k.ep;have ha:=(cZ H.cs.dL H.cs.t0 H.cs.t1).2.2.1;have hE:Mo.Rn.waits c t r=(r.store (Mo.ou c t) (Mo.iw r.k.il)).pc 32:=by unfold Mo.Rn.waits;rw[ai (by omega),ai (by omega),au bM]
 rw[hE];have HA:=aa (fun wx=>rM wx H.cs.dL A k n t H.cs.t0 (by have:=H.cs.t1;have:=H.cs.th;omega));have J5:Hid (∀wx,Calls prog 152 #[r.k.il] wx fun e w'=>e=.returned (.int .u64 (Mo.iw r.k.il))/\wx=w'):=fun wx=>by exact UU
 have HST:=aa (fun wx (h:RN wx X p c A n k t m q r s o)=>eh h hq (Mo.ou c t) (Mo.iw r.k.il) ha.1 ha.2);have HH:=aa H;obtain⟨fp,fL,cB,HFm,aU⟩:=H.stand;have aT:=HH.out.cx;unfold bp at aT;obtain⟨aA,bh,-⟩:=af.aK HH.out.blk;unfold bp at aA;rw[bM]at aA;clear H hE bM HB ha hep;go_enter func117,ntmps117;go_wp2_with fail;clear aA bh;go_region_held3(RX w p m 0 0) (exact ft) (first
  |((with_reducible refine(HA.out _).mono ?_);rintro e wA ⟨rfl,bN⟩;have kC:=RX.below (by assumption) bN;(try have lL:=cB.out _ _ (by assumption) bN);(try have mn:=HFm.out _ _ (by assumption) bN))
  |((with_reducible refine(J5.out _).mono ?_);rintro e wB ⟨rfl,rfl⟩)
  |((with_reducible refine(HST.out _ (by assumption)).mono ?_);rintro e wC ⟨rfl,mC,hC,fC⟩;have iT:=RX.acc (by assumption) HH.out.blk fC (hC.kept fC rfl);have dG:=bV.trans (by assumption) fC))
 exact X4
theorem OM(H:RN w X p c A n k t m q r s o)(hq:q<=900000)(bM:r.k.pc=33):Calls prog 117 #[.pointer p] w (bY X p c A n k t m (q+1) (Mo.Rn.waits c t r) w):=by
 have ha:=(cZ H.cs.dL H.cs.t0 H.cs.t1).2.1;have hE:Mo.Rn.waits c t r=(r.store (Mo.gZ c t) (Mo.bL r.k.base)).pc 34:=by unfold Mo.Rn.waits;rw[ai (by omega),ai (by omega),ai (by omega),ai (by omega),au bM]
 rw[hE];have HA:=aa (fun wx=>oY wx H.cs.dL A k n t H.cs.t0 (by have:=H.cs.t1;have:=H.cs.th;omega));have J5:Hid (∀wx,Calls prog 103 #[.agg #[r.k.base.ix,r.k.base.tag]] wx fun e w'=>e=.returned (.int .u64 (Mo.bL r.k.base))/\Below wx wx w'):=fun wx=>fE wx _ _;have HST:=aa (fun wx (h:RN wx X p c A n k t m q r s o)=>eh h hq (Mo.gZ c t) (Mo.bL r.k.base) ha.1 ha.2);have HH:=aa H;obtain⟨fp,fL,cB,HFm,aU⟩:=H.stand;have aT:=HH.out.cx;unfold bp at aT;obtain⟨aA,bh,-⟩:=af.aK HH.out.blk;unfold bp at aA;rw[bM]at aA;clear H hE bM ha;go_enter func117,ntmps117;go_wp2_with fail;clear aA bh;go_region_held3(RX w p m 0 0) (exact ft) (first
  |((with_reducible refine(HA.out _).mono ?_);rintro e wA ⟨rfl,bN⟩;have kC:=RX.below (by assumption) bN;(try have lL:=cB.out _ _ (by assumption) bN);(try have mn:=HFm.out _ _ (by assumption) bN))
  |((with_reducible refine(J5.out _).mono ?_);rintro e wB ⟨rfl,dE⟩;have lK:=RX.below (by assumption) dE;(try have xI:=cB.out _ _ (by assumption) dE);(try have pA:=HFm.out _ _ (by assumption) dE))
  |((with_reducible refine(HST.out _ (by assumption)).mono ?_);rintro e wC ⟨rfl,mC,hC,fC⟩;have iT:=RX.acc (by assumption) HH.out.blk fC (hC.kept fC rfl);have dG:=bV.trans (by assumption) fC))
 exact X4
theorem OO(H:RN w X p c A n k t m q r s o)(hq:q<=900000)(bM:r.k.pc=34):Calls prog 117 #[.pointer p] w (bY X p c A n k t m (q+1) (Mo.Rn.waits c t r) w):=by
 have hE:Mo.Rn.waits c t r=if Mo.ax r.L 0=Mo.bL r.k.base then{r with k:={r.k with word:=0,pc:=35}}else{r with k:={r.k with word:=0,pc:=37}}:=by unfold Mo.Rn.waits;rw[ai (by omega),ai (by omega),ai (by omega),ai (by omega),ai (by omega),au bM];split<;>rfl
 rw[hE];obtain⟨x,hx⟩:∃x,x=Mo.ax r.L 0:=⟨_,rfl⟩
 obtain⟨y,hy⟩:∃y,y=Mo.bL r.k.base:=⟨_,rfl⟩
 have J5:Hid (∀wx,Calls prog 103 #[.agg #[r.k.base.ix,r.k.base.tag]] wx fun e w'=>e=.returned (.int .u64 y)/\Below wx wx w'):=fun wx=>by
  rw[hy]
  exact fE wx _ _
 have j5:=aa (fun wx (h:RN wx X p c A n k t m q {r with k:={r.k with word:=0,pc:=37}} s o)=>cg h hq 0 (by decide));rw[show({r with k:={r.k with word:=0,pc:=37}}:Mo.Rn).L=r.L from rfl, <-hx]at j5;rw[<-hx, <-hy];have HH:=aa H;have aU:=H.lt;obtain⟨aA,bh,-⟩:=af.aK HH.out.blk;unfold bp at aA;rw[bM]at aA;clear hE bM H hx hy;by_cases fM:x=y
 ·rw[au fM];have oy:(x==y)=true:=by rw[fM];exact beq_self_eq_true _
  clear fM;go_enter func117,ntmps117;go_upto_region 22 with fail
  clear aA bh aU;have jK:RN ((w.setCell ⟨p,18,none⟩ (.int .u64 0)).setCell ⟨p,0,none⟩ (.int .i64 37)) X p c A n k t m q {r with k:={r.k with word:=0,pc:=37}} s o:=RN.leaf HH.out s o {HH.out.tk with} HH.out.op rfl;have H2:=aa jK;have nv:=aa ((((fe.refl w p).set 18 (.int .u64 0)).set 0 (.int .i64 37)).fr m);clear jK;generalize((w.setCell ⟨p,18,none⟩ (.int .u64 0)).setCell ⟨p,0,none⟩ (.int .i64 37))=w2 at *;have fP:=aa H2.out;obtain⟨fp,fL,cB,HFm,aU⟩:=H2.out.stand;have aT:=fP.out.cx;unfold bp at aT;dsimp only at aT;go_wp2_with fail;go_region_held3(RX w2 p m 0 0) (exact ft) (first
   |((with_reducible refine(J5.out _).mono ?_);rintro e wB ⟨rfl,dE⟩;have lK:=RX.below (by assumption) dE;(try have xI:=cB.out _ _ (by assumption) dE);(try have pA:=HFm.out _ _ (by assumption) dE))
   |((with_reducible refine(j5.out _ (by assumption)).mono ?_);rintro e wC ⟨rfl,mC,hC,fC⟩;have iT:=RX.acc (by assumption) fP.out.blk fC (hC.kept fC rfl);have dG:=bV.trans (by assumption) fC))
  all_goals
   first
    |(have HF:=aa ((nv.out.trans ((bV.ext (aj w2).drew p m).trans (bV.ext dE p m))).trans fC);have HR:=aa hC)
    |(have HF:=aa ((nv.out.trans ((bV.ext (aj w2).drew p m).trans fC)).trans (bV.ext dE p mC));have HR:=aa (hC.more dE))
   exact UW
 ·rw[ai fM];have oy:(x==y)=false:=by rw[cq];exact fM
  clear fM;go_enter func117,ntmps117;go_upto_region 22 with fail
  clear aA bh aU;have jK:RN ((w.setCell ⟨p,18,none⟩ (.int .u64 0)).setCell ⟨p,0,none⟩ (.int .i64 37)) X p c A n k t m q {r with k:={r.k with word:=0,pc:=37}} s o:=RN.leaf HH.out s o {HH.out.tk with} HH.out.op rfl;have H2:=aa jK;have nv:=aa ((((fe.refl w p).set 18 (.int .u64 0)).set 0 (.int .i64 37)).fr m);clear jK;generalize((w.setCell ⟨p,18,none⟩ (.int .u64 0)).setCell ⟨p,0,none⟩ (.int .i64 37))=w2 at *;have fP:=aa H2.out;obtain⟨fp,fL,cB,HFm,aU⟩:=H2.out.stand;have aT:=fP.out.cx;unfold bp at aT;dsimp only at aT;go_wp2_with fail;go_region_held3(RX w2 p m 0 0) (exact ft) (first
   |((with_reducible refine(J5.out _).mono ?_);rintro e wB ⟨rfl,dE⟩;have lK:=RX.below (by assumption) dE;(try have xI:=cB.out _ _ (by assumption) dE);(try have pA:=HFm.out _ _ (by assumption) dE))
   |((with_reducible refine(j5.out _ (by assumption)).mono ?_);rintro e wC ⟨rfl,mC,hC,fC⟩;have iT:=RX.acc (by assumption) fP.out.blk fC (hC.kept fC rfl);have dG:=bV.trans (by assumption) fC))
  all_goals
   first
    |(have HF:=aa ((nv.out.trans ((bV.ext (aj w2).drew p m).trans (bV.ext dE p m))).trans fC);have HR:=aa hC)
    |(have HF:=aa ((nv.out.trans ((bV.ext (aj w2).drew p m).trans fC)).trans (bV.ext dE p mC));have HR:=aa (hC.more dE))
   clear hC fC aT aU;exact UZ
theorem OP(H:RN w X p c A n k t m q r s o)(HB:Mo.RB c N r)(hq:q<=900000)(bM:r.k.pc=29):Calls prog 117 #[.pointer p] w (bY X p c A n k t m (q+1) (Mo.Rn.waits c t r) w):=by
 have ha:=(cZ H.cs.dL H.cs.t0 H.cs.t1).2.2.2.1;have hw:=HB.L.at_ (Mo.cn c t);have HA:=aa (fun wx=>je wx H.cs.dL A k n t H.cs.t0 (by have:=H.cs.t1;have:=H.cs.th;omega));have j5:=aa (fun wx (h:RN wx X p c A n k t m q r s o)=>cg h hq _ ha.1);obtain⟨x,hx⟩:∃x,x=Mo.ax r.L (Mo.cn c t):=⟨_,rfl⟩
 rw[<-hx]at j5 hw;have lB:=aa (fun wx=>ke wx x hw.1 hw.2);rw[show rS x=(Mo.cS x).seq from rfl,show rC x=(Mo.cS x).cs from rfl,show rO x=(Mo.cS x).code from rfl,show rV x=(Mo.cS x).value from rfl]at lB;have hE:Mo.Rn.waits c t r=if Mo.lY r.k x=true then Mo.Rn.finish {r with k:={r.k with res:=Mo.cS x,pc:=30}}else r.pc 30:=by unfold Mo.Rn.waits;rw[au bM, <-hx]
 have HH:=aa H;obtain⟨fp,fL,cB,HFm,aU⟩:=H.stand;have aT:=HH.out.cx;unfold bp at aT;obtain⟨aA,bh,-⟩:=af.aK HH.out.blk;unfold bp at aA;rw[bM]at aA;clear H ha HB hx bM;rcases SQ:Mo.lY r.k x with _|_
 ·have om:Mo.Rn.waits c t r=r.pc 30:=by rw[hE,ai (by rw[SQ];decide)]
  rw[om];clear hE om;go_enter func117,ntmps117;go_wp2_with fail;clear aA bh;go_region_held3(RX w p m 0 0) (exact ft) (first
   |((with_reducible refine(HA.out _).mono ?_);rintro e wA ⟨rfl,bN⟩;have kC:=RX.below (by assumption) bN;(try have lL:=cB.out _ _ (by assumption) bN);(try have mn:=HFm.out _ _ (by assumption) bN))
   |((with_reducible refine(j5.out _ (by assumption)).mono ?_);rintro e wC ⟨rfl,mC,hC,fC⟩;have iT:=RX.acc (by assumption) HH.out.blk fC (hC.kept fC rfl);have dG:=bV.trans (by assumption) fC))
  all_goals
   have HR:=aa hC;have HF:=aa dG;clear hC fC dG aT aU;obtain⟨aA,bh,aU⟩:=af.aK HR.out.blk;unfold bp at aA;go_wp2_with fail;clear aA bh aU;have jK:RN (wC.setCell ⟨p,0,none⟩ (.int .i64 30)) X p c A n k t mC (q+1) (r.pc 30) s o:=RN.leaf HR.out s o {HR.out.tk with} HR.out.op rfl;have H2:=aa jK;have nv:=aa (((fe.refl wC p).set 0 (.int .i64 30)).fr mC);clear jK;generalize(wC.setCell ⟨p,0,none⟩ (.int .i64 30))=w2 at *;have OE:=aa (pO H2.out x hw);rw[show Mo.lY (r.pc 30).k x=false from SQ]at OE;obtain⟨aA,-,aU⟩:=af.aK H2.out.blk;unfold bp Mo.Rn.pc at aA;dsimp only at aA;go_wp2_with fail;(with_reducible refine OE.out.mono ?_);rintro e w5 ⟨rfl,di⟩;have jd:=aa (H2.out.more di);have oG:=aa ((HF.out.trans nv.out).trans (bV.ext di p mC));clear di aA aU;obtain⟨aA,bh,aU⟩:=af.aK jd.out.blk;unfold bp Mo.Rn.pc at aA;dsimp only at aA;go_wp2_with fail;go_end0;exact⟨rfl,_,_,_,jd.out,oG.out⟩
 ·have om:Mo.Rn.waits c t r=Mo.Rn.finish {r with k:={r.k with res:=Mo.cS x,pc:=30}}:=by rw[hE,au SQ]
  rw[om];clear hE om;have K0:=aa (fun wx mx (h:RN wx X p c A n k t mx (q+1) {r with k:={r.k with res:=Mo.cS x,pc:=30}} s o)=>pz h);go_enter func117,ntmps117;go_wp2_with fail;clear aA bh;go_region_held3(RX w p m 0 0) (exact ft) (first
   |((with_reducible refine(HA.out _).mono ?_);rintro e wA ⟨rfl,bN⟩;have kC:=RX.below (by assumption) bN;(try have lL:=cB.out _ _ (by assumption) bN);(try have mn:=HFm.out _ _ (by assumption) bN))
   |((with_reducible refine(j5.out _ (by assumption)).mono ?_);rintro e wC ⟨rfl,mC,hC,fC⟩;have iT:=RX.acc (by assumption) HH.out.blk fC (hC.kept fC rfl);have dG:=bV.trans (by assumption) fC))
  all_goals
   have HR:=aa hC;have HF:=aa dG;clear hC fC dG aT aU;obtain⟨aA,bh,aU⟩:=af.aK HR.out.blk;unfold bp at aA;go_wp2_with fail;clear aA bh aU;have jK:RN (wC.setCell ⟨p,0,none⟩ (.int .i64 30)) X p c A n k t mC (q+1) (r.pc 30) s o:=RN.leaf HR.out s o {HR.out.tk with} HR.out.op rfl;have H2:=aa jK;have nv:=aa (((fe.refl wC p).set 0 (.int .i64 30)).fr mC);clear jK;generalize(wC.setCell ⟨p,0,none⟩ (.int .i64 30))=w2 at *;have OE:=aa (pO H2.out x hw);rw[show Mo.lY (r.pc 30).k x=true from SQ]at OE;obtain⟨aA,-,aU⟩:=af.aK H2.out.blk;unfold bp Mo.Rn.pc at aA;dsimp only at aA;go_wp2_with fail;(with_reducible refine OE.out.mono ?_);rintro e w5 ⟨rfl,di⟩;have jd:=aa (H2.out.more di);have oG:=aa ((HF.out.trans nv.out).trans (bV.ext di p mC));clear di aA aU;obtain⟨aA,bh,aU⟩:=af.aK jd.out.blk;unfold bp Mo.Rn.pc at aA;dsimp only at aA;go_wp2_with fail;(with_reducible refine(lB.out _).mono ?_);rintro e w6 ⟨rfl,fO⟩;have KN:=aa (jd.out.more fO);have KU:=aa (oG.out.trans (bV.ext fO p mC));clear fO aA bh aU;obtain⟨aA,bh,aU⟩:=af.aK KN.out.blk;unfold bp Mo.Rn.pc at aA;dsimp only at aA;go_wp2_with fail;refine(K0.out _ mC ?_).mono ?_
   ·exact RN.leaf KN.out s o {KN.out.tk with} KN.out.op rfl
   ·rintro e w7 ⟨rfl,hX⟩;have HX:=aa hX;clear hX;go_wp2_with fail;go_end0;refine bY.then KU.out (bY.after ⟨rfl,HX.out⟩ ?_);exact P7
theorem FK(H:RN w X p c A n k t m q r s o)(HB:Mo.RB c N r)(hN:N<=100000)(hq:q<=900000)(h1:29<=r.k.pc):Calls prog 117 #[.pointer p] w (bY X p c A n k t m (q+1) (Mo.Rn.waits c t r) w):=by
 by_cases h2:r.k.pc<=34
 ·rcases(by omega:r.k.pc=29\/r.k.pc=30\/r.k.pc=31\/r.k.pc=32\/r.k.pc=33\/r.k.pc=34)with h|h|h|h|h|h
  ·exact OP H HB hq h
  ·exact OI H HB hN hq h
  ·exact OL H HB hN hq h
  ·exact OJ H HB hq h
  ·exact OM H hq h
  ·exact OO H hq h
 ·have HLK:=aa (FJ H HB hq ae);have h3:=HB.f.a.1.2;obtain⟨aA,-,aU⟩:=af.aK H.blk;unfold bp at aA;clear H HB;have hk:∀j:Int,j<=34->(r.k.pc==j)=false:=fun j hj=>by rw[cq];omega
  have k29:=hk 29 ah;have k30:=hk 30 ah;have k31:=hk 31 ah;have k32:=hk 32 ah;have k33:=hk 33 ah;have k34:=hk 34 ah;clear hk h1 h2 h3;go_enter func117,ntmps117;go_wp2_with fail;refine HLK.mono ?_;rintro e w3 ⟨rfl,hX⟩;have HX:=aa hX;clear hX;go_wp2_with fail;go_end0;exact⟨rfl,HX⟩
end
section
variable{w:World} {X:Nat->Prop} {p:Nat} {c:Mo.bH} {A:Option Addr} {n k:Nat} {t:Int} {m:Mm} {q:Nat} {r:Mo.Rn} {s:Sh} {o:Sl} {N:Int}
theorem zk(q:Mo.Rq)(ph:Int):kf q.kind q.arg q.value q.dflt q.cases ph=Mo.jH q ph:=by unfold kf Mo.jH;simp only[dI];rfl
theorem OQ(H:RN w X p c A n k t m q r s o)(hq:q<=900000) :
 Calls prog 171 #[.pointer (some ⟨m.g,0,none⟩),t,.int .i64 2,.int .u64 1] w (Zh X p c A n k t m (q+1) (r.store 2 ((Mo.ax r.L 2+1)%18446744073709551616)) s o (.tuple #[.int .u64 (Mo.ax r.L 2),oZ]) w):=by
 have h2:(2:Int)<Mo.bo c:=by have h:=(cZ H.cs.dL H.cs.t0 H.cs.t1).1.2;have:=H.cs.t0;unfold Mo.lN at h;omega
 obtain⟨j,hj,hx⟩:=H.word (a:=2) ah h2
 have hj2:j=2:=ae
 subst hj2
 refine(Ru _ 0 m.g m.vl m.vg m.vc r.L m.G m.C m.kp t 2 _ 1 H.mem.mv H.mem.cl (bm H.mem.gl ae) H.DF hx).mono ?_
 rintro e w1 ⟨rfl,hN⟩
 obtain⟨m1,H1,F1⟩:=H.acc hN (cK)
 refine⟨rfl,m1,?_,F1⟩
 unfold Mo.Rn.store
 rw[show Mo.setAt r.L 2 ((Mo.ax r.L 2+1)%18446744073709551616)=r.L.set 2 ((Mo.ax r.L 2+1)%18446744073709551616)from Mo.tJ r.L 2 _]
 rw[ig]at H1
 exact H1
theorem CW(H:RN w X p c A n k t m q r s o)(HB:Mo.RB c N r)(Gv:c.bn<=1048575)(hq:q<=900000)(bM:r.k.pc=18):Calls prog 113 #[.pointer p] w (bY X p c A n k t m (q+1) (Mo.Rn.bT c t r) w):=by
 have ha:=(cZ H.cs.dL H.cs.t0 H.cs.t1).1;have hse:=HB.k.seq;have hwr:IntKind.u64.wrap r.k.seq=r.k.seq:=zj hse.1 ae;have HA:=aa (fun wx=>wF wx H.cs.dL A k n t H.cs.t0 (by have:=H.cs.t1;have:=H.cs.th;omega));have HST:=aa (fun wx (h:RN wx X p c A n k t m q r s o)=>eh h hq (Mo.lN c t) r.k.seq ha.1 ha.2);have hE:Mo.Rn.bT c t r={r.store (Mo.lN c t) r.k.seq with k:={r.k with slow:=true,round:=1,pc:=3}}:=by unfold Mo.Rn.bT;rw[ai ae,ai ae,au bM]
 rw[hE];have HH:=aa H;obtain⟨fp,fL,cB,HFm,aU⟩:=H.stand;have aT:=HH.cx;unfold bp at aT;obtain⟨aA,bh,-⟩:=af.aK HH.blk;unfold bp at aA;rw[bM]at aA;clear H ha hE bM HB hse Gv;go_enter func113,ntmps113;exact abL
theorem CX(H:RN w X p c A n k t m q r s o)(HB:Mo.RB c N r)(hq:q<=900000)(bM:r.k.pc=19):Calls prog 113 #[.pointer p] w (bY X p c A n k t m (q+1) (Mo.Rn.bT c t r) w):=by
 have ha:=(cZ H.cs.dL H.cs.t0 H.cs.t1).2.2.2.1;have hw:=HB.L.at_ (Mo.cn c t);have HA:=aa (fun wx=>je wx H.cs.dL A k n t H.cs.t0 (by have:=H.cs.t1;have:=H.cs.th;omega));have j5:=aa (fun wx (h:RN wx X p c A n k t m q r s o)=>cg h hq _ ha.1);have hE:Mo.Rn.bT c t r={r with k:={r.k with res:=Mo.cS (Mo.ax r.L (Mo.cn c t)),pc:=20}}:=by unfold Mo.Rn.bT;rw[ai ae,ai ae,ai ae,au bM]
 rw[hE];obtain⟨x,hx⟩:=aD (Mo.ax r.L (Mo.cn c t));rw[<-hx]at j5 hw ⊢;have lB:=aa (fun wx=>ke wx x hw.1 hw.2);rw[show rS x=(Mo.cS x).seq from rfl,show rC x=(Mo.cS x).cs from rfl,show rO x=(Mo.cS x).code from rfl,show rV x=(Mo.cS x).value from rfl]at lB;have HH:=aa H;obtain⟨fp,fL,cB,HFm,aU⟩:=H.stand;obtain⟨aT,py,kB,hlx⟩:=HH.DG 27 31;unfold bp at aT;obtain⟨aA,bh,-⟩:=af.aK HH.blk;unfold bp at aA;rw[bM]at aA;clear H ha hE bM HB hx hw;go_enter func113,ntmps113;go_wp2_with fail;clear aA bh;go_region_held3(RX w p m 27 31) (exact ft) (first
  |((with_reducible refine(HA.out _).mono ?_);rintro e wA ⟨rfl,bN⟩;have kC:=RX.below bE bN;(try have lL:=cB.out _ _ bE bN);(try have mn:=HFm.out _ _ bE bN))
  |((with_reducible refine(j5.out _ bE).mono ?_);rintro e wC ⟨rfl,mC,hC,fC⟩;have iT:=RX.acc bE HH.out.blk fC (hC.kept fC rfl);have dG:=bV.trans bE fC)
  |((with_reducible refine(lB.out _).mono ?_);rintro e wD ⟨rfl,nB⟩;have Hd:=RX.below bE nB;have hD:=hC.more nB;have xm:=bV.trans dG (bV.ext nB p mC)))
 all_goals
  have HR:=aa hD;have HF:=aa xm;clear hC fC dG hD xm aT py kB hlx aU;exact X6
theorem CY(H:RN w X p c A n k t m q r s o)(HB:Mo.RB c N r)(hq:q<=900000)(bM:r.k.pc=16):Calls prog 113 #[.pointer p] w (bY X p c A n k t m (q+1) (Mo.Rn.bT c t r) w):=by
 have hw:=HB.L.at_ 2;have lO:r.k.aQ.cases.length<=9223372036854775807:=by have h:=HB.f.aQ ae;unfold Mo.bt at h;simp only[dI,cU]at h;omega
 have HAD:=aa (fun wx (h:RN wx X p c A n k t m q r s o)=>OQ h hq);have hE:Mo.Rn.bT c t r={r.store 2 ((Mo.ax r.L 2+1)%18446744073709551616)with k:={r.k with args:=Mo.jH r.k.aQ (Mo.ax r.L 2%4294967296),j:=0,pc:=17}}:=by unfold Mo.Rn.bT;rw[au bM]
 rw[hE];obtain⟨x,hx⟩:=aD (Mo.ax r.L 2);rw[<-hx]at HAD hw ⊢;have hxi:wrap64 (bits BinOp.and IntKind.u64 x 4294967295)=x%4294967296:=by rw[zC x hw.1 hw.2];exact IntWalk.wrap64_in _ ae
 have HXI:=aa hxi;clear hxi;have gu:=aa (fun wx mx (h:RN wx X p c A n k t mx (q+1) (r.store 2 ((x+1)%18446744073709551616)) s o)=>vy wx r.k.aQ.kind r.k.aQ.arg r.k.aQ.value r.k.aQ.dflt s.cs.A s.cs.c r.k.aQ.cases (x%4294967296) lO h.tk.cs.1);obtain⟨a1,ha1⟩:=aD (Mo.jH r.k.aQ (x%4294967296));rw[zk r.k.aQ, <-ha1]at gu;rw[<-ha1];clear ha1;have HH:=aa H;obtain⟨fp,fL,cB,HFm,aU⟩:=H.stand;have aT:=HH.cx;unfold bp at aT;obtain⟨aA,bh,-⟩:=af.aK HH.blk;unfold bp at aA;rw[bM]at aA;clear H hE bM HB hx hw;go_enter func113,ntmps113;go_wp2_with fail;clear aA bh;go_region_held3(RX w p m 0 0) (exact ft) (first
  |((with_reducible refine(HAD.out _ bE).mono ?_);rintro e wC ⟨rfl,mC,hC,fC⟩;have iT:=RX.acc bE HH.out.blk fC (hC.kept fC rfl);have dG:=bV.trans bE fC))
 all_goals
  have HR:=aa hC;have HF:=aa dG;clear hC fC dG aT aU;obtain⟨aA,bh,aU⟩:=af.aK HR.blk;unfold bp Mo.Rn.store at aA;dsimp only at aA;go_wp2_with fail;rw[HXI.out];refine(gu _ mC HR).mono ?_;rintro e w2 ⟨B,d,rfl,ho,hb⟩;have g9:=aa (HR.more hb);have p3:=aa (HF.trans (bV.ext hb p mC));have HO:=aa ho;have rW:Hid (∀b,wC.heap.size<=b->b<w2.heap.size->Im w2 X p mC b):=fun b h0 h1=>Im.fresh HR h0 h1;clear aA bh aU ho hb;obtain⟨aA,bh,aU⟩:=af.aK g9.blk;unfold bp Mo.Rn.store at aA;dsimp only at aA;go_wp2_with fail;go_end0;refine bY.then p3 ?_;exact bY.leaf g9 {s with ar:=⟨B,d⟩} o {g9.tk with ar:=⟨HO.pU.2,fun ad ha _=>by subst ha;exact rW.out _ (aX HO rfl).1 (aX HO rfl).2⟩,la:=HO.cap.2} g9.op rfl
theorem CZ(H:RN w X p c A n k t m q r s o)(HB:Mo.RB c N r)(hq:q<=900000)(bM:r.k.pc=17):Calls prog 113 #[.pointer p] w (bY X p c A n k t m (q+1) (Mo.Rn.bT c t r) w):=by
 obtain⟨LP,hj0,hj5⟩:r.k.args.length=5/\0<=r.k.j/\r.k.j<5:=by have h:=HB.f.a;unfold Mo.lA at h;have h1:=h.2.2.2.2.2.2.2.2 bM;have h2:=HB.k.j;omega
 obtain⟨jn,hj⟩:∃jn:Nat,r.k.j=jn:=⟨r.k.j.toNat,ae⟩
 have hlt:jn<r.k.args.length:=ae;have CE:(jn:Int)<5:=ae;obtain⟨ad,z,hA,hz,TU⟩:=H.tk.ar.1.at_ (i:=jn) hlt;have ha:=(cZ H.cs.dL H.cs.t0 H.cs.t1).2.2.2.2 jn ae ae;have jC:=H.cs.DF;have e1:IntKind.i64.wrap (Mo.iK c t+jn)=Mo.iK c t+jn:=jB ae ae;have hzw:Mo.ax r.k.args jn=z:=by unfold Mo.ax;rw[ai ae,fF,eR,hz];rfl
 have HA:=aa (fun wx=>yS wx H.cs.dL A k n t H.cs.t0 (by have:=H.cs.t1;have:=H.cs.th;omega));have HST:=aa (fun wx (h:RN wx X p c A n k t m q r s o)=>eh h hq (Mo.iK c t+jn) z ha.1 ha.2);have hE:Mo.Rn.bT c t r={r.store (Mo.iK c t+jn) z with k:={r.k with j:=(jn:Int)+1,pc:=if(jn:Int)+1=5 then 18 else 17}}:=by unfold Mo.Rn.bT;rw[ai ae,au bM,hj,hzw]
 have HH:=aa H;obtain⟨fp,fL,cB,HFm,aU⟩:=H.stand;have aT:=HH.cx;unfold bp at aT;obtain⟨aA,bh,-⟩:=af.aK HH.blk;unfold bp at aA;rw[bM]at aA;have eO:∀wx,RX w p m 0 0 wx->wx.cell? (ad.add jn)=some (.int .u64 z):=fun wx hx=>by
  have h:=(HH.tk.ar.same fun b hb=>hx.eq b hb.1 hb.2.1 hb.2.2.1).1
  obtain⟨ad',z',h1,h2,h3⟩:=h.at_ (i:=jn) hlt
  rw[hA]at h1
  rw[hz]at h2
  injection h1 with h1;injection h2 with h2
  rw[h1,h2];exact h3
 rw[hj,hA]at aA aT;have HJ:=aa hj;clear H ha HB hj hj0 hj5 hz hzw jC TU;by_cases h5:(jn:Int)+1=5
 ·have X7:((jn:Int)+1==5)=true:=by rw[h5];rfl
  have om:Mo.Rn.bT c t r={r.store (Mo.iK c t+jn) z with k:={r.k with j:=(jn:Int)+1,pc:=18}}:=by rw[hE,au h5]
  exact abM
 ·have X7:((jn:Int)+1==5)=false:=by rw[cq];exact h5
  have om:Mo.Rn.bT c t r={r.store (Mo.iK c t+jn) z with k:={r.k with j:=(jn:Int)+1}}:=by rw[hE,ai h5];dsimp only;rw[bM]
  exact abM
theorem ye(H:RN w X p c A n k t m q r s o)(HB:Mo.RB c N r)(Gv:c.bn<=1048575)(hq:q<=900000)(h1:16<=r.k.pc)(h2:r.k.pc<=19):Calls prog 113 #[.pointer p] w (bY X p c A n k t m (q+1) (Mo.Rn.bT c t r) w):=by
 rcases(by omega:r.k.pc=16\/r.k.pc=17\/r.k.pc=18\/r.k.pc=19)with h|h|h|h
 ·exact CY H HB hq h
 ·exact CZ H HB hq h
 ·exact CW H HB Gv hq h
 ·exact CX H HB hq h
end
section
variable{w:World} {X:Nat->Prop} {p:Nat} {c:Mo.bH} {A:Option Addr} {n k:Nat} {t:Int} {m:Mm} {q:Nat} {r:Mo.Rn} {s:Sh} {o:Sl} {N:Int}
theorem C0{x:Int}(hx:Mo.r9 x):yz (rS x) (rO x)=Mo.VE (Mo.cS x):=by
 have h1:0<=rS x/\rS x<1048576:=by have h2:=hx.1;have h3:=hx.2;unfold rS;omega
 unfold yz;rw[IntWalk.wrap64_in (2*rS x) ae,IntWalk.wrap64_in (2*rS x+1) ae];rfl
theorem xn{x y:Int}(hx:Mo.r9 x)(hy:Mo.r9 y):zF x y=Mo.behind x y:=by unfold zF Mo.behind;rw[C0 hx,C0 hy]
theorem SR(H:RN w X p c A n k t m q r s o)(hq:q<=900000)(bM:r.k.pc=20):Calls prog 114 #[.pointer p] w (bY X p c A n k t m (q+1) (Mo.Rn.ends c t r) w):=by
 have ha:=(cZ H.cs.dL H.cs.t0 H.cs.t1).2.2.2.1;have HA:=aa (fun wx=>je wx H.cs.dL A k n t H.cs.t0 (by have:=H.cs.t1;have:=H.cs.th;omega));have hz:=(cZ H.cs.dL H.cs.t0 H.cs.t1).2.1;have HZ:=aa (fun wx=>oY wx H.cs.dL A k n t H.cs.t0 (by have:=H.cs.t1;have:=H.cs.th;omega));have HST:=aa (fun wx (h:RN wx X p c A n k t m q r s o)=>eh h hq (Mo.gZ c t) 0 hz.1 hz.2);have hE:Mo.Rn.ends c t r={r.store (Mo.gZ c t) 0 with k:={r.k with cu:=0,pc:=if r.k.gF=true then 21 else 22}}:=by unfold Mo.Rn.ends;rw[au bM]
 have HH:=aa H;obtain⟨fp,fL,cB,HFm,aU⟩:=H.stand;have aT:=HH.cx;unfold bp at aT;obtain⟨aA,bh,-⟩:=af.aK HH.blk;unfold bp at aA;rw[bM]at aA;clear H ha hz;rcases X8:r.k.gF with _|_
 ·have om:Mo.Rn.ends c t r={r.store (Mo.gZ c t) 0 with k:={r.k with cu:=0,pc:=22}}:=by rw[hE,ai (by rw[X8];decide)]
  exact abN
 ·have om:Mo.Rn.ends c t r={r.store (Mo.gZ c t) 0 with k:={r.k with cu:=0,pc:=21}}:=by rw[hE,au X8]
  exact abN
theorem SU(H:RN w X p c A n k t m q r s o)(HB:Mo.RB c N r)(hq:q<=900000)(bM:r.k.pc=22):Calls prog 114 #[.pointer p] w (bY X p c A n k t m (q+1) (Mo.Rn.ends c t r) w):=by
 have ha:=(cZ H.cs.dL H.cs.t0 H.cs.t1).2.2.2.1;have HA:=aa (fun wx=>je wx H.cs.dL A k n t H.cs.t0 (by have:=H.cs.t1;have:=H.cs.th;omega));have hx0:=HB.L.at_ (Mo.cn c t);have j5:=aa (fun wx (h:RN wx X p c A n k t m q r s o)=>cg h hq _ ha.1);obtain⟨x,hx⟩:∃x,x=Mo.ax r.L (Mo.cn c t):=⟨_,rfl⟩
 have hE:Mo.Rn.ends c t r=if Mo.behind x (Mo.fQ r.k.res)=false then Mo.Rn.owned c ({r with k:={r.k with word:=x}}:Mo.Rn)else({r with k:={r.k with word:=x}}:Mo.Rn).pc 23:=by unfold Mo.Rn.ends;rw[ai (by omega),ai (by omega),au bM, <-hx]
 rw[<-hx]at j5 hx0;have uL:=Mo.rk r.k.res;obtain⟨y,hy⟩:∃y,y=Mo.fQ r.k.res:=⟨_,rfl⟩
 rw[<-hy]at hE uL;have zZ:=aa (fun wx=>qj wx r.k.res.seq r.k.res.cs r.k.res.code r.k.res.value);rw[show DW r.k.res.seq r.k.res.cs r.k.res.code r.k.res.value=Mo.fQ r.k.res from rfl, <-hy]at zZ;have SV:=aa (fun wx=>vu wx x y hx0.1 hx0.2 uL.1 uL.2);rw[xn hx0 uL]at SV;have HH:=aa H;obtain⟨fp,fL,cB,HFm,aU⟩:=H.stand;have aT:=HH.out.cx;unfold bp at aT;obtain⟨aA,bh,-⟩:=af.aK HH.out.blk;unfold bp at aA;rw[bM]at aA;clear H ha hx hy HB hx0 uL;rcases hbh:Mo.behind x y with _|_
 ·have om:Mo.Rn.ends c t r=Mo.Rn.owned c ({r with k:={r.k with word:=x}}:Mo.Rn):=by rw[hE];dsimp only;rw[hbh];rfl
  rw[om];clear hE om;rw[hbh]at SV;have HOW:=aa (fun wx mx (h:RN wx X p c A n k t mx (q+1) {r with k:={r.k with word:=x}} s o)=>qJ h);go_enter func114,ntmps114;go_wp2_with fail;clear aA bh;go_region_held3(RX w p m 0 0) (exact ft) (first
   |((with_reducible refine(HA.out _).mono ?_);rintro e wA ⟨rfl,bN⟩;have kC:=RX.below (by assumption) bN;(try have lL:=cB.out _ _ (by assumption) bN);(try have mn:=HFm.out _ _ (by assumption) bN)))
  all_goals
   have ir:=aa lL;have sw:=aa mn;clear aT aU fp fL cB HFm bN kC lL mn;have aU:=ir.out.lt;obtain⟨aA,bh,-⟩:=af.aK ir.out.blk;unfold bp at aA;rw[bM]at aA;go_wp2_with fail;(with_reducible refine(j5.out _ ir.out).mono ?_);rintro e w1 ⟨rfl,m1,H1,F1⟩;have gI:=aa H1;have sj:=aa (sw.out.trans F1);clear H1 F1 aA bh aU ir sw;obtain⟨aA,bh,aU⟩:=af.aK gI.out.blk;unfold bp at aA;go_upto_region 12 with fail
   clear aA bh aU;have jK:RN (w1.setCell ⟨p,18,none⟩ (.int .u64 x)) X p c A n k t m1 (q+1) {r with k:={r.k with word:=x}} s o:=RN.leaf gI.out s o {gI.out.tk with} gI.out.op rfl;have H2:=aa jK;have nv:=aa (((fe.refl w1 p).set 18 (.int .u64 x)).fr m1);clear jK;generalize(w1.setCell ⟨p,18,none⟩ (.int .u64 x))=w2 at *;have fP:=aa H2.out;obtain⟨fp,fL,cB,HFm,aU⟩:=H2.out.stand;have aT:=fP.out.cx;unfold bp at aT;dsimp only at aT;go_wp2_with fail;go_region_held3(RX w2 p m1 0 0) (exact ft) (first
    |((with_reducible refine(zZ.out _).mono ?_);rintro e wB ⟨rfl,dE⟩;have lK:=RX.below (by assumption) dE;(try have xI:=cB.out _ _ (by assumption) dE);(try have pA:=HFm.out _ _ (by assumption) dE))
    |((with_reducible refine(SV.out _).mono ?_);rintro e wC ⟨rfl,Aq⟩;have iT:=RX.below (by assumption) Aq;(try have Fk:=cB.out _ _ (by assumption) Aq);(try have dG:=HFm.out _ _ (by assumption) Aq)))
   all_goals
    have HR:=aa Fk;have HF:=aa ((sj.out.trans nv.out).trans dG);clear aT aU Fk dG iT Aq dE xI pA lK;obtain⟨aA,bh,aU⟩:=af.aK HR.out.blk;unfold bp at aA;dsimp only at aA;go_wp2_with fail;refine(HOW.out _ _ HR.out).mono ?_;rintro e w3 ⟨rfl,hX⟩;have HX:=aa hX;clear hX;go_wp2_with fail;refine bodyPost_ret (v:=.tuple #[]) (by simp[results,results114,go_sem]) rfl ?_;exact bY.then HF.out ⟨rfl,HX.out⟩
 ·have om:Mo.Rn.ends c t r=({r with k:={r.k with word:=x}}:Mo.Rn).pc 23:=by rw[hE];dsimp only;rw[hbh];rfl
  rw[om];clear hE om;rw[hbh]at SV;go_enter func114,ntmps114;go_wp2_with fail;clear aA bh;go_region_held3(RX w p m 0 0) (exact ft) (first
   |((with_reducible refine(HA.out _).mono ?_);rintro e wA ⟨rfl,bN⟩;have kC:=RX.below (by assumption) bN;(try have lL:=cB.out _ _ (by assumption) bN);(try have mn:=HFm.out _ _ (by assumption) bN)))
  all_goals
   have ir:=aa lL;have sw:=aa mn;clear aT aU fp fL cB HFm bN kC lL mn;have aU:=ir.out.lt;obtain⟨aA,bh,-⟩:=af.aK ir.out.blk;unfold bp at aA;rw[bM]at aA;go_wp2_with fail;(with_reducible refine(j5.out _ ir.out).mono ?_);rintro e w1 ⟨rfl,m1,H1,F1⟩;have gI:=aa H1;have sj:=aa (sw.out.trans F1);clear H1 F1 aA bh aU ir sw;obtain⟨aA,bh,aU⟩:=af.aK gI.out.blk;unfold bp at aA;go_upto_region 12 with fail
   clear aA bh aU;have jK:RN (w1.setCell ⟨p,18,none⟩ (.int .u64 x)) X p c A n k t m1 (q+1) {r with k:={r.k with word:=x}} s o:=RN.leaf gI.out s o {gI.out.tk with} gI.out.op rfl;have H2:=aa jK;have nv:=aa (((fe.refl w1 p).set 18 (.int .u64 x)).fr m1);clear jK;generalize(w1.setCell ⟨p,18,none⟩ (.int .u64 x))=w2 at *;have fP:=aa H2.out;obtain⟨fp,fL,cB,HFm,aU⟩:=H2.out.stand;have aT:=fP.out.cx;unfold bp at aT;dsimp only at aT;go_wp2_with fail;go_region_held3(RX w2 p m1 0 0) (exact ft) (first
    |((with_reducible refine(zZ.out _).mono ?_);rintro e wB ⟨rfl,dE⟩;have lK:=RX.below (by assumption) dE;(try have xI:=cB.out _ _ (by assumption) dE);(try have pA:=HFm.out _ _ (by assumption) dE))
    |((with_reducible refine(SV.out _).mono ?_);rintro e wC ⟨rfl,Aq⟩;have iT:=RX.below (by assumption) Aq;(try have Fk:=cB.out _ _ (by assumption) Aq);(try have dG:=HFm.out _ _ (by assumption) Aq)))
   all_goals
    have HR:=aa Fk;have HF:=aa ((sj.out.trans nv.out).trans dG);clear aT aU Fk dG iT Aq dE xI pA lK;obtain⟨aA,bh,aU⟩:=af.aK HR.out.blk;unfold bp at aA;dsimp only at aA;go_wp2_with fail;go_end0;refine bY.then HF.out ?_;exact bY.leaf HR.out s o {HR.out.tk with} HR.out.op rfl
theorem SX(H:RN w X p c A n k t m q r s o)(HB:Mo.RB c N r)(hN:N<=100000)(hq:q<=900000)(bM:r.k.pc=23):Calls prog 114 #[.pointer p] w (bY X p c A n k t m (q+1) (Mo.Rn.ends c t r) w):=by
 have ha:=(cZ H.cs.dL H.cs.t0 H.cs.t1).2.2.2.1;have HA:=aa (fun wx=>je wx H.cs.dL A k n t H.cs.t0 (by have:=H.cs.t1;have:=H.cs.th;omega));have htr:0<=r.k.cu/\r.k.cu<=100000:=by have:=HB.k.tr;omega
 obtain⟨y,hy⟩:∃y,y=Mo.fQ r.k.res:=⟨_,rfl⟩
 obtain⟨x,hx⟩:∃x,x=Mo.ax r.L (Mo.cn c t):=⟨_,rfl⟩
 have sk:=aa (fun wx (h:RN wx X p c A n k t m q r s o)=>nu h hq (Mo.cn c t) r.k.word y ha.1 ha.2);have hE:Mo.Rn.ends c t r=if x=r.k.word\/r.k.cu+1=2 then Mo.Rn.owned c ({(if x=r.k.word then r.store (Mo.cn c t) y else r)with k:={r.k with cu:=r.k.cu+1,pc:=22}}:Mo.Rn)else({(if x=r.k.word then r.store (Mo.cn c t) y else r)with k:={r.k with cu:=r.k.cu+1,pc:=22}}:Mo.Rn):=by unfold Mo.Rn.ends;rw[ai (by omega),ai (by omega),ai (by omega),au bM, <-hx, <-hy]
 rw[<-hx]at sk;have zZ:=aa (fun wx=>qj wx r.k.res.seq r.k.res.cs r.k.res.code r.k.res.value);rw[show DW r.k.res.seq r.k.res.cs r.k.res.code r.k.res.value=Mo.fQ r.k.res from rfl, <-hy]at zZ;have HH:=aa H;obtain⟨fp,fL,cB,HFm,aU⟩:=H.stand;have aT:=HH.out.cx;unfold bp at aT;obtain⟨aA,bh,-⟩:=af.aK HH.out.blk;unfold bp at aA;rw[bM]at aA;clear H ha hx hy HB hN;by_cases fM:x=r.k.word
 ·have oy:(x==r.k.word)=true:=by rw[fM];exact beq_self_eq_true _
  rw[au fM,oy]at sk;have om:Mo.Rn.ends c t r=Mo.Rn.owned c ({r.store (Mo.cn c t) y with k:={r.k with cu:=r.k.cu+1,pc:=22}}:Mo.Rn):=by rw[hE,au fM,au (.inl fM)]
  rw[om];clear hE om fM;have HOW:=aa (fun wx mx (h:RN wx X p c A n k t mx (q+1) ({r.store (Mo.cn c t) y with k:={r.k with cu:=r.k.cu+1,pc:=22}}:Mo.Rn) s o)=>qJ h);go_enter func114,ntmps114;go_wp2_with fail;clear aA bh;go_region_held3(RX w p m 0 0) (exact ft) (first
   |((with_reducible refine(HA.out _).mono ?_);rintro e wA ⟨rfl,bN⟩;have kC:=RX.below (by assumption) bN;(try have lL:=cB.out _ _ (by assumption) bN);(try have mn:=HFm.out _ _ (by assumption) bN)))
  all_goals
   have ir:=aa lL;have sw:=aa mn;clear aT aU fp fL cB HFm bN kC lL mn;have fP:=aa ir.out;obtain⟨fp,fL,cB,HFm,aU⟩:=ir.out.stand;have aT:=fP.out.cx;unfold bp at aT;obtain⟨aA,bh,-⟩:=af.aK ir.out.blk;unfold bp at aA;rw[bM]at aA;go_wp2_with fail;clear aA bh;go_region_held3(RX wA p m 0 0) (exact ft) (first
    |((with_reducible refine(zZ.out _).mono ?_);rintro e wB ⟨rfl,dE⟩;have lK:=RX.below (by assumption) dE;(try have xI:=cB.out _ _ (by assumption) dE);(try have pA:=HFm.out _ _ (by assumption) dE))
    |((with_reducible refine(sk.out _ (by assumption)).mono ?_);rintro e wC ⟨rfl,mC,hC,fC⟩;have iT:=RX.acc (by assumption) fP.out.blk fC (hC.kept fC rfl);have dG:=bV.trans (by assumption) fC))
   all_goals
    have HR:=aa hC;have HF:=aa (sw.out.trans dG);clear hC fC dG aT aU;obtain⟨aA,bh,aU⟩:=af.aK HR.out.blk;unfold bp at aA;unfold Mo.Rn.store at aA;dsimp only at aA;exact abO
 ·have oy:(x==r.k.word)=false:=by rw[cq];exact fM
  rw[ai fM,oy]at sk;by_cases h2:r.k.cu+1=2
  ·have h2':(r.k.cu+1==2)=true:=by rw[h2];rfl
   have om:Mo.Rn.ends c t r=Mo.Rn.owned c ({r with k:={r.k with cu:=r.k.cu+1,pc:=22}}:Mo.Rn):=by rw[hE,ai fM,au (.inr h2)]
   rw[om];clear hE om fM h2;have HOW:=aa (fun wx mx (h:RN wx X p c A n k t mx (q+1) ({r with k:={r.k with cu:=r.k.cu+1,pc:=22}}:Mo.Rn) s o)=>qJ h);go_enter func114,ntmps114;go_wp2_with fail;clear aA bh;go_region_held3(RX w p m 0 0) (exact ft) (first
    |((with_reducible refine(HA.out _).mono ?_);rintro e wA ⟨rfl,bN⟩;have kC:=RX.below (by assumption) bN;(try have lL:=cB.out _ _ (by assumption) bN);(try have mn:=HFm.out _ _ (by assumption) bN)))
   all_goals
    have ir:=aa lL;have sw:=aa mn;clear aT aU fp fL cB HFm bN kC lL mn;have fP:=aa ir.out;obtain⟨fp,fL,cB,HFm,aU⟩:=ir.out.stand;have aT:=fP.out.cx;unfold bp at aT;obtain⟨aA,bh,-⟩:=af.aK ir.out.blk;unfold bp at aA;rw[bM]at aA;go_wp2_with fail;clear aA bh;go_region_held3(RX wA p m 0 0) (exact ft) (first
     |((with_reducible refine(zZ.out _).mono ?_);rintro e wB ⟨rfl,dE⟩;have lK:=RX.below (by assumption) dE;(try have xI:=cB.out _ _ (by assumption) dE);(try have pA:=HFm.out _ _ (by assumption) dE))
     |((with_reducible refine(sk.out _ (by assumption)).mono ?_);rintro e wC ⟨rfl,mC,hC,fC⟩;have iT:=RX.acc (by assumption) fP.out.blk fC (hC.kept fC rfl);have dG:=bV.trans (by assumption) fC))
    all_goals
     have HR:=aa hC;have HF:=aa (sw.out.trans dG);clear hC fC dG aT aU;obtain⟨aA,bh,aU⟩:=af.aK HR.out.blk;unfold bp at aA;exact abO
  ·have h2':(r.k.cu+1==2)=false:=by rw[cq];exact h2
   have om:Mo.Rn.ends c t r=({r with k:={r.k with cu:=r.k.cu+1,pc:=22}}:Mo.Rn):=by rw[hE,ai fM,ai (fun h=>h.elim fM h2)]
   rw[om];clear hE om fM h2;go_enter func114,ntmps114;go_wp2_with fail;clear aA bh;go_region_held3(RX w p m 0 0) (exact ft) (first
    |((with_reducible refine(HA.out _).mono ?_);rintro e wA ⟨rfl,bN⟩;have kC:=RX.below (by assumption) bN;(try have lL:=cB.out _ _ (by assumption) bN);(try have mn:=HFm.out _ _ (by assumption) bN)))
   all_goals
    have ir:=aa lL;have sw:=aa mn;clear aT aU fp fL cB HFm bN kC lL mn;have fP:=aa ir.out;obtain⟨fp,fL,cB,HFm,aU⟩:=ir.out.stand;have aT:=fP.out.cx;unfold bp at aT;obtain⟨aA,bh,-⟩:=af.aK ir.out.blk;unfold bp at aA;rw[bM]at aA;go_wp2_with fail;clear aA bh;go_region_held3(RX wA p m 0 0) (exact ft) (first
     |((with_reducible refine(zZ.out _).mono ?_);rintro e wB ⟨rfl,dE⟩;have lK:=RX.below (by assumption) dE;(try have xI:=cB.out _ _ (by assumption) dE);(try have pA:=HFm.out _ _ (by assumption) dE))
     |((with_reducible refine(sk.out _ (by assumption)).mono ?_);rintro e wC ⟨rfl,mC,hC,fC⟩;have iT:=RX.acc (by assumption) fP.out.blk fC (hC.kept fC rfl);have dG:=bV.trans (by assumption) fC))
    all_goals
     have HR:=aa hC;have HF:=aa (sw.out.trans dG);exact UY
theorem fk{w:World}{p:Nat}(h:w.cell? ⟨p,i,none⟩=some v):VO w p i=v:=by unfold VO;rw[h];rfl
theorem SY(H:RN w X p c A n k t m q r s o)(HB:Mo.RB c N r)(hN:N<=100000)(hq:q<=900000)(bM:r.k.pc=21):Calls prog 114 #[.pointer p] w (bY X p c A n k t m (q+1) (Mo.Rn.ends c t r) w):=by
 have HA:=aa (fun wx=>je wx H.cs.dL A k n t H.cs.t0 (by have:=H.cs.t1;have:=H.cs.th;omega));have HL:=aa (fun wx (h:RN wx X p c A n k t m q r s o)=>cg h hq 1 ah);have hx0:=(HB.L.at_ 1).1;have hx1:=HB.g;have hE:Mo.Rn.ends c t r={r with k:={r.k with az:=Mo.lh r.k.az r.k.base (Mo.ax r.L 1),pc:=22}}:=by unfold Mo.Rn.ends;rw[ai ae,au bM]
 rw[hE];obtain⟨x,hx⟩:=aD (Mo.ax r.L 1);rw[<-hx]at HL hx0 hx1 ⊢;have DB:IntKind.i64.wrap x=x:=jB hx0 ae;have Zm:=aa (fun wx mx (h:RN wx X p c A n k t mx (q+1) r s o)=>Ma wx r.k.az s.fr.A s.fr.c s.ol.A s.ol.c (h.Zi HB.k.az hN) r.k.base.ix r.k.base.tag x);unfold kJ at Zm;obtain⟨P1,sX⟩:=aD (Mo.lh r.k.az r.k.base x);rw[show Mo.lh r.k.az ⟨r.k.base.ix,r.k.base.tag⟩ x=Mo.lh r.k.az r.k.base x from rfl, <-sX]at Zm;rw[<-sX];have HH:=aa H;obtain⟨fp,fL,cB,HFm,aU⟩:=H.stand;have aT:=HH.cx;unfold bp at aT;obtain⟨aA,bh,-⟩:=af.aK HH.blk;unfold bp at aA;rw[bM]at aA;clear H hE hx HB hx0 hx1 hN sX;go_enter func114,ntmps114;go_wp2_with fail;clear aA bh;go_region_held3(RX w p m 0 0) (exact ft) (first
  |((with_reducible refine(HA.out _).mono ?_);rintro e wA ⟨rfl,bN⟩;have kC:=RX.below bE bN;(try have lL:=cB.out _ _ bE bN);(try have mn:=HFm.out _ _ bE bN)))
 all_goals
  have ir:=aa lL;have sw:=aa mn;clear aT aU fp fL cB HFm bN kC lL mn;have fP:=aa ir;obtain⟨fp,fL,cB,HFm,aU⟩:=ir.stand;obtain⟨aT,py,kB,hlx⟩:=fP.DG 22 27;unfold bp at aT;obtain⟨aA,bh,-⟩:=af.aK ir.blk;unfold bp at aA;rw[bM]at aA;go_wp2_with fail;have U0:wA.drew.cell? ⟨p,22,none⟩=some (.int .i64 r.k.az.own.ix):=aA 22;have U3:wA.drew.cell? ⟨p,23,none⟩=some (.int .i64 r.k.az.own.tag):=aA 23;have U4:wA.drew.cell? ⟨p,24,none⟩=some (.slice s.fr.A r.k.az.free.length s.fr.c):=aA 24;have U5:wA.drew.cell? ⟨p,25,none⟩=some (.slice s.ol.A r.k.az.old.length s.ol.c):=aA 25;have U6:wA.drew.cell? ⟨p,26,none⟩=some (.int .i64 r.k.az.spent):=aA 26;clear aA bh;refine wp_region_held_drew (S:=(RX wA p m 22 27)) (by kernel_rfl) (RX.start fP.blk _ _ _) (fun hHeld=>?_);refine aO 0 bE ?_;(try simp only[aC]);refine aO 1 bE ?_;(try simp only[aC]);refine aO 2 bE ?_;(try simp only[aC]);refine aO 3 bE ?_;(try simp only[aC]);refine aO 4 bE ?_;(try simp only[aC]);refine aO 6 bE ?_;(try simp only[aC]);refine aO 7 bE ?_;(try simp only[aC]);refine aO 8 bE ?_;(try simp only[aC]);refine aO 9 bE ?_;(try simp only[aC]);refine aO 10 bE ?_;(try simp only[aC]);refine aO 11 bE ?_;(try simp only[aC]);refine wpAnyH_ready (rs:=[5,12]) (by kernel_rfl) aF ?_;refine(AllReadyH.cons (o:=⟨some 55,_,_,_,_,_⟩) rfl (fun K hK=>?_) (AllReadyH.cons (o:=⟨some 62,_,_,_,_,_⟩) rfl (fun K hK=>?_) AllReadyH.nil))
  ·
   go_simp
   refine hK.out _ _ ft (fun hHeld=>?_)
   clear hK K
   (try simp only[aC])
   refine dJ 12 (fun K hK=>?_)
   go_simp
   ((with_reducible refine(HL.out _ bE).mono ?_);rintro e wC ⟨rfl,mC,hC,fC⟩;have iT:=RX.acc bE fP.out.blk fC (hC.kept fC rfl);have dG:=bV.trans bE fC;have He:=fun i=>af.cell hC.blk i;unfold bp at He;have d22:wC.cell? ⟨p,22,none⟩=some (.int .i64 r.k.az.own.ix):=He 22;have d23:wC.cell? ⟨p,23,none⟩=some (.int .i64 r.k.az.own.tag):=He 23;have d24:wC.cell? ⟨p,24,none⟩=some (.slice s.fr.A r.k.az.free.length s.fr.c):=He 24;have d25:wC.cell? ⟨p,25,none⟩=some (.slice s.ol.A r.k.az.old.length s.ol.c):=He 25;have d26:wC.cell? ⟨p,26,none⟩=some (.int .i64 r.k.az.spent):=He 26)
   go_wp2_with fail
   refine hK.out _ _ ft (fun hHeld=>?_)
   clear hK K
   (try simp only[aC])
   refine aO 13 bE ?_
   exact abP
  ·
   go_simp
   ((with_reducible refine(HL.out _ bE).mono ?_);rintro e wC ⟨rfl,mC,hC,fC⟩;have iT:=RX.acc bE fP.out.blk fC (hC.kept fC rfl);have dG:=bV.trans bE fC;have He:=fun i=>af.cell hC.blk i;unfold bp at He;have d22:wC.cell? ⟨p,22,none⟩=some (.int .i64 r.k.az.own.ix):=He 22;have d23:wC.cell? ⟨p,23,none⟩=some (.int .i64 r.k.az.own.tag):=He 23;have d24:wC.cell? ⟨p,24,none⟩=some (.slice s.fr.A r.k.az.free.length s.fr.c):=He 24;have d25:wC.cell? ⟨p,25,none⟩=some (.slice s.ol.A r.k.az.old.length s.ol.c):=He 25;have d26:wC.cell? ⟨p,26,none⟩=some (.int .i64 r.k.az.spent):=He 26)
   go_wp2_with fail
   refine hK.out _ _ ft (fun hHeld=>?_)
   clear hK K
   (try simp only[aC])
   refine aO 13 bE ?_
   (try simp only[aC])
   refine dJ 5 (fun K hK=>?_)
   go_simp
   refine hK.out _ _ ft (fun hHeld=>?_)
   clear hK K
   exact abP
theorem Kb(H:RN w X p c A n k t m q r s o)(HB:Mo.RB c N r)(hN:N<=100000)(hq:q<=900000)(h1:20<=r.k.pc)(h2:r.k.pc<=23):Calls prog 114 #[.pointer p] w (bY X p c A n k t m (q+1) (Mo.Rn.ends c t r) w):=by
 rcases(by omega:r.k.pc=20\/r.k.pc=21\/r.k.pc=22\/r.k.pc=23)with h|h|h|h
 ·exact SR H hq h
 ·exact SY H HB hN hq h
 ·exact SU H HB hq h
 ·exact SX H HB hN hq h
end
section
variable{w:World} {X:Nat->Prop} {p:Nat} {c:Mo.bH} {A:Option Addr} {n k:Nat} {t:Int} {m:Mm} {q:Nat} {r:Mo.Rn} {s:Sh} {o:Sl} {N:Int}
theorem Kc(H:RN w X p c A n k t m q r s o)(HB:Mo.RB c N r)(hown:0<=r.k.az.own.ix/\r.k.az.own.ix<Mo.bI c)(hq:q<=900000)(bM:r.k.pc=13):Calls prog 112 #[.pointer p] w (bY X p c A n k t m (q+1) (Mo.Rn.writes c t r) w):=by
 have eo:=HB.k.az.own;unfold Mo.ur at eo;have uj:=lH H.cs.dL hown.1 hown.2;have jC:=H.cs.DF;have kO:=aa (fun wx (h:RN wx X p c A n k t m q r s o)=>jg h r.k.az.own.ix r.k.az.own.tag ae ae);obtain⟨a,ha⟩:=aD (Mo.bA c r.k.az.own.ix);rw[<-ha]at kO uj;have htw:IntKind.u64.wrap r.k.az.own.tag=r.k.az.own.tag:=zj ae ae;have HST:=aa (fun wx (h:RN wx X p c A n k t m q r s o)=>eh h hq a r.k.az.own.tag uj.1.1 uj.1.2);have hE:Mo.Rn.writes c t r=(r.store a r.k.az.own.tag).pc 14:=by unfold Mo.Rn.writes;dsimp only;rw[au bM, <-ha]
 rw[hE];have HH:=aa H;have aU:=H.lt;obtain⟨aA,bh,-⟩:=af.aK HH.blk;unfold bp at aA;rw[bM]at aA;clear H hE HB hown eo uj ha jC;go_enter func112,ntmps112;go_wp2_with fail;refine(kO _ HH).mono ?_;rintro e wA ⟨rfl,bN⟩;have ir:=aa (HH.more bN);have sw:=aa (bV.ext bN p m);clear bN aA bh aU kO;obtain⟨aA,bh,-⟩:=af.aK ir.blk;unfold bp at aA;rw[bM]at aA;have aU:=ir.lt;go_wp2_with fail;refine(HST _ ir).mono ?_;rintro e w1 ⟨rfl,m1,H1,F1⟩;have HR:=aa H1;have HF:=aa (sw.trans F1);clear H1 F1 aA bh aU ir sw HH;exact X6
theorem Kd(H:RN w X p c A n k t m q r s o)(HB:Mo.RB c N r)(hown:0<=r.k.az.own.ix/\r.k.az.own.ix<Mo.bI c)(hq:q<=900000)(bM:r.k.pc=14):Calls prog 112 #[.pointer p] w (bY X p c A n k t m (q+1) (Mo.Rn.writes c t r) w):=by
 have eo:=HB.k.az.own;unfold Mo.ur at eo;have uj:=lH H.cs.dL hown.1 hown.2;have jC:=H.cs.DF;have kO:=aa (fun wx (h:RN wx X p c A n k t m q r s o)=>jg h r.k.az.own.ix r.k.az.own.tag ae ae);obtain⟨a,ha⟩:=aD (Mo.bA c r.k.az.own.ix);rw[<-ha]at kO uj;have LP:(r.k.next.length:Int)=Mo.aZ c/\r.k.i<Mo.aZ c:=by have h:=HB.f.a;unfold Mo.lA at h;have h1:=h.2.2.2.2.1 ae;have h2:=h.2.2.2.2.2.1 ae;exact⟨h1,h2⟩
 have hsz:=size_le H.cs.dL;obtain⟨jn,hj⟩:∃jn:Nat,r.k.i=jn:=⟨r.k.i.toNat,by have:=HB.k.i.1;omega⟩
 have hlt:jn<r.k.next.length:=ae;have hlb:r.k.next.length<=100000:=ae;obtain⟨ad,z,hA,hz,TU⟩:=H.tk.nx.1.at_ (i:=jn) hlt;have h3:=uj.2 jn ae ae;have e0:IntKind.i64.wrap (a+1)=a+1:=jB ae ae;have e1:IntKind.i64.wrap (a+1+jn)=a+1+jn:=jB ae ae;have hzw:Mo.ax r.k.next jn=z:=by unfold Mo.ax;rw[ai ae,fF,eR,hz];rfl
 have HST:=aa (fun wx (h:RN wx X p c A n k t m q r s o)=>eh h hq (a+1+jn) z h3.1 h3.2);have hE:Mo.Rn.writes c t r=if(jn:Int)+1=(r.k.next.length:Int)then({r.store (a+1+jn) z with k:={r.k with i:=(jn:Int)+1}}:Mo.Rn).pc 15 else{r.store (a+1+jn) z with k:={r.k with i:=(jn:Int)+1}}:=by unfold Mo.Rn.writes;dsimp only;rw[ai ae,au bM,hj,hzw, <-ha]
 have HH:=aa H;have aU:=H.lt;obtain⟨aA,bh,-⟩:=af.aK HH.blk;unfold bp at aA;rw[bM]at aA;have HJ:=aa hj;have HA:=aa hA;have HZ:=aa hz;clear H HB hown eo uj ha jC LP hsz hj hA hz TU h3 hzw;by_cases h5:(jn:Int)+1=(r.k.next.length:Int)
 ·have X7:((jn:Int)+1==(r.k.next.length:Int))=true:=by rw[h5];exact beq_self_eq_true _
  have om:Mo.Rn.writes c t r=({r.store (a+1+jn) z with k:={r.k with i:=(jn:Int)+1,pc:=15}}:Mo.Rn):=by rw[hE,au h5];rfl
  exact abQ
 ·have X7:((jn:Int)+1==(r.k.next.length:Int))=false:=by rw[cq];exact h5
  have om:Mo.Rn.writes c t r=({r.store (a+1+jn) z with k:={r.k with i:=(jn:Int)+1}}:Mo.Rn):=by rw[hE,ai h5]
  exact abQ
theorem FL(H:RN w X p c A n k t m q r s o)(HB:Mo.RB c N r)(hown:0<=r.k.az.own.ix/\r.k.az.own.ix<Mo.bI c)(hN:N<=100000)(hq:q<=900000)(bM:r.k.pc=15)(fM:Mo.ax r.L 0≠Mo.bL r.k.base):Calls prog 112 #[.pointer p] w (bY X p c A n k t m (q+1) (Mo.Rn.writes c t r) w):=by
 have eo:=HB.k.az.own;unfold Mo.ur at eo;have uj:=lH H.cs.dL hown.1 hown.2;have jC:=H.cs.DF;have kO:=aa (fun wx (h:RN wx X p c A n k t m q r s o)=>jg h r.k.az.own.ix r.k.az.own.tag (by omega) (by omega));obtain⟨a,ha⟩:∃a,a=Mo.bA c r.k.az.own.ix:=⟨_,rfl⟩
 rw[<-ha]at kO uj;have jD:=HB.k.round;have TJ:=(lH H.cs.dL hown.1 hown.2).1;have sk:=aa (fun wx (h:RN wx X p c A n k t m q r s o)=>nu h hq 0 (Mo.bL r.k.base) (Mo.bL r.k.az.own) (by decide) (by omega));rw[ai fM,show(Mo.ax r.L 0==Mo.bL r.k.base)=false by rw[cq];exact fM]at sk;have hE:Mo.Rn.writes c t r=Mo.Rn.fail c r:=by unfold Mo.Rn.writes;dsimp only;rw[ai (by omega),ai (by omega),au bM,au fM]
 rw[hE];have Ac:=aa (fun wx mx (h:RN wx X p c A n k t mx (q+1) r s o)=>tK h jD.1 (by omega));have ng:Hid (∀wx,Calls prog 103 #[.agg #[r.k.base.ix,r.k.base.tag]] wx fun e w'=>e=.returned (.int .u64 (Mo.bL r.k.base))/\Below wx wx w'):=fun wx=>fE wx _ _;have qT:Hid (∀wx,Calls prog 103 #[.agg #[r.k.az.own.ix,r.k.az.own.tag]] wx fun e w'=>e=.returned (.int .u64 (Mo.bL r.k.az.own))/\Below wx wx w'):=fun wx=>fE wx _ _;have HH:=aa H;have aU:=H.lt;obtain⟨aA,bh,-⟩:=af.aK HH.out.blk;unfold bp at aA;rw[bM]at aA;clear H hE HB hown eo uj ha jC fM jD TJ;go_enter func112,ntmps112;go_wp2_with fail;(with_reducible refine(kO.out _ HH.out).mono ?_);rintro e wA ⟨rfl,bN⟩;have ir:=aa (HH.out.more bN);have sw:=aa (bV.ext bN p m);clear bN aA bh aU kO;have fP:=aa ir.out;obtain⟨fp,fL,cB,HFm,aU⟩:=ir.out.stand;have aT:=fP.out.cx;unfold bp at aT;obtain⟨aA,bh,-⟩:=af.aK ir.out.blk;unfold bp at aA;rw[bM]at aA;go_wp2_with fail;clear aA bh;go_region_held3(RX wA p m 0 0) (exact ft) (first
  |((with_reducible refine(ng.out _).mono ?_);rintro e wB ⟨rfl,dE⟩;have lK:=RX.below (by assumption) dE;(try have xI:=cB.out _ _ (by assumption) dE);(try have pA:=HFm.out _ _ (by assumption) dE))
  |((with_reducible refine(qT.out _).mono ?_);rintro e wC ⟨rfl,Aq⟩;have iT:=RX.below (by assumption) Aq;(try have Fk:=cB.out _ _ (by assumption) Aq);(try have dG:=HFm.out _ _ (by assumption) Aq))
  |((with_reducible refine(sk.out _ (by assumption)).mono ?_);rintro e wC ⟨rfl,mC,hC,fC⟩;have iT:=RX.acc (by assumption) fP.out.blk fC (hC.kept fC rfl);have dG:=bV.trans (by assumption) fC))
 all_goals
  have HR:=aa hC;have HF:=aa (sw.out.trans dG);clear hC fC dG aT aU;obtain⟨aA,bh,aU⟩:=af.aK HR.out.blk;unfold bp at aA;go_wp2_with fail;refine(Ac.out _ _ HR.out).mono ?_;rintro e w3 ⟨rfl,hX⟩;have HX:=aa hX;clear hX;go_wp2_with fail;refine bodyPost_ret (v:=.tuple #[]) (by simp[results,results112,go_sem]) rfl ?_;exact bY.then HF.out ⟨rfl,HX.out⟩
end
theorem Ke(ops:List Mo.Op)(B:Option Addr)(bl bd:Nat)(hbl:bl=ops.length)(nP:bl<=1000000)(hS:∀b,S b->b<w.heap.size)(ho:pN w S B ops) :
 Calls prog 66 #[.slice B bl bd] w fun e w'=>∃B' d,e=.returned (.slice B' bl d)/\bl<=d/\Below w w w'/\∀S':Nat->Prop,(∀b,S b->S' b)->(∀b,w.heap.size<=b->b<w'.heap.size->S' b)->pN w' S' B' ops:=by
 obtain⟨rows,h1,h2,h3⟩:=ho.1
 obtain⟨L,l1,l2,l3⟩:=xf rows ops h1 h3
 subst l2
 refine(vx w B bd (L.map (iM ug gb iQ)) (n:=bl) (by rw[<-h1]at hbl;exact hbl) nP h2).mono ?_
 rintro e w1 ⟨B1,d1,rfl,Gw,eo,hb1⟩
 have hX:=aI.opX (aI.rows.1 eo) (fun x hx=>(l3 x hx).same (fun b hb=>hb1.block b (hS b hb)))
 refine⟨B1,d1,rfl,Gw,hb1,fun S' hm hn=>⟨?_,?_⟩⟩
 ·rw[<-l1];exact(hX.mono jz hm).KR
 ·intro ad ha _;subst ha;exact hn _ (aH.lt hX rfl).1 (aH.lt hX rfl).2
section
variable{w:World} {X:Nat->Prop} {p:Nat} {c:Mo.bH} {A:Option Addr} {n k:Nat} {t:Int} {m:Mm} {q:Nat} {r:Mo.Rn} {s:Sh} {o:Sl} {N:Int}
theorem FM(H:RN w X p c A n k t m q r s o)(HB:Mo.RB c N r)(hown:0<=r.k.az.own.ix/\r.k.az.own.ix<Mo.bI c)(hN:N<=100000)(hq:q<=900000)(bM:r.k.pc=15)(fM:Mo.ax r.L 0=Mo.bL r.k.base):Calls prog 112 #[.pointer p] w (bY X p c A n k t m (q+1) (Mo.Rn.writes c t r) w):=by
 have eo:=HB.k.az.own;unfold Mo.ur at eo;have uj:=lH H.cs.dL hown.1 hown.2;have jC:=H.cs.DF;have kO:=aa (fun wx (h:RN wx X p c A n k t m q r s o)=>jg h r.k.az.own.ix r.k.az.own.tag (by omega) (by omega));obtain⟨a,ha⟩:∃a,a=Mo.bA c r.k.az.own.ix:=⟨_,rfl⟩
 rw[<-ha]at kO uj;have hlen:(r.k.next.length:Int)=Mo.aZ c:=by have h:=HB.f.a;unfold Mo.lA at h;exact h.2.2.2.2.1 (by omega)
 have hu:=HB.k.nxt;have TJ:=(lH H.cs.dL hown.1 hown.2).1;have sk:=aa (fun wx (h:RN wx X p c A n k t m q r s o)=>nu h hq 0 (Mo.bL r.k.base) (Mo.bL r.k.az.own) (by decide) (by omega));rw[au fM,show(Mo.ax r.L 0==Mo.bL r.k.base)=true by rw[fM];exact beq_self_eq_true _]at sk;have AK:=aa (fun wx mx (h:RN wx X p c A n k t mx (q+1) (r.store 0 (Mo.bL r.k.az.own)) s o)=>tL h r.k.next s.nx.A r.k.next.length s.nx.c rfl hlen hu h.tk.nx.1 t h.cs.t0 h.cs.t1);have PJ:=aa (fun wx mx (h:RN wx X p c A n k t mx (q+1) {r.store 0 (Mo.bL r.k.az.own)with k:={r.k with gF:=true,res:=Mo.fS c r.k.next t}} s o)=>yJ wx r.k.az s.fr.A s.fr.c s.ol.A s.ol.c (h.Zi HB.k.az hN));have hE:Mo.Rn.writes c t r={r with L:=Mo.setAt r.L 0 (Mo.bL r.k.az.own),gF:=true,ops:=r.k.found,k:={r.k with gF:=true,res:=Mo.fS c r.k.next t,az:=Mo.dN r.k.az,pc:=20}}:=by unfold Mo.Rn.writes;dsimp only;rw[ai (by omega),ai (by omega),au bM,ai (fun h=>h fM)]
 rw[hE];obtain⟨y,hy⟩:∃y,y=Mo.fS c r.k.next t:=⟨_,rfl⟩
 rw[<-hy]at AK PJ ⊢;obtain⟨P1,sX⟩:∃P1,P1=Mo.dN r.k.az:=⟨_,rfl⟩
 rw[<-sX]at PJ ⊢;unfold ux kJ at PJ;have U7:r.k.found.length<=1000000:=by have:=HB.k.found;omega
 have HFO:=aa U7;clear U7;have ng:Hid (∀wx,Calls prog 103 #[.agg #[r.k.base.ix,r.k.base.tag]] wx fun e w'=>e=.returned (.int .u64 (Mo.bL r.k.base))/\Below wx wx w'):=fun wx=>fE wx _ _;have qT:Hid (∀wx,Calls prog 103 #[.agg #[r.k.az.own.ix,r.k.az.own.tag]] wx fun e w'=>e=.returned (.int .u64 (Mo.bL r.k.az.own))/\Below wx wx w'):=fun wx=>fE wx _ _;have HH:=aa H;have aU:=H.lt;obtain⟨aA,bh,-⟩:=af.aK HH.out.blk;unfold bp at aA;rw[bM]at aA;clear H hE HB hown eo uj ha jC fM TJ hy sX hlen hu hN;go_enter func112,ntmps112;go_wp2_with fail;(with_reducible refine(kO.out _ HH.out).mono ?_);rintro e wA ⟨rfl,bN⟩;have ir:=aa (HH.out.more bN);have sw:=aa (bV.ext bN p m);clear bN aA bh aU kO;have fP:=aa ir.out;obtain⟨fp,fL,cB,HFm,aU⟩:=ir.out.stand;have aT:=fP.out.cx;unfold bp at aT;obtain⟨aA,bh,-⟩:=af.aK ir.out.blk;unfold bp at aA;rw[bM]at aA;go_wp2_with fail;clear aA bh;go_region_held3(RX wA p m 0 0) (exact ft) (first
  |((with_reducible refine(ng.out _).mono ?_);rintro e wB ⟨rfl,dE⟩;have lK:=RX.below (by assumption) dE;(try have xI:=cB.out _ _ (by assumption) dE);(try have pA:=HFm.out _ _ (by assumption) dE))
  |((with_reducible refine(qT.out _).mono ?_);rintro e wC ⟨rfl,Aq⟩;have iT:=RX.below (by assumption) Aq;(try have Fk:=cB.out _ _ (by assumption) Aq);(try have dG:=HFm.out _ _ (by assumption) Aq))
  |((with_reducible refine(sk.out _ (by assumption)).mono ?_);rintro e wC ⟨rfl,mC,hC,fC⟩;have iT:=RX.acc (by assumption) fP.out.blk fC (hC.kept fC rfl);have dG:=bV.trans (by assumption) fC))
 all_goals
  have HR:=aa hC;have HF:=aa (sw.out.trans dG);clear hC fC dG aT aU fp fL cB HFm;obtain⟨aA,bh,aU⟩:=af.aK HR.out.blk;unfold bp at aA;go_wp2_with fail;clear aA bh aU;have PU:=aa HR.out;obtain⟨fp,fL,cB,HFm,aU⟩:=HR.out.stand;obtain⟨aT,py,kB,hlx⟩:=PU.out.DG 27 32;unfold bp Mo.Rn.store at aT;dsimp only at aT;go_region_held3(RX wC p mC 27 32) (with_reducible(repeat(first|exact RX.start PU.out.blk _ _ _|exact ft|refine RX.alloc ?_ _|refine RX.set ?_ (by decide) _))) (first
   |((with_reducible refine(AK.out _ _ (by assumption)).mono ?_);rintro e wD ⟨rfl,nB⟩;have Hd:=RX.below (by assumption) nB;(try have OS:=cB.out _ _ (by assumption) nB);(try have xm:=HFm.out _ _ (by assumption) nB)))
  have fx:=aa OS;have sg:=aa (HF.out.trans xm);clear aT py kB hlx aU nB Hd OS xm fp fL cB HFm HF HR PU;have OT:RN (((((wD.setCell ⟨p,31,none⟩ true).setCell ⟨p,27,none⟩ y.seq).setCell ⟨p,28,none⟩ y.cs).setCell ⟨p,29,none⟩ y.code).setCell ⟨p,30,none⟩ y.value) X p c A n k t mC (q+1) {r.store 0 (Mo.bL r.k.az.own)with k:={r.k with gF:=true,res:=y}} s o:=RN.leaf fx.out s o {fx.out.tk with} fx.out.op rfl;have H4:=aa OT;have X9:=aa (((((((fe.refl wD p).set 31 true).set 27 y.seq).set 28 y.cs).set 29 y.code).set 30 y.value).fr mC);clear OT;generalize(((((wD.setCell ⟨p,31,none⟩ true).setCell ⟨p,27,none⟩ y.seq).setCell ⟨p,28,none⟩ y.cs).setCell ⟨p,29,none⟩ y.code).setCell ⟨p,30,none⟩ y.value)=w4 at *;obtain⟨aA,bh,aU⟩:=af.aK H4.out.blk;unfold bp Mo.Rn.store at aA;dsimp only at aA;go_wp2_with fail;(with_reducible refine(PJ.out _ mC H4.out).mono ?_);rintro e w5 ⟨v,rfl,A1,n1,B1,m1,rfl,eo,fN,di⟩;have jd:=aa (H4.out.more di);have oG:=aa ((sg.out.trans X9.out).trans (bV.ext di p mC));have p6:Hid (mF w5 (Im w5 X p mC) {r.k with gF:=true,res:=y,az:=P1} {s with fr:=⟨A1,n1⟩,ol:=⟨B1,m1⟩}):=ux.tk jd.out.tk eo fN (fun b h0 h1=>Im.fresh H4.out h0 h1) _ rfl;clear eo fN di aA bh aU;obtain⟨aA,bh,aU⟩:=af.aK jd.out.blk;unfold bp Mo.Rn.store at aA;dsimp only at aA;go_upto_region 15 with fail
  clear aA bh aU;have hH6:RN (((((w5.setCell ⟨p,22,none⟩ P1.own.ix).setCell ⟨p,23,none⟩ P1.own.tag).setCell ⟨p,24,none⟩ (.slice A1 P1.free.length n1)).setCell ⟨p,25,none⟩ (.slice B1 P1.old.length m1)).setCell ⟨p,26,none⟩ P1.spent) X p c A n k t mC (q+1) {r.store 0 (Mo.bL r.k.az.own)with k:={r.k with gF:=true,res:=y,az:=P1}} {s with fr:=⟨A1,n1⟩,ol:=⟨B1,m1⟩} o:=RN.leaf jd.out {s with fr:=⟨A1,n1⟩,ol:=⟨B1,m1⟩} o {p6.out with} jd.out.op rfl;have H6:=aa hH6;have FH6:=aa (((((((fe.refl w5 p).set 22 P1.own.ix).set 23 P1.own.tag).set 24 (.slice A1 P1.free.length n1)).set 25 (.slice B1 P1.old.length m1)).set 26 P1.spent).fr mC);clear hH6;generalize(((((w5.setCell ⟨p,22,none⟩ P1.own.ix).setCell ⟨p,23,none⟩ P1.own.tag).setCell ⟨p,24,none⟩ (.slice A1 P1.free.length n1)).setCell ⟨p,25,none⟩ (.slice B1 P1.old.length m1)).setCell ⟨p,26,none⟩ P1.spent)=w6 at *;obtain⟨aA,bh,aU⟩:=af.aK H6.out.blk;unfold bp Mo.Rn.store at aA;dsimp only at aA;have HCO:=aa (Ke r.k.found s.fo.A r.k.found.length s.fo.c rfl HFO.out (fun b hb=>hb.1) H6.out.tk.fo);go_wp2_with fail;(with_reducible refine HCO.out.mono ?_);rintro e w7 ⟨B2,d2,rfl,KE,uR,C4⟩;have xZ:=aa (H6.out.more uR);have uX:=aa ((oG.out.trans FH6.out).trans (bV.ext uR p mC));have Bc:Hid (pN w7 (Im w7 X p mC) B2 r.k.found):=C4 _ (fun b hb=>(bV.ext uR p mC).im hb) (fun b h0 h1=>Im.fresh H6.out h0 h1);have pH:=aa KE;clear KE uR C4 aA bh aU;obtain⟨aA,bh,aU⟩:=af.aK xZ.out.blk;unfold bp Mo.Rn.store at aA;dsimp only at aA;go_wp2_with fail;go_end0;refine bY.then uX.out ?_;exact bY.leaf xZ.out {s with fr:=⟨A1,n1⟩,ol:=⟨B1,m1⟩} ⟨B2,d2⟩ {xZ.out.tk with} Bc.out rfl
theorem C5(H:RN w X p c A n k t m q r s o)(HB:Mo.RB c N r)(hown:0<=r.k.az.own.ix/\r.k.az.own.ix<Mo.bI c)(hN:N<=100000)(hq:q<=900000)(h1:13<=r.k.pc)(h2:r.k.pc<=15):Calls prog 112 #[.pointer p] w (bY X p c A n k t m (q+1) (Mo.Rn.writes c t r) w):=by
 rcases(by omega:r.k.pc=13\/r.k.pc=14\/r.k.pc=15)with h|h|h
 ·exact Kc H HB hown hq h
 ·exact Kd H HB hown hq h
 ·by_cases fM:Mo.ax r.L 0=Mo.bL r.k.base
  ·exact FM H HB hown hN hq h fM
  ·exact FL H HB hown hN hq h fM
end
theorem jF.none_{P:qN α}(hm:0<m)(h:jF m P w S none xs):xs.length=0:=by
 rcases Nat.eq_zero_or_pos xs.length with e|e
 ·exact e
 ·obtain⟨ad,_,_,h1,_⟩:=jF.at_ hm h e;cases h1
theorem cN.DN{f:α->List Value}(hf:∀c,(f c).length=m)(hm:0<m){A:Option Addr}(h:cN w f A xs){ad:Addr}(ha:A=some ad)(hx:xs≠[]):ad.block<w.heap.size:=by
 obtain⟨ad',c,h1,_,h3⟩:=cN.at_ hf hm h (List.length_pos_iff.2 hx);rw[ha]at h1;injection h1 with h1
 subst h1;have h4:=h3 0 _ (cD (by rw[hf];exact hm));rw[Nat.zero_mul,add_zero,add_zero]at h4;exact bc h4
theorem OU(l:List Int):qK l=(Mo.iJ l).1.kind/\qA l=(Mo.iJ l).1.arg/\qV l=(Mo.iJ l).1.value/\qD l=(Mo.iJ l).1.dflt/\qC l=(Mo.iJ l).1.cases/\qP l=(Mo.iJ l).2.1/\iN l=(Mo.iJ l).2.2:=by
 have hb:iN l=decide (l.length=5/\l.getD 0 0/256%16<=3/\l.getD 4 0<=4294967295/\Mo.jH ⟨l.getD 0 0%256,l.getD 0 0/65536%65536,l.getD 0 0/4294967296,l.getD 0 0/4096%2==1,((l.drop 1).take (l.getD 0 0/256%16).toNat).map Mo.vd⟩ (l.getD 4 0)=l):=by unfold iN;rw[<-zk,Bool.eq_iff_iff];simp only[dI,cU,beq_iff_eq,and_assoc];rfl
 unfold qK qA qV qD qC qP Mo.iJ;rw[hb];dsimp only;split
 ·rename_i h;have h:=of_decide_eq_true h;rw[au h];exact⟨rfl,rfl,rfl,rfl,rfl,rfl,dg h⟩
 ·rename_i h;have h:¬_:=fun k=>h (dg k);rw[ai h];exact⟨rfl,rfl,rfl,rfl,rfl,rfl,bJ h⟩
theorem Kf(w:World)(A:Option Addr)(c:Nat)(l:List Int)(hl:l.length<=5)(kg:l.length<=c)(hz:Mo.eH l)(hr:bC w .u64 A l) :
 Calls prog 164 #[.slice A l.length c] w (aac (Mo.iJ l).1.kind (Mo.iJ l).1.arg (Mo.iJ l).1.value (Mo.iJ l).1.dflt (Mo.iJ l).1.cases (Mo.iJ l).2.1 (Mo.iJ l).2.2 w):=by
 have h:=zQ w A c l ae kg hz hr
 obtain⟨h1,h2,h3,h4,h5,h6,h7⟩:=OU l
 unfold xP at h
 rw[h1,h2,h3,h4,h5,h6,h7]at h
 exact h
theorem Kg(a b c d:Int)(w:World):(Instr.field 48 (.agg #[a,b,c,d]) 0).run prog w=.ok a w:=by kernel_rfl
theorem qM{K:Act->World->Prop}(hgd:o.guard=none)(s x:Operand)(t:TypeId)(ho:o.op=.call {callee:=.builtin .append,args:=#[s,x],argTypes:=#[t,t]})(e:TypeId)(ht:P.underlying t=some (.slice e)){z:Value}(hi:(P.info? e).map (fun i=>(i.zero,i.size,i.bytes))=some (some z,8,80))(hz:z.cells.size=8)(A:Option Addr)(n:Nat)(xs:List Mo.Op)(hs:a.eval s=.slice A n n)(hn:n=xs.length)(hr:jF 8 KY w S A xs)(B:Addr)(c:Nat)(y:xe)(hx:a.eval x=.slice (some B) 1 c)(MH:Rd w (some B) (ug y))(hb:n<=1000000)(hS:∀b,S b->b<w.heap.size)(hy:dv w S bk y.B y.op.aQ.cases)(h:∀A' c' w',n+1<=c'->(∀S':Nat->Prop,(∀b,S b->S' b)->(∀b,w.heap.size<=b->b<w'.heap.size->S' b)->pN w' S' A' (xs++[y.op]))->Below w w w'->K (a.put o.dst (.slice A' (n+1) c')) w') :
 if Region.wanted o (yielded ops a.tmps)=true then Oper.wp P o a w K Q else E:=by
 obtain⟨i,iY,hz0,hz1,hz2⟩:=info_parts hi
 obtain⟨rows,r1,r2,r3⟩:=hr
 have hl:(rows.flatMap dR).length=n*8:=by rw[mJ bQ,r1,hn]
 refine step_append_grows hgd s x t ho e i z 8 80 ht iY hz0 hz1 hz2 hz ah A n n (rows.flatMap dR) hs (fun e=>?_) hl (fun b hb j u hu=>?_) B 1 c (ug y) hx rfl (fun j u hu=>?_) (iQ y) ae (by unfold maxLen;omega) ae (fun v' w' hown hg=>?_)
 ·subst e;have h0:=jF.none_ ah ⟨rows,r1,r2,r3⟩;omega
 ·obtain⟨ad,h1,h2⟩:=r2 j u hu;rw[hb]at h1;injection h1 with h1
  subst h1;exact h2
 ·obtain⟨ad,h1,h2⟩:=MH j u hu;injection h1 with h1
  subst h1;exact h2
 ·have hO:aI w' w.heap.size e 8 dR v' (rows++[iM ug gb iQ y]):=by
   unfold aI;rw[eN,List.flatMap_append,r1, <-hn];exact hown
  have hb:=(Below.refl _ w).grown hg (aS _) (fun b hb=>by cases hb)
  have hsm:Sm S w w':=fun b h=>hb.block b (hS b h)
  have hX:=aH.app jz r1 r3 hsm hO (x:=y.op) ⟨y.B,y.d,rfl,hy.same hsm⟩
  obtain⟨A',c',rfl,hc,jD⟩:=hX.YF
  rw[eN,gC, <-hn]at hc ⊢
  refine h A' c' w' hc (fun S' h1 h2=>⟨jD.mono jz h1,fun ad ha _=>?_⟩) hb
  subst ha
  have:=aH.lt hX rfl
  exact h2 _ this.1 this.2
end Go.Proofs.YtjcjjiieblineaaGreat
