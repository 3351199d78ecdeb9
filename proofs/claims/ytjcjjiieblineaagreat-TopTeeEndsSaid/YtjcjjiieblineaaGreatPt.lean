/- Walks and plain facts. No condition. -/
import Derived.Test.YtjcjjiieblineaaGreatSd
import Derived.Test.YtjcjjiieblineaaGreatPf
import Derived.Test.YtjcjjiieblineaaGreatPo
import Derived.Test.YtjcjjiieblineaaGreatPs
namespace Go.Proofs.YtjcjjiieblineaaGreat
open Go.RowKit Go.Proofs.Tryz Mo
set_option maxHeartbeats 8000000
set_option maxRecDepth 100000
set_option linter.all false
variable {w w' w1:World}{α:Type}{g t j b d p fuel:Nat}{e t1:TypeId}{v v' v1 v2:Value}{a:Act}{Q:Exit->Act->World->Prop}{ops:Array Oper}{L:List Int}{listed:Array Bool}{E:Prop}{md:Region.Mode}{fn:Func}{oi op:Oper}{tmps:Array Value}{p1:Addr}{xs:List α}
theorem EO{P:Program}(t e:TypeId)(k:P.underlying t=some (.slice e)){z:Option Value}{m f:Nat}(h:(P.info? e).map (fun i=>(i.zero,i.size,i.bytes))=some (z,m,f))(A:Option Addr)(n c:Nat)(o:n<=c)(l:A=none->n=0)(w:World) :
 (Instr.slice t (.slice A n c) none (some (.int .i64 n)) (some (.int .i64 n))).run P w=.ok (.slice A n n) w:=by
 cases b:P.info? e with
 |none=>rw[b]at h;cases h
 |some i =>
  have d:0<=(n:Int)/\(n:Int)<=(c:Int):=aa;cases A with
  |none=>have g:=l rfl;subst g;simp[Instr.slice,Instr.sliceBounds,run_underlying k,sizeOf,typeInfo,b,run_sliceBound_if]
  |some a=>simp[Instr.slice,Instr.sliceBounds,run_underlying k,sizeOf,typeInfo,b,run_sliceBound_if,d,add_zero]
theorem ry:(prog.info? 44).map (fun i=>(i.zero,i.size,i.bytes))=some (some (.int .u64 0),1,8):=by kernel_rfl
theorem zh(w:World)(A:Option Addr)(n c:Nat)(h:n<=c)(f:A=none->n=0):Calls prog 158 #[.slice A n c] w fun e w'=>e=.returned (.slice A n n)/\w=w':=by have a:=EO (P:=prog) 43 44 underlying43 ry A n c h f;clear h f;go_enter func158,ntmps158;go_wp2;go_ret;exact⟨rfl,rfl⟩
theorem VZ(w:World)(A:Option Addr)(n c:Nat)(f:n<=c)(hA:A=none->n=0):Calls prog 165 #[.slice A n c] w fun e w'=>e=.returned (.slice A n n)/\w=w':=by have a:=EO (P:=prog) 45 66 underlying45 mH A n c f hA;clear f hA;go_enter func165,ntmps165;go_wp2;go_ret;exact⟨rfl,rfl⟩
theorem sI{P:Program}{o:Oper}{K:Act->World->Prop}(r:o.guard=none)(s x:Operand)(t:TypeId)(N:o.op=.call {callee:=.builtin .append,args:=#[s,x],argTypes:=#[t,t]})(e:TypeId)(k:IntKind)(R:P.underlying t=some (.slice e))(M:(P.info? e).map (fun i=>(i.zero,i.size,i.bytes))=some (some (.int k 0),1,8))(A:Option Addr)(n:Nat)(l:List Int)(O:a.eval s=.slice A n n)(f:n=l.length)(G:bJ w k A l)(B:Addr)(c:Nat)(z:Int)(T:a.eval x=.slice (some B) 1 c)(I:bJ w k (some B) [z])(q:n<=1000000)(h:∀g m w',aJ w' w e k (.slice g (n+1) m) (l++[z])->Below w w w'->K (a.put o.dst (.slice g (n+1) m)) w') :
 if Region.wanted o (yielded ops a.tmps)=true then Oper.wp P o a w K Q else E:=by
 obtain⟨i,S,y,C,D⟩:=info_parts M
 refine step_append_grows r s x t N e i (.int k 0) 1 8 R S y C D rfl ag A n n (l.map (Value.int k)) O (fun e=>?_) (by simp[f]) (fun b q j u v=>?_) B 1 c [.int k z] T rfl (fun j u v=>?_) (by simp[Value.oneCell']) aa (by unfold maxLen;omega) aa (fun U w' hown L=>?_)
 ·subst e;have:=G.oQ;rw[this]at f;exact⟨f,f⟩
 ·obtain⟨J,d,p⟩:=G j u v;rw[q]at d;injection d with d
  subst d;exact p
 ·obtain⟨J,d,p⟩:=I j u v;injection d with d
  subst d;exact p
 ·have F:aJ w' w e k U (l++[z]):=by
   unfold aJ;rw[List.map_append];subst f;simpa using hown
  obtain⟨g,m,H⟩:=F.shape
  rw[eW,gL, <-f]at H
  subst H
  exact h g m w' F ((Below.refl _ w).grown L (aS _) (fun b q=>by cases q))
section
variable{w:World} {X:Nat->Prop} {p:Nat} {c:Mo.bA} {A:Option Addr} {n k:Nat} {t:Int} {m:Mm} {q:Nat} {r:Mo.Rn} {s:Sh} {o:Sl} {N:Int}
end
theorem tkH{P:Program}{S:World->Prop}{i:Nat}(n:ops[i]?=some oi)(f:(Region.noSelect ops && (Region.free md ops listed i && (Region.ready md ops listed).contains i))=true)(o:Region.wanted oi (yielded ops a.tmps)=true)(l:∀c a w,Q (.panic c) (a.put oi.dst v) w->Q (.panic c) a w)(m:S w)(q:∀w,S w->(execOp a.eval oi).run P w=.ok (.value v) w)(h:wpAnyH P md ops Q S fuel (listed.setIfInBounds i true) (a.put oi.dst v) w):wpAnyH P md ops Q S (fuel+1) listed a w:=by
 simp only[cA]at f
 exact wpAnyH_take n f.1 f.2.1 f.2.2 l (Or.inl ⟨o,q⟩) m h
theorem tkU{P:Program}{S:World->Prop}{i:Nat}(m:ops[i]?=some oi)(f:(Region.noSelect ops && (Region.free md ops listed i && (Region.ready md ops listed).contains i))=true)(n:Region.wanted oi (yielded ops a.tmps)=false)(k:∀c a w,Q (.panic c) (a.put oi.dst undef) w->Q (.panic c) a w)(l:S w)(h:wpAnyH P md ops Q S fuel (listed.setIfInBounds i true) (a.put oi.dst undef) w):wpAnyH P md ops Q S (fuel+1) listed a w:=by
 simp only[cA]at f
 exact wpAnyH_take m f.1 f.2.1 f.2.2 k (Or.inr ⟨n,rfl⟩) l h
theorem aP{P:Program}{S:World->Prop}(i:Nat){d:Tmp}{f l m r s}(x:S w)(h:wpAnyH P md ops Q S fuel (listed.setIfInBounds i true) (a.put (some d) v) w)(C:ops[i]?=some ⟨some d,f,l,m,r,s⟩:=by rfl)(B:(Region.noSelect ops && (Region.free md ops listed i && (Region.ready md ops listed).contains i))=true:=by kernel_rfl)(D:Region.wanted ⟨some d,f,l,m,r,s⟩ (yielded ops a.tmps)=true:=by rfl)(u:∀c a w,Q (.panic c) (a.put (some d) v) w->Q (.panic c) a w:=by exact fun _ _ _ h=>h)(F:∀w,S w->(execOp a.eval ⟨some d,f,l,m,r,s⟩).run P w=.ok (.value v) w:=by intro w b;(try dsimp only at b);first|(go_simp;done)|(go_simp;with_reducible rfl)):wpAnyH P md ops Q S (fuel+1) listed a w:=tkH C B D u x F h
theorem CK{P:Program}{S:World->Prop}(i:Nat){d:Tmp}{f k l m n}(r:S w)(h:wpAnyH P md ops Q S fuel (listed.setIfInBounds i true) (a.put (some d) undef) w)(u:ops[i]?=some ⟨some d,f,k,l,m,n⟩:=by rfl)(s:(Region.noSelect ops && (Region.free md ops listed i && (Region.ready md ops listed).contains i))=true:=by kernel_rfl)(x:Region.wanted ⟨some d,f,k,l,m,n⟩ (yielded ops a.tmps)=false:=by rfl)(q:∀c a w,Q (.panic c) (a.put (some d) undef) w->Q (.panic c) a w:=by exact fun _ _ _ h=>h):wpAnyH P md ops Q S (fuel+1) listed a w:=tkU u s x q r h
theorem et{P:Program}{S:World->Prop}(i:Nat){d:Option Tmp}{f l m r s}(h:∀b:Act->World->Prop,Shut (∀a w,S w->(S w->wpAnyH P md ops Q S fuel (listed.setIfInBounds i true) a w)->b a w)->if Region.wanted ⟨d,f,l,m,r,s⟩ (yielded ops a.tmps)=true then Oper.wp P ⟨d,f,l,m,r,s⟩ a w b Q else b (a.put d undef) w)(u:ops[i]?=some ⟨d,f,l,m,r,s⟩:=by rfl)(x:Region.ready md ops listed=[i]:=by kernel_rfl):wpAnyH P md ops Q S (fuel+1) listed a w:=wpAnyH_ready x aD (AllReadyH.cons u h AllReadyH.nil)
theorem aC:(∀(a:Act) (d:Tmp) (v:Value),a.put (some d) v={a with tmps:=a.tmps.setIfInBounds d v})/\(∀(a:Act) (v:Value),a.put none v=a)/\(∀(l:List Value) (i:Nat) (x:Value),l.toArray.setIfInBounds i x=(l.set i x).toArray)/\(∀(a:Value) (l:List Value) (x:Value),(a::l).set 0 x=x::l)/\∀(a:Value) (l:List Value) (i:Nat) (x:Value),(a::l).set (i+1) x=a::l.set i x:=⟨fun _ _ _=>rfl,fun _ _=>rfl,fun _ _ _=>by simp,fun _ _ _=>rfl,fun _ _ _ _=>rfl⟩
section
variable{w:World} {X:Nat->Prop} {p:Nat} {c:Mo.bA} {A:Option Addr} {n k:Nat} {t:Int} {m:Mm} {q:Nat} {r:Mo.Rn} {s:Sh} {o:Sl} {N:Int}
def wm(w:World)(y:Rs)(h:Value)(f:World):Prop:=∃g,h=.pointer (some ⟨g,0,none⟩)/\af f g 48 #[y.seq,y.cs,y.code,y.value]/\w.heap.size<=g/\Below w w f
theorem wm.last{w:World}(f:Below w w w1)(y:Rs):wm w y (.pointer w1.heap.size) (w1.alloc (qX y.seq y.cs y.code y.value)):=⟨_,rfl,af.new _ _ _,f.size,ak f _⟩
theorem wm.mid{w:World}{f h l u:Value}(C:af w1 w 48 #[f,h,l,u])(z:Below w w w1)(y:Rs):wm w y (.pointer w.heap.size) (aw w1 w 0 [y.seq,y.cs,y.code,y.value]):=⟨_,rfl,aQ C rfl,aS _,ax (aS _) _ _ _ z⟩
theorem Br{x:Int}(f:0<=x)(h:x<=4611686018427387904):IntKind.u64.wrap x=x:=by simp only[iW];omega
theorem Rx(H:RN w X p c A n k t m q r s o)(F:RB c N r)(hN:N<=100000)(R:q<=900000)(D:r.k.pc=6):Calls prog 109 #[.pointer p] w (cE X p c A n k t m (q+1) (Rn.eZ c t r) w):=by
 have K:=F.k.round;have M:=F.k.base;unfold wL at M;have I:Rn.eZ c t r=if ay r.L (bu c r.k.base.ix)≠r.k.base.tag then Rn.fail c r else{r with k:={r.k with i:=0,buf:=[],pc:=7}}:=by unfold Rn.eZ;rw[au D]
 rw[I];have O:0<=bu c r.k.base.ix:=by have h1:=lA H.cs.eN (i:=r.k.base.ix) (by omega) (by omega);have h2:=(Mo.aK H.cs.eN).1.1;unfold bu;omega
 obtain⟨L,E⟩:=av (fun y (h:RN y X p c A n k t m q r s o)=>jY h r.k.base.ix r.k.base.tag (by omega) (by omega)) (fun y (h:RN y X p c A n k t m q r s o)=>cQ h R _ O);obtain⟨x,J⟩:∃x,x=ay r.L (bu c r.k.base.ix):=⟨_,rfl⟩
 rw[<-J]at E ⊢;have S:IntKind.u64.wrap r.k.base.tag=r.k.base.tag:=Br (by omega) (by omega);have HH:=ae H;obtain⟨gi,gV,G,l,C⟩:=H.cK;have B:=HH.Y.cx;unfold bw at B;have g:=fun i=>af.cell HH.Y.blk i;unfold bw at g;rw[D]at g;have P:=ae (fun y Y (h:RN y X p c A n k t Y (q+1) r s o)=>vG h K.1 (by omega));clear I D H J O M K;by_cases j:x=r.k.base.tag
 ·have pQ:(x !=r.k.base.tag)=false:=by rw[j];exact bne_self_eq_false _
  rw[ah (fun h=>h j)];clear j;go_enter func109,ntmps109;go_wp2_with fail;clear g;go_region_held3(RX w p m 0 0) (exact gj) (first
   |((with_reducible go_fit (L.Y _ (by assumption)));rintro e wA ⟨rfl,b⟩;have V:=RX.below (by assumption) b;have W:=G.Y _ _ (by assumption) b;have Z:=l.Y _ _ (by assumption) b)
   |((with_reducible go_fit (E.Y _ (by assumption)));rintro e wC ⟨rfl,U,d,a⟩;have T:=RX.acc (by assumption) HH.Y.blk a (d.kept a rfl);have u:=cu.trans (by assumption) a))
  all_goals
   obtain⟨f,z⟩:=av d u;clear d a u B C;obtain⟨g,bp,C⟩:=af.aM f.Y.blk;unfold bw at g;go_wp2;refine bodyPost_ret (v:=.tuple #[]) (by simp[results,results109,go_sem]) rfl ?_;refine cE.then z.Y ?_;exact cE.leaf f.Y {s with bf:=ek} o {f.Y.tk with bf:=dx.nil _ _ _ _,lb:=aV _} f.Y.op rfl
 ·have pQ:(x !=r.k.base.tag)=true:=by rw[bne_iff_ne];exact j
  rw[au j];clear j;go_enter func109,ntmps109;go_wp2_with fail;clear g;go_region_held3(RX w p m 0 0) (exact gj) (first
   |((with_reducible go_fit (L.Y _ (by assumption)));rintro e wA ⟨rfl,b⟩;have V:=RX.below (by assumption) b;have W:=G.Y _ _ (by assumption) b;have Z:=l.Y _ _ (by assumption) b)
   |((with_reducible go_fit (E.Y _ (by assumption)));rintro e wC ⟨rfl,U,d,a⟩;have T:=RX.acc (by assumption) HH.Y.blk a (d.kept a rfl);have u:=cu.trans (by assumption) a))
  all_goals
   obtain⟨f,z⟩:=av d u;clear d a u B C;go_wp2_with fail;go_fit (P.Y _ _ f.Y);rintro e w3 ⟨rfl,(Q:Hid _)⟩;go_wp2;refine bodyPost_ret (v:=.tuple #[]) (by simp[results,results109,go_sem]) rfl ?_;exact cE.then z.Y ⟨rfl,Q.Y⟩
theorem Ry(H:RN w X p c A n k t m q r s o)(Y:RB c N r)(hN:N<=100000)(hq:q<=900000)(bQ:r.k.pc=7):Calls prog 109 #[.pointer p] w (cE X p c A n k t m (q+1) (Rn.eZ c t r) w):=by
 have o9:=Y.k.base;unfold wL at o9;have hi:=Y.k.i;have cn:=size_le H.cs.eN;have Jk:r.k.i<bn c/\(r.k.buf.length:Int)=r.k.i:=by have:=Y.f.a;unfold mM at this;exact this.2.1 bQ
 have wu:0<=bu c r.k.base.ix/\bu c r.k.base.ix<=100000000:=by have h1:=lA H.cs.eN (i:=r.k.base.ix) (by omega) (by omega);have h2:=(Mo.aK H.cs.eN).1;unfold bu;omega
 have nG:=ae (fun l (h:RN l X p c A n k t m q r s o)=>jY h r.k.base.ix r.k.base.tag (by omega) (by omega));obtain⟨a,ha⟩:∃a,a=bu c r.k.base.ix:=⟨_,rfl⟩
 rw[<-ha]at wu nG;have kZ:=ae (fun l (h:RN l X p c A n k t m q r s o)=>cQ h hq (a+1+r.k.i) (by omega));obtain⟨x,U⟩:∃x,x=ay r.L (a+1+r.k.i):=⟨_,rfl⟩
 rw[<-U]at kZ;have e1:IntKind.i64.wrap (a+1)=a+1:=ky (by omega) (by omega);have e2:IntKind.i64.wrap (a+1+r.k.i)=a+1+r.k.i:=ky (by omega) (by omega);have iH:=ae (fun l=>zh l s.bf.A r.k.buf.length s.bf.c H.tk.lb (fun e=>by have h:=H.tk.bf.1;rw[e]at h;rw[h.oQ];rfl));have bo:r.k.buf.length<=100000:=by omega
 obtain⟨V0,HH⟩:=av bo H;obtain⟨gi,gV,dm,b6,J⟩:=H.cK;have C:=fun i=>af.cell HH.Y.blk i;unfold bw at C;rw[bQ]at C;obtain⟨HA,HX,uy,a6,HI,Fu⟩:=cT ha U bQ Jk hi Y;clear bQ H U wu o9 ha Jk hi cn Y bo;go_enter func109,ntmps109;go_wp2_with fail;have b8:w.drew.cell? ⟨p,16,none⟩=some (.slice s.bf.A r.k.buf.length s.bf.c):=C 16;clear C;obtain⟨I,qQ,lz,jd⟩:=HH.Y.FJ 16 17;unfold bw at I;refine wp_region_held_drew (S:=(RX w p m 16 17)) (by kernel_rfl) (RX.start HH.Y.blk _ _ _) (fun hHeld=>?_);refine aP 0 (by assumption) ?_;(try simp only[aC]);refine aP 1 (by assumption) ?_;(try simp only[aC]);refine aP 2 (by assumption) ?_;(try simp only[aC]);refine aP 3 (by assumption) ?_;(try simp only[aC]);refine aP 4 (by assumption) ?_;(try simp only[aC]);refine aP 7 (by assumption) ?_;(try simp only[aC]);refine aP 8 (by assumption) ?_;(try simp only[aC]);refine aP 9 (by assumption) ?_;(try simp only[aC]);refine aP 10 (by assumption) ?_;(try simp only[aC]);refine aP 11 (by assumption) ?_;(try simp only[aC]);refine aP 12 (by assumption) ?_;(try simp only[aC]);refine aP 13 (by assumption) ?_;(try simp only[aC]);refine aP 16 (by assumption) ?_;(try simp only[aC]);refine aP 17 (by assumption) ?_;(try simp only[aC]);refine aP 18 (by assumption) ?_;(try simp only[aC]);refine aP 19 (by assumption) ?_;(try simp only[aC]);refine aP 20 (by assumption) ?_;(try simp only[aC]);refine et 5 (fun K j=>?_);go_simp;refine j.Y _ _ gj (fun hHeld=>?_);clear j K;(try simp only[aC]);refine et 6 (fun K j=>?_);go_simp;((with_reducible go_fit (iH.Y _));rintro e wA ⟨rfl,rfl⟩);go_wp2_with fail;refine j.Y _ _ gj (fun hHeld=>?_);clear j K;(try simp only[aC]);refine et 14 (fun K j=>?_);go_simp;((with_reducible go_fit (nG.Y _ (by assumption)));rintro e wB ⟨rfl,eF⟩;have nD:=RX.below (by assumption) eF;have zK:=dm.Y _ _ (by assumption) eF;have qT:=b6.Y _ _ (by assumption) eF);go_wp2_with fail;refine j.Y _ _ gj (fun hHeld=>?_);clear j K;(try simp only[aC]);refine aP 15 (by assumption) ?_;(try simp only[aC]);refine aP 21 (by assumption) ?_;(try simp only[aC]);refine et 22 (fun K j=>?_);go_simp;((with_reducible go_fit (kZ.Y _ (by assumption)));rintro e wC ⟨rfl,mC,hC,fC⟩;have jK:=RX.acc (by assumption) HH.Y.blk fC (hC.kept fC rfl);have eG:=cu.trans (by assumption) fC);go_wp2_with fail;refine j.Y _ _ gj (fun hHeld=>?_);clear j K;(try simp only[aC]);refine et 23 (fun K j=>?_);go_simp;refine j.Y _ _ gj (fun hHeld=>?_);clear j K;(try simp only[aC]);refine et 24 (fun K j=>?_);(refine sI rfl _ _ 43 rfl 44 .u64 underlying43 ry s.bf.A r.k.buf.length r.k.buf rfl rfl ?_ ⟨wC,0,none⟩ 1 x rfl ?_ ?_ ?_;(exact hC.tk.bf.1.alloc _);(exact bJ.one _ .u64 _ _);(exact bq V0.Y (by decide));intro u B V O ei;have CI:=RX.below (by assumption) ei);refine j.Y _ _ gj (fun hHeld=>?_);clear j K;(try simp only[aC]);refine aP 25 (by assumption) ?_;(try simp only[aC]);refine aP 26 (by assumption) ?_;(try simp only[aC]);refine aP 27 (by assumption) ?_;(try simp only[aC]);refine et 28 (fun K j=>?_);go_simp;refine j.Y _ _ gj (fun hHeld=>?_);clear j K;(try simp only[aC]);refine wpAnyH_done (by kernel_rfl) ?_ _;obtain⟨jV,pW⟩:=av (hC.more (ai (ak (aj _) _) ei)) (eG.trans (cu.ext (ai (ak (aj _) _) ei) p mC));have uo:∀b,(wC.alloc (.cells #[.int .u64 x] 44)).heap.size<=b->b<V.heap.size->Im V X p mC b:=fun b h0 h1=>Im.fresh hC (by simp at h0;omega) h1;obtain⟨f,F⟩:∃f,f=r.k.buf++[x]:=⟨_,rfl⟩
 have bg:r.k.buf.length+1=f.length:=by rw[F];simp
 have a8:(f.length:Int)=r.k.i+1:=by have:=a6.Y.2;omega
 have bz:fE f:=by rw[F];exact Fu.Y.k.buf.app (fE.one (by rw[HX.Y];exact Fu.Y.L.at_ _))
 rw[<-F]at O;rw[bg]at O ⊢;have H7:RN (V.setCell ⟨p,16,none⟩ (.slice u f.length B)) X p c A n k t mC (q+1) {r with k:={r.k with buf:=f}} {s with bf:=⟨u,B⟩} o:=RN.leaf jV.Y {s with bf:=⟨u,B⟩} o {jV.Y.tk with bf:=⟨O.pP.2,fun ad ha _=>by subst ha;exact uo _ (aX O rfl).1 (aX O rfl).2⟩,lb:=O.cap.2} jV.Y.op rfl;have F7:cu V (V.setCell ⟨p,16,none⟩ (.slice u f.length B)) p mC mC:=((fT.refl _ _).set _ _).fr _;obtain⟨T,xH,bY,b5,br⟩:=dh H7 (pW.Y.trans F7) a8 bz F;clear H7 F7 uo O ei CI nD zK qT eF hC fC jK eG hHeld F bg a8 bz jV pW I qQ lz jd b8;generalize V.setCell ⟨p,16,none⟩ (.slice u f.length B)=w7 at *;have jQ:=HI.Y;have zD:=ae (size_le T.Y.cs.eN);obtain⟨C,bp,J⟩:=af.aM T.Y.blk;unfold bw at C;go_wp2_with fail;have H8:RN (w7.setCell ⟨p,9,none⟩ (.int .i64 (r.k.i+1))) X p c A n k t mC (q+1) {r with k:={r.k with buf:=f,i:=r.k.i+1}} {s with bf:=⟨u,B⟩} o:=RN.leaf T.Y {s with bf:=⟨u,B⟩} o {T.Y.tk with} T.Y.op rfl;obtain⟨Z,E⟩:=av (xH.Y.trans (((fT.refl w7 p).set 9 (.int .i64 (r.k.i+1))).fr mC)) H8;clear H8 C bp J T xH;generalize w7.setCell ⟨p,9,none⟩ (.int .i64 (r.k.i+1))=w8 at *;have J:=E.Y.lt;have gi:=E.Y.more (aj w8).drew;have gV:=Z.Y.trans (cu.ext (aj w8).drew p mC);obtain⟨Mt,a7,aq⟩:=aZ (fun l (h:RN l X p c A n k t mC (q+1) {r with k:={r.k with buf:=f,i:=r.k.i+1}} {s with bf:=⟨u,B⟩} o)=>Bo h) (fun l wy (h:RN l X p c A n k t mC (q+1) {r with k:={r.k with buf:=f,i:=r.k.i+1}} {s with bf:=⟨u,B⟩} o) (P:Below l l wy)=>h.more P) (fun l wy (h:cu w l p m mC) (P:Below l l wy)=>h.trans (cu.ext P p mC));have I:=E.Y.cx;unfold bw at I;go_region_held3(RX w8 p mC 0 0) (with_reducible(repeat(first|assumption|exact RX.start E.Y.blk _ _ _|refine RX.alloc ?_ _))) (
  ((with_reducible go_fit (Mt.Y _ (by assumption)));rintro e w9 ⟨rfl,Ad⟩;have cd:=RX.below (by assumption) Ad;have Rz:=a7.Y _ _ (by assumption) Ad;have RA:=aq.Y _ _ (by assumption) Ad))
 obtain⟨z,VC⟩:=av Rz RA;clear Ad Rz RA cd gi gV I J E Z;obtain⟨C,bp,J⟩:=af.aM z.Y.blk;unfold bw at C;have L:Hid (Rn.eZ c t r=if r.k.i+1<bn c then{r with k:={r.k with buf:=f,i:=r.k.i+1}}else(if r.k.ke=true/\(eT c f t).seq=r.k.seq then{r with k:={r.k with buf:=f,i:=0,found:=[],pc:=20,res:=eT c f t}}else{r with k:={r.k with buf:=f,i:=0,found:=[],pc:=8}})):=by unfold Hid Rn.eZ;rw[ah (by rw[uy.Y];decide)];dsimp only;rw[<-HA.Y, <-HX.Y, <-br.Y]
 by_cases bR:r.k.i+1<bn c
 ·have Q:Hid (Rn.eZ c t r={r with k:={r.k with buf:=f,i:=r.k.i+1}}):=by unfold Hid;rw[L.Y,au bR]
  go_wp2;refine bodyPost_ret (v:=.tuple #[]) (by simp[results,results109,go_sem]) rfl ?_;rw[Q.Y];exact⟨rfl,_,_,_,z.Y,VC.Y⟩
 ·have Q:Hid (Rn.eZ c t r=if r.k.ke=true/\(eT c f t).seq=r.k.seq then{r with k:={r.k with buf:=f,i:=0,found:=[],pc:=20,res:=eT c f t}}else{r with k:={r.k with buf:=f,i:=0,found:=[],pc:=8}}):=by unfold Hid;rw[L.Y,ah bR]
  have lD:Hid ((f.length:Int)=bn c):=by unfold Hid;have:=bY.Y;have:=a6.Y.1;omega
  clear L;go_wp2_with fail;have W:RN (((w9.setCell ⟨p,9,none⟩ oZ).setCell ⟨p,20,none⟩ oN).setCell ⟨p,0,none⟩ (.int .i64 8)) X p c A n k t mC (q+1) {r with k:={r.k with buf:=f,i:=0,found:=[],pc:=8}} {s with bf:=⟨u,B⟩,fo:=ek} o:=RN.leaf z.Y {s with bf:=⟨u,B⟩,fo:=ek} o {z.Y.tk with fo:=ru.nil _ _ _,lf:=aV _} z.Y.op rfl;obtain⟨d,G⟩:=av W (VC.Y.trans (((((fT.refl w9 p).set 9 oZ).set 20 oN).set 0 (.int .i64 8)).fr mC));clear W z VC C bp J;generalize(((w9.setCell ⟨p,9,none⟩ oZ).setCell ⟨p,20,none⟩ oN).setCell ⟨p,0,none⟩ (.int .i64 8))=D at *;have J:=d.Y.lt;have C8:=ae (fun l (U:Below D D l)=>vH (d.Y.more U) f u f.length B rfl lD.Y b5.Y (d.Y.more U).tk.bf.1 t d.Y.cs.t0 d.Y.cs.t1);obtain⟨y,hy⟩:∃y,y=eT c f t:=⟨_,rfl⟩
  rw[<-hy]at C8 Q;clear hy;have I:=d.Y.cx;unfold bw at I;go_cut[2] (fun s2 l=>wm D y s2 l);case first =>
   go_region_held3(RX D p mC 0 0) (with_reducible(repeat(first|assumption|exact RX.start d.Y.blk _ _ _|exact RX.gR d.Y.blk _ _ _ _|refine RX.alloc ?_ _|refine RX.bO ?_ (aS _) _ _))) ((refine(C8.Y _ (by first|exact(aj D).drew|exact(ak (aj D) _).drew)).mono ?_;rintro e ct ⟨rfl,M⟩;have cv:=RX.below (by assumption) M;have pX:=ai (by first|exact(aj D).drew|exact(ak (aj D) _).drew:Below D D _) M;(try(have vR:=(af.dr (af.new D _ _)).ai M;have cw:=fun i=>af.cell vR i;have cy:=fun i=>af.free vR i;have cz:=vR.lt))));all_goals
    go_wp2;go_meet;first
     |with_reducible exact wm.last pX y
     |(change wm _ _ _ (aw ct D 0 [y.seq,y.cs,y.code,y.value]);with_reducible exact wm.mid vR pX y)
  case rest =>
   obtain⟨g,rfl,(HG:Hid _),hg,P⟩:=hcut;obtain⟨HR,HF⟩:=av (d.Y.more P) (G.Y.trans (cu.ext P p mC));have cF:p<g:=by omega
   obtain⟨dC,-,gO⟩:=af.aM HG.Y;have cC:=HR.Y.lt;obtain⟨C,bp,-⟩:=af.aM HR.Y.blk;unfold bw at C;clear I J hg P C8 d G;rcases hs:r.k.ke with _|_
   ·have jv:Hid (Rn.eZ c t r={r with k:={r.k with buf:=f,i:=0,found:=[],pc:=8}}):=by unfold Hid;rw[Q.Y,ah (fun h=>by rw[hs]at h;cases h.1)]
    exact Yg
   ·by_cases R:y.seq=r.k.seq
    ·have jv:Hid (Rn.eZ c t r={r with k:={r.k with buf:=f,i:=0,found:=[],pc:=20,res:=y}}):=by unfold Hid;rw[Q.Y,au ⟨hs,R⟩]
     have b7:(y.seq==r.k.seq)=true:=by rw[R];exact beq_self_eq_true _
     clear R;go_wp2_with fail;go_quiet(fail);go_wp2;go_end0;rw[jv.Y];refine cE.then HF.Y ?_;exact cE.leaf HR.Y {s with bf:=⟨u,B⟩,fo:=ek} o {HR.Y.tk with} HR.Y.op rfl
    ·have jv:Hid (Rn.eZ c t r={r with k:={r.k with buf:=f,i:=0,found:=[],pc:=8}}):=by unfold Hid;rw[Q.Y,ah (fun h=>R h.2)]
     have b7:(y.seq==r.k.seq)=false:=by rw[di];exact R
     clear R;exact Yg
theorem EP(H:RN w X p c A n k t m q r s o)(f:RB c N r)(l:N<=100000)(u:q<=900000)(x:6<=r.k.pc)(y:r.k.pc<=7):Calls prog 109 #[.pointer p] w (cE X p c A n k t m (q+1) (Rn.eZ c t r) w):=by
 rcases(by omega:r.k.pc=6\/r.k.pc=7)with h|h
 ·exact Rx H f l u h
 ·exact Ry H f l u h
end
section
variable{w:World} {X:Nat->Prop} {p:Nat} {c:Mo.bA} {A:Option Addr} {n k:Nat} {t:Int} {m:Mm} {q:Nat} {r:Mo.Rn} {s:Sh} {o:Sl} {N:Int}
theorem ID(H:RN w X p c A n k t m q r s o)(T:q<=900000):Calls prog 116 #[.pointer p] w (cE X p c A n k t m (q+1) (Rn.leave c t r) w):=by
 have I:=(dO H.cs.eN H.cs.t0 H.cs.t1).2.2.1;obtain⟨L,y,HH⟩:=aZ (fun C=>tV C H.cs.eN A k n t H.cs.t0 (by have:=H.cs.t1;have:=H.cs.th;omega)) (fun C (h:RN C X p c A n k t m q r s o)=>fu h T (nL c t) 0 I.1 I.2) H;obtain⟨gi,gV,M,x,u⟩:=H.cK;have F:=HH.Y.cx;unfold bw at F;obtain⟨a,i,-⟩:=af.aM HH.Y.blk;unfold bw at a;clear H I;by_cases l:r.k.res.code=14
 ·have B:Rn.leave c t r={r.store (nL c t) 0 with note:=2,k:=(eY 29 r.k.seq r.k.aN r.k.aA r.k.res true)}:=by unfold Rn.leave;dsimp only;rw[ah (fun h=>h l)]
  rw[B];have G:(r.k.res.code !=14)=false:=by rw[l];rfl
  clear B l;go_enter func116,ntmps116;go_wp2_with fail;clear a i;go_region_held3(RX w p m 0 0) (exact gj) (first
   |((with_reducible go_fit (L.Y _));rintro e wA ⟨rfl,g⟩;have U:=RX.below (by assumption) g;(try have V:=M.Y _ _ (by assumption) g);(try have Y:=x.Y _ _ (by assumption) g))
   |((with_reducible go_fit (y.Y _ (by assumption)));rintro e D ⟨rfl,J,j,d⟩;have S:=RX.acc (by assumption) HH.Y.blk d (j.kept d rfl);have z:=cu.trans (by assumption) d))
  all_goals
   obtain⟨f,E⟩:=av j z;clear j d z F u;obtain⟨a,i,u⟩:=af.aM f.Y.blk;unfold bw Rn.store at a;dsimp only at a;go_wp2_with fail;clear a i u;have N:RN (D.setCell ⟨p,47,none⟩ (.int .i64 2)) X p c A n k t J (q+1) {r.store (nL c t) 0 with note:=2} s o:=RN.leaf f.Y s o {f.Y.tk with} f.Y.op rfl;obtain⟨b,Z⟩:=av N (((fT.refl D p).set 47 (.int .i64 2)).fr J);clear N;generalize(D.setCell ⟨p,47,none⟩ (.int .i64 2))=O at *;obtain⟨a,i,-⟩:=af.aM b.Y.blk;unfold bw Rn.store at a;dsimp only at a;have u:=b.Y.lt;go_still_tail 24,(by kernel_rfl)
   change wpList _ _ _ _ _ O.drew;refine wpList_store_mid rfl 50 _ _ rfl p 0 (iK (eY 29 r.k.seq r.k.aN r.k.aA r.k.res true) {cs:=s.cs,bf:=ek,nx:=ek,ar:=ek,fo:=ek,se:=ek,fr:=s.fr,ol:=s.ol}).toArray rfl rfl (af.there (af.kv b.Y.blk) 0 34 (by show 34<=50;decide)) (by kernel_rfl) (eK _ _) ?_;rw[jm];clear a i;generalize K:aw O.drew p 0 (iK (eY 29 r.k.seq r.k.aN r.k.aA r.k.res true) {cs:=s.cs,bf:=ek,nx:=ek,ar:=ek,fo:=ek,se:=ek,fr:=s.fr,ol:=s.ol}).toArray.toList=w5;have Q:=ae K;clear K;go_wp2;go_end0;rw[<-Q.Y];refine cE.then (E.Y.trans Z.Y) ?_;apply cE.at_ (s':={cs:=s.cs,bf:=ek,nx:=ek,ar:=ek,fo:=ek,se:=ek,fr:=s.fr,ol:=s.ol}) (o':=o) b.Y;case hA=>exact(fT.refl _ _).drew.aw _ _
   case hK=>exact af.whole (af.kv b.Y.blk) _ _
   case he=>rfl
   case hL=>rfl
   case tk=>exact⟨b.Y.tk.cs,dx.nil _ _ _ _,dx.nil _ _ _ _,dx.nil _ _ _ _,ru.nil _ _ _,dx.nil _ _ _ _,b.Y.tk.fr,b.Y.tk.ol,aV _,aV _,aV _,aV _,b.Y.tk.lr,b.Y.tk.lo⟩
   case op=>exact b.Y.op
 ·have B:Rn.leave c t r=(r.store (nL c t) 0).finish:=by unfold Rn.leave;dsimp only;rw[au l]
  rw[B];have G:(r.k.res.code !=14)=true:=by rw[bne_iff_ne];exact l
  have R:=ae (fun C W (h:RN C X p c A n k t W (q+1) (r.store (nL c t) 0) s o)=>qR h);clear B l;go_enter func116,ntmps116;go_wp2_with fail;clear a i;go_region_held3(RX w p m 0 0) (exact gj) (first
   |((with_reducible go_fit (L.Y _));rintro e wA ⟨rfl,g⟩;have U:=RX.below (by assumption) g;(try have V:=M.Y _ _ (by assumption) g);(try have Y:=x.Y _ _ (by assumption) g))
   |((with_reducible go_fit (y.Y _ (by assumption)));rintro e D ⟨rfl,J,j,d⟩;have S:=RX.acc (by assumption) HH.Y.blk d (j.kept d rfl);have z:=cu.trans (by assumption) d))
  all_goals
   obtain⟨f,E⟩:=av j z;clear j d z F u;obtain⟨a,i,u⟩:=af.aM f.Y.blk;unfold bw Rn.store at a;dsimp only at a;go_wp2_with fail;go_fit (R.Y _ _ f.Y);rintro e w3 ⟨rfl,(P:Hid _)⟩;go_wp2;refine bodyPost_ret (v:=.tuple #[]) (by simp[results,results116,go_sem]) rfl ?_;exact cE.then E.Y ⟨rfl,P.Y⟩
end
section
variable{w:World} {X:Nat->Prop} {p:Nat} {c:Mo.bA} {A:Option Addr} {n k:Nat} {t:Int} {m:Mm} {q:Nat} {r:Mo.Rn} {s:Sh} {o:Sl} {N:Int}
theorem V1{c:bA}(f:aU c=true):c.threads<=bn c:=by
 have a:=Mo.aK f;have d:0<=eX c:=by
  unfold eX;have e:=a.2.2.2.2.2.2.1;have b:=a.2.2.2.2.2.2.2.1;have g:0<=c.chans*(1+c.cap):=ly b aa;split
  ·omega
  ·split<;>omega
 unfold bn;rw[ah (by rw[f];decide)];omega
theorem RD(H:RN w X p c A n k t m q r s o)(i:q<=900000)(f:r.k.pc=37):Calls prog 184 #[.pointer p] w (cE X p c A n k t m (q+1) (Rn.waits c t r) w):=by
 have a:=(dO H.cs.eN H.cs.t0 H.cs.t1).2.1;obtain⟨HA,HST⟩:=av (fun b=>qz b H.cs.eN A k n t H.cs.t0 (by have:=H.cs.t1;have:=H.cs.th;omega)) (fun b (h:RN b X p c A n k t m q r s o)=>fu h i (iq c t) 0 a.1 a.2);have d:Rn.waits c t r=(r.store (iq c t) 0).pc 38:=by unfold Rn.waits;rw[ah aa,ah aa,ah aa,ah aa,ah aa,ah aa,ah aa,ah aa,au f]
 rw[d];have HH:=ae H;obtain⟨g,e,dm,HFm,aW⟩:=H.cK;have aT:=HH.cx;unfold bw at aT;obtain⟨aB,bp,-⟩:=af.aM HH.blk;unfold bw at aB;rw[f]at aB;clear H a d f;go_enter func184,ntmps184;exact ac4
theorem RE(H:RN w X p c A n k t m q r s o)(U:RB c N r)(Z:q<=900000)(O:r.k.pc=38):Calls prog 184 #[.pointer p] w (cE X p c A n k t m (q+1) (Rn.waits c t r) w):=by
 have P:=(dO H.cs.eN H.cs.t0 H.cs.t1).2.2.1;have K:=U.k.word;obtain⟨T,W⟩:=av (fun I=>tV I H.cs.eN A k n t H.cs.t0 (by have:=H.cs.t1;have:=H.cs.th;omega)) (fun I=>lq I r.k.word K.1 K.2);rw[show rS r.k.word=(cL r.k.word).seq from rfl,show rC r.k.word=(cL r.k.word).cs from rfl,show rO r.k.word=(cL r.k.word).code from rfl,show rV r.k.word=(cL r.k.word).value from rfl]at W;obtain⟨B,HH⟩:=av (fun I (h:RN I X p c A n k t m q r s o)=>fu h Z (nL c t) 0 P.1 P.2) H;obtain⟨gi,gV,V,z,b⟩:=H.cK;have M:=HH.Y.cx;unfold bw at M;obtain⟨a,d,-⟩:=af.aM HH.Y.blk;unfold bw at a;rw[O]at a;clear H P U;rcases J:kf r.k r.k.word with _|_
 ·have E:Rn.waits c t r=(r.store (nL c t) 0).pc 29:=by unfold Rn.waits;rw[ah (by omega),ah (by omega),ah (by omega),ah (by omega),ah (by omega),ah (by omega),ah (by omega),ah (by omega),ah (by omega),au O];dsimp only;rw[ah (by rw[J];decide)];try rfl
  rw[E];clear E;go_enter func184,ntmps184;go_wp2_with fail;clear a d;go_region_held3(RX w p m 0 0) (exact gj) (first
   |((with_reducible go_fit (T.Y _));rintro e wA ⟨rfl,u⟩;have mX:=RX.below (by assumption) u;(try have mY:=V.Y _ _ (by assumption) u);(try have nE:=z.Y _ _ (by assumption) u))
   |((with_reducible go_fit (B.Y _ (by assumption)));rintro e y ⟨rfl,j,x,i⟩;have jK:=RX.acc (by assumption) HH.Y.blk i (x.kept i rfl);have D:=cu.trans (by assumption) i))
  all_goals
   obtain⟨f,L⟩:=av x D;clear x i D M b;obtain⟨a,d,b⟩:=af.aM f.Y.blk;unfold bw Rn.store at a;dsimp only at a;go_wp2_with fail;clear a d b;have G:RN (y.setCell ⟨p,0,none⟩ (.int .i64 29)) X p c A n k t j (q+1) ((r.store (nL c t) 0).pc 29) s o:=RN.leaf f.Y s o {f.Y.tk with} f.Y.op rfl;obtain⟨l,R⟩:=av G (((fT.refl y p).set 0 (.int .i64 29)).fr j);clear G;generalize(y.setCell ⟨p,0,none⟩ (.int .i64 29))=w2 at *;have C:=ae (rv l.Y r.k.word K);rw[show kf ((r.store (nL c t) 0).pc 29).k r.k.word=false from J]at C;obtain⟨a,-,b⟩:=af.aM l.Y.blk;unfold bw Rn.pc Rn.store at a;dsimp only at a;go_wp2_with fail;(with_reducible go_fit C.Y);rintro e w5 ⟨rfl,v⟩;obtain⟨F,S⟩:=av (l.Y.more v) ((L.Y.trans R.Y).trans (cu.ext v p j));clear v a b;obtain⟨a,d,b⟩:=af.aM F.Y.blk;unfold bw Rn.pc Rn.store at a;dsimp only at a;go_wp2;go_end0;exact⟨rfl,_,_,_,F.Y,S.Y⟩
 ·have E:Rn.waits c t r={(r.store (nL c t) 0).pc 29 with k:={(r.k)with pc:=22,res:=cL r.k.word,bS:=0}}:=by unfold Rn.waits;rw[ah (by omega),ah (by omega),ah (by omega),ah (by omega),ah (by omega),ah (by omega),ah (by omega),ah (by omega),ah (by omega),au O];dsimp only;rw[au J];try rfl
  rw[E];clear E;go_enter func184,ntmps184;go_wp2_with fail;clear a d;go_region_held3(RX w p m 0 0) (exact gj) (first
   |((with_reducible go_fit (T.Y _));rintro e wA ⟨rfl,u⟩;have mX:=RX.below (by assumption) u;(try have mY:=V.Y _ _ (by assumption) u);(try have nE:=z.Y _ _ (by assumption) u))
   |((with_reducible go_fit (B.Y _ (by assumption)));rintro e y ⟨rfl,j,x,i⟩;have jK:=RX.acc (by assumption) HH.Y.blk i (x.kept i rfl);have D:=cu.trans (by assumption) i))
  all_goals
   obtain⟨f,L⟩:=av x D;clear x i D M b;obtain⟨a,d,b⟩:=af.aM f.Y.blk;unfold bw Rn.store at a;dsimp only at a;go_wp2_with fail;clear a d b;have G:RN (y.setCell ⟨p,0,none⟩ (.int .i64 29)) X p c A n k t j (q+1) ((r.store (nL c t) 0).pc 29) s o:=RN.leaf f.Y s o {f.Y.tk with} f.Y.op rfl;obtain⟨l,R⟩:=av G (((fT.refl y p).set 0 (.int .i64 29)).fr j);clear G;generalize(y.setCell ⟨p,0,none⟩ (.int .i64 29))=w2 at *;have C:=ae (rv l.Y r.k.word K);rw[show kf ((r.store (nL c t) 0).pc 29).k r.k.word=true from J]at C;obtain⟨a,-,b⟩:=af.aM l.Y.blk;unfold bw Rn.pc Rn.store at a;dsimp only at a;go_wp2_with fail;(with_reducible go_fit C.Y);rintro e w5 ⟨rfl,v⟩;obtain⟨F,S⟩:=av (l.Y.more v) ((L.Y.trans R.Y).trans (cu.ext v p j));clear v a b;obtain⟨a,d,b⟩:=af.aM F.Y.blk;unfold bw Rn.pc Rn.store at a;dsimp only at a;go_wp2_with fail;(with_reducible go_fit (W.Y _));rintro e w6 ⟨rfl,Q⟩;obtain⟨g,Y⟩:=av (F.Y.more Q) (S.Y.trans (cu.ext Q p j));clear Q a d b;obtain⟨a,d,b⟩:=af.aM g.Y.blk;unfold bw Rn.pc Rn.store at a;dsimp only at a;go_wp2;go_end0;refine cE.then Y.Y ?_;exact cE.leaf g.Y s o {g.Y.tk with} g.Y.op rfl
theorem RG(H:RN w X p c A n k t m q r s o)(D:RB c N r)(M:q<=900000)(l:r.k.pc=35):Calls prog 184 #[.pointer p] w (cE X p c A n k t m (q+1) (Rn.waits c t r) w):=by
 have G:=D.k.base;unfold wL at G;have u:=size_le H.cs.eN;have mN:=H.cs.th;have L:=H.cs.t1;have ui:=H.cs.t0;have I:0<=bu c r.k.base.ix/\bu c r.k.base.ix<=100000000:=by have Y:=lA H.cs.eN (i:=r.k.base.ix) (by omega) (by omega);have Z:=(Mo.aK H.cs.eN).1;unfold bu;omega
 have E:Rn.waits c t r=if ay r.L (bu c r.k.base.ix)=r.k.base.tag then r.pc 36 else r.pc 37:=by unfold Rn.waits;rw[ah (by omega),ah (by omega),ah (by omega),ah (by omega),ah (by omega),ah (by omega),au l];split<;>rfl
 rw[E];obtain⟨F,y⟩:=av (fun C (h:RN C X p c A n k t m q (r.pc 37) s o)=>jY h r.k.base.ix r.k.base.tag (by omega) (by omega)) (fun C (h:RN C X p c A n k t m q (r.pc 37) s o)=>cQ h M _ I.1);obtain⟨x,v⟩:∃x,x=ay r.L (bu c r.k.base.ix):=⟨_,rfl⟩
 rw[show(r.pc 37).L=r.L from rfl, <-v]at y;rw[<-v];have O:IntKind.u64.wrap r.k.base.tag=r.k.base.tag:=Br (by omega) (by omega);have HH:=ae H;have aW:=H.lt;obtain⟨aB,bp,-⟩:=af.aM HH.Y.blk;unfold bw at aB;rw[l]at aB;clear E l H v I G u D;by_cases d:x=r.k.base.tag
 ·rw[au d];have U:(x==r.k.base.tag)=true:=by rw[d];exact beq_self_eq_true _
  clear d;go_enter func184,ntmps184;go_upto_region 3 with fail
  clear aB bp aW;have g:RN (w.setCell ⟨p,0,none⟩ (.int .i64 37)) X p c A n k t m q (r.pc 37) s o:=RN.leaf HH.Y s o {HH.Y.tk with} HH.Y.op rfl;obtain⟨f,z⟩:=av g (((fT.refl w p).set 0 (.int .i64 37)).fr m);clear g;generalize(w.setCell ⟨p,0,none⟩ (.int .i64 37))=B at *;have gZ:=ae f.Y;obtain⟨K,J,j,a,aW⟩:=f.Y.cK;have aT:=gZ.Y.cx;unfold bw Rn.pc at aT;dsimp only at aT;go_wp2;go_region_held3(RX B p m 0 0) (exact gj) (first
   |((with_reducible go_fit (F.Y _ (by assumption)));rintro e V ⟨rfl,b⟩;have R:=RX.below (by assumption) b;(try have S:=j.Y _ _ (by assumption) b);(try have T:=a.Y _ _ (by assumption) b))
   |((with_reducible go_fit (y.Y _ (by assumption)));rintro e W ⟨rfl,Q,hC,fC⟩;have P:=RX.acc (by assumption) gZ.Y.blk fC (hC.kept fC rfl);have eG:=cu.trans (by assumption) fC))
  all_goals
   obtain⟨HR,HF⟩:=av hC (z.Y.trans eG);exact Yh
 ·rw[ah d];have U:(x==r.k.base.tag)=false:=by rw[di];exact d
  clear d;go_enter func184,ntmps184;go_upto_region 3 with fail
  clear aB bp aW;have g:RN (w.setCell ⟨p,0,none⟩ (.int .i64 37)) X p c A n k t m q (r.pc 37) s o:=RN.leaf HH.Y s o {HH.Y.tk with} HH.Y.op rfl;obtain⟨f,z⟩:=av g (((fT.refl w p).set 0 (.int .i64 37)).fr m);clear g;generalize(w.setCell ⟨p,0,none⟩ (.int .i64 37))=B at *;have gZ:=ae f.Y;obtain⟨K,J,j,a,aW⟩:=f.Y.cK;have aT:=gZ.Y.cx;unfold bw Rn.pc at aT;dsimp only at aT;go_wp2;go_region_held3(RX B p m 0 0) (exact gj) (first
   |((with_reducible go_fit (F.Y _ (by assumption)));rintro e V ⟨rfl,b⟩;have R:=RX.below (by assumption) b;(try have S:=j.Y _ _ (by assumption) b);(try have T:=a.Y _ _ (by assumption) b))
   |((with_reducible go_fit (y.Y _ (by assumption)));rintro e W ⟨rfl,Q,hC,fC⟩;have P:=RX.acc (by assumption) gZ.Y.blk fC (hC.kept fC rfl);have eG:=cu.trans (by assumption) fC))
  all_goals
   obtain⟨HR,HF⟩:=av hC (z.Y.trans eG);clear hC fC eG aT aW;exact Yi
theorem RH(H:RN w X p c A n k t m q r s o)(F:RB c N r)(R:q<=900000)(l:r.k.pc=36):Calls prog 184 #[.pointer p] w (cE X p c A n k t m (q+1) (Rn.waits c t r) w):=by
 have O:=F.k.base;unfold wL at O;have d:=size_le H.cs.eN;have U:=H.cs.th;have C:=H.cs.t1;have W:=H.cs.t0;have P:0<=bu c r.k.base.ix/\bu c r.k.base.ix<=100000000:=by have h1:=lA H.cs.eN (i:=r.k.base.ix) (by omega) (by omega);have h2:=(Mo.aK H.cs.eN).1;unfold bu;omega
 have J:Rn.waits c t r={r with k:={r.k with word:=ay r.L (bu c r.k.base.ix+1+bn c-c.threads+t),pc:=37}}:=by unfold Rn.waits;rw[ah (by omega),ah (by omega),ah (by omega),ah (by omega),ah (by omega),ah (by omega),ah (by omega),au l]
 rw[J];obtain⟨M,Q⟩:=av (fun f (h:RN f X p c A n k t m q r s o)=>jY h r.k.base.ix r.k.base.tag (by omega) (by omega)) (fun f (h:RN f X p c A n k t m q r s o)=>Bo h);obtain⟨a,B⟩:∃a,a=bu c r.k.base.ix:=⟨_,rfl⟩
 obtain⟨z,j⟩:∃z,z=bn c:=⟨_,rfl⟩
 have D:c.threads<=z:=by rw[j];exact V1 H.cs.eN
 rw[<-B]at P M;rw[<-j]at d Q;have L:=ae (fun f (h:RN f X p c A n k t m q r s o)=>cQ h R (a+1+z-c.threads+t) (by omega));rw[<-B, <-j];obtain⟨x,K⟩:∃x,x=ay r.L (a+1+z-c.threads+t):=⟨_,rfl⟩
 rw[<-K]at L ⊢;have Y:IntKind.i64.wrap (a+1)=a+1:=ky (by omega) (by omega);have Z:IntKind.i64.wrap (a+1+z)=a+1+z:=ky (by omega) (by omega);have e3:IntKind.i64.wrap (a+1+z-c.threads)=a+1+z-c.threads:=ky (by omega) (by omega);have e4:IntKind.i64.wrap (a+1+z-c.threads+t)=a+1+z-c.threads+t:=ky (by omega) (by omega);have HH:=ae H;obtain⟨gi,gV,G,b,aW⟩:=H.cK;obtain⟨aB,bp,-⟩:=af.aM HH.Y.blk;unfold bw at aB;rw[l]at aB;clear J l H K P O d F B j U C W D;go_enter func184,ntmps184;go_wp2_with fail;clear aB bp;obtain⟨E,V,T,S⟩:=HH.Y.FJ 18 19;unfold bw at E;go_region_held3(RX w p m 18 19) (exact gj) (first
  |((with_reducible go_fit (M.Y _ (by assumption)));rintro e wA ⟨rfl,u⟩;have mX:=RX.below (by assumption) u;(try have mY:=G.Y _ _ (by assumption) u);(try have nE:=b.Y _ _ (by assumption) u))
  |((with_reducible go_fit (Q.Y _ (by assumption)));rintro e wB ⟨rfl,v⟩;have nD:=RX.below (by assumption) v;(try have zK:=G.Y _ _ (by assumption) v);(try have qT:=b.Y _ _ (by assumption) v))
  |((with_reducible go_fit (L.Y _ (by assumption)));rintro e wC ⟨rfl,mC,y,g⟩;have jK:=RX.acc (by assumption) HH.Y.blk g (y.kept g rfl);have I:=cu.trans (by assumption) g))
 all_goals
  obtain⟨HR,HF⟩:=av y I;clear y g I E V T S aW;exact aaQ
theorem IE(H:RN w X p c A n k t m q r s o)(f:RB c N r)(i:q<=900000)(l:35<=r.k.pc):Calls prog 184 #[.pointer p] w (cE X p c A n k t m (q+1) (Rn.waits c t r) w):=by
 have a:=f.f.a.1.2;rcases(by omega:r.k.pc=35\/r.k.pc=36\/r.k.pc=37\/r.k.pc=38)with h|h|h|h
 ·exact RG H f i h
 ·exact RH H f i h
 ·exact RD H i h
 ·exact RE H f i h
end
section
variable{w:World} {X:Nat->Prop} {p:Nat} {c:Mo.bA} {A:Option Addr} {n k:Nat} {t:Int} {m:Mm} {q:Nat} {r:Mo.Rn} {s:Sh} {o:Sl} {N:Int}
theorem RI(H:RN w X p c A n k t m q r s o)(f:RB c N r)(y:N<=100000)(l:q<=900000)(h:r.k.pc=30):Calls prog 117 #[.pointer p] w (cE X p c A n k t m (q+1) (Rn.waits c t r) w):=by
 have HL:=ae (cQ H l 1 ag);have a:=(f.L.at_ 1).1;have b:=f.g;have d:Rn.waits c t r={r with k:={r.k with fW:=ay r.L 1,pc:=31}}:=by unfold Rn.waits;rw[ah aa,au h]
 rw[d];generalize ay r.L 1=x at HL a b ⊢;have j:IntKind.i64.wrap x=x:=ky a aa;have HH:=ae H;obtain⟨i,g,u,e,aW⟩:=H.cK;obtain⟨aB,bp,-⟩:=af.aM HH.blk;unfold bw at aB;rw[h]at aB;clear H d h f i g;go_enter func117,ntmps117;exact ac2
theorem RJ(H:RN w X p c A n k t m q r s o)(h:RB c N r)(i:q<=900000)(f:r.k.pc=32):Calls prog 117 #[.pointer p] w (cE X p c A n k t m (q+1) (Rn.waits c t r) w):=by
 have HL:=ae (cQ H i 0 ag);have a:=h.L.at_ 0;have b:Rn.waits c t r={r with k:={r.k with base:=(g9 (ay r.L 0)).1,pc:=33}}:=by unfold Rn.waits;rw[ah aa,ah aa,ah aa,au f]
 rw[b];generalize ay r.L 0=x at HL a ⊢;obtain⟨lX,HH⟩:=av (fun j=>Aw j x a.1 a.2) H;obtain⟨g,e,l,d,aW⟩:=H.cK;obtain⟨aB,bp,-⟩:=af.aM HH.blk;unfold bw at aB;rw[f]at aB;clear H b f h a g e;go_enter func117,ntmps117;exact ac3
theorem RK(H:RN w X p c A n k t m q r s o)(l:RB c N r)(D:N<=100000)(y:q<=900000)(f:r.k.pc=31):Calls prog 117 #[.pointer p] w (cE X p c A n k t m (q+1) (Rn.waits c t r) w):=by
 have i:=l.k.ep;have g:=(dO H.cs.eN H.cs.t0 H.cs.t1).2.2.1;have j:Rn.waits c t r=(r.store (nL c t) (ig r.k.fW)).pc 32:=by unfold Rn.waits;rw[ah (by omega),ah (by omega),au f]
 rw[j];have u:=ae (fun wx=>tV wx H.cs.eN A k n t H.cs.t0 (by have:=H.cs.t1;have:=H.cs.th;omega));have v:Hid (∀wx,Calls prog 152 #[r.k.fW] wx fun e z=>e=.returned (.int .u64 (ig r.k.fW))/\wx=z):=fun wx=>by exact Yd
 obtain⟨b,HH⟩:=av (fun wx (h:RN wx X p c A n k t m q r s o)=>fu h y (nL c t) (ig r.k.fW) g.1 g.2) H;obtain⟨C,B,x,a,aW⟩:=H.cK;have aT:=HH.Y.cx;unfold bw at aT;obtain⟨aB,bp,-⟩:=af.aM HH.Y.blk;unfold bw at aB;rw[f]at aB;clear H j f l g i;go_enter func117,ntmps117;go_wp2_with fail;clear aB bp;go_region_held3(RX w p m 0 0) (exact gj) (first
  |((with_reducible go_fit (u.Y _));rintro e K ⟨rfl,d⟩;have G:=RX.below (by assumption) d;(try have I:=x.Y _ _ (by assumption) d);(try have J:=a.Y _ _ (by assumption) d))
  |((with_reducible go_fit (v.Y _));rintro e L ⟨rfl,rfl⟩)
  |((with_reducible go_fit (b.Y _ (by assumption)));rintro e M ⟨rfl,F,hC,fC⟩;have E:=RX.acc (by assumption) HH.Y.blk fC (hC.kept fC rfl);have eG:=cu.trans (by assumption) fC))
 exact aaO
theorem RL(H:RN w X p c A n k t m q r s o)(y:q<=900000)(f:r.k.pc=33):Calls prog 117 #[.pointer p] w (cE X p c A n k t m (q+1) (Rn.waits c t r) w):=by
 have j:=(dO H.cs.eN H.cs.t0 H.cs.t1).2.1;have u:Rn.waits c t r=(r.store (iq c t) (bF r.k.base)).pc 34:=by unfold Rn.waits;rw[ah (by omega),ah (by omega),ah (by omega),ah (by omega),au f]
 rw[u];have v:=ae (fun a=>qz a H.cs.eN A k n t H.cs.t0 (by have:=H.cs.t1;have:=H.cs.th;omega));have x:Hid (∀a,Calls prog 103 #[.agg #[r.k.base.ix,r.k.base.tag]] a fun e z=>e=.returned (.int .u64 (bF r.k.base))/\Below a a z):=fun a=>gI a _ _;obtain⟨d,HH⟩:=av (fun a (h:RN a X p c A n k t m q r s o)=>fu h y (iq c t) (bF r.k.base) j.1 j.2) H;obtain⟨C,B,l,b,aW⟩:=H.cK;have aT:=HH.Y.cx;unfold bw at aT;obtain⟨aB,bp,-⟩:=af.aM HH.Y.blk;unfold bw at aB;rw[f]at aB;clear H u f j;go_enter func117,ntmps117;go_wp2_with fail;clear aB bp;go_region_held3(RX w p m 0 0) (exact gj) (first
  |((with_reducible go_fit (v.Y _));rintro e L ⟨rfl,g⟩;have F:=RX.below (by assumption) g;(try have G:=l.Y _ _ (by assumption) g);(try have J:=b.Y _ _ (by assumption) g))
  |((with_reducible go_fit (x.Y _));rintro e M ⟨rfl,i⟩;have I:=RX.below (by assumption) i;(try have O:=l.Y _ _ (by assumption) i);(try have K:=b.Y _ _ (by assumption) i))
  |((with_reducible go_fit (d.Y _ (by assumption)));rintro e N ⟨rfl,E,hC,fC⟩;have D:=RX.acc (by assumption) HH.Y.blk fC (hC.kept fC rfl);have eG:=cu.trans (by assumption) fC))
 exact aaO
theorem RM(H:RN w X p c A n k t m q r s o)(K:q<=900000)(u:r.k.pc=34):Calls prog 117 #[.pointer p] w (cE X p c A n k t m (q+1) (Rn.waits c t r) w):=by
 have F:Rn.waits c t r=if ay r.L 0=bF r.k.base then{r with k:={r.k with word:=0,pc:=35}}else{r with k:={r.k with word:=0,pc:=37}}:=by unfold Rn.waits;rw[ah (by omega),ah (by omega),ah (by omega),ah (by omega),ah (by omega),au u];split<;>rfl
 rw[F];obtain⟨x,z⟩:∃x,x=ay r.L 0:=⟨_,rfl⟩
 obtain⟨y,B⟩:∃y,y=bF r.k.base:=⟨_,rfl⟩
 have E:Hid (∀f,Calls prog 103 #[.agg #[r.k.base.ix,r.k.base.tag]] f fun e P=>e=.returned (.int .u64 y)/\Below f f P):=fun f=>by
  rw[B]
  exact gI f _ _
 have C:=ae (fun f (h:RN f X p c A n k t m q {r with k:={r.k with word:=0,pc:=37}} s o)=>cQ h K 0 (by decide));rw[show({r with k:={r.k with word:=0,pc:=37}}:Rn).L=r.L from rfl, <-z]at C;rw[<-z, <-B];have HH:=ae H;have aW:=H.lt;obtain⟨aB,bp,-⟩:=af.aM HH.Y.blk;unfold bw at aB;rw[u]at aB;clear F u H z B;by_cases g:x=y
 ·rw[au g];have N:(x==y)=true:=by rw[g];exact beq_self_eq_true _
  clear g;go_enter func117,ntmps117;go_upto_region 22 with fail
  clear aB bp aW;have j:RN ((w.setCell ⟨p,18,none⟩ (.int .u64 0)).setCell ⟨p,0,none⟩ (.int .i64 37)) X p c A n k t m q {r with k:={r.k with word:=0,pc:=37}} s o:=RN.leaf HH.Y s o {HH.Y.tk with} HH.Y.op rfl;obtain⟨i,l⟩:=av j ((((fT.refl w p).set 18 (.int .u64 0)).set 0 (.int .i64 37)).fr m);clear j;generalize((w.setCell ⟨p,18,none⟩ (.int .u64 0)).setCell ⟨p,0,none⟩ (.int .i64 37))=d at *;have gZ:=ae i.Y;obtain⟨J,I,v,b,aW⟩:=i.Y.cK;have aT:=gZ.Y.cx;unfold bw at aT;dsimp only at aT;go_wp2;go_region_held3(RX d p m 0 0) (exact gj) (first
   |((with_reducible go_fit (E.Y _));rintro e Q ⟨rfl,a⟩;have M:=RX.below (by assumption) a;(try have S:=v.Y _ _ (by assumption) a);(try have O:=b.Y _ _ (by assumption) a))
   |((with_reducible go_fit (C.Y _ (by assumption)));rintro e R ⟨rfl,D,hC,fC⟩;have L:=RX.acc (by assumption) gZ.Y.blk fC (hC.kept fC rfl);have G:=cu.trans (by assumption) fC))
  all_goals
   first
    |(have HF:=ae ((l.Y.trans ((cu.ext (aj d).drew p m).trans (cu.ext a p m))).trans fC);have HR:=ae hC)
    |(have HF:=ae ((l.Y.trans ((cu.ext (aj d).drew p m).trans fC)).trans (cu.ext a p D));have HR:=ae (hC.more a))
   exact Ye
 ·rw[ah g];have N:(x==y)=false:=by rw[di];exact g
  clear g;go_enter func117,ntmps117;go_upto_region 22 with fail
  clear aB bp aW;have j:RN ((w.setCell ⟨p,18,none⟩ (.int .u64 0)).setCell ⟨p,0,none⟩ (.int .i64 37)) X p c A n k t m q {r with k:={r.k with word:=0,pc:=37}} s o:=RN.leaf HH.Y s o {HH.Y.tk with} HH.Y.op rfl;obtain⟨i,l⟩:=av j ((((fT.refl w p).set 18 (.int .u64 0)).set 0 (.int .i64 37)).fr m);clear j;generalize((w.setCell ⟨p,18,none⟩ (.int .u64 0)).setCell ⟨p,0,none⟩ (.int .i64 37))=d at *;have gZ:=ae i.Y;obtain⟨J,I,v,b,aW⟩:=i.Y.cK;have aT:=gZ.Y.cx;unfold bw at aT;dsimp only at aT;go_wp2;go_region_held3(RX d p m 0 0) (exact gj) (first
   |((with_reducible go_fit (E.Y _));rintro e Q ⟨rfl,a⟩;have M:=RX.below (by assumption) a;(try have S:=v.Y _ _ (by assumption) a);(try have O:=b.Y _ _ (by assumption) a))
   |((with_reducible go_fit (C.Y _ (by assumption)));rintro e R ⟨rfl,D,hC,fC⟩;have L:=RX.acc (by assumption) gZ.Y.blk fC (hC.kept fC rfl);have G:=cu.trans (by assumption) fC))
  all_goals
   first
    |(have HF:=ae ((l.Y.trans ((cu.ext (aj d).drew p m).trans (cu.ext a p m))).trans fC);have HR:=ae hC)
    |(have HF:=ae ((l.Y.trans ((cu.ext (aj d).drew p m).trans fC)).trans (cu.ext a p D));have HR:=ae (hC.more a))
   clear hC fC aT aW;exact Yi
theorem RO(H:RN w X p c A n k t m q r s o)(W:RB c N r)(hq:q<=900000)(P:r.k.pc=29):Calls prog 117 #[.pointer p] w (cE X p c A n k t m (q+1) (Rn.waits c t r) w):=by
 have Z:=(dO H.cs.eN H.cs.t0 H.cs.t1).2.2.2.1;have F:=W.L.at_ (bZ c t);obtain⟨V,S⟩:=av (fun B=>jW B H.cs.eN A k n t H.cs.t0 (by have:=H.cs.t1;have:=H.cs.th;omega)) (fun B (h:RN B X p c A n k t m q r s o)=>cQ h hq _ Z.1);obtain⟨x,Q⟩:∃x,x=ay r.L (bZ c t):=⟨_,rfl⟩
 rw[<-Q]at S F;have lX:=ae (fun B=>lq B x F.1 F.2);rw[show rS x=(cL x).seq from rfl,show rC x=(cL x).cs from rfl,show rO x=(cL x).code from rfl,show rV x=(cL x).value from rfl]at lX;have L:Rn.waits c t r=if kf r.k x=true then Rn.finish {r with k:={r.k with res:=cL x,pc:=30}}else r.pc 30:=by unfold Rn.waits;rw[au P, <-Q]
 have HH:=ae H;obtain⟨gi,gV,Y,C,b⟩:=H.cK;have O:=HH.Y.cx;unfold bw at O;obtain⟨a,d,-⟩:=af.aM HH.Y.blk;unfold bw at a;rw[P]at a;clear H Z W Q P;rcases K:kf r.k x with _|_
 ·have J:Rn.waits c t r=r.pc 30:=by rw[L,ah (by rw[K];decide)]
  rw[J];clear L J;go_enter func117,ntmps117;go_wp2_with fail;clear a d;go_region_held3(RX w p m 0 0) (exact gj) (first
   |((with_reducible go_fit (V.Y _));rintro e wA ⟨rfl,u⟩;have mX:=RX.below (by assumption) u;(try have mY:=Y.Y _ _ (by assumption) u);(try have nE:=C.Y _ _ (by assumption) u))
   |((with_reducible go_fit (S.Y _ (by assumption)));rintro e z ⟨rfl,j,y,i⟩;have jK:=RX.acc (by assumption) HH.Y.blk i (y.kept i rfl);have E:=cu.trans (by assumption) i))
  all_goals
   obtain⟨f,M⟩:=av y E;clear y i E O b;obtain⟨a,d,b⟩:=af.aM f.Y.blk;unfold bw at a;go_wp2_with fail;clear a d b;have I:RN (z.setCell ⟨p,0,none⟩ (.int .i64 30)) X p c A n k t j (q+1) (r.pc 30) s o:=RN.leaf f.Y s o {f.Y.tk with} f.Y.op rfl;obtain⟨l,T⟩:=av I (((fT.refl z p).set 0 (.int .i64 30)).fr j);clear I;generalize(z.setCell ⟨p,0,none⟩ (.int .i64 30))=w2 at *;have D:=ae (rv l.Y x F);rw[show kf (r.pc 30).k x=false from K]at D;obtain⟨a,-,b⟩:=af.aM l.Y.blk;unfold bw Rn.pc at a;dsimp only at a;go_wp2_with fail;(with_reducible go_fit D.Y);rintro e w5 ⟨rfl,v⟩;obtain⟨G,U⟩:=av (l.Y.more v) ((M.Y.trans T.Y).trans (cu.ext v p j));clear v a b;obtain⟨a,d,b⟩:=af.aM G.Y.blk;unfold bw Rn.pc at a;dsimp only at a;go_wp2;go_end0;exact⟨rfl,_,_,_,G.Y,U.Y⟩
 ·have J:Rn.waits c t r=Rn.finish {r with k:={r.k with res:=cL x,pc:=30}}:=by rw[L,au K]
  rw[J];clear L J;have NT:=ae (fun B mx (h:RN B X p c A n k t mx (q+1) {r with k:={r.k with res:=cL x,pc:=30}} s o)=>qR h);go_enter func117,ntmps117;go_wp2_with fail;clear a d;go_region_held3(RX w p m 0 0) (exact gj) (first
   |((with_reducible go_fit (V.Y _));rintro e wA ⟨rfl,u⟩;have mX:=RX.below (by assumption) u;(try have mY:=Y.Y _ _ (by assumption) u);(try have nE:=C.Y _ _ (by assumption) u))
   |((with_reducible go_fit (S.Y _ (by assumption)));rintro e z ⟨rfl,j,y,i⟩;have jK:=RX.acc (by assumption) HH.Y.blk i (y.kept i rfl);have E:=cu.trans (by assumption) i))
  all_goals
   obtain⟨f,M⟩:=av y E;clear y i E O b;obtain⟨a,d,b⟩:=af.aM f.Y.blk;unfold bw at a;go_wp2_with fail;clear a d b;have I:RN (z.setCell ⟨p,0,none⟩ (.int .i64 30)) X p c A n k t j (q+1) (r.pc 30) s o:=RN.leaf f.Y s o {f.Y.tk with} f.Y.op rfl;obtain⟨l,T⟩:=av I (((fT.refl z p).set 0 (.int .i64 30)).fr j);clear I;generalize(z.setCell ⟨p,0,none⟩ (.int .i64 30))=w2 at *;have D:=ae (rv l.Y x F);rw[show kf (r.pc 30).k x=true from K]at D;obtain⟨a,-,b⟩:=af.aM l.Y.blk;unfold bw Rn.pc at a;dsimp only at a;go_wp2_with fail;(with_reducible go_fit D.Y);rintro e w5 ⟨rfl,v⟩;obtain⟨G,U⟩:=av (l.Y.more v) ((M.Y.trans T.Y).trans (cu.ext v p j));clear v a b;obtain⟨a,d,b⟩:=af.aM G.Y.blk;unfold bw Rn.pc at a;dsimp only at a;go_wp2_with fail;(with_reducible go_fit (lX.Y _));rintro e w6 ⟨rfl,R⟩;obtain⟨g,NM⟩:=av (G.Y.more R) (U.Y.trans (cu.ext R p j));clear R a d b;obtain⟨a,d,b⟩:=af.aM g.Y.blk;unfold bw Rn.pc at a;dsimp only at a;go_wp2_with fail;go_fit (NT.Y _ j ?_)
   ·exact RN.leaf g.Y s o {g.Y.tk with} g.Y.op rfl
   ·rintro e w7 ⟨rfl,(HX:Hid _)⟩;go_wp2;go_end0;refine cE.then NM.Y (cE.after ⟨rfl,HX.Y⟩ ?_);exact Tb
theorem IF(H:RN w X p c A n k t m q r s o)(f:RB c N r)(u:N<=100000)(l:q<=900000)(x:29<=r.k.pc):Calls prog 117 #[.pointer p] w (cE X p c A n k t m (q+1) (Rn.waits c t r) w):=by
 by_cases i:r.k.pc<=34
 ·rcases(by omega:r.k.pc=29\/r.k.pc=30\/r.k.pc=31\/r.k.pc=32\/r.k.pc=33\/r.k.pc=34)with h|h|h|h|h|h
  ·exact RO H f l h
  ·exact RI H f u l h
  ·exact RK H f u l h
  ·exact RJ H f l h
  ·exact RL H l h
  ·exact RM H l h
 ·have b:=ae (IE H f l aa);have v:=f.f.a.1.2;obtain⟨g,-,F⟩:=af.aM H.blk;unfold bw at g;clear H f;have a:∀j:Int,j<=34->(r.k.pc==j)=false:=fun j G=>by rw[di];omega
  have y:=a 29 ag;have z:=a 30 ag;have B:=a 31 ag;have C:=a 32 ag;have D:=a 33 ag;have E:=a 34 ag;clear a x i v;go_enter func117,ntmps117;go_wp2_with fail;refine b.mono ?_;rintro e I ⟨rfl,(d:Hid _)⟩;go_wp2;go_end0;exact⟨rfl,d⟩
end
section
variable{w:World} {X:Nat->Prop} {p:Nat} {c:Mo.bA} {A:Option Addr} {n k:Nat} {t:Int} {m:Mm} {q:Nat} {r:Mo.Rn} {s:Sh} {o:Sl} {N:Int}
theorem Bt(q:Rq)(f:Int):lu q.kind q.arg q.value q.dflt q.cases f=iM q f:=by unfold lu iM;simp only[cA];rfl
theorem RP(H:RN w X p c A n k t m q r s o)(x:q<=900000) :
 Calls prog 171 #[.pointer (some ⟨m.g,0,none⟩),t,.int .i64 2,.int .u64 1] w (RnV X p c A n k t m (q+1) (r.store 2 ((ay r.L 2+1)%18446744073709551616)) s o (.tuple #[.int .u64 (ay r.L 2),oZ]) w):=by
 have g:(2:Int)<bB c:=by have h:=(dO H.cs.eN H.cs.t0 H.cs.t1).1.2;have:=H.cs.t0;unfold lJ at h;omega
 obtain⟨j,v,l⟩:=H.word (a:=2) ag g
 have b:j=2:=aa
 subst b
 go_fit (US _ 0 m.g m.vl m.vg m.vc r.L m.G m.C m.kp t 2 _ 1 H.mem.mv H.mem.cl (bq H.mem.gl aa) H.C9 l)
 rintro e y ⟨rfl,i⟩
 obtain⟨u,d,f⟩:=H.acc i (cq)
 refine⟨rfl,u,?_,f⟩
 unfold Rn.store
 rw[show Mo.setAt r.L 2 ((ay r.L 2+1)%18446744073709551616)=r.L.set 2 ((ay r.L 2+1)%18446744073709551616)from vE r.L 2 _]
 rw[iW]at d
 exact d
theorem ER(H:RN w X p c A n k t m q r s o)(i:RB c N r)(l:c.bG<=1048575)(u:q<=900000)(f:r.k.pc=18):Calls prog 113 #[.pointer p] w (cE X p c A n k t m (q+1) (Rn.bT c t r) w):=by
 have b:=(dO H.cs.eN H.cs.t0 H.cs.t1).1;have a:=i.k.seq;have g:IntKind.u64.wrap r.k.seq=r.k.seq:=Br a.1 aa;obtain⟨HA,HST⟩:=av (fun d=>yI d H.cs.eN A k n t H.cs.t0 (by have:=H.cs.t1;have:=H.cs.th;omega)) (fun d (h:RN d X p c A n k t m q r s o)=>fu h u (lJ c t) r.k.seq b.1 b.2);have e:Rn.bT c t r={r.store (lJ c t) r.k.seq with k:={r.k with ke:=true,round:=1,pc:=3}}:=by unfold Rn.bT;rw[ah aa,ah aa,au f]
 rw[e];have HH:=ae H;obtain⟨v,j,dm,HFm,aW⟩:=H.cK;have aT:=HH.cx;unfold bw at aT;obtain⟨aB,bp,-⟩:=af.aM HH.blk;unfold bw at aB;rw[f]at aB;clear H b e f i a l;go_enter func113,ntmps113;exact ac4
theorem ES(H:RN w X p c A n k t m q r s o)(u:RB c N r)(J:q<=900000)(i:r.k.pc=19):Calls prog 113 #[.pointer p] w (cE X p c A n k t m (q+1) (Rn.bT c t r) w):=by
 have C:=(dO H.cs.eN H.cs.t0 H.cs.t1).2.2.2.1;have d:=u.L.at_ (bZ c t);obtain⟨G,D⟩:=av (fun a=>jW a H.cs.eN A k n t H.cs.t0 (by have:=H.cs.t1;have:=H.cs.th;omega)) (fun a (h:RN a X p c A n k t m q r s o)=>cQ h J _ C.1);have B:Rn.bT c t r={r with k:={r.k with res:=cL (ay r.L (bZ c t)),pc:=20}}:=by unfold Rn.bT;rw[ah aa,ah aa,ah aa,au i]
 rw[B];generalize ay r.L (bZ c t)=x at D d ⊢;have E:=ae (fun a=>lq a x d.1 d.2);rw[show rS x=(cL x).seq from rfl,show rC x=(cL x).cs from rfl,show rO x=(cL x).code from rfl,show rV x=(cL x).value from rfl]at E;have HH:=ae H;obtain⟨R,Q,I,f,aW⟩:=H.cK;obtain⟨v,O,L,K⟩:=HH.FJ 27 31;unfold bw at v;obtain⟨aB,bp,-⟩:=af.aM HH.blk;unfold bw at aB;rw[i]at aB;clear H C B i u d;go_enter func113,ntmps113;go_wp2_with fail;clear aB bp;go_region_held3(RX w p m 27 31) (exact gj) (first
  |((with_reducible go_fit (G.Y _));rintro e W ⟨rfl,g⟩;have T:=RX.below bc g;(try have U:=I.Y _ _ bc g);(try have V:=f.Y _ _ bc g))
  |((with_reducible go_fit (D.Y _ bc));rintro e Y ⟨rfl,M,j,b⟩;have S:=RX.acc bc HH.Y.blk b (j.kept b rfl);have y:=cu.trans bc b)
  |((with_reducible go_fit (E.Y _));rintro e Z ⟨rfl,l⟩;have P:=RX.below bc l;have z:=j.more l;have F:=cu.trans y (cu.ext l p M)))
 all_goals
  obtain⟨HR,HF⟩:=av z F;clear j b y z F v O L K aW;exact aaQ
theorem ET(H:RN w X p c A n k t m q r s o)(F:RB c N r)(Z:q<=900000)(G:r.k.pc=16):Calls prog 113 #[.pointer p] w (cE X p c A n k t m (q+1) (Rn.bT c t r) w):=by
 have z:=F.L.at_ 2;have nX:r.k.aN.cases.length<=9223372036854775807:=by have h:=F.f.aN aa;unfold Mo.bk at h;simp only[cA,bP]at h;omega
 have g:=ae (fun D (h:RN D X p c A n k t m q r s o)=>RP h Z);have O:Rn.bT c t r={r.store 2 ((ay r.L 2+1)%18446744073709551616)with k:={r.k with args:=iM r.k.aN (ay r.L 2%4294967296),j:=0,pc:=17}}:=by unfold Rn.bT;rw[au G]
 rw[O];obtain⟨x,Q⟩:=aG (ay r.L 2);rw[<-Q]at g z ⊢;have i:wrap64 (bits BinOp.and IntKind.u64 x 4294967295)=x%4294967296:=by rw[BI x z.1 z.2];exact IntWalk.wrap64_in _ aa
 have E:=ae i;clear i;have R:=ae (fun D mx (h:RN D X p c A n k t mx (q+1) (r.store 2 ((x+1)%18446744073709551616)) s o)=>xV D r.k.aN.kind r.k.aN.arg r.k.aN.value r.k.aN.dflt s.cs.A s.cs.c r.k.aN.cases (x%4294967296) nX h.tk.cs.1);obtain⟨a1,f⟩:=aG (iM r.k.aN (x%4294967296));rw[Bt r.k.aN, <-f]at R;rw[<-f];clear f;have HH:=ae H;obtain⟨gi,gV,dm,U,u⟩:=H.cK;have L:=HH.cx;unfold bw at L;obtain⟨a,v,-⟩:=af.aM HH.blk;unfold bw at a;rw[G]at a;clear H O G F Q z;go_enter func113,ntmps113;go_wp2_with fail;clear a v;go_region_held3(RX w p m 0 0) (exact gj) (first
  |((with_reducible go_fit (g.Y _ bc));rintro e wC ⟨rfl,K,I,y⟩;have jK:=RX.acc bc HH.Y.blk y (I.kept y rfl);have M:=cu.trans bc y))
 all_goals
  obtain⟨l,T⟩:=av I M;clear I y M L u;obtain⟨a,v,u⟩:=af.aM l.blk;unfold bw Rn.store at a;dsimp only at a;go_wp2_with fail;rw[E.Y];go_fit (R _ K l);rintro e S ⟨B,d,rfl,P,J⟩;obtain⟨C,rT,j⟩:=aZ (l.more J) (T.trans (cu.ext J p K)) P;have ue:Hid (∀b,wC.heap.size<=b->b<S.heap.size->Im S X p K b):=fun b V W=>Im.fresh l V W;clear a v u P J;obtain⟨a,v,u⟩:=af.aM C.blk;unfold bw Rn.store at a;dsimp only at a;go_wp2;go_end0;refine cE.then rT ?_;exact cE.leaf C {s with ar:=⟨B,d⟩} o {C.tk with ar:=⟨j.pP.2,fun ad Y _=>by subst Y;exact ue.Y _ (aX j rfl).1 (aX j rfl).2⟩,la:=j.cap.2} C.op rfl
theorem EU(H:RN w X p c A n k t m q r s o)(x:RB c N r)(K:q<=900000)(bQ:r.k.pc=17):Calls prog 113 #[.pointer p] w (cE X p c A n k t m (q+1) (Rn.bT c t r) w):=by
 obtain⟨P,B,C⟩:r.k.args.length=5/\0<=r.k.j/\r.k.j<5:=by have h:=x.f.a;unfold mM at h;have f:=h.2.2.2.2.2.2.2.2 bQ;have g:=x.k.j;omega
 obtain⟨d,u⟩:∃d:Nat,r.k.j=d:=⟨r.k.j.toNat,aa⟩
 have j:d<r.k.args.length:=aa;have O:(d:Int)<5:=aa;obtain⟨G,z,E,D,F⟩:=H.tk.ar.1.at_ (i:=d) j;have ha:=(dO H.cs.eN H.cs.t0 H.cs.t1).2.2.2.2 d aa aa;have M:=H.cs.C9;have e1:IntKind.i64.wrap (iY c t+d)=iY c t+d:=ky aa aa;have l:ay r.k.args d=z:=by unfold ay;rw[ah aa,gu,cZ,D];rfl
 obtain⟨HA,HST⟩:=av (fun e=>Bb e H.cs.eN A k n t H.cs.t0 (by have:=H.cs.t1;have:=H.cs.th;omega)) (fun e (h:RN e X p c A n k t m q r s o)=>fu h K (iY c t+d) z ha.1 ha.2);have hE:Rn.bT c t r={r.store (iY c t+d) z with k:={r.k with j:=(d:Int)+1,pc:=if(d:Int)+1=5 then 18 else 17}}:=by unfold Rn.bT;rw[ah aa,au bQ,u,l]
 have HH:=ae H;obtain⟨R,Q,dm,HFm,aW⟩:=H.cK;have aT:=HH.cx;unfold bw at aT;obtain⟨aB,bp,-⟩:=af.aM HH.blk;unfold bw at aB;rw[bQ]at aB;have fH:∀e,RX w p m 0 0 e->e.cell? (G.add d)=some (.int .u64 z):=fun e L=>by
  have h:=(HH.tk.ar.same fun b y=>L.eq b y.1 y.2.1 y.2.2.1).1
  obtain⟨I,S,f,g,J⟩:=h.at_ (i:=d) j
  rw[E]at f
  rw[D]at g
  injection f with f;injection g with g
  rw[f,g];exact J
 rw[u,E]at aB aT;have HJ:=ae u;clear H ha x u B C D l M F;by_cases h5:(d:Int)+1=5
 ·have v:((d:Int)+1==5)=true:=by rw[h5];rfl
  have pM:Rn.bT c t r={r.store (iY c t+d) z with k:={r.k with j:=(d:Int)+1,pc:=18}}:=by rw[hE,au h5]
  exact ac5
 ·have v:((d:Int)+1==5)=false:=by rw[di];exact h5
  have pM:Rn.bT c t r={r.store (iY c t+d) z with k:={r.k with j:=(d:Int)+1}}:=by rw[hE,ah h5];dsimp only;rw[bQ]
  exact ac5
theorem Aj(H:RN w X p c A n k t m q r s o)(f:RB c N r)(u:c.bG<=1048575)(l:q<=900000)(x:16<=r.k.pc)(y:r.k.pc<=19):Calls prog 113 #[.pointer p] w (cE X p c A n k t m (q+1) (Rn.bT c t r) w):=by
 rcases(by omega:r.k.pc=16\/r.k.pc=17\/r.k.pc=18\/r.k.pc=19)with h|h|h|h
 ·exact ET H f l h
 ·exact EU H f l h
 ·exact ER H f u l h
 ·exact ES H f l h
end
section
variable{w:World} {X:Nat->Prop} {p:Nat} {c:Mo.bA} {A:Option Addr} {n k:Nat} {t:Int} {m:Mm} {q:Nat} {r:Mo.Rn} {s:Sh} {o:Sl} {N:Int}
theorem EV{x:Int}(f:uj x):Ax (rS x) (rO x)=Oe (cL x):=by
 have a:0<=rS x/\rS x<1048576:=by have b:=f.1;have c:=f.2;unfold rS;omega
 unfold Ax;rw[IntWalk.wrap64_in (2*rS x) aa,IntWalk.wrap64_in (2*rS x+1) aa];rfl
theorem zj{x y:Int}(f:uj x)(h:uj y):BL x y=Mo.behind x y:=by unfold BL Mo.behind;rw[EV f,EV h]
theorem V5(H:RN w X p c A n k t m q r s o)(f:q<=900000)(bQ:r.k.pc=20):Calls prog 114 #[.pointer p] w (cE X p c A n k t m (q+1) (Rn.ends c t r) w):=by
 have d:=(dO H.cs.eN H.cs.t0 H.cs.t1).2.2.2.1;have HA:=ae (fun a=>jW a H.cs.eN A k n t H.cs.t0 (by have:=H.cs.t1;have:=H.cs.th;omega));have b:=(dO H.cs.eN H.cs.t0 H.cs.t1).2.1;obtain⟨HZ,HST⟩:=av (fun a=>qz a H.cs.eN A k n t H.cs.t0 (by have:=H.cs.t1;have:=H.cs.th;omega)) (fun a (h:RN a X p c A n k t m q r s o)=>fu h f (iq c t) 0 b.1 b.2);have hE:Rn.ends c t r={r.store (iq c t) 0 with k:={r.k with bS:=0,pc:=if r.k.fR=true then 21 else 22}}:=by unfold Rn.ends;rw[au bQ]
 have HH:=ae H;obtain⟨gi,gV,dm,HFm,aW⟩:=H.cK;have aT:=HH.cx;unfold bw at aT;obtain⟨aB,bp,-⟩:=af.aM HH.blk;unfold bw at aB;rw[bQ]at aB;clear H d b;rcases aaR:r.k.fR with _|_
 ·have pM:Rn.ends c t r={r.store (iq c t) 0 with k:={r.k with bS:=0,pc:=22}}:=by rw[hE,ah (by rw[aaR];decide)]
  exact ac6
 ·have pM:Rn.ends c t r={r.store (iq c t) 0 with k:={r.k with bS:=0,pc:=21}}:=by rw[hE,au aaR]
  exact ac6
theorem V6(H:RN w X p c A n k t m q r s o)(HB:RB c N r)(hq:q<=900000)(W:r.k.pc=22):Calls prog 114 #[.pointer p] w (cE X p c A n k t m (q+1) (Rn.ends c t r) w):=by
 have ha:=(dO H.cs.eN H.cs.t0 H.cs.t1).2.2.2.1;have HA:=ae (fun E=>jW E H.cs.eN A k n t H.cs.t0 (by have:=H.cs.t1;have:=H.cs.th;omega));have i:=HB.L.at_ (bZ c t);have kZ:=ae (fun E (h:RN E X p c A n k t m q r s o)=>cQ h hq _ ha.1);obtain⟨x,hx⟩:∃x,x=ay r.L (bZ c t):=⟨_,rfl⟩
 have P:Rn.ends c t r=if Mo.behind x (fG r.k.res)=false then Rn.owned c ({r with k:={r.k with word:=x}}:Rn)else({r with k:={r.k with word:=x}}:Rn).pc 23:=by unfold Rn.ends;rw[ah (by omega),ah (by omega),au W, <-hx]
 rw[<-hx]at kZ i;have V:=tD r.k.res;obtain⟨y,hy⟩:∃y,y=fG r.k.res:=⟨_,rfl⟩
 rw[<-hy]at P V;have Co:=ae (fun E=>r9 E r.k.res.seq r.k.res.cs r.k.res.code r.k.res.value);rw[show FV r.k.res.seq r.k.res.cs r.k.res.code r.k.res.value=fG r.k.res from rfl, <-hy]at Co;have M:=ae (fun E=>xR E x y i.1 i.2 V.1 V.2);rw[zj i V]at M;have HH:=ae H;obtain⟨Z,Y,j,b,d⟩:=H.cK;have g:=HH.Y.cx;unfold bw at g;obtain⟨a,f,-⟩:=af.aM HH.Y.blk;unfold bw at a;rw[W]at a;clear H ha hx hy HB i V;rcases B:Mo.behind x y with _|_
 ·have T:Rn.ends c t r=Rn.owned c ({r with k:={r.k with word:=x}}:Rn):=by rw[P];dsimp only;rw[B];rfl
  rw[T];clear P T;rw[B]at M;have aq:=ae (fun E mx (h:RN E X p c A n k t mx (q+1) {r with k:={r.k with word:=x}} s o)=>sF h);go_enter func114,ntmps114;go_wp2_with fail;clear a f;go_region_held3(RX w p m 0 0) (exact gj) (first
   |((with_reducible go_fit (HA.Y _));rintro e wA ⟨rfl,u⟩;have mX:=RX.below (by assumption) u;(try have R:=j.Y _ _ (by assumption) u);(try have S:=b.Y _ _ (by assumption) u)))
  all_goals
   obtain⟨D,U⟩:=av R S;clear g d Z Y j b u mX R S;have d:=D.Y.lt;obtain⟨a,f,-⟩:=af.aM D.Y.blk;unfold bw at a;rw[W]at a;go_wp2_with fail;(with_reducible go_fit (kZ.Y _ D.Y));rintro e I ⟨rfl,G,(C:Hid _),J⟩;have ur:=ae (U.Y.trans J);clear J a f d D U;obtain⟨a,f,d⟩:=af.aM C.Y.blk;unfold bw at a;go_upto_region 12 with fail
   clear a f d;have Q:RN (I.setCell ⟨p,18,none⟩ (.int .u64 x)) X p c A n k t G (q+1) {r with k:={r.k with word:=x}} s o:=RN.leaf C.Y s o {C.Y.tk with} C.Y.op rfl;obtain⟨K,oH⟩:=av Q (((fT.refl I p).set 18 (.int .u64 x)).fr G);clear Q;generalize(I.setCell ⟨p,18,none⟩ (.int .u64 x))=w2 at *;have gZ:=ae K.Y;obtain⟨Z,Y,j,b,d⟩:=K.Y.cK;have g:=gZ.Y.cx;unfold bw at g;dsimp only at g;go_wp2;go_region_held3(RX w2 p G 0 0) (exact gj) (first
    |((with_reducible go_fit (Co.Y _));rintro e wB ⟨rfl,z⟩;have nD:=RX.below (by assumption) z;(try have zK:=j.Y _ _ (by assumption) z);(try have qT:=b.Y _ _ (by assumption) z))
    |((with_reducible go_fit (M.Y _));rintro e wC ⟨rfl,l⟩;have jK:=RX.below (by assumption) l;(try have L:=j.Y _ _ (by assumption) l);(try have O:=b.Y _ _ (by assumption) l)))
   all_goals
    obtain⟨F,HF⟩:=av L ((ur.Y.trans oH.Y).trans O);clear g d L O jK l z zK qT nD;obtain⟨a,f,d⟩:=af.aM F.Y.blk;unfold bw at a;dsimp only at a;go_wp2_with fail;go_fit (aq.Y _ _ F.Y);rintro e w3 ⟨rfl,(HX:Hid _)⟩;go_wp2;refine bodyPost_ret (v:=.tuple #[]) (by simp[results,results114,go_sem]) rfl ?_;exact cE.then HF.Y ⟨rfl,HX.Y⟩
 ·have T:Rn.ends c t r=({r with k:={r.k with word:=x}}:Rn).pc 23:=by rw[P];dsimp only;rw[B];rfl
  rw[T];clear P T;rw[B]at M;go_enter func114,ntmps114;go_wp2_with fail;clear a f;go_region_held3(RX w p m 0 0) (exact gj) (first
   |((with_reducible go_fit (HA.Y _));rintro e wA ⟨rfl,u⟩;have mX:=RX.below (by assumption) u;(try have R:=j.Y _ _ (by assumption) u);(try have S:=b.Y _ _ (by assumption) u)))
  all_goals
   obtain⟨D,U⟩:=av R S;clear g d Z Y j b u mX R S;have d:=D.Y.lt;obtain⟨a,f,-⟩:=af.aM D.Y.blk;unfold bw at a;rw[W]at a;go_wp2_with fail;(with_reducible go_fit (kZ.Y _ D.Y));rintro e I ⟨rfl,G,(C:Hid _),J⟩;have ur:=ae (U.Y.trans J);clear J a f d D U;obtain⟨a,f,d⟩:=af.aM C.Y.blk;unfold bw at a;go_upto_region 12 with fail
   clear a f d;have Q:RN (I.setCell ⟨p,18,none⟩ (.int .u64 x)) X p c A n k t G (q+1) {r with k:={r.k with word:=x}} s o:=RN.leaf C.Y s o {C.Y.tk with} C.Y.op rfl;obtain⟨K,oH⟩:=av Q (((fT.refl I p).set 18 (.int .u64 x)).fr G);clear Q;generalize(I.setCell ⟨p,18,none⟩ (.int .u64 x))=w2 at *;have gZ:=ae K.Y;obtain⟨Z,Y,j,b,d⟩:=K.Y.cK;have g:=gZ.Y.cx;unfold bw at g;dsimp only at g;go_wp2;go_region_held3(RX w2 p G 0 0) (exact gj) (first
    |((with_reducible go_fit (Co.Y _));rintro e wB ⟨rfl,z⟩;have nD:=RX.below (by assumption) z;(try have zK:=j.Y _ _ (by assumption) z);(try have qT:=b.Y _ _ (by assumption) z))
    |((with_reducible go_fit (M.Y _));rintro e wC ⟨rfl,l⟩;have jK:=RX.below (by assumption) l;(try have L:=j.Y _ _ (by assumption) l);(try have O:=b.Y _ _ (by assumption) l)))
   all_goals
    obtain⟨F,HF⟩:=av L ((ur.Y.trans oH.Y).trans O);clear g d L O jK l z zK qT nD;obtain⟨a,f,d⟩:=af.aM F.Y.blk;unfold bw at a;dsimp only at a;go_wp2;go_end0;refine cE.then HF.Y ?_;exact cE.leaf F.Y s o {F.Y.tk with} F.Y.op rfl
theorem V8(H:RN w X p c A n k t m q r s o)(T:RB c N r)(hN:N<=100000)(hq:q<=900000)(F:r.k.pc=23):Calls prog 114 #[.pointer p] w (cE X p c A n k t m (q+1) (Rn.ends c t r) w):=by
 have O:=(dO H.cs.eN H.cs.t0 H.cs.t1).2.2.2.1;have L:=ae (fun j=>jW j H.cs.eN A k n t H.cs.t0 (by have:=H.cs.t1;have:=H.cs.th;omega));have aq:0<=r.k.bS/\r.k.bS<=100000:=by have:=T.k.tr;omega
 obtain⟨y,Q⟩:∃y,y=fG r.k.res:=⟨_,rfl⟩
 obtain⟨x,P⟩:∃x,x=ay r.L (bZ c t):=⟨_,rfl⟩
 have E:=ae (fun j (h:RN j X p c A n k t m q r s o)=>oG h hq (bZ c t) r.k.word y O.1 O.2);have D:Rn.ends c t r=if x=r.k.word\/r.k.bS+1=2 then Rn.owned c ({(if x=r.k.word then r.store (bZ c t) y else r)with k:={r.k with bS:=r.k.bS+1,pc:=22}}:Rn)else({(if x=r.k.word then r.store (bZ c t) y else r)with k:={r.k with bS:=r.k.bS+1,pc:=22}}:Rn):=by unfold Rn.ends;rw[ah (by omega),ah (by omega),ah (by omega),au F, <-P, <-Q]
 rw[<-P]at E;have K:=ae (fun j=>r9 j r.k.res.seq r.k.res.cs r.k.res.code r.k.res.value);rw[show FV r.k.res.seq r.k.res.cs r.k.res.code r.k.res.value=fG r.k.res from rfl, <-Q]at K;have HH:=ae H;obtain⟨B,z,d,a,aW⟩:=H.cK;have aT:=HH.Y.cx;unfold bw at aT;obtain⟨aB,bp,-⟩:=af.aM HH.Y.blk;unfold bw at aB;rw[F]at aB;clear H O P Q T hN;by_cases f:x=r.k.word
 ·have S:(x==r.k.word)=true:=by rw[f];exact beq_self_eq_true _
  rw[au f,S]at E;have v:Rn.ends c t r=Rn.owned c ({r.store (bZ c t) y with k:={r.k with bS:=r.k.bS+1,pc:=22}}:Rn):=by rw[D,au f,au (.inl f)]
  rw[v];clear D v f;have HOW:=ae (fun j R (h:RN j X p c A n k t R (q+1) ({r.store (bZ c t) y with k:={r.k with bS:=r.k.bS+1,pc:=22}}:Rn) s o)=>sF h);go_enter func114,ntmps114;go_wp2_with fail;clear aB bp;go_region_held3(RX w p m 0 0) (exact gj) (first
   |((with_reducible go_fit (L.Y _));rintro e J ⟨rfl,b⟩;have G:=RX.below (by assumption) b;(try have l:=d.Y _ _ (by assumption) b);(try have u:=a.Y _ _ (by assumption) b)))
  all_goals
   obtain⟨i,I⟩:=av l u;clear aT aW B z d a b G l u;have gZ:=ae i.Y;obtain⟨B,z,d,a,aW⟩:=i.Y.cK;have aT:=gZ.Y.cx;unfold bw at aT;obtain⟨aB,bp,-⟩:=af.aM i.Y.blk;unfold bw at aB;rw[F]at aB;go_wp2_with fail;clear aB bp;go_region_held3(RX J p m 0 0) (exact gj) (first
    |((with_reducible go_fit (K.Y _));rintro e Y ⟨rfl,g⟩;have V:=RX.below (by assumption) g;(try have zK:=d.Y _ _ (by assumption) g);(try have W:=a.Y _ _ (by assumption) g))
    |((with_reducible go_fit (E.Y _ (by assumption)));rintro e Z ⟨rfl,mC,hC,fC⟩;have U:=RX.acc (by assumption) gZ.Y.blk fC (hC.kept fC rfl);have eG:=cu.trans (by assumption) fC))
   all_goals
    obtain⟨HR,HF⟩:=av hC (I.Y.trans eG);clear hC fC eG aT aW;obtain⟨aB,bp,aW⟩:=af.aM HR.Y.blk;unfold bw at aB;unfold Rn.store at aB;dsimp only at aB;exact ac7
 ·have S:(x==r.k.word)=false:=by rw[di];exact f
  rw[ah f,S]at E;by_cases C:r.k.bS+1=2
  ·have M:(r.k.bS+1==2)=true:=by rw[C];rfl
   have v:Rn.ends c t r=Rn.owned c ({r with k:={r.k with bS:=r.k.bS+1,pc:=22}}:Rn):=by rw[D,ah f,au (.inr C)]
   rw[v];clear D v f C;have HOW:=ae (fun j R (h:RN j X p c A n k t R (q+1) ({r with k:={r.k with bS:=r.k.bS+1,pc:=22}}:Rn) s o)=>sF h);go_enter func114,ntmps114;go_wp2_with fail;clear aB bp;go_region_held3(RX w p m 0 0) (exact gj) (first
    |((with_reducible go_fit (L.Y _));rintro e J ⟨rfl,b⟩;have G:=RX.below (by assumption) b;(try have l:=d.Y _ _ (by assumption) b);(try have u:=a.Y _ _ (by assumption) b)))
   all_goals
    obtain⟨i,I⟩:=av l u;clear aT aW B z d a b G l u;have gZ:=ae i.Y;obtain⟨B,z,d,a,aW⟩:=i.Y.cK;have aT:=gZ.Y.cx;unfold bw at aT;obtain⟨aB,bp,-⟩:=af.aM i.Y.blk;unfold bw at aB;rw[F]at aB;go_wp2_with fail;clear aB bp;go_region_held3(RX J p m 0 0) (exact gj) (first
     |((with_reducible go_fit (K.Y _));rintro e Y ⟨rfl,g⟩;have V:=RX.below (by assumption) g;(try have zK:=d.Y _ _ (by assumption) g);(try have W:=a.Y _ _ (by assumption) g))
     |((with_reducible go_fit (E.Y _ (by assumption)));rintro e Z ⟨rfl,mC,hC,fC⟩;have U:=RX.acc (by assumption) gZ.Y.blk fC (hC.kept fC rfl);have eG:=cu.trans (by assumption) fC))
    all_goals
     obtain⟨HR,HF⟩:=av hC (I.Y.trans eG);clear hC fC eG aT aW;obtain⟨aB,bp,aW⟩:=af.aM HR.Y.blk;unfold bw at aB;exact ac7
  ·have M:(r.k.bS+1==2)=false:=by rw[di];exact C
   have v:Rn.ends c t r=({r with k:={r.k with bS:=r.k.bS+1,pc:=22}}:Rn):=by rw[D,ah f,ah (fun h=>h.elim f C)]
   rw[v];clear D v f C;go_enter func114,ntmps114;go_wp2_with fail;clear aB bp;go_region_held3(RX w p m 0 0) (exact gj) (first
    |((with_reducible go_fit (L.Y _));rintro e J ⟨rfl,b⟩;have G:=RX.below (by assumption) b;(try have l:=d.Y _ _ (by assumption) b);(try have u:=a.Y _ _ (by assumption) b)))
   all_goals
    obtain⟨i,I⟩:=av l u;clear aT aW B z d a b G l u;have gZ:=ae i.Y;obtain⟨B,z,d,a,aW⟩:=i.Y.cK;have aT:=gZ.Y.cx;unfold bw at aT;obtain⟨aB,bp,-⟩:=af.aM i.Y.blk;unfold bw at aB;rw[F]at aB;go_wp2_with fail;clear aB bp;go_region_held3(RX J p m 0 0) (exact gj) (first
     |((with_reducible go_fit (K.Y _));rintro e Y ⟨rfl,g⟩;have V:=RX.below (by assumption) g;(try have zK:=d.Y _ _ (by assumption) g);(try have W:=a.Y _ _ (by assumption) g))
     |((with_reducible go_fit (E.Y _ (by assumption)));rintro e Z ⟨rfl,mC,hC,fC⟩;have U:=RX.acc (by assumption) gZ.Y.blk fC (hC.kept fC rfl);have eG:=cu.trans (by assumption) fC))
    all_goals
     obtain⟨HR,HF⟩:=av hC (I.Y.trans eG);exact Yh
theorem gf{w:World}{p i:Nat}(h:w.cell? ⟨p,i,none⟩=some v):VO w p i=v:=by unfold VO;rw[h];rfl
theorem V9(H:RN w X p c A n k t m q r s o)(u:RB c N r)(I:N<=100000)(P:q<=900000)(z:r.k.pc=21):Calls prog 114 #[.pointer p] w (cE X p c A n k t m (q+1) (Rn.ends c t r) w):=by
 obtain⟨O,y⟩:=av (fun j=>jW j H.cs.eN A k n t H.cs.t0 (by have:=H.cs.t1;have:=H.cs.th;omega)) (fun j (h:RN j X p c A n k t m q r s o)=>cQ h P 1 ag);have f:=(u.L.at_ 1).1;have l:=u.g;have G:Rn.ends c t r={r with k:={r.k with aA:=lQ r.k.aA r.k.base (ay r.L 1),pc:=22}}:=by unfold Rn.ends;rw[ah aa,au z]
 rw[G];obtain⟨x,J⟩:=aG (ay r.L 1);rw[<-J]at y f l ⊢;have U:IntKind.i64.wrap x=x:=ky f aa;have HAW:=ae (fun j T (h:RN j X p c A n k t T (q+1) r s o)=>PD j r.k.aA s.fr.A s.fr.c s.ol.A s.ol.c (h.pls u.k.aA I) r.k.base.ix r.k.base.tag x);unfold lZ at HAW;obtain⟨P1,D⟩:=aG (lQ r.k.aA r.k.base x);rw[show lQ r.k.aA ⟨r.k.base.ix,r.k.base.tag⟩ x=lQ r.k.aA r.k.base x from rfl, <-D]at HAW;rw[<-D];have HH:=ae H;obtain⟨F,E,B,d,aW⟩:=H.cK;have aT:=HH.cx;unfold bw at aT;obtain⟨aB,bp,-⟩:=af.aM HH.blk;unfold bw at aB;rw[z]at aB;clear H G J u f l I D;go_enter func114,ntmps114;go_wp2_with fail;clear aB bp;go_region_held3(RX w p m 0 0) (exact gj) (first
  |((with_reducible go_fit (O.Y _));rintro e g ⟨rfl,v⟩;have R:=RX.below bc v;(try have L:=B.Y _ _ bc v);(try have M:=d.Y _ _ bc v)))
 all_goals
  obtain⟨C,uz⟩:=av L M;clear aT aW F E B d v R L M;have gZ:=ae C;obtain⟨F,E,B,d,aW⟩:=C.cK;obtain⟨aT,qQ,lz,jd⟩:=gZ.FJ 22 27;unfold bw at aT;obtain⟨aB,bp,-⟩:=af.aM C.blk;unfold bw at aB;rw[z]at aB;go_wp2_with fail;have Yj:g.drew.cell? ⟨p,22,none⟩=some (.int .i64 r.k.aA.own.ix):=aB 22;have Yk:g.drew.cell? ⟨p,23,none⟩=some (.int .i64 r.k.aA.own.tag):=aB 23;have Yl:g.drew.cell? ⟨p,24,none⟩=some (.slice s.fr.A r.k.aA.free.length s.fr.c):=aB 24;have Ym:g.drew.cell? ⟨p,25,none⟩=some (.slice s.ol.A r.k.aA.old.length s.ol.c):=aB 25;have Yn:g.drew.cell? ⟨p,26,none⟩=some (.int .i64 r.k.aA.spent):=aB 26;clear aB bp;refine wp_region_held_drew (S:=(RX g p m 22 27)) (by kernel_rfl) (RX.start gZ.blk _ _ _) (fun hHeld=>?_);refine aP 0 bc ?_;(try simp only[aC]);refine aP 1 bc ?_;(try simp only[aC]);refine aP 2 bc ?_;(try simp only[aC]);refine aP 3 bc ?_;(try simp only[aC]);refine aP 4 bc ?_;(try simp only[aC]);refine aP 6 bc ?_;(try simp only[aC]);refine aP 7 bc ?_;(try simp only[aC]);refine aP 8 bc ?_;(try simp only[aC]);refine aP 9 bc ?_;(try simp only[aC]);refine aP 10 bc ?_;(try simp only[aC]);refine aP 11 bc ?_;(try simp only[aC]);refine wpAnyH_ready (rs:=[5,12]) (by kernel_rfl) aD ?_;refine(AllReadyH.cons (o:=⟨some 55,_,_,_,_,_⟩) rfl (fun K hK=>?_) (AllReadyH.cons (o:=⟨some 62,_,_,_,_,_⟩) rfl (fun K hK=>?_) AllReadyH.nil))
  ·
   go_simp
   refine hK.Y _ _ gj (fun hHeld=>?_)
   clear hK K
   (try simp only[aC])
   refine et 12 (fun K hK=>?_)
   go_simp
   ((with_reducible go_fit (y.Y _ bc));rintro e a ⟨rfl,mC,hC,fC⟩;have Q:=RX.acc bc gZ.Y.blk fC (hC.kept fC rfl);have eG:=cu.trans bc fC;have Kd:=fun i=>af.cell hC.blk i;unfold bw at Kd;have d22:a.cell? ⟨p,22,none⟩=some (.int .i64 r.k.aA.own.ix):=Kd 22;have d23:a.cell? ⟨p,23,none⟩=some (.int .i64 r.k.aA.own.tag):=Kd 23;have d24:a.cell? ⟨p,24,none⟩=some (.slice s.fr.A r.k.aA.free.length s.fr.c):=Kd 24;have d25:a.cell? ⟨p,25,none⟩=some (.slice s.ol.A r.k.aA.old.length s.ol.c):=Kd 25;have d26:a.cell? ⟨p,26,none⟩=some (.int .i64 r.k.aA.spent):=Kd 26)
   go_wp2_with fail
   refine hK.Y _ _ gj (fun hHeld=>?_)
   clear hK K
   (try simp only[aC])
   refine aP 13 bc ?_
   exact ac8
  ·
   go_simp
   ((with_reducible go_fit (y.Y _ bc));rintro e a ⟨rfl,mC,hC,fC⟩;have Q:=RX.acc bc gZ.Y.blk fC (hC.kept fC rfl);have eG:=cu.trans bc fC;have Kd:=fun i=>af.cell hC.blk i;unfold bw at Kd;have d22:a.cell? ⟨p,22,none⟩=some (.int .i64 r.k.aA.own.ix):=Kd 22;have d23:a.cell? ⟨p,23,none⟩=some (.int .i64 r.k.aA.own.tag):=Kd 23;have d24:a.cell? ⟨p,24,none⟩=some (.slice s.fr.A r.k.aA.free.length s.fr.c):=Kd 24;have d25:a.cell? ⟨p,25,none⟩=some (.slice s.ol.A r.k.aA.old.length s.ol.c):=Kd 25;have d26:a.cell? ⟨p,26,none⟩=some (.int .i64 r.k.aA.spent):=Kd 26)
   go_wp2_with fail
   refine hK.Y _ _ gj (fun hHeld=>?_)
   clear hK K
   (try simp only[aC])
   refine aP 13 bc ?_
   (try simp only[aC])
   refine et 5 (fun K hK=>?_)
   go_simp
   refine hK.Y _ _ gj (fun hHeld=>?_)
   clear hK K
   exact ac8
theorem MW(H:RN w X p c A n k t m q r s o)(l:RB c N r)(u:N<=100000)(f:q<=900000)(x:20<=r.k.pc)(y:r.k.pc<=23):Calls prog 114 #[.pointer p] w (cE X p c A n k t m (q+1) (Rn.ends c t r) w):=by
 rcases(by omega:r.k.pc=20\/r.k.pc=21\/r.k.pc=22\/r.k.pc=23)with h|h|h|h
 ·exact V5 H f h
 ·exact V9 H l u f h
 ·exact V6 H l f h
 ·exact V8 H l u f h
end
section
variable{w:World} {X:Nat->Prop} {p:Nat} {c:Mo.bA} {A:Option Addr} {n k:Nat} {t:Int} {m:Mm} {q:Nat} {r:Mo.Rn} {s:Sh} {o:Sl} {N:Int}
theorem MX(H:RN w X p c A n k t m q r s o)(y:RB c N r)(hown:0<=r.k.aA.own.ix/\r.k.aA.own.ix<cN c)(D:q<=900000)(i:r.k.pc=13):Calls prog 112 #[.pointer p] w (cE X p c A n k t m (q+1) (Rn.writes c t r) w):=by
 have z:=y.k.aA.own;unfold wL at z;have f:=mS H.cs.eN hown.1 hown.2;have F:=H.cs.C9;have u:=ae (fun v (h:RN v X p c A n k t m q r s o)=>jY h r.k.aA.own.ix r.k.aA.own.tag aa aa);obtain⟨a,l⟩:=aG (bu c r.k.aA.own.ix);rw[<-l]at u f;have E:IntKind.u64.wrap r.k.aA.own.tag=r.k.aA.own.tag:=Br aa aa;have g:=ae (fun v (h:RN v X p c A n k t m q r s o)=>fu h D a r.k.aA.own.tag f.1.1 f.1.2);have B:Rn.writes c t r=(r.store a r.k.aA.own.tag).pc 14:=by unfold Rn.writes;dsimp only;rw[au i, <-l]
 rw[B];have b:=ae H;have aW:=H.lt;obtain⟨aB,bp,-⟩:=af.aM b.blk;unfold bw at aB;rw[i]at aB;clear H B y hown z f l F;go_enter func112,ntmps112;go_wp2_with fail;go_fit (u _ b);rintro e J ⟨rfl,j⟩;obtain⟨d,C⟩:=av (b.more j) (cu.ext j p m);clear j aB bp aW u;obtain⟨aB,bp,-⟩:=af.aM d.blk;unfold bw at aB;rw[i]at aB;have aW:=d.lt;go_wp2_with fail;go_fit (g _ d);rintro e I ⟨rfl,G,(HR:Hid _),x⟩;have HF:=ae (C.trans x);clear x aB bp aW d C b;exact aaQ
theorem MY(H:RN w X p c A n k t m q r s o)(f:RB c N r)(hown:0<=r.k.aA.own.ix/\r.k.aA.own.ix<cN c)(F:q<=900000)(bQ:r.k.pc=14):Calls prog 112 #[.pointer p] w (cE X p c A n k t m (q+1) (Rn.writes c t r) w):=by
 have x:=f.k.aA.own;unfold wL at x;have v:=mS H.cs.eN hown.1 hown.2;have E:=H.cs.C9;have nG:=ae (fun wx (h:RN wx X p c A n k t m q r s o)=>jY h r.k.aA.own.ix r.k.aA.own.tag aa aa);obtain⟨a,g⟩:=aG (bu c r.k.aA.own.ix);rw[<-g]at nG v;have B:(r.k.next.length:Int)=bn c/\r.k.i<bn c:=by have h:=f.f.a;unfold mM at h;have h1:=h.2.2.2.2.1 aa;have h2:=h.2.2.2.2.2.1 aa;exact⟨h1,h2⟩
 have l:=size_le H.cs.eN;obtain⟨jn,j⟩:∃jn:Nat,r.k.i=jn:=⟨r.k.i.toNat,by have:=f.k.i.1;omega⟩
 have hlt:jn<r.k.next.length:=aa;have D:r.k.next.length<=100000:=aa;obtain⟨ad,z,y,u,C⟩:=H.tk.nx.1.at_ (i:=jn) hlt;have h3:=v.2 jn aa aa;have G:IntKind.i64.wrap (a+1)=a+1:=ky aa aa;have I:IntKind.i64.wrap (a+1+jn)=a+1+jn:=ky aa aa;have d:ay r.k.next jn=z:=by unfold ay;rw[ah aa,gu,cZ,u];rfl
 have HST:=ae (fun wx (h:RN wx X p c A n k t m q r s o)=>fu h F (a+1+jn) z h3.1 h3.2);have hE:Rn.writes c t r=if(jn:Int)+1=(r.k.next.length:Int)then({r.store (a+1+jn) z with k:={r.k with i:=(jn:Int)+1}}:Rn).pc 15 else{r.store (a+1+jn) z with k:={r.k with i:=(jn:Int)+1}}:=by unfold Rn.writes;dsimp only;rw[ah aa,au bQ,j,d, <-g]
 have HH:=ae H;have aW:=H.lt;obtain⟨aB,bp,-⟩:=af.aM HH.blk;unfold bw at aB;rw[bQ]at aB;obtain⟨HJ,HA,HZ⟩:=aZ j y u;clear H f hown x v g E B l j y u C h3 d;by_cases h5:(jn:Int)+1=(r.k.next.length:Int)
 ·have e:((jn:Int)+1==(r.k.next.length:Int))=true:=by rw[h5];exact beq_self_eq_true _
  have pM:Rn.writes c t r=({r.store (a+1+jn) z with k:={r.k with i:=(jn:Int)+1,pc:=15}}:Rn):=by rw[hE,au h5];rfl
  exact ac9
 ·have e:((jn:Int)+1==(r.k.next.length:Int))=false:=by rw[di];exact h5
  have pM:Rn.writes c t r=({r.store (a+1+jn) z with k:={r.k with i:=(jn:Int)+1}}:Rn):=by rw[hE,ah h5]
  exact ac9
theorem IG(H:RN w X p c A n k t m q r s o)(x:RB c N r)(hown:0<=r.k.aA.own.ix/\r.k.aA.own.ix<cN c)(hN:N<=100000)(W:q<=900000)(y:r.k.pc=15)(l:ay r.L 0≠bF r.k.base):Calls prog 112 #[.pointer p] w (cE X p c A n k t m (q+1) (Rn.writes c t r) w):=by
 have L:=x.k.aA.own;unfold wL at L;have R:=mS H.cs.eN hown.1 hown.2;have nV:=H.cs.C9;have F:=ae (fun b (h:RN b X p c A n k t m q r s o)=>jY h r.k.aA.own.ix r.k.aA.own.tag (by omega) (by omega));obtain⟨a,O⟩:∃a,a=bu c r.k.aA.own.ix:=⟨_,rfl⟩
 rw[<-O]at F R;have P:=x.k.round;have V:=(mS H.cs.eN hown.1 hown.2).1;have Q:=ae (fun b (h:RN b X p c A n k t m q r s o)=>oG h W 0 (bF r.k.base) (bF r.k.aA.own) (by decide) (by omega));rw[ah l,show(ay r.L 0==bF r.k.base)=false by rw[di];exact l]at Q;have M:Rn.writes c t r=Rn.fail c r:=by unfold Rn.writes;dsimp only;rw[ah (by omega),ah (by omega),au y,au l]
 rw[M];have S:=ae (fun b Z (h:RN b X p c A n k t Z (q+1) r s o)=>vG h P.1 (by omega));have pI:Hid (∀b,Calls prog 103 #[.agg #[r.k.base.ix,r.k.base.tag]] b fun e G=>e=.returned (.int .u64 (bF r.k.base))/\Below b b G):=fun b=>gI b _ _;have sX:Hid (∀b,Calls prog 103 #[.agg #[r.k.aA.own.ix,r.k.aA.own.tag]] b fun e G=>e=.returned (.int .u64 (bF r.k.aA.own))/\Below b b G):=fun b=>gI b _ _;have HH:=ae H;have g:=H.lt;obtain⟨d,i,-⟩:=af.aM HH.Y.blk;unfold bw at d;rw[y]at d;clear H M x hown L R O nV l P V;go_enter func112,ntmps112;go_wp2_with fail;(with_reducible go_fit (F.Y _ HH.Y));rintro e wA ⟨rfl,z⟩;obtain⟨E,uz⟩:=av (HH.Y.more z) (cu.ext z p m);clear z d i g F;have gZ:=ae E.Y;obtain⟨gi,gV,K,f,g⟩:=E.Y.cK;have J:=gZ.Y.cx;unfold bw at J;obtain⟨d,i,-⟩:=af.aM E.Y.blk;unfold bw at d;rw[y]at d;go_wp2_with fail;clear d i;go_region_held3(RX wA p m 0 0) (exact gj) (first
  |((with_reducible go_fit (pI.Y _));rintro e wB ⟨rfl,B⟩;have nD:=RX.below (by assumption) B;(try have zK:=K.Y _ _ (by assumption) B);(try have qT:=f.Y _ _ (by assumption) B))
  |((with_reducible go_fit (sX.Y _));rintro e wC ⟨rfl,u⟩;have Y:=RX.below (by assumption) u;(try have Ih:=K.Y _ _ (by assumption) u);(try have C:=f.Y _ _ (by assumption) u))
  |((with_reducible go_fit (Q.Y _ (by assumption)));rintro e wC ⟨rfl,mC,D,j⟩;have Y:=RX.acc (by assumption) gZ.Y.blk j (D.kept j rfl);have C:=cu.trans (by assumption) j))
 all_goals
  obtain⟨I,T⟩:=av D (uz.Y.trans C);clear D j C J g;obtain⟨d,i,g⟩:=af.aM I.Y.blk;unfold bw at d;go_wp2_with fail;go_fit (S.Y _ _ I.Y);rintro e w3 ⟨rfl,(U:Hid _)⟩;go_wp2;refine bodyPost_ret (v:=.tuple #[]) (by simp[results,results112,go_sem]) rfl ?_;exact cE.then T.Y ⟨rfl,U.Y⟩
end
theorem MZ(c:List Mo.Op)(B:Option Addr)(f k:Nat)(h:f=c.length)(F:f<=1000000){S:Nat->Prop}(s:∀b,S b->b<w.heap.size)(z:ru w S B c) :
 Calls prog 66 #[.slice B f k] w fun e w'=>∃j d,e=.returned (.slice j f d)/\f<=d/\Below w w w'/\∀g:Nat->Prop,(∀b,S b->g b)->(∀b,w.heap.size<=b->b<w'.heap.size->g b)->ru w' g j c:=by
 obtain⟨rows,l,q,r⟩:=z.1
 obtain⟨L,C,D,E⟩:=za rows c l r
 subst D
 go_fit (xU w B k (L.map (jD wg iw jJ)) (n:=f) (by rw[<-l]at h;exact h) F q)
 rintro e H ⟨m,d1,rfl,o,p,a⟩
 have i:=aH.opX (aH.rows.1 p) (fun x A=>(E x A).same (fun b u=>a.block b (s b u)))
 refine⟨m,d1,rfl,o,a,fun g v y=>⟨?_,?_⟩⟩
 ·rw[<-C];exact(i.mono ku v).Ma
 ·intro G t _;subst t;exact y _ (aI.lt i rfl).1 (aI.lt i rfl).2
section
variable{w:World} {X:Nat->Prop} {p:Nat} {c:Mo.bA} {A:Option Addr} {n k:Nat} {t:Int} {m:Mm} {q:Nat} {r:Mo.Rn} {s:Sh} {o:Sl} {N:Int}
theorem IH(H:RN w X p c A n k t m q r s o)(D:RB c N r)(hown:0<=r.k.aA.own.ix/\r.k.aA.own.ix<cN c)(hN:N<=100000)(hq:q<=900000)(bQ:r.k.pc=15)(R:ay r.L 0=bF r.k.base):Calls prog 112 #[.pointer p] w (cE X p c A n k t m (q+1) (Rn.writes c t r) w):=by
 have G:=D.k.aA.own;unfold wL at G;have wu:=mS H.cs.eN hown.1 hown.2;have nV:=H.cs.C9;have nG:=ae (fun f (h:RN f X p c A n k t m q r s o)=>jY h r.k.aA.own.ix r.k.aA.own.tag (by omega) (by omega));obtain⟨a,ha⟩:∃a,a=bu c r.k.aA.own.ix:=⟨_,rfl⟩
 rw[<-ha]at nG wu;have hlen:(r.k.next.length:Int)=bn c:=by have h:=D.f.a;unfold mM at h;exact h.2.2.2.2.1 (by omega)
 have hu:=D.k.nxt;have W9:=(mS H.cs.eN hown.1 hown.2).1;have uv:=ae (fun f (h:RN f X p c A n k t m q r s o)=>oG h hq 0 (bF r.k.base) (bF r.k.aA.own) (by decide) (by omega));rw[au R,show(ay r.L 0==bF r.k.base)=true by rw[R];exact beq_self_eq_true _]at uv;obtain⟨C8,O⟩:=av (fun f mx (h:RN f X p c A n k t mx (q+1) (r.store 0 (bF r.k.aA.own)) s o)=>vH h r.k.next s.nx.A r.k.next.length s.nx.c rfl hlen hu h.tk.nx.1 t h.cs.t0 h.cs.t1) (fun f mx (h:RN f X p c A n k t mx (q+1) {r.store 0 (bF r.k.aA.own)with k:={r.k with fR:=true,res:=eT c r.k.next t}} s o)=>AQ f r.k.aA s.fr.A s.fr.c s.ol.A s.ol.c (h.pls D.k.aA hN));have hE:Rn.writes c t r={r with L:=Mo.setAt r.L 0 (bF r.k.aA.own),fR:=true,ops:=r.k.found,k:={r.k with fR:=true,res:=eT c r.k.next t,aA:=eH r.k.aA,pc:=20}}:=by unfold Rn.writes;dsimp only;rw[ah (by omega),ah (by omega),au bQ,ah (fun h=>h R)]
 rw[hE];obtain⟨y,hy⟩:∃y,y=eT c r.k.next t:=⟨_,rfl⟩
 rw[<-hy]at C8 O ⊢;obtain⟨g,vd⟩:∃g,g=eH r.k.aA:=⟨_,rfl⟩
 rw[<-vd]at O ⊢;unfold wV lZ at O;have Yo:r.k.found.length<=1000000:=by have:=D.k.found;omega
 have aq:=ae Yo;clear Yo;have pI:Hid (∀f,Calls prog 103 #[.agg #[r.k.base.ix,r.k.base.tag]] f fun e w'=>e=.returned (.int .u64 (bF r.k.base))/\Below f f w'):=fun f=>gI f _ _;have sX:Hid (∀f,Calls prog 103 #[.agg #[r.k.aA.own.ix,r.k.aA.own.tag]] f fun e w'=>e=.returned (.int .u64 (bF r.k.aA.own))/\Below f f w'):=fun f=>gI f _ _;have HH:=ae H;have i:=H.lt;obtain⟨d,l,-⟩:=af.aM HH.Y.blk;unfold bw at d;rw[bQ]at d;clear H hE D hown G wu ha nV R W9 hy vd hlen hu hN;go_enter func112,ntmps112;go_wp2_with fail;(with_reducible go_fit (nG.Y _ HH.Y));rintro e wA ⟨rfl,bY⟩;obtain⟨iV,uz⟩:=av (HH.Y.more bY) (cu.ext bY p m);clear bY d l i nG;have gZ:=ae iV.Y;obtain⟨gi,gV,F,j,i⟩:=iV.Y.cK;have E:=gZ.Y.cx;unfold bw at E;obtain⟨d,l,-⟩:=af.aM iV.Y.blk;unfold bw at d;rw[bQ]at d;go_wp2_with fail;clear d l;go_region_held3(RX wA p m 0 0) (exact gj) (first
  |((with_reducible go_fit (pI.Y _));rintro e wB ⟨rfl,eF⟩;have nD:=RX.below (by assumption) eF;(try have zK:=F.Y _ _ (by assumption) eF);(try have qT:=j.Y _ _ (by assumption) eF))
  |((with_reducible go_fit (sX.Y _));rintro e wC ⟨rfl,V⟩;have jK:=RX.below (by assumption) V;(try have Ih:=F.Y _ _ (by assumption) V);(try have eG:=j.Y _ _ (by assumption) V))
  |((with_reducible go_fit (uv.Y _ (by assumption)));rintro e wC ⟨rfl,u,hC,P⟩;have jK:=RX.acc (by assumption) gZ.Y.blk P (hC.kept P rfl);have eG:=cu.trans (by assumption) P))
 all_goals
  obtain⟨M,HF⟩:=av hC (uz.Y.trans eG);clear hC P eG E i gi gV F j;obtain⟨d,l,i⟩:=af.aM M.Y.blk;unfold bw at d;go_wp2_with fail;clear d l i;have L6:=ae M.Y;obtain⟨gi,gV,F,j,i⟩:=M.Y.cK;obtain⟨E,qQ,lz,jd⟩:=L6.Y.FJ 27 32;unfold bw Rn.store at E;dsimp only at E;go_region_held3(RX wC p u 27 32) (with_reducible(repeat(first|exact RX.start L6.Y.blk _ _ _|exact gj|refine RX.alloc ?_ _|refine RX.set ?_ (by decide) _))) (first
   |((with_reducible go_fit (C8.Y _ _ (by assumption)));rintro e wD ⟨rfl,S⟩;have Kc:=RX.below (by assumption) S;(try have RQ:=F.Y _ _ (by assumption) S);(try have zi:=j.Y _ _ (by assumption) S)))
  obtain⟨fZ,um⟩:=av RQ (HF.Y.trans zi);clear E qQ lz jd i S Kc RQ zi gi gV F j HF M L6;have RR:RN (((((wD.setCell ⟨p,31,none⟩ true).setCell ⟨p,27,none⟩ y.seq).setCell ⟨p,28,none⟩ y.cs).setCell ⟨p,29,none⟩ y.code).setCell ⟨p,30,none⟩ y.value) X p c A n k t u (q+1) {r.store 0 (bF r.k.aA.own)with k:={r.k with fR:=true,res:=y}} s o:=RN.leaf fZ.Y s o {fZ.Y.tk with} fZ.Y.op rfl;obtain⟨K,W⟩:=av RR (((((((fT.refl wD p).set 31 true).set 27 y.seq).set 28 y.cs).set 29 y.code).set 30 y.value).fr u);clear RR;generalize(((((wD.setCell ⟨p,31,none⟩ true).setCell ⟨p,27,none⟩ y.seq).setCell ⟨p,28,none⟩ y.cs).setCell ⟨p,29,none⟩ y.code).setCell ⟨p,30,none⟩ y.value)=w4 at *;obtain⟨d,l,i⟩:=af.aM K.Y.blk;unfold bw Rn.store at d;dsimp only at d;go_wp2_with fail;(with_reducible go_fit (O.Y _ u K.Y));rintro e J ⟨v,rfl,x,C,z,B,rfl,G,gX,ei⟩;obtain⟨Q,pW⟩:=av (K.Y.more ei) ((um.Y.trans W.Y).trans (cu.ext ei p u));have oL:Hid (nU J (Im J X p u) {r.k with fR:=true,res:=y,aA:=g} {s with fr:=⟨x,C⟩,ol:=⟨z,B⟩}):=wV.tk Q.Y.tk G gX (fun b h0 h1=>Im.fresh K.Y h0 h1) _ rfl;clear G gX ei d l i;obtain⟨d,l,i⟩:=af.aM Q.Y.blk;unfold bw Rn.store at d;dsimp only at d;go_upto_region 15 with fail
  clear d l i;have I:RN (((((J.setCell ⟨p,22,none⟩ g.own.ix).setCell ⟨p,23,none⟩ g.own.tag).setCell ⟨p,24,none⟩ (.slice x g.free.length C)).setCell ⟨p,25,none⟩ (.slice z g.old.length B)).setCell ⟨p,26,none⟩ g.spent) X p c A n k t u (q+1) {r.store 0 (bF r.k.aA.own)with k:={r.k with fR:=true,res:=y,aA:=g}} {s with fr:=⟨x,C⟩,ol:=⟨z,B⟩} o:=RN.leaf Q.Y {s with fr:=⟨x,C⟩,ol:=⟨z,B⟩} o {oL.Y with} Q.Y.op rfl;obtain⟨L,Y⟩:=av I (((((((fT.refl J p).set 22 g.own.ix).set 23 g.own.tag).set 24 (.slice x g.free.length C)).set 25 (.slice z g.old.length B)).set 26 g.spent).fr u);clear I;generalize(((((J.setCell ⟨p,22,none⟩ g.own.ix).setCell ⟨p,23,none⟩ g.own.tag).setCell ⟨p,24,none⟩ (.slice x g.free.length C)).setCell ⟨p,25,none⟩ (.slice z g.old.length B)).setCell ⟨p,26,none⟩ g.spent)=w6 at *;obtain⟨d,l,i⟩:=af.aM L.Y.blk;unfold bw Rn.store at d;dsimp only at d;have Z:=ae (MZ r.k.found s.fo.A r.k.found.length s.fo.c rfl aq.Y (fun b hb=>hb.1) L.Y.tk.fo);go_wp2_with fail;(with_reducible go_fit Z.Y);rintro e w7 ⟨B2,d2,rfl,(rh:Hid _),T,EW⟩;obtain⟨U,xH⟩:=av (L.Y.more T) ((pW.Y.trans Y.Y).trans (cu.ext T p u));have Bu:Hid (ru w7 (Im w7 X p u) B2 r.k.found):=EW _ (fun b hb=>(cu.ext T p u).im hb) (fun b h0 h1=>Im.fresh L.Y h0 h1);clear T EW d l i;obtain⟨d,l,i⟩:=af.aM U.Y.blk;unfold bw Rn.store at d;dsimp only at d;go_wp2;go_end0;refine cE.then xH.Y ?_;exact cE.leaf U.Y {s with fr:=⟨x,C⟩,ol:=⟨z,B⟩} ⟨B2,d2⟩ {U.Y.tk with} Bu.Y rfl
theorem EX(H:RN w X p c A n k t m q r s o)(f:RB c N r)(hown:0<=r.k.aA.own.ix/\r.k.aA.own.ix<cN c)(u:N<=100000)(l:q<=900000)(x:13<=r.k.pc)(y:r.k.pc<=15):Calls prog 112 #[.pointer p] w (cE X p c A n k t m (q+1) (Rn.writes c t r) w):=by
 rcases(by omega:r.k.pc=13\/r.k.pc=14\/r.k.pc=15)with h|h|h
 ·exact MX H f hown l h
 ·exact MY H f hown l h
 ·by_cases a:ay r.L 0=bF r.k.base
  ·exact IH H f hown u l h a
  ·exact IG H f hown u l h a
end
theorem kF.none_{m:Nat}{P:sU α}{S:Nat->Prop}(c:0<m)(h:kF m P w S none xs):xs.length=0:=by
 rcases Nat.eq_zero_or_pos xs.length with e|e
 ·exact e
 ·obtain⟨b,_,_,a,_⟩:=kF.at_ c h e;cases a
theorem dI.FP{m:Nat}{f:α->List Value}(k:∀c,(f c).length=m)(l:0<m){A:Option Addr}(h:dI w f A xs){i:Addr}(n:A=some i)(q:xs≠[]):i.block<w.heap.size:=by
 obtain⟨d,c,a,_,e⟩:=dI.at_ k l h (List.length_pos_iff.2 q);rw[n]at a;injection a with a
 subst a;have b:=e 0 _ (cY (by rw[k];exact l));rw[Nat.zero_mul,add_zero,add_zero]at b;exact bb b
theorem RS(l:List Int):qK l=(eC l).1.kind/\qA l=(eC l).1.arg/\qV l=(eC l).1.value/\qD l=(eC l).1.dflt/\qC l=(eC l).1.cases/\qP l=(eC l).2.1/\jE l=(eC l).2.2:=by
 have a:jE l=decide (l.length=5/\l.getD 0 0/256%16<=3/\l.getD 4 0<=4294967295/\iM ⟨l.getD 0 0%256,l.getD 0 0/65536%65536,l.getD 0 0/4294967296,l.getD 0 0/4096%2==1,((l.drop 1).take (l.getD 0 0/256%16).toNat).map Mo.pZ⟩ (l.getD 4 0)=l):=by unfold jE;rw[<-Bt,Bool.eq_iff_iff];simp only[cA,bP,beq_iff_eq,and_assoc];rfl
 unfold qK qA qV qD qC qP eC;rw[a];dsimp only;split
 ·rename_i h;have h:=of_decide_eq_true h;rw[au h];exact⟨rfl,rfl,rfl,rfl,rfl,rfl,eE h⟩
 ·rename_i h;have h:¬_:=fun k=>h (eE k);rw[ah h];exact⟨rfl,rfl,rfl,rfl,rfl,rfl,bU h⟩
theorem M0(w:World)(A:Option Addr)(c:Nat)(l:List Int)(q:l.length<=5)(n:l.length<=c)(m:fE l)(k:bJ w .u64 A l) :
 Calls prog 164 #[.slice A l.length c] w (aby (eC l).1.kind (eC l).1.arg (eC l).1.value (eC l).1.dflt (eC l).1.cases (eC l).2.1 (eC l).2.2 w):=by
 have h:=BU w A c l aa n m k
 obtain⟨a,b,d,e,f,g,i⟩:=RS l
 unfold zY at h
 rw[a,b,d,e,f,g,i]at h
 exact h
theorem M4(a b c d:Int)(w:World):(Instr.field 48 (.agg #[a,b,c,d]) 0).run prog w=.ok a w:=by kernel_rfl
theorem sJ{P:Program}{o:Oper}{K:Act->World->Prop}(r:o.guard=none)(s x:Operand)(t:TypeId)(Y:o.op=.call {callee:=.builtin .append,args:=#[s,x],argTypes:=#[t,t]})(e:TypeId)(ht:P.underlying t=some (.slice e)){z:Value}(W:(P.info? e).map (fun i=>(i.zero,i.size,i.bytes))=some (some z,8,80))(hz:z.cells.size=8){S:Nat->Prop}(A:Option Addr)(n:Nat)(H:List Mo.Op)(hs:a.eval s=.slice A n n)(C:n=H.length)(Z:kF 8 NQ w S A H)(B:Addr)(c:Nat)(y:y9)(hx:a.eval x=.slice (some B) 1 c)(O:Rd w (some B) (wg y))(f:n<=1000000)(T:∀b,S b->b<w.heap.size)(hy:dG w S bC y.B y.op.aN.cases)(h:∀l p w',n+1<=p->(∀m:Nat->Prop,(∀b,S b->m b)->(∀b,w.heap.size<=b->b<w'.heap.size->m b)->ru w' m l (H++[y.op]))->Below w w w'->K (a.put o.dst (.slice l (n+1) p)) w') :
 if Region.wanted o (yielded ops a.tmps)=true then Oper.wp P o a w K Q else E:=by
 obtain⟨i,jQ,D,F,G⟩:=info_parts W
 obtain⟨rows,q,M,N⟩:=Z
 have X:(rows.flatMap eA).length=n*8:=by rw[tu b9,q,C]
 refine step_append_grows r s x t Y e i z 8 80 ht jQ D F G hz ag A n n (rows.flatMap eA) hs (fun e=>?_) X (fun b f j u v=>?_) B 1 c (wg y) hx rfl (fun j u v=>?_) (jJ y) aa (by unfold maxLen;omega) aa (fun v' w' hown V=>?_)
 ·subst e;have h0:=kF.none_ ag ⟨rows,q,M,N⟩;omega
 ·obtain⟨I,d,g⟩:=M j u v;rw[f]at d;injection d with d
  subst d;exact g
 ·obtain⟨I,d,g⟩:=O j u v;injection d with d
  subst d;exact g
 ·have R:aH w' w e 8 eA v' (rows++[jD wg iw jJ y]):=by
   unfold aH;rw[eW,List.flatMap_append,q, <-C];exact hown
  have f:=(Below.refl _ w).grown V (aS _) (fun b f=>by cases f)
  have k:Sm S w w':=fun b h=>f.block b (T b h)
  have J:=aI.app ku q N k R (x:=y.op) ⟨y.B,y.d,rfl,hy.same k⟩
  obtain⟨l,p,rfl,L,mV⟩:=J.rdX
  rw[eW,gL, <-C]at L ⊢
  refine h l p w' L (fun m d g=>⟨mV.mono ku d,fun I U _=>?_⟩) f
  subst U
  have:=aI.lt J rfl
  exact g _ this.1 this.2
section
variable{w:World} {X:Nat->Prop} {p:Nat} {c:Mo.bA} {A:Option Addr} {n k:Nat} {t:Int} {m:Mm} {q:Nat} {r:Mo.Rn} {s:Sh} {o:Sl} {N:Int}
theorem RT(H:RN w X p c A n k t m q r s o)(l:RB c N r)(hq:q<=900000)(O:r.k.pc=8):Calls prog 110 #[.pointer p] w (cE X p c A n k t m (q+1) (Rn.fc c r) w):=by
 have B:=l.k.i.1;have xI:=l.f.a;unfold mM at xI;have Y:r.k.i<c.threads:=by omega
 have mN:=H.cs.th;have hlen:(r.k.buf.length:Int)=bn c:=by omega
 have ha:=(dO H.cs.eN B Y).1;have HA:=ae (fun b=>yI b H.cs.eN A k n r.k.i B (by omega));have hu:=l.k.buf;have f:=l.L.at_ (lJ c r.k.i);have kZ:=ae (fun b (h:RN b X p c A n k t m q r s o)=>cQ h hq _ ha.1);obtain⟨x,T⟩:∃x,x=ay r.L (lJ c r.k.i):=⟨_,rfl⟩
 obtain⟨y,U⟩:∃y,y=eT c r.k.buf r.k.i:=⟨_,rfl⟩
 have hE:Rn.fc c r=if 1048575<x\/x<=y.seq then Rn.ee c {r with k:={r.k with word:=x}}else{r with k:={r.k with word:=x,j:=0,args:=[],pc:=9}}:=by unfold Rn.fc;rw[au O, <-T, <-U]
 rw[<-T]at kZ f;have C8:=ae (fun b V (h:RN b X p c A n k t V (q+1) {r with k:={r.k with word:=x}} s o)=>vH h r.k.buf s.bf.A r.k.buf.length s.bf.c rfl hlen hu h.tk.bf.1 r.k.i B Y);rw[<-U]at C8;obtain⟨j,J,M,HH⟩:=bN (fun b V (h:RN b X p c A n k t V (q+1) {r with k:={r.k with word:=x}} s o)=>pB h B (by show r.k.i<=_;omega)) hE f H;obtain⟨R,Q,u,a,i⟩:=H.cK;obtain⟨g,qQ,lz,jd⟩:=HH.Y.FJ 18 19;unfold bw at g;obtain⟨d,D,-⟩:=af.aM HH.Y.blk;unfold bw at d;rw[O]at d;clear H l hE T U ha hu f xI O hlen B Y mN;go_enter func110,ntmps110;go_wp2_with fail;clear d D;go_region_held3(RX w p m 18 19) (exact gj) (first
  |((with_reducible go_fit (HA.Y _));rintro e wA ⟨rfl,P⟩;have mX:=RX.below (by assumption) P;(try have mY:=u.Y _ _ (by assumption) P);(try have nE:=a.Y _ _ (by assumption) P))
  |((with_reducible go_fit (kZ.Y _ (by assumption)));rintro e Z ⟨rfl,G,S,E⟩;have jK:=RX.acc (by assumption) HH.Y.blk E (S.kept E rfl);have eG:=cu.trans (by assumption) E))
 all_goals
  obtain⟨K,HF⟩:=av S eG;clear S E eG g qQ lz jd i;clear R Q u a;have kG:RN (Z.setCell ⟨p,18,none⟩ (.int .u64 x)) X p c A n k t G (q+1) {r with k:={r.k with word:=x}} s o:=RN.leaf K.Y s o {K.Y.tk with} K.Y.op rfl;obtain⟨C,oH⟩:=av kG (((fT.refl Z p).set 18 (.int .u64 x)).fr G);clear kG;generalize(Z.setCell ⟨p,18,none⟩ (.int .u64 x))=w2 at *;obtain⟨d,D,i⟩:=af.aM C.Y.blk;unfold bw at d;dsimp only at d;by_cases F:1048575<x
  ·go_wp2_with fail;go_quiet(fail);go_wp2_with fail;go_fit (j.Y _ _ (C.Y.more (bV (aj _) _)));rintro e w3 ⟨rfl,(L:Hid _)⟩;go_wp2_with fail;refine bodyPost_ret (v:=.tuple #[]) (by simp[results,results110,go_sem]) rfl ?_;rw[J.Y,au (.inl F)];exact cE.then ((HF.Y.trans oH.Y).trans (cu.ext (bV (aj _) _) p _)) ⟨rfl,L.Y⟩
  ·have FE:IntKind.i64.wrap x=x:=ky M.Y.1 (by omega);have aq:decide (1048575<x)=false:=bU F;have H1:=ae F;clear F;have XP:=fun b=>M4 y.seq y.cs y.code y.value b;clear d D i;have gZ:=ae C.Y;obtain⟨R,Q,u,a,i⟩:=C.Y.cK;have g:=gZ.Y.cx;unfold bw at g;dsimp only at g;have I:=ae (fun b h=>C8.Y b G h);by_cases h2:x<=y.seq;all_goals
    go_wp2_with fail;go_region_held3(RX w2 p G 0 0) (exact gj) (first
     |((with_reducible go_fit (I.Y _ (by assumption)));rintro e wD ⟨rfl,W⟩;have Kc:=RX.below (by assumption) W;(try have RQ:=u.Y _ _ (by assumption) W);(try have zi:=a.Y _ _ (by assumption) W)))
    obtain⟨z,um⟩:=av RQ ((HF.Y.trans oH.Y).trans zi);clear RQ zi g i R Q u a;obtain⟨d,D,i⟩:=af.aM z.Y.blk;unfold bw at d;dsimp only at d;go_wp2_with fail
   ·skip;go_fit (j.Y _ _ z.Y);rintro e w3 ⟨rfl,(L:Hid _)⟩;go_wp2_with fail;refine bodyPost_ret (v:=.tuple #[]) (by simp[results,results110,go_sem]) rfl ?_;rw[J.Y,au (.inr h2)];exact cE.then um.Y ⟨rfl,L.Y⟩
   ·refine bodyPost_ret (v:=.tuple #[]) (by simp[results,results110,go_sem]) rfl ?_;rw[J.Y,ah (fun h=>by have h6:=H1.Y;omega)];refine cE.then um.Y ?_;exact cE.leaf z.Y {s with ar:=ek} o {z.Y.tk with ar:=dx.nil _ _ _ _,la:=aV _} z.Y.op rfl
theorem RU(H:RN w X p c A n k t m q r s o)(F:RB c N r)(hq:q<=900000)(G:r.k.pc=9):Calls prog 110 #[.pointer p] w (cE X p c A n k t m (q+1) (Rn.fc c r) w):=by
 have U:=F.k.i.1;have xI:=F.f.a;unfold mM at xI;have rN:r.k.i<c.threads:=aa;have mN:=H.cs.th;have Z:(r.k.args.length:Int)=r.k.j/\r.k.j<5:=aa;have M:0<=r.k.j/\r.k.j<5:=⟨F.k.j.1,Z.2⟩
 have z:=(dO H.cs.eN U rN).2.2.2.2 r.k.j M.1 M.2;have V0:Hid (r.k.args.length<=1000000):=by unfold Hid;omega
 have V:=ae (fun E=>Bb E H.cs.eN A k n r.k.i U aa);obtain⟨a,u⟩:=aG (iY c r.k.i);have nV:=H.cs.C9;rw[<-u]at V z;have kZ:=ae (fun E (h:RN E X p c A n k t m q r s o)=>cQ h hq (a+r.k.j) z.1);obtain⟨x,T⟩:=aG (ay r.L (a+r.k.j));have e1:IntKind.i64.wrap (a+r.k.j)=a+r.k.j:=ky z.1 aa;have hE:Rn.fc c r={r with k:={r.k with args:=r.k.args++[x],j:=r.k.j+1,pc:=if r.k.j+1=5 then 10 else 9}}:=by unfold Rn.fc;rw[ah aa,au G, <-u, <-T]
 rw[<-T]at kZ;obtain⟨iH,W,uy,Y,HH⟩:=dh (fun E=>zh E s.ar.A r.k.args.length s.ar.c H.tk.la (fun e=>by have h:=H.tk.ar.1;rw[e]at h;rw[h.oQ];rfl)) hE G M H;obtain⟨gi,gV,dm,P,aW⟩:=H.cK;obtain⟨j,bp,-⟩:=af.aM HH.blk;unfold bw at j;rw[G]at j;clear H F hE T u z G xI U rN mN Z M nV bp;go_enter func110,ntmps110;go_wp2_with fail;have Q:w.drew.cell? ⟨p,19,none⟩=some (.slice s.ar.A r.k.args.length s.ar.c):=j 19;clear j;obtain⟨aT,qQ,lz,jd⟩:=HH.FJ 19 20;unfold bw at aT;refine wp_region_held_drew (S:=(RX w p m 19 20)) (by kernel_rfl) (RX.start HH.blk _ _ _) (fun d=>?_);refine aP 0 d ?_;refine aP 1 d ?_;refine aP 2 d ?_;refine aP 3 d ?_;refine aP 4 d ?_;refine aP 7 d ?_;refine aP 8 d ?_;refine aP 9 d ?_;refine aP 10 d ?_;refine aP 11 d ?_;refine aP 12 d ?_;refine aP 13 d ?_;refine aP 14 d ?_;refine aP 15 d ?_;refine aP 16 d ?_;refine aP 18 d ?_;refine aP 19 d ?_;refine aP 20 d ?_;refine aP 21 d ?_;refine aP 22 d ?_;(try simp only[aC]);refine et 5 (fun K f=>?_);go_simp;refine f.Y _ _ gj (fun d=>?_);clear f K;(try simp only[aC]);refine et 6 (fun K f=>?_);go_simp;((with_reducible go_fit (iH.Y _));rintro e wA ⟨rfl,rfl⟩);go_wp2_with fail;refine f.Y _ _ gj (fun d=>?_);clear f K;(try simp only[aC]);refine et 17 (fun K f=>?_);go_simp;((with_reducible go_fit (V.Y _));rintro e wB ⟨rfl,I⟩;have nD:=RX.below bc I;(try have zK:=dm.Y _ _ bc I);(try have qT:=P.Y _ _ bc I));go_wp2_with fail;refine f.Y _ _ gj (fun d=>?_);clear f K;(try simp only[aC]);refine aP 23 d ?_;(try simp only[aC]);refine et 24 (fun K f=>?_);go_simp;((with_reducible go_fit (kZ.Y _ bc));rintro e wC ⟨rfl,D,C,L⟩;have jK:=RX.acc bc HH.Y.blk L (C.kept L rfl);have eG:=cu.trans bc L);go_wp2_with fail;refine f.Y _ _ gj (fun d=>?_);clear f K;(try simp only[aC]);refine et 25 (fun K f=>?_);go_simp;refine f.Y _ _ gj (fun d=>?_);clear f K;(try simp only[aC]);refine et 26 (fun K f=>?_);(refine sI rfl _ _ 43 rfl 44 .u64 underlying43 ry s.ar.A r.k.args.length r.k.args rfl rfl ?_ ⟨wC,0,none⟩ 1 x rfl ?_ ?_ ?_;(exact C.tk.ar.1.alloc _);(exact bJ.one _ .u64 _ _);(exact V0.Y);intro A5 c5 y l J;have CI:=RX.below bc J);refine f.Y _ _ gj (fun d=>?_);clear f K;(try simp only[aC]);refine aP 27 d ?_;refine aP 28 d ?_;refine aP 29 d ?_;(try simp only[aC]);refine et 30 (fun K f=>?_);go_simp;refine f.Y _ _ gj (fun d=>?_);clear f K;(try simp only[aC]);refine wpAnyH_done (by kernel_rfl) ?_ _;obtain⟨O,pW⟩:=av (C.more (ai (ak (aj _) _) J)) (eG.trans (cu.ext (ai (ak (aj _) _) J) p D));have uo:∀b,(wC.alloc (.cells #[.int .u64 x] 44)).heap.size<=b->b<y.heap.size->Im y X p D b:=fun b h0 h1=>Im.fresh C (by simp at h0;omega) h1;obtain⟨i,g⟩:=aG (r.k.args++[x]);have v:r.k.args.length+1=i.length:=by rw[g];simp
 rw[<-g]at l;rw[v]at l ⊢;have oL:Hid (nU y (Im y X p D) {r.k with args:=i} {s with ar:=⟨A5,c5⟩}):={O.tk with ar:=⟨l.pP.2,fun ad z _=>by subst z;exact uo _ (aX l rfl).1 (aX l rfl).2⟩,la:=l.cap.2}
 obtain⟨br,lD⟩:=av g v;clear uo l J CI nD zK qT I C L jK eG d g v aT qQ lz jd Q aW;have Yp:RN (y.setCell ⟨p,19,none⟩ (.slice A5 i.length c5)) X p c A n k t D (q+1) {r with k:={r.k with args:=i}} {s with ar:=⟨A5,c5⟩} o:=RN.leaf O {s with ar:=⟨A5,c5⟩} o oL O.op rfl;obtain⟨H7,B⟩:=av Yp (((fT.refl y p).set 19 (.slice A5 i.length c5)).fr D);clear Yp;generalize(y.setCell ⟨p,19,none⟩ (.slice A5 i.length c5))=w7 at *;have xH:=ae (pW.trans B);clear O pW B oL;obtain⟨j,bp,aW⟩:=af.aM H7.blk;unfold bw at j;dsimp only at j;have aq:=Y.1;have a6:=Y.2;by_cases h5:r.k.j+1=5
 ·have R:(r.k.j+1==5)=true:=by rw[h5];rfl
  have jv:Hid (Rn.fc c r={r with k:={r.k with args:=i,j:=r.k.j+1,pc:=10}}):=by unfold Hid;rw[W.Y, <-br.Y,au h5]
  exact ada
 ·have R:(r.k.j+1==5)=false:=by rw[di];exact h5
  have jv:Hid (Rn.fc c r={r with k:={r.k with args:=i,j:=r.k.j+1}}):=by unfold Hid;rw[W.Y, <-br.Y,ah h5, <-uy.Y]
  exact ada
theorem M5(H:RN w X p c A n k t m q r s o)(O:RB c N r)(HW:r.k.word<=1048575)(hN:N<=100000)(hq:q<=900000)(bQ:r.k.pc=10):Calls prog 110 #[.pointer p] w (cE X p c A n k t m (q+1) (Rn.fc c r) w):=by
 have jQ:=O.k.i.1;have xI:=O.f.a;unfold mM at xI;have rN:r.k.i<c.threads:=by omega
 have mN:=H.cs.th;have ha:=(dO H.cs.eN jQ rN).1;have V0:Hid (r.k.found.length<=1000000):=by unfold Hid;have:=O.k.found;omega
 obtain⟨HA,a6⟩:=av (fun l=>yI l H.cs.eN A k n r.k.i jQ (by omega)) (fun l (h:RN l X p c A n k t m q r s o)=>M0 l s.ar.A s.ar.c r.k.args O.k.OL h.tk.la O.k.args h.tk.ar.1);obtain⟨a,W⟩:∃a,a=eC r.k.args:=⟨_,rfl⟩
 rw[<-W]at a6;have kZ:=ae (fun l (h:RN l X p c A n k t m q r s o)=>cQ h hq (lJ c r.k.i) ha.1);obtain⟨x,Y⟩:∃x,x=ay r.L (lJ c r.k.i):=⟨_,rfl⟩
 have hE:Rn.fc c r=Rn.ee c (if x=r.k.word/\a.2.2=true then{r with k:={r.k with found:=r.k.found++[⟨r.k.i,r.k.word,a.2.1,a.1⟩]}}else r):=by unfold Rn.fc;rw[ah (by omega),ah (by omega),au bQ, <-W, <-Y]
 rw[<-Y]at kZ;have bz:IntKind.i64.wrap r.k.word=r.k.word:=ky O.k.word.1 (by omega);obtain⟨iH,HNS,aq,HE,uy,HH⟩:=cT (fun l=>VZ l s.fo.A r.k.found.length s.fo.c H.tk.lf (fun e=>by have h:=H.tk.fo.1;rw[e]at h;exact kF.none_ (by decide) h)) (fun l mx qx sx (h:RN l X p c A n k t mx qx r sx o)=>pB h jQ (by omega)) (fun l mx qx sx (h:RN l X p c A n k t mx qx {r with k:={r.k with found:=r.k.found++[⟨r.k.i,r.k.word,a.2.1,a.1⟩]}} sx o)=>pB h jQ (by show r.k.i<=_;omega)) hE bQ H;have aW:=H.lt;obtain⟨aB,bp,-⟩:=af.aM HH.Y.blk;unfold bw at aB;rw[bQ]at aB;clear H O HW hE Y ha bQ xI jQ rN mN W hN;go_enter func110,ntmps110;go_wp2_with fail;(with_reducible go_fit (a6.Y _ HH.Y));rintro e E ⟨⟨B,d,rfl,nv,sV⟩,V⟩;obtain⟨iT,ur⟩:=av (HH.Y.more V) (cu.ext V p m);have a7:Hid (dG E (Im E X p m) bC B a.1.cases):=⟨nv,fun ad h1 h2=>Im.fresh HH.Y (sV ad h1 h2) (dI.FP iD (by decide) nv h1 h2)⟩
 clear nv sV V aB bp aW;obtain⟨aB,bp,aW⟩:=af.aM iT.Y.blk;unfold bw at aB;dsimp only at aB;rw[uy.Y]at aB;go_upto_region 13 with fail
 clear aB bp aW;obtain⟨g,hg⟩:∃g,g=E.heap.size:=⟨_,rfl⟩
 have HG:Hid (af (E.alloc (.cells #[a.1.kind,a.1.arg,a.1.value,a.1.dflt,.slice B a.1.cases.length d] 42)) g 42 #[a.1.kind,a.1.arg,a.1.value,a.1.dflt,.slice B a.1.cases.length d]):=by rw[hg];exact af.new _ _ _
 obtain⟨jh,rT⟩:=av (iT.Y.more (ak (aj E) (.cells #[a.1.kind,a.1.arg,a.1.value,a.1.dflt,.slice B a.1.cases.length d] 42))) (ur.Y.trans (cu.ext (ak (aj E) (.cells #[a.1.kind,a.1.arg,a.1.value,a.1.dflt,.slice B a.1.cases.length d] 42)) p m));have Fk:Hid (dG (E.alloc (.cells #[a.1.kind,a.1.arg,a.1.value,a.1.dflt,.slice B a.1.cases.length d] 42)) (Im (E.alloc (.cells #[a.1.kind,a.1.arg,a.1.value,a.1.dflt,.slice B a.1.cases.length d] 42)) X p m) bC B a.1.cases):=(a7.Y.same (cu.ext (ak (aj E) (.cells #[a.1.kind,a.1.arg,a.1.value,a.1.dflt,.slice B a.1.cases.length d] 42)) p m).sm).mono fun b u=>(cu.ext (ak (aj E) (.cells #[a.1.kind,a.1.arg,a.1.value,a.1.dflt,.slice B a.1.cases.length d] 42)) p m).im u;have DX:g≠p:=by have:=iT.Y.lt;omega
 have L:¬m.own g:=fun h=>by have:=iT.Y.mem.lt h;omega
 have qu:=ae (fun wd:World=>(Rd.lit wd (wg ⟨⟨r.k.i,r.k.word,a.2.1,a.1⟩,B,d⟩) 66:Rd (wd.alloc (.cells #[r.k.i,r.k.word,a.2.1,a.1.kind,a.1.arg,a.1.value,a.1.dflt,.slice B a.1.cases.length d] 66)) wd (wg ⟨⟨r.k.i,r.k.word,a.2.1,a.1⟩,B,d⟩)));rw[<-hg];clear hg iT ur a7;generalize E.alloc (.cells #[a.1.kind,a.1.arg,a.1.value,a.1.dflt,.slice B a.1.cases.length d] 42)=w2 at *;by_cases T:x=r.k.word
 ·have pQ:(x==r.k.word)=true:=by rw[T];exact beq_self_eq_true _
  have gZ:=ae jh.Y;obtain⟨gi,gV,dm,C,aW⟩:=jh.Y.cK;have z:=gZ.Y.cx;unfold bw at z;dsimp only at z;rw[uy.Y]at z;go_wp2_with fail;go_region_held3(RX w2 p m 0 0) (exact gj) (first
   |((with_reducible go_fit (HA.Y _));rintro e wA ⟨rfl,Q⟩;have mX:=RX.below (by assumption) Q;(try have mY:=dm.Y _ _ (by assumption) Q);(try have nE:=C.Y _ _ (by assumption) Q))
   |((with_reducible go_fit (kZ.Y _ (by assumption)));rintro e j ⟨rfl,y,U,J⟩;have F:=RX.acc (by assumption) gZ.Y.blk J (U.kept J rfl);have D:=cu.trans (by assumption) J))
  obtain⟨fZ,um⟩:=av U (rT.Y.trans D);have Yq:Hid (af j g 42 #[a.1.kind,a.1.arg,a.1.value,a.1.dflt,.slice B a.1.cases.length d]):=F.blk HG.Y DX L;have P:¬y.own g:=fun h=>(D.own g h).elim L fun hl=>by have:=HG.Y.lt;omega
  have a8:Hid (dG j (Im j X p y) bC B a.1.cases):=(Fk.Y.same D.sm).mono fun b u=>D.im u;clear z aW gi gV dm C U J D F;rcases rF:a.2.2 with _|_
  ·have jv:=HE.Y;rw[ah (fun h=>by rw[rF]at h;cases h.2)]at jv;have jv:=ae jv;clear rF T;exact adf
  ·have jv:=HE.Y;rw[au ⟨T,rF⟩]at jv;have jv:=ae jv;clear rF T;have L6:=ae fZ.Y;have aW:=fZ.Y.lt;have dC:=fun l (Y:RX j p y 20 21 l) i=>af.cell (Y.blk Yq.Y DX P) i;have gO:=fun l (Y:RX j p y 20 21 l)=>af.lt (Y.blk Yq.Y DX P);obtain⟨z,qQ,lz,jd⟩:=L6.Y.FJ 20 21;unfold bw at z;dsimp only at z;have G:j.drew.cell? ⟨p,20,none⟩=some (.slice s.fo.A r.k.found.length s.fo.c):=af.cell fZ.Y.blk 20;have EY:Below j j (j.alloc (.cells #[r.k.i,r.k.word,a.2.1,a.1.kind,a.1.arg,a.1.value,a.1.dflt,.slice B a.1.cases.length d] 66)).drew:=(ak (aj j) (.cells #[r.k.i,r.k.word,a.2.1,a.1.kind,a.1.arg,a.1.value,a.1.dflt,.slice B a.1.cases.length d] 66)).drew;have Wa:Rd (j.alloc (.cells #[r.k.i,r.k.word,a.2.1,a.1.kind,a.1.arg,a.1.value,a.1.dflt,.slice B a.1.cases.length d] 66)).drew j (wg ⟨⟨r.k.i,r.k.word,a.2.1,a.1⟩,B,d⟩):=(qu.Y j).below (aj _).drew;have hX:=fZ.Y.more EY;have F:=(a8.Y.same (cu.ext EY p y).sm).mono fun b u=>(cu.ext EY p y).im u;have Wb:(j.alloc (.cells #[r.k.i,r.k.word,a.2.1,a.1.kind,a.1.arg,a.1.value,a.1.dflt,.slice B a.1.cases.length d] 66)).drew.cell? ⟨p,20,none⟩=some (.slice s.fo.A r.k.found.length s.fo.c):=af.cell hX.blk 20;have II:=ae EY;clear EY;go_wp2_with fail;refine wp_region_held_drew (S:=(RX j p y 20 21)) (by kernel_rfl) (RX.start L6.Y.blk _ _ _) (fun hHeld=>?_);refine aP 0 hHeld ?_;refine aP 1 hHeld ?_;refine aP 2 hHeld ?_;refine aP 3 hHeld ?_;refine aP 4 hHeld ?_;refine aP 7 hHeld ?_;refine aP 8 hHeld ?_;refine aP 9 hHeld ?_;refine aP 10 hHeld ?_;refine aP 11 hHeld ?_;refine aP 12 hHeld ?_;refine aP 13 hHeld ?_;refine aP 14 hHeld ?_;refine aP 15 hHeld ?_;refine aP 16 hHeld ?_;refine aP 17 hHeld ?_;refine aP 18 hHeld ?_;refine aP 19 hHeld ?_;refine aP 20 hHeld ?_;(try simp only[aC]);refine wpAnyH_ready (rs:=[5,21]) (by kernel_rfl) (by simp) ?_;refine(AllReadyH.cons (o:=⟨some 159,_,_,_,_,_⟩) rfl (fun K f=>?_) (AllReadyH.cons (o:=⟨some 175,_,_,_,_,_⟩) rfl (fun K f=>?_) AllReadyH.nil));go_simp;refine f.Y _ _ Kb (fun hHeld=>?_);clear f K;(try simp only[aC]);refine wpAnyH_ready (rs:=[6,21]) (by kernel_rfl) (by simp) ?_;refine(AllReadyH.cons (o:=⟨some 160,_,_,_,_,_⟩) rfl (fun K f=>?_) (AllReadyH.cons (o:=⟨some 175,_,_,_,_,_⟩) rfl (fun K f=>?_) AllReadyH.nil));go_simp;((first|rw[gf G]|rw[gf Wb]|skip);(with_reducible go_fit (iH.Y _));rintro e wA ⟨rfl,rfl⟩);go_wp2_with fail;refine f.Y _ _ Kb (fun hHeld=>?_);clear f K;(try simp only[aC]);refine et 21 (fun K f=>?_);go_simp;refine f.Y _ _ Kb (fun hHeld=>?_);clear f K;(try simp only[aC]);refine et 22 (fun K f=>?_);(refine sJ rfl _ _ 45 rfl 66 underlying45 mH rfl s.fo.A r.k.found.length r.k.found rfl rfl hX.tk.fo.1 ⟨j,0,none⟩ 1 ⟨⟨r.k.i,r.k.word,a.2.1,a.1⟩,B,d⟩ rfl Wa ?_ ?_ ?_ ?_;(exact V0.Y);(exact fun b u=>u.1);(exact F);intro M R Z zO fJ I;have CI:=RX.below (by assumption) I);refine f.Y _ _ Kb (fun hHeld=>?_);clear f K;(try simp only[aC]);refine aP 23 hHeld ?_;refine aP 24 hHeld ?_;refine aP 25 hHeld ?_;(try simp only[aC]);refine et 26 (fun K f=>?_);go_simp;refine f.Y _ _ Kb (fun hHeld=>?_);clear f K;(try simp only[aC]);refine wpAnyH_done (by kernel_rfl) ?_ _;rotate_left;go_simp;refine f.Y _ _ Kb (fun hHeld=>?_);clear f K;(try simp only[aC]);refine et 6 (fun K f=>?_);go_simp;((first|rw[gf G]|rw[gf Wb]|skip);(with_reducible go_fit (iH.Y _));rintro e wA ⟨rfl,rfl⟩);go_wp2_with fail;refine f.Y _ _ Kb (fun hHeld=>?_);clear f K;(try simp only[aC]);refine et 22 (fun K f=>?_);(refine sJ rfl _ _ 45 rfl 66 underlying45 mH rfl s.fo.A r.k.found.length r.k.found rfl rfl hX.tk.fo.1 ⟨j,0,none⟩ 1 ⟨⟨r.k.i,r.k.word,a.2.1,a.1⟩,B,d⟩ rfl Wa ?_ ?_ ?_ ?_;(exact V0.Y);(exact fun b u=>u.1);(exact F);intro M R Z zO fJ I;have CI:=RX.below (by assumption) I);refine f.Y _ _ Kb (fun hHeld=>?_);clear f K;(try simp only[aC]);refine aP 23 hHeld ?_;refine aP 24 hHeld ?_;refine aP 25 hHeld ?_;(try simp only[aC]);refine et 26 (fun K f=>?_);go_simp;refine f.Y _ _ Kb (fun hHeld=>?_);clear f K;(try simp only[aC]);refine wpAnyH_done (by kernel_rfl) ?_ _;rotate_left;go_simp;refine f.Y _ _ Kb (fun hHeld=>?_);clear f K;(try simp only[aC]);refine et 5 (fun K f=>?_);go_simp;refine f.Y _ _ Kb (fun hHeld=>?_);clear f K;(try simp only[aC]);refine et 6 (fun K f=>?_);go_simp;((first|rw[gf G]|rw[gf Wb]|skip);(with_reducible go_fit (iH.Y _));rintro e wA ⟨rfl,rfl⟩);go_wp2_with fail;refine f.Y _ _ Kb (fun hHeld=>?_);clear f K;(try simp only[aC]);refine et 22 (fun K f=>?_);(refine sJ rfl _ _ 45 rfl 66 underlying45 mH rfl s.fo.A r.k.found.length r.k.found rfl rfl hX.tk.fo.1 ⟨j,0,none⟩ 1 ⟨⟨r.k.i,r.k.word,a.2.1,a.1⟩,B,d⟩ rfl Wa ?_ ?_ ?_ ?_;(exact V0.Y);(exact fun b u=>u.1);(exact F);intro M R Z zO fJ I;have CI:=RX.below (by assumption) I);refine f.Y _ _ Kb (fun hHeld=>?_);clear f K;(try simp only[aC]);refine aP 23 hHeld ?_;refine aP 24 hHeld ?_;refine aP 25 hHeld ?_;(try simp only[aC]);refine et 26 (fun K f=>?_);go_simp;refine f.Y _ _ Kb (fun hHeld=>?_);clear f K;(try simp only[aC]);refine wpAnyH_done (by kernel_rfl) ?_ _;rotate_left;all_goals
    obtain⟨jV,pW,bo,M6⟩:=bN (fZ.Y.more (ai II.Y I)) (um.Y.trans (cu.ext (ai II.Y I) p y)) (fJ (Im Z X p y) (fun b u=>(cu.ext I p y).im u) (fun b h0 h1=>Im.fresh fZ.Y (bq II.Y.size h0) h1)) zO;clear fJ zO I CI hX F Wa dC gO z qQ lz jd G Wb aW hHeld;have Yp:RN (Z.setCell ⟨p,20,none⟩ (.slice M (r.k.found.length+1) R)) X p c A n k t y (q+1) {r with k:={r.k with found:=r.k.found++[⟨r.k.i,r.k.word,a.2.1,a.1⟩]}} {s with fo:=⟨M,R⟩} o:=by
     apply RN.at_ (s':={s with fo:=⟨M,R⟩}) (o':=o) jV.Y;case hA=>exact Tb
     case hK=>(with_reducible(repeat(first|apply af.bj|apply af.drewN|apply af.kv|apply af.alloc|exact jV.Y.blk)))
     case he=>unfold bw;simp
     case hL=>rfl
     case tk=>exact{jV.Y.tk with fo:=bo.Y,lf:=by simp;exact M6.Y}
     case op=>exact jV.Y.op
    obtain⟨H7,bg⟩:=av Yp (((fT.refl Z p).set 20 (.slice M (r.k.found.length+1) R)).fr y);clear Yp;generalize(Z.setCell ⟨p,20,none⟩ (.slice M (r.k.found.length+1) R))=w7 at *;go_wp2_with fail;go_fit (aq.Y _ _ _ _ H7.Y);rintro e w3 ⟨rfl,(HX:Hid _)⟩;go_wp2_with fail;refine bodyPost_ret (v:=.tuple #[]) (by simp[results,results110,go_sem]) rfl ?_;rw[jv.Y];exact cE.then (pW.Y.trans bg.Y) ⟨rfl,HX.Y⟩
 ·have pQ:(x==r.k.word)=false:=by rw[di];exact T
  have jv:=HE.Y;rw[ah (fun h=>T h.1)]at jv;have jv:=ae jv;clear T;have gZ:=ae jh.Y;obtain⟨gi,gV,dm,C,aW⟩:=jh.Y.cK;have z:=gZ.Y.cx;unfold bw at z;dsimp only at z;rw[uy.Y]at z;go_wp2_with fail;refine wp_region_held_drew (S:=(RX w2 p m 0 0)) (by kernel_rfl) (RX.start gZ.Y.blk _ _ _) (fun hHeld=>?_);refine aP 0 hHeld ?_;refine aP 1 hHeld ?_;refine aP 2 hHeld ?_;refine aP 3 hHeld ?_;refine aP 4 hHeld ?_;refine aP 5 hHeld ?_;refine aP 6 hHeld ?_;refine aP 7 hHeld ?_;refine aP 8 hHeld ?_;refine aP 9 hHeld ?_;refine aP 12 hHeld ?_;refine aP 13 hHeld ?_;refine aP 14 hHeld ?_;refine aP 15 hHeld ?_;refine aP 16 hHeld ?_;(try simp only[aC]);refine et 10 (fun K f=>?_);go_simp;((with_reducible go_fit (HA.Y _));rintro e wA ⟨rfl,Q⟩;have mX:=RX.below (by assumption) Q;(try have mY:=dm.Y _ _ (by assumption) Q);(try have nE:=C.Y _ _ (by assumption) Q));go_wp2_with fail;refine f.Y _ _ gj (fun hHeld=>?_);clear f K;(try simp only[aC]);refine et 11 (fun K f=>?_);go_simp;((with_reducible go_fit (kZ.Y _ (by assumption)));rintro e j ⟨rfl,y,U,J⟩;have F:=RX.acc (by assumption) gZ.Y.blk J (U.kept J rfl);have D:=cu.trans (by assumption) J);go_wp2_with fail;refine f.Y _ _ gj (fun hHeld=>?_);clear f K;(try simp only[aC]);refine aP 17 hHeld ?_;refine aP 18 hHeld ?_;refine CK 19 hHeld ?_;refine aP 20 hHeld ?_;(try simp only[aC]);refine wpAnyH_done (by kernel_rfl) ?_ _;obtain⟨fZ,um⟩:=av U (rT.Y.trans D);have Yq:Hid (af j g 42 #[a.1.kind,a.1.arg,a.1.value,a.1.dflt,.slice B a.1.cases.length d]):=F.blk HG.Y DX L;have P:¬y.own g:=fun h=>(D.own g h).elim L fun hl=>by have:=HG.Y.lt;omega
  have a8:Hid (dG j (Im j X p y) bC B a.1.cases):=(Fk.Y.same D.sm).mono fun b u=>D.im u;clear z aW gi gV dm C U J D F;exact adf
theorem EZ(H:RN w X p c A n k t m q r s o)(f:RB c N r)(u:FB c r.k)(x:N<=100000)(l:q<=900000)(y:8<=r.k.pc)(z:r.k.pc<=10):Calls prog 110 #[.pointer p] w (cE X p c A n k t m (q+1) (Rn.fc c r) w):=by
 rcases(by omega:r.k.pc=8\/r.k.pc=9\/r.k.pc=10)with h|h|h
 ·exact RT H f l h
 ·exact RU H f l h
 ·exact M5 H f (u.w (.inr h)) x l h
end
theorem E2{P:Program}{a:Nat}{t2:TypeId}{c:Addr}(l:fn.results=#[.cell a t1,.cell b t2])(f:tmps.getD a undef=.pointer (some p1))(h:tmps.getD b undef=.pointer (some c))(m:(loadVar t1 p1).run P w=.ok v1 w)(n:(loadVar t2 c).run P w=.ok v2 w):(results fn tmps).run P w=.ok (.tuple #[v1,v2]) w:=by unfold results;rw[l];simp only[Array.mapM_eq_mapM_toList,List.mapM_cons,List.mapM_nil,f,h];simp only[Sem.run_bind,asAddr,Sem.run_pure,Result.andThen_ok,m,n,map_eq_pure_bind,bind_assoc,pure_bind];rfl
theorem qU{P:Program}{a:Nat}(f:fn.results=#[.cell a t1])(c:tmps.getD a undef=.pointer (some p1))(l1:(loadVar t1 p1).run P w=.ok v1 w):(results fn tmps).run P w=.ok v1 w:=by unfold results;rw[f];simp only[Array.mapM_eq_mapM_toList,List.mapM_cons,List.mapM_nil,c];exact Yr
theorem zk{P:Program}{a:Nat}(h:fn.results=#[.cell a t1,.tmp b])(c:tmps.getD a undef=.pointer (some p1))(f:tmps.getD b undef=v2)(l1:(loadVar t1 p1).run P w=.ok v1 w):(results fn tmps).run P w=.ok (.tuple #[v1,v2]) w:=by unfold results;rw[h];simp only[Array.mapM_eq_mapM_toList,List.mapM_cons,List.mapM_nil,c,f];exact Yr
theorem fw{P:Program}{rest:List Oper}(c:op.guard=none)(v:Value)(f:(execOp a.eval op).run P w=.ok (.value v) w)(h:wpList P ops Q rest (a.put op.dst v) w):wpList P ops Q (op::rest) a w:=wpList_plain c fun _ b=>by unfold Oper.wp;rw[f];exact b _ _ h
theorem r4{P:Program}(c:TypeId)(x:Operand)(m:op.op=.load c x)(b o:Nat)(q:a.eval x=.pointer (some ⟨b,o,none⟩))(cs:List Value)(d:TypeDesc)(f:w.rangeAt b o cs)(n:P.underlying c=some d)(h:d.isRow=true)(l:(P.info? c).map (·.size)=some cs.length):(execOp a.eval op).run P w=.ok (.value (.agg cs.toArray)) w:=by unfold execOp;simp only[m,q,Instr.loadAt,Instr.sureAddr,Sem.run_bind,Sem.run_pure,Result.andThen_ok,run_loadVar_mid w b o c cs d f n h l]
theorem af.range{q:TypeId}{cs:Array Value}(h:af w g q cs)(l:List Value)(m:∀(j:Nat) (v:Value),l[j]?=some v->cs[j]?=some v):w.rangeAt g 0 l:=fun j v a=>by
 rw[Nat.zero_add,h.cell j]
 exact m j v a
def Iz(w:World)(X:Nat->Prop)(m:Mm)(b:Nat):Prop:=b<w.heap.size/\¬m.own b/\¬X b
def XB(X:Nat->Prop)(a p b:Nat):Prop:=X b\/(a<=b/\b<p)
def zT:List Value:=[.int .i64 0,.int .i64 0,.int .i64 0,.int .i64 0,.int .i64 0,.bool false,.slice none 0 0,.bool false,.int .i64 0,.int .i64 0,.int .i64 0,.int .i64 0,.int .i64 0,.bool false,.int .i64 0,.int .i64 0,.slice none 0 0,.slice none 0 0,.int .u64 0,.slice none 0 0,.slice none 0 0,.slice none 0 0,.int .i64 0,.int .i64 0,.slice none 0 0,.slice none 0 0,.int .i64 0,.int .i64 0,.int .i64 0,.int .i64 0,.int .i64 0,.bool false,.bool false,.bool false]
section
variable{w:World} {c:Mo.bA} {A:Option Addr} {n k:Nat} {t:Int}
theorem M7(h:CfS c n t)(F:bJ w .i64 A c.start):Calls prog 106 #[zF c A n k,.int .i64 t] w fun e w'=>∃v,e=.returned v/\wV (nM c t) w v w':=by
 have hp:=Mo.aK h.eN;have ui:=h.t0;have vK:=h.t1;have mN:=h.th;have hm:0<=t*c.nodes/\t*c.nodes<=4*64:=⟨ly ui aa,Int.mul_le_mul aa aa aa aa⟩
 obtain⟨y,z⟩:=av (fun q (X:Below w w q)=>yJ q h.eN h.C9 h.n (F.below X) (k:=k)) (fun q=>P9 q (1+t*c.nodes) c.nodes aa aa aa aa);unfold zF at y ⊢;have e1:IntKind.i64.wrap (t*c.nodes)=t*c.nodes:=cD _ aa;have e2:IntKind.i64.wrap (1+t*c.nodes)=1+t*c.nodes:=cD _ aa;have B:Hid (nM c t=wK (1+t*c.nodes) c.nodes):=rfl;rw[B.Y];generalize wK (1+t*c.nodes) c.nodes=P at z ⊢;have Y:decide (t<0)=false:=bU aa;have Z:decide (c.threads<=t)=false:=bU aa;clear h F hp B mN;obtain⟨u,a⟩:=aG ((w.alloc (dV c A n k)).alloc vJ);have C:Hid (Below w w u):=by rw[a];exact ak (ak (aj w) _) _
 have G:Hid (af u w 24 #[.int .i64 c.kind,.int .i64 c.threads,.int .i64 c.chans,.int .i64 c.cap,.int .i64 c.nodes,.int .i64 c.aL,.int .i64 c.aF,.int .i64 c.tags,.int .i64 c.bG,.int .i64 c.bt,.slice A n k]):=by rw[a];exact(af.new _ _ _).alloc _
 have iC:Hid (af u (w.heap.size+1) 39 [.int .i64 0,.int .i64 0,.slice none 0 0,.slice none 0 0,.int .i64 0].toArray):=by rw[a];exact af.newAt _ _ _ aD
 have K:=ae a;clear a;go_enter func106,ntmps106;obtain⟨o,-,s⟩:=af.aM G;go_wp2_with fail;rw[<-K.Y];clear K o s;go_fit (y _ C);rintro e w3 ⟨rfl,b⟩;obtain⟨M,sY,H⟩:=aZ (ai C b) (G.ai b) (iC.ai b);clear b;obtain⟨o,-,s⟩:=af.aM sY;have p:=H.lt;go_wp2_with fail;go_fit (z _);rintro e x ⟨v,rfl,d,l,f,j,rfl,(I:Hid _),E,m⟩;unfold lZ;obtain⟨J,S,D⟩:=aZ (H.ai m) (ai M m) E;have L:Hid (w.heap.size+1<w3.heap.size):=p;clear E m o s p;obtain⟨O,N,p⟩:=af.aM J;go_wp2_with fail;have hl:=L.Y;have W:=aQ (vs:=[.int .i64 P.own.ix,.int .i64 P.own.tag,.slice d P.free.length l,.slice f P.old.length j,.int .i64 P.spent]) J rfl;have T:=cm (fun R r=>by have:=(aX I r).1;omega) [.int .i64 P.own.ix,.int .i64 P.own.tag,.slice d P.free.length l,.slice f P.old.length j,.int .i64 P.spent] _ 0 _ I (g:=w.heap.size+1);have U:=cm (fun R r=>by have:=(aX D r).1;omega) [.int .i64 P.own.ix,.int .i64 P.own.tag,.slice d P.free.length l,.slice f P.old.length j,.int .i64 P.spent] _ 0 _ D (g:=w.heap.size+1);have V:Below w w (aw x (w.heap.size+1) 0 [.int .i64 P.own.ix,.int .i64 P.own.tag,.slice d P.free.length l,.slice f P.old.length j,.int .i64 P.spent]):=ax (cj _) _ _ _ S;change bodyPost _ _ _ _ _ (aw x (w.heap.size+1) 0 [.int .i64 P.own.ix,.int .i64 P.own.tag,.slice d P.free.length l,.slice f P.old.length j,.int .i64 P.spent]);clear O N p;generalize aw x (w.heap.size+1) 0 [.int .i64 P.own.ix,.int .i64 P.own.tag,.slice d P.free.length l,.slice f P.old.length j,.int .i64 P.spent]=wz at *;have Q:=fun i=>af.cell W i;refine bodyPost_ret (v:=.agg #[.int .i64 P.own.ix,.int .i64 P.own.tag,.slice d P.free.length l,.slice f P.old.length j,.int .i64 P.spent]) (by simp[results,results106,go_sem,Q]) rfl ?_;exact⟨_,rfl,d,l,f,j,rfl,aH.bD T aa,aH.bD U aa,V⟩
theorem RV(H:CfS c n t)(I:bJ w .i64 A c.start):Calls prog 71 #[zF c A n k,.int .i64 t] w fun e w'=>∃s,e=.returned (.agg (iK (lV c t) s).toArray)/\nU w' (fun b=>w.heap.size<=b/\b<w'.heap.size) (lV c t) s/\Below w w w':=by
 have l:=ae (fun wx (hb:Below w w wx)=>M7 (k:=k) H (I.below hb));unfold zF at l ⊢;obtain⟨P,r⟩:=aG (nM c t);rw[<-r]at l;have E:Hid (lV c t=eY 0 0 nN P dD false):=by rw[r];rfl
 rw[E.Y];clear H I r E;obtain⟨B,a⟩:=aG ((w.alloc (dV c A n k)).alloc (.cells zT.toArray 50));have o:Hid (Below w w B):=by rw[a];exact ak (ak (aj w) _) _
 have J:Hid (af B w 24 #[.int .i64 c.kind,.int .i64 c.threads,.int .i64 c.chans,.int .i64 c.cap,.int .i64 c.nodes,.int .i64 c.aL,.int .i64 c.aF,.int .i64 c.tags,.int .i64 c.bG,.int .i64 c.bt,.slice A n k]):=by rw[a];exact(af.new _ _ _).alloc _
 have z:Hid (af B (w.heap.size+1) 50 zT.toArray):=by rw[a];exact af.newAt _ _ _ aD
 unfold zT at a;have Q:=ae a;clear a;go_enter func71,ntmps71;go_upto_region 1 with fail
 rw[<-Q.Y];clear Q;obtain⟨x,-,jM⟩:=af.aM J;go_wp2_with fail;go_fit (l _ o);rename_i K Y;rintro e i ⟨v,rfl,C,O,D,M,rfl,(L:Hid _),G,d⟩;unfold lZ;obtain⟨N,U,F,R⟩:=bN (z.ai d) (ai o d) G z.lt;clear G d x jM l J z o;obtain⟨T,f⟩:=aG (iK (eY 0 0 nN P dD false) {cs:=ek,bf:=ek,nx:=ek,ar:=ek,fo:=ek,se:=ek,fr:=⟨C,O⟩,ol:=⟨D,M⟩});have h:T.length=34:=by rw[f];rfl
 refine Y _ _ ?_;refine fw rfl (.agg T.toArray) (by rw[f];kernel_rfl) ?_;refine wpList_store_mid rfl 50 _ _ rfl (w.heap.size+1) 0 T.toArray rfl rfl (af.there N 0 _ (by rw[jG,h];decide)) (by rw[jG,h];rfl) (by rw[f];exact eK _ _) ?_;rw[jm];have hl:=R.Y;have Z:=aQ (vs:=T) (cs:=zT) N (by rw[f];rfl);have p:=cm (fun S y=>by have:=(aX L y).1;omega) T _ 0 _ L (g:=w.heap.size+1);have q:=cm (fun S y=>by have:=(aX F y).1;omega) T _ 0 _ F (g:=w.heap.size+1);have X:Below w w (aw i (w.heap.size+1) 0 T):=ax (cj _) _ _ _ U;have hs:(aw i (w.heap.size+1) 0 T).heap.size=i.heap.size:=bH _ _ _;change wpList _ _ _ _ _ (aw i (w.heap.size+1) 0 T);generalize aw i (w.heap.size+1) 0 T=wz at *;go_wp2_with fail;have jU:=run_loadVar_mid (P:=prog) wz (w.heap.size+1) 0 50 T _ (af.range Z T (fun j v hv=>by rw[List.getElem?_toArray];exact hv)) underlying50 rfl (by rw[f];rfl);refine bodyPost_ret (qU results71 rfl jU) rfl ?_;have V:=aH.zX p;have W:=aH.zX q;refine⟨{cs:=ek,bf:=ek,nx:=ek,ar:=ek,fo:=ek,se:=ek,fr:=⟨C,O⟩,ol:=⟨D,M⟩},by rw[f],⟨dG.nil _ _ _ _,dx.nil _ _ _ _,dx.nil _ _ _ _,dx.nil _ _ _ _,ru.nil _ _ _,dx.nil _ _ _ _,⟨V.2,fun m u _=>?_⟩,⟨W.2,fun m u _=>?_⟩,aV _,aV _,aV _,aV _,(aH.cap p).2,(aH.cap q).2⟩,X⟩
 ·cases u
  have:=aX p (g:=m.block) rfl;omega
 ·cases u
  have:=aX q (g:=m.block) rfl;omega
def Tc(z:Sl)(s:Sh):Sh:={cs:=z,bf:=ek,nx:=ek,ar:=ek,fo:=ek,se:=ek,fr:=s.fr,ol:=s.ol}
theorem M8(x:Tk)(s:Sh)(q:Rq)(z:Sl)(hq:dI w bC z.A q.cases)(hl:q.cases.length<=1000000)(h0:0<=x.seq)(h1:x.seq<=1048575):Calls prog 120 #[zF c A n k,.agg (iK x s).toArray,.agg (mW q z).toArray] w fun e w'=>e=.returned (.tuple #[.agg (iK (dE c x q).1 (if(dE c x q).2=0 then Tc z s else s)).toArray,.int .i64 (dE c x q).2])/\Below w w w':=by
 have H:=ae (fun wx (hb:Below w w wx)=>mG wx q.kind q.arg q.value q.dflt z.A z.c q.cases aa (hq.below hb));have Q:bk q.kind q.arg q.value q.cases=Mo.bk q:=rfl;rw[Q]at H;clear Q;obtain⟨T,L⟩:=aG (iK x s);obtain⟨s',Y⟩:=aG (if(dE c x q).2=0 then Tc z s else s);rw[<-Y];have HS:=ae Y;clear Y;have e1:IntKind.i64.wrap (x.seq+1)=x.seq+1:=cD _ aa;have W:Hid (dE c x q=if x.pc≠0 then(x,13)else if Mo.bk q=false then(x,1)else if c.bG<=x.seq then(x,7)else({eY 1 (x.seq+1) q x.aA dD false with round:=1},0)):=rfl;obtain⟨G,d⟩:=aG ((((w.alloc (dV c A n k)).alloc (.cells T.toArray 50)).alloc (.cells (mW q z).toArray 42)).alloc (.cells zT.toArray 50));have g:Hid (Below w w G):=by rw[d];exact ak (ak (ak (ak (aj w) _) _) _) _
 have F:Hid (af G w 24 #[.int .i64 c.kind,.int .i64 c.threads,.int .i64 c.chans,.int .i64 c.cap,.int .i64 c.nodes,.int .i64 c.aL,.int .i64 c.aF,.int .i64 c.tags,.int .i64 c.bG,.int .i64 c.bt,.slice A n k]):=by rw[d];exact(((af.new _ _ _).alloc _).alloc _).alloc _
 have m:Hid (af G (w.heap.size+1) 50 T.toArray):=by rw[d];exact((af.newAt _ _ _ aD).alloc _).alloc _
 have C:Hid (af G (w.heap.size+1+1) 42 (mW q z).toArray):=by rw[d];exact(af.newAt _ _ _ aD).alloc _
 have E:Hid (af G (w.heap.size+1+1+1) 50 zT.toArray):=by rw[d];exact af.newAt _ _ _ aD
 unfold zT mW at d;unfold zF;rw[<-L];have M:=ae L;have HL:Hid (T.length=34):=by rw[L];rfl
 have sX:=ae d;have X:G.cell? ⟨w.heap.size+1,0,none⟩=some (.int .i64 x.pc):=by rw[af.cell m.Y 0,L];rfl
 have u:G.cell? ⟨w.heap.size+1,1,none⟩=some (.int .i64 x.seq):=by rw[af.cell m.Y 1,L];rfl
 have S:=fun i=>af.cell C i;unfold mW at S ⊢;clear d L hq;go_enter func120,ntmps120;go_upto_region 1 with fail
 rw[<-sX.Y];clear sX;obtain⟨b,-,t⟩:=af.aM F;have y:=m.lt;have B:=C.lt;have aq:x.pc≠0\/(x.pc=0/\Mo.bk q=false)\/(x.pc=0/\Mo.bk q=true/\c.bG<=x.seq)\/(x.pc=0/\Mo.bk q=true/\x.seq<c.bG):=by rcases Mo.bk q with _|_<;>simp<;>omega
 rcases aq with p|⟨p,D⟩|⟨p,D,hs⟩|⟨p,D,hs⟩
 case' inl =>
  have K:=ae (W.trans (au p));go_upto_region 2 with fail
  obtain⟨f,rfl⟩:=aG G;have O:=g;have l:=m;have J:=E;clear b t y B X u S g m E F C H
 case' inr.inl =>
  have K:=ae (W.trans ((ah (fun h=>h p)).trans (au D)));have R:(x.pc==0)=true:=by rw[p];rfl
  go_wp2_with fail;go_fit (H _ g);rintro e f ⟨rfl,a⟩;rw[D];obtain⟨O,l,J,V,Z⟩:=dh (ai g a) (m.ai a) (E.ai a) (F.ai a) (C.ai a);clear b t y B X u S a g m E F C H;obtain⟨b,-,t⟩:=af.aM V;have y:=l.lt;have u:f.cell? ⟨w.heap.size+1,1,none⟩=some (.int .i64 x.seq):=by rw[af.cell l.Y 1,M.Y];rfl
  go_upto_region 4 with fail
  clear b t y u
 case' inr.inr.inl =>
  have K:=ae (W.trans ((ah (fun h=>h p)).trans ((ah (by rw[D];decide)).trans (au hs))));have R:(x.pc==0)=true:=by rw[p];rfl
  go_wp2_with fail;go_fit (H _ g);rintro e f ⟨rfl,a⟩;rw[D];obtain⟨O,l,J,V,Z⟩:=dh (ai g a) (m.ai a) (E.ai a) (F.ai a) (C.ai a);clear b t y B X u S a g m E F C H;obtain⟨b,-,t⟩:=af.aM V;have y:=l.lt;have u:f.cell? ⟨w.heap.size+1,1,none⟩=some (.int .i64 x.seq):=by rw[af.cell l.Y 1,M.Y];rfl
  go_upto_region 6 with fail
  clear b t y u
 case inr.inr.inr =>
  have K:=ae (W.trans ((ah (fun h=>h p)).trans ((ah (by rw[D];decide)).trans (ah aa))));have R:(x.pc==0)=true:=by rw[p];rfl
  go_wp2_with fail;go_fit (H _ g);rintro e f ⟨rfl,a⟩;rw[D];obtain⟨O,l,J,V,Z⟩:=dh (ai g a) (m.ai a) (E.ai a) (F.ai a) (C.ai a);clear b t y B X u S a g m E F C H;obtain⟨b,-,t⟩:=af.aM V;have y:=l.lt;have u:f.cell? ⟨w.heap.size+1,1,none⟩=some (.int .i64 x.seq):=by rw[af.cell l.Y 1,M.Y];rfl
  go_upto_region 7 with fail
  clear b t y;obtain⟨U,I⟩:=aG (iK {eY 1 (x.seq+1) q x.aA dD false with round:=1} (Tc z s));have o:Hid (U.length=34):=by unfold Hid;rw[I];rfl
  have N:=ae I;have a6:f.rangeAt (w.heap.size+1) 22 [.int .i64 x.aA.own.ix,.int .i64 x.aA.own.tag,.slice s.fr.A x.aA.free.length s.fr.c,.slice s.ol.A x.aA.old.length s.ol.c,.int .i64 x.aA.spent]:=fun j v r=>by
   rw[af.cell l.Y,M.Y,List.getElem?_toArray]
   rcases j with _|_|_|_|_|j
   all_goals first
    |exact r
    |cases r
  refine wp_region_lit ?_;refine fw rfl (.pointer (some ⟨w.heap.size+1,1,none⟩)) rfl ?_;refine fw rfl (.int .i64 x.seq) (by simp[execOp,go_sem,u]) ?_;refine fw rfl (.int .i64 (x.seq+1)) (by simp[execOp,go_sem,e1]) ?_;refine wpList_load_mid rfl 42 _ rfl (w.heap.size+1+1) 0 rfl (mW q z) _ (Z.range _ (fun j v r=>by rw[List.getElem?_toArray];exact r)) underlying42 rfl (by kernel_rfl) ?_;refine fw rfl (.pointer (some ⟨w.heap.size+1,22,none⟩)) rfl ?_;refine wpList_load_mid rfl 39 _ rfl (w.heap.size+1) 22 rfl [.int .i64 x.aA.own.ix,.int .i64 x.aA.own.tag,.slice s.fr.A x.aA.free.length s.fr.c,.slice s.ol.A x.aA.old.length s.ol.c,.int .i64 x.aA.spent] _ a6 underlying39 rfl (by kernel_rfl) ?_;refine fw rfl (.agg U.toArray) (by rw[I];kernel_rfl) ?_;refine wpList_store_mid rfl 50 _ _ rfl (w.heap.size+1+1+1) 0 U.toArray rfl rfl (af.there J 0 _ (by rw[jG,o.Y];decide)) (by rw[jG,o.Y];rfl) (by rw[N.Y];exact eK _ _) ?_;rw[jm];have hQ:=aQ (vs:=U) (cs:=zT) J (by rw[o.Y];rfl);have hB:Below w w (aw f (w.heap.size+1+1+1) 0 U):=ax aa _ _ _ O;change wpList _ _ _ _ _ (aw f (w.heap.size+1+1+1) 0 U);generalize aw f (w.heap.size+1+1+1) 0 U=wz at *;go_wp2_with fail;have jU:=run_loadVar_mid (P:=prog) wz (w.heap.size+1+1+1) 0 50 U _ (af.range hQ U (fun j v r=>by rw[List.getElem?_toArray];exact r)) underlying50 rfl (by rw[o.Y];rfl);refine bodyPost_ret (zk (v2:=.int .i64 (dE c x q).2) results120 rfl (by rw[K.Y];rfl) jU) rfl ⟨?_,hB⟩;rw[N.Y,HS.Y,K.Y];rfl
 all_goals
  obtain⟨U,I⟩:=aG T;have o:Hid (U.length=34):=by unfold Hid;rw[I];exact HL.Y
  have N:Hid (U=iK x s):=by unfold Hid;rw[I];exact M.Y
  refine wp_region_lit ?_;refine wpList_load_mid rfl 50 _ rfl (w.heap.size+1) 0 rfl U _ (l.range U (fun j v r=>by rw[List.getElem?_toArray, <-I];exact r)) underlying50 rfl (by rw[o.Y];rfl) ?_;refine wpList_store_mid rfl 50 _ _ rfl (w.heap.size+1+1+1) 0 U.toArray rfl rfl (af.there J 0 _ (by rw[jG,o.Y];decide)) (by rw[jG,o.Y];rfl) (by rw[N.Y];exact eK _ _) ?_;rw[jm];have hQ:=aQ (vs:=U) (cs:=zT) J (by rw[o.Y];rfl);have hB:Below w w (aw f (w.heap.size+1+1+1) 0 U):=ax aa _ _ _ O;change wpList _ _ _ _ _ (aw f (w.heap.size+1+1+1) 0 U);generalize aw f (w.heap.size+1+1+1) 0 U=wz at *;go_wp2_with fail;have jU:=run_loadVar_mid (P:=prog) wz (w.heap.size+1+1+1) 0 50 U _ (af.range hQ U (fun j v r=>by rw[List.getElem?_toArray];exact r)) underlying50 rfl (by rw[o.Y];rfl);refine bodyPost_ret (zk (v2:=.int .i64 (dE c x q).2) results120 rfl (by rw[K.Y];rfl) jU) rfl ⟨?_,hB⟩;rw[N.Y,HS.Y,K.Y];rfl
end
theorem kQ:∀(b L:List Int) (a:Int),(lj L a b).length=L.length
 |[],_,_=>rfl
 |y::b,L,a=>by
  unfold lj
  rw[kQ b]
  unfold Mo.setAt
  split
  ·rfl
  ·rw[cq]
theorem eu.zero{base:Nat}{vl vg vc:Value}{G:List Acc}{C:List Int}{kp:Bool}(h:eu w base g vl vg vc L G C kp):eu w 0 g vl vg vc L G C kp:=⟨h.blk,h.words.bD (aV _),aH.bD h.log (aV _),h.counts.bD (aV _),aV _⟩
section
variable{w:World} {c:Mo.bA} {A:Option Addr} {n k:Nat}
theorem M9(m:aU c=true)(ht:bB c<=1048576)(O:n=c.start.length)(F:bJ w .i64 A c.start):Calls prog 70 #[zF c A n k] w fun e w'=>∃g H Y X,e=.returned (.tuple #[.pointer (some ⟨g,0,none⟩),oZ])/\eu w' w g H Y X (ir c) [] [] false/\Below w w w':=by
 have hp:=Mo.aK m;obtain⟨HK,HT,V,v,HW⟩:=dh (fun a (p:Below w w a)=>yJ a m ht O (F.below p) (k:=k)) (fun a (p:Below w w a)=>ve a m O (F.below p) (k:=k)) (fun a (p:Below w w a)=>qB a m O (F.below p) (k:=k) 0 (cI _) ag) (fun a (p:Below w w a)=>Io a m O (F.below p) (k:=k)) (fun a=>gI a 0 1);have ha:=mS m (i:=0) (cI _) (by unfold cN;rw[ah (by rw[m];decide)];have:=ly (show 0<=c.threads by omega) (show 0<=c.nodes by omega);omega);have bR:=Gf m;have b5:=size_pos m;obtain⟨b,y⟩:∃b:Nat,bu c 0=b:=⟨(bu c 0).toNat,aa⟩
 obtain⟨T,hT⟩:∃T:Nat,bB c=T:=⟨(bB c).toNat,aa⟩
 have E:=ha.2 (bn c-1) aa aa;obtain⟨ST,o⟩:=aG (lI c);obtain⟨W,hW⟩:=aG (bF ⟨0,1⟩);have HE:Hid (ir c=lj (lj (lj (List.replicate T 0) (0:Nat) [W]) b [1]) (b+1:Nat) ST):=by unfold Hid ir;rw[hT,y, <-o, <-hW,gu];rfl
 have l:Hid (0<ST.length/\b+1+ST.length<=T/\1<=T/\T<=1048576):=by unfold Hid;rw[o];omega
 rw[y]at V;rw[hT]at HT;rw[<-o]at v;rw[<-hW]at HW;have HN:=ae (fun a=>TM a (T:Int) (by have:=l.Y;omega) (by have:=l.Y;omega));rw[gu]at HN;have e1:IntKind.i64.wrap ((b:Int)+1)=((b+1:Nat):Int):=by rw[cD _ (by have:=l.Y;omega)];rfl
 have RY:=ae (fun a B g H Y X L G C kp=>Ei a B g H Y X L G C kp);unfold zF at HK ⊢;clear hp ha bR b5 E y hT o hW ht O F m;obtain⟨w2,r⟩:=aG (w.alloc (dV c A n k));have bE:Hid (Below w w w2):=by rw[r];exact ak (aj w) _
 have jI:Hid (af w2 w 24 #[c.kind,c.threads,c.chans,c.cap,c.nodes,c.aL,c.aF,c.tags,c.bG,c.bt,.slice A n k]):=by rw[r];exact af.new _ _ _
 have sX:=ae r;clear r;go_enter func70,ntmps70;go_upto_region 1 with fail
 rw[<-sX.Y];clear sX;obtain⟨f,-,jM⟩:=af.aM jI;go_wp2_with fail;go_fit (HK _ bE);rintro e w3 ⟨rfl,z⟩;obtain⟨cM,sY⟩:=av (ai bE z) (jI.ai z);clear z f jM jI bE HK;obtain⟨f,-,jM⟩:=af.aM sY;go_wp2_with fail;go_fit (HT _ cM);rintro e j ⟨rfl,D⟩;obtain⟨s,aq⟩:=av (ai cM D) (sY.ai D);clear D f jM sY cM HT;go_wp2_with fail;go_fit (HN _);rintro e w5 ⟨⟨g,rfl,H,Y,X,(pG:Hid _)⟩,ei⟩;have xy:Hid (Ext j w5):=ei;clear ei HN;have f:=fun a (E:Ext j a) i=>af.cell (aq.ai E.Y) i;have ux:=pG.blk.lt;go_wp2_with fail;go_fit (HW _);rintro e w6 ⟨rfl,iF⟩;obtain⟨E4,N⟩:=av (pG.ai iF) (Ext.to xy iF);clear iF pG xy ux;have RZ:=E4.blk.lt;go_wp2_with fail;go_fit (RY _ _ _ _ _ _ _ _ _ _ 0 [W] _ 1 1 rfl (E4.alloc _) (by have:=l.Y;simp only[kQ,gp];omega) (by have:=l.Y;simp only[kQ,gp,gL];omega) aD (bJ.one _ .u64 W _));rintro e w7 ⟨rfl,R,P,q,_,_,_,vu⟩;have CM:=ae q;have U:Hid (Ext j w7):=Below.trans (Ext.alloc N _) vu;clear q vu E4 N RZ;have a7:=fun i=>f w7 U i;have a8:=CM.blk.lt;go_wp2_with fail;go_fit (V _ (ai s U));rintro e w8 ⟨rfl,Dc⟩;obtain⟨t,Hi⟩:=av (CM.ai Dc) (Ext.to U Dc);clear Dc CM U a8 a7;have bg:=t.blk.lt;go_wp2_with fail;go_fit (RY _ _ _ _ _ _ _ _ _ _ b [1] _ 1 1 rfl (t.alloc _) (by have:=l.Y;simp only[kQ,gp];omega) (by have:=l.Y;simp only[kQ,gp,gL];omega) aD (bJ.one _ .u64 1 _));rintro e Z ⟨rfl,S,Q,(u:Hid _),_,_,_,Ad⟩;have a6:Hid (Ext j Z):=Below.trans (Ext.alloc Hi _) Ad;clear Ad t Hi bg;have bo:=u.blk.lt;go_wp2_with fail;obtain⟨L9,x⟩:=aG (lj (lj (List.replicate T 0) (0:Nat) [W]) b [1]);rw[<-x]at u HE;have J:Hid (L9.length=T):=by unfold Hid;rw[x,kQ,kQ,gp]
 have b6:=u.ai (aj Z).drew;have Yb:Ext j Z.drew:=Ext.to a6 (aj Z).drew;obtain⟨K,rX,Mt,M⟩:=bN (fun a wy (h:eu a j g H S Q L9 [] [] false) (p:Below a a wy)=>h.ai p) (fun a (E:Ext j a)=>V a (ai s E.Y)) (fun a (E:Ext j a)=>v a (ai s E.Y)) (fun a B d (h:eu a j g H S Q L9 [] [] false) (F:bJ a .u64 B ST)=>Ei a _ _ _ _ _ _ _ _ _ (b+1) ST B _ d rfl h (by have:=l.Y;rw[J.Y];omega) (by have:=l.Y;rw[J.Y];omega) (List.length_pos_iff.1 l.1) F);rw[show((b+1:Nat):Int)=(b:Int)+1 from rfl]at M HE;clear x bo RY HW V v;go_region_held3(Ext j) (with_reducible(repeat(first|assumption|refine Ext.alloc ?_ _))) (first
  |((with_reducible go_fit (rX.Y _ bc));rintro e wA ⟨rfl,bY⟩;have mX:=Ext.to bc bY;have Y1:=K.Y _ _ bc bY)
  |((with_reducible go_fit (Mt.Y _ bc));rintro e wB ⟨B3,d3,rfl,bz,eF⟩;have nD:=Ext.to bc eF;have IJ:=K.Y _ _ bc eF;have b7:=(aJ.pP bz).2)
  |((with_reducible go_fit (M.Y _ _ _ bc bc));rintro e wC ⟨rfl,R,P,q,b8,cd,cn,CL⟩;have jK:=Below.trans (Ext.Y bc) CL;have Kc:Ext j wC:=jK))
 go_wp2;go_ret2;have I:=q;rw[<-HE.Y]at I;exact⟨g,H,R,P,rfl,⟨I.blk,I.words.bD s.size,aH.bD I.log s.size,I.counts.bD s.size,bq s.size I.low⟩,ai s Kc.Y⟩
end
section
variable(w:World)
theorem Na(A:Option Addr)(m:Nat)(c:List Int)(n:Nat)(f:n=c.length)(l:bJ w .i64 A c)(o:n<=100000)(v:Int) :
 Calls prog 186 #[.slice A n m,v] w fun e w'=>e=.returned (jC (fun x=>v==x) c)/\w=w':=by
 obtain⟨HN,HR⟩:=av f l
 clear f l
 go_enter func186,ntmps186
 go_wp2
 go_loop[5,8] (fun _ i=>∃k:Nat,k<=n/\i=k/\Hid (∀(j:Nat) (y),j<k->c[j]?=some y->(fun x=>v==x) y=false)) (fun _ i=>n-(intOf i).toNat)
 case atStart=>exact⟨0,aV _,rfl,fun j _ h=>absurd h (Nat.not_lt_zero _)⟩
 case round=>exact abL
theorem CN(A:Option Addr)(m:Nat)(c:List Int)(n:Nat)(f:n=c.length)(h:bJ w .i64 A c)(k:n<=100000)(v:Int) :
 Calls prog 122 #[.slice A n m,v] w fun e w'=>e=.returned (c.contains v)/\w=w':=by
 obtain⟨HI,HA⟩:=av (Na w A m c n f h k v) (lW (fun x=>v==x) c)
 generalize jC (fun x=>v==x) c=r at HI HA
 clear f h
 go_enter func122,ntmps122
 exact Xk
def adh(w c:World)(p:Pm)(s:Sl):Prop:=dx c (fun b=>w.heap.size<=b/\b<c.heap.size) .i64 s.A p.outs/\p.outs.length<=s.c
def PsE(o:Option Pm)(e:Ending)(c:World):Prop:=∃s,e=.returned (.tuple #[.agg (ma (o.getD kA) s).toArray,o.isSome])/\adh w c (o.getD kA) s/\Below w w c
theorem PsE.no(c:Below w w w'):PsE w none (.returned (.tuple #[.agg #[false,false,false,oZ,oN,oZ,oZ],false])) w':=⟨⟨none,0⟩,rfl,⟨dx.nil _ _ _ _,aV _⟩,c⟩
theorem E5(c:Int)(A:Option Addr)(n d:Nat)(outs:List Int)(u:n=outs.length)(hl:n<=9223372036854775807)(hd:n<=d)(U:bJ w .i64 A outs):Calls prog 79 #[c,.slice A n d] w (PsE w (kT c outs)):=by
 obtain⟨HH,F,r⟩:=aZ (fun p h=>IB p h) U u;obtain⟨o,D⟩:=aG (kT c outs);rw[<-D];have P:=ae D;have HX:Hid (o=none->∀l,Below w w l->PsE w o (.returned (.tuple #[.agg #[false,false,false,oZ,oN,oZ,oZ],false])) l):=fun h l f=>h▸PsE.no w f;have Y:Hid (¬(SE c=true/\n≠0/\n<=8)->o=none):=fun h=>by rw[D,kT,ah (fun k=>h ⟨k.1,by rw[u];exact k.2.1,by rw[u];exact k.2.2.1⟩)]
 clear U u D;rcases hi:SE c with _|_
 ·go_enter func79,ntmps79;go_wp2_with fail;go_fit (HH _ _);rintro e l ⟨rfl,rfl⟩;rw[hi];go_wp2;refine bodyPost_ret (v:=.tuple #[.agg #[false,false,false,oZ,oN,oZ,oZ],false]) (by simp[results,results79,go_sem]) rfl (HX (Y (fun h=>by rw[hi]at h;exact absurd h.1 ag)) _ (ak (aj _) _))
 ·by_cases x:n=0\/8<n
  ·have Dg:=ae (Y (fun h=>by omega));rcases x with x|x
   ·subst x;exact adi
   ·exact adi
  ·have Ns:0<n/\n<=8:=aa;have J:((n:Int)==0)=false:=by rw[di];omega
   have K:decide (8<(n:Int))=false:=bU aa;have O:=ae hi;clear hi x;go_enter func79,ntmps79;go_wp2_with fail;go_fit (HH _ _);rintro e l ⟨rfl,rfl⟩;rw[O.Y];go_wp2_with fail;clear J K;go_loop[6,7,24] (fun _ _ i=>∃k:Nat,k<=n/\i=k/\Hid ((∀h∈outs.take k,(SE h && h !=c)=true)/\(outs.take k).Nodup)) (fun _ _ i=>n-(intOf i).toNat);case atStart=>exact⟨0,aV _,rfl,aD,aD⟩
   case round =>
    obtain⟨k,hk,rfl,G⟩:=hrel;by_cases M:k<n
    ·obtain⟨ad,z,hA,(H:Hid _),L⟩:=bJ.at_ F (i:=k) (by rw[<-r.Y];exact M);subst hA;have y:=fun p (f:Below w w p)=>(Below.cell f (bb L)).trans L;have t:=ae (fun p (f:Below w w p)=>CN p (some ad) d (outs.take k) k (by rw[fF, <-r.Y];omega) (bJ.take (F.below f) k) aa z);have R:=t.Y _ (ak (aj w) (.cells #[false,false,false,oZ,oN,oZ,oZ] 86));have S:=y _ (ak (aj w) (.cells #[false,false,false,oZ,oN,oZ,oZ] 86));have E:=ae R;clear L y t R;have s:Hid ((SE z=false\/(z==c)=true\/(outs.take k).contains z=true)->o=none):=by
      intro h;rw[P.Y,kT,ah];rintro⟨_,_,_,h1,q⟩;rw[List.all_eq_true]at h1;have j:=h1 z (dB H);rw[cA]at j;rcases h with h|h|h
      ·rw[h]at j;exact absurd j.1 ag
      ·rw[bne,h]at j;exact absurd j.2 ag
      ·rw[<-List.take_append_drop (k+1) outs,List.nodup_append]at q;rw[List.take_add_one,H.Y]at q;have T:=q.1;rw[List.nodup_append]at T;exact T.2.2 z (by simpa using h) z aD rfl
     have I:Hid ((SE z=true/\(z==c)=false/\(outs.take k).contains z=false)->(∀h∈outs.take (k+1),(SE h && h !=c)=true)/\(outs.take (k+1)).Nodup):=by
      rintro⟨h1,q,j⟩;rw[List.take_add_one,H.Y];refine⟨fun h C=>?_,?_⟩
      ·rcases List.mem_append.1 C with C|C
       ·exact G.1 h C
       ·have:h=z:=by simpa using C
        subst this;rw[h1,bne,q];rfl
      ·rw[List.nodup_append];refine⟨G.2,aD,fun a ha b f=>?_⟩;have:b=z:=by simpa using f
       subst this;rintro rfl;rw[List.contains_iff_mem.2 ha]at j;cases j
     rcases h1:SE z with _|_
     ·go_wp2_with fail;go_fit (HH _ _);rintro e l ⟨rfl,rfl⟩;rw[h1];go_wp2;refine bodyPost_ret (v:=.tuple #[.agg #[false,false,false,oZ,oN,oZ,oZ],false]) (by simp[results,results79,go_sem]) rfl (HX (s (.inl h1)) _ (ak (aj _) _))
     ·rcases q:(z==c)with _|_
      ·go_wp2_with fail;go_fit (HH _ _);rintro e l ⟨rfl,rfl⟩;rw[h1];go_wp2_with fail;refine E.mono ?_;rintro e l ⟨rfl,rfl⟩;rcases j:(outs.take k).contains z with _|_
       ·go_wp2;go_round;case rel=>exact⟨k+1,aa,by go_num,I ⟨h1,q,j⟩⟩
        case measure=>simp[intOf];omega
       ·go_wp2;refine bodyPost_ret (v:=.tuple #[.agg #[false,false,false,oZ,oN,oZ,oZ],false]) (by simp[results,results79,go_sem]) rfl (HX (s (.inr (.inr j))) _ (ak (aj _) _))
      ·go_wp2_with fail;go_fit (HH _ _);rintro e l ⟨rfl,rfl⟩;rw[h1];go_wp2;refine bodyPost_ret (v:=.tuple #[.agg #[false,false,false,oZ,oN,oZ,oZ],false]) (by simp[results,results79,go_sem]) rfl (HX (s (.inr (.inl q))) _ (ak (aj _) _))
    ·have rE:k=n:=aa;subst rE;have NG:Hid (o=some ⟨true,false,false,c,outs,0,0⟩):=by
      have h:=G.Y;rw[List.take_of_length_le (by rw[<-r.Y];exact aS _)]at h;unfold Hid;rw[P.Y,kT,au ⟨O.Y,by rw[<-r.Y];omega,by rw[<-r.Y];omega,List.all_eq_true.2 h.1,h.2⟩]
     have V:=ae (fun p (f:Below w w p)=>iE p A d outs r aa (F.below f));have Q:Hid (af (w.alloc (.cells (#[false,false,false,oZ,oN,oZ,oZ]:VA) 86)) w 86 ([false,false,false,oZ,oN,oZ,oZ]:VL).toArray):=af.new _ _ _;go_wp2_with fail;go_fit (V _ (ak (aj w) _));rintro e N ⟨B,m,rfl,hm,(X:Hid _),f⟩;obtain⟨W,cM⟩:=av (Q.ai f) (ai (ak (aj w) _) f);have Z:Hid (w.heap.size<(w.alloc (.cells #[false,false,false,oZ,oN,oZ,oZ] 86)).heap.size):=Q.lt;clear f V;obtain⟨dR,dK,dN⟩:=af.aM W;go_wp2_with fail;have hl:=Z.Y;have hQ:=aQ (vs:=[true,false,false,c,.slice B k m,oZ,oZ]) W rfl;have h1:=cm (fun g' hg=>by have:=(aX X hg).1;omega) [true,false,false,c,.slice B k m,oZ,oZ] _ 0 _ X (g:=w.heap.size);have hB:Below w w (aw N w 0 [true,false,false,c,.slice B k m,oZ,oZ]):=ax (aS _) _ _ _ cM;change bodyPost _ _ _ _ _ (aw N w 0 [true,false,false,c,.slice B k m,oZ,oZ]);clear dR dK dN;generalize aw N w 0 [true,false,false,c,.slice B k m,oZ,oZ]=wz at *;have S:=fun i=>af.cell hQ i;refine bodyPost_ret (v:=.tuple #[.agg #[true,false,false,c,.slice B k m,oZ,oZ],true]) (by simp[results,results79,go_sem,S]) rfl ?_;have u:=r.Y;rw[NG.Y];refine⟨⟨B,m⟩,by unfold ma;dsimp only[Option.getD_some,Option.isSome_some];rw[<-u],⟨⟨(aJ.pP h1).2,fun ad ha _=>?_⟩,by show outs.length<=m;omega⟩,hB⟩;exact Ys
end
section
variable{w:World} {g n d:Nat} {E:List Bool}
theorem Wc(r:n=E.length)(u:n<=1000000)(q:∀(i:Nat) (b:Bool),E[i]?=some b->w.cell? ⟨g,i,none⟩=some (.bool b)):Calls prog 18 #[.slice (some ⟨g,0,none⟩) n d] w fun e w'=>e=.returned (.bool (E.all id))/\w=w':=by
 obtain⟨m,p⟩:=av r q;clear r q;go_enter func18,ntmps18;go_wp2;go_loop[4,7] (fun _ i=>∃k:Nat,k<=n/\i=k/\Hid (∀(j:Nat) (b),j<k->E[j]?=some b->b=true)) (fun _ i=>n-(intOf i).toNat);case atStart=>exact⟨0,aV _,rfl,fun j _ h=>absurd h (Nat.not_lt_zero _)⟩
 case round =>
  obtain⟨k,t,rfl,o⟩:=hrel;by_cases f:k<n
  ·obtain⟨b,a⟩:∃b,E[k]?=some b:=⟨_,cY (by rw[<-m.Y];exact f)⟩
   have s:=p.Y k b a;have l:=ae a;clear a;cases b with
   |true =>
    go_wp2;go_round;case rel=>exact⟨k+1,by omega,by go_num,fun j b c a=>(Nat.lt_succ_iff_lt_or_eq.1 c).elim (fun h=>o.Y j b h a) fun h=>by subst h;have:=l.Y;rw[this]at a;injection a with a;exact a.symm⟩
    case measure=>simp[intOf];omega
   |false=>go_wp2;go_ret;refine⟨congrArg (fun b=>Ending.returned (.bool b)) ?_,rfl⟩;exact(List.all_eq_false.2 ⟨false,dB l.Y,by simp⟩).symm
  ·go_wp2;go_ret;refine⟨congrArg (fun b=>Ending.returned (.bool b)) ?_,rfl⟩;refine(List.all_eq_true.2 fun b a=>?_).symm;obtain⟨j,c⟩:=List.getElem?_of_mem a;exact o.Y j b (by have:=(List.getElem?_eq_some_iff.1 c).1;have:=m.Y;omega) c
end
structure GQ (w:World) (bs g4 g5:Nat) (v:Value) (outs:List Int) (arr:Array Value) (wx:World):Prop where
 jH:Below w w wx
 q:af wx g4 86 #[false,false,false,oZ,oN,oZ,oZ]
 o:af wx g5 86 arr
 i:aJ wx bs 3 .i64 v outs
 l:w.heap.size<=g4/\g4<g5/\g5<bs
section
variable{w wx wy:World} {bs g4 g5:Nat} {v:Value} {outs:List Int} {arr:Array Value}
theorem GQ.ext(h:GQ w bs g4 g5 v outs arr wx)(f:Below wx wx wy):GQ w bs g4 g5 v outs arr wy:=⟨ai h.jH f,h.q.ai f,h.o.ai f,h.i.ai f,h.l⟩
theorem GQ.alloc(h:GQ w bs g4 g5 v outs arr wx)(o:Obj):GQ w bs g4 g5 v outs arr (wx.alloc o):=h.ext (ak (aj _) o)
theorem GQ.set(h:GQ w bs g4 g5 v outs arr wx)(i:Nat)(u:Value):GQ w bs g4 g5 v outs (arr.setIfInBounds i u) (wx.setCell ⟨g5,i,none⟩ u) :=
 have b:=h.l
 ⟨h.jH.setCell (p:=⟨g5,i,none⟩) (by show _<=g5;omega) u,ba h.q aa [u] i,h.o.bj i u,cm (fun c a=>by have:=(aX h.i a).1;omega) [u] _ i _ h.i,b⟩
end
section
variable(w:World)
theorem Bw(p:Pm)(s:Sl)(r:Rs)(hr:bJ w .i64 s.A p.outs)(hl:p.outs.length<=8)(hc:p.outs.length<=s.c):Calls prog 76 #[.agg (ma p s).toArray,.agg #[r.seq,r.cs,r.code,r.value]] w fun e w'=>∃z,e=.returned (.agg (ma (gG p r) z).toArray)/\adh w w' (gG p r) z/\Below w w w':=by
 have rX:=ae (fun wx (Q:Below w w wx)=>sD wx p s (hr.below Q) hl hc);unfold PmE ma mW at rX;have iH:=ae (fun wx (Q:Below w w wx)=>iE wx s.A s.c p.outs rfl aa (hr.below Q));obtain⟨q,hq⟩:=aG ((fe p).getD nN);obtain⟨b,Q⟩:=aG ((fe p).isSome);rw[<-hq, <-Q]at rX;have P:Hid ((fe p).isNone= !b):=by unfold Hid;rw[Q];cases fe p<;>rfl
 have x:b=true->0<=p.at_/\p.at_<=8:=by
  rw[Q];unfold fe;split
  ·intro h;cases h
  ·rename_i h;intro _;simp only[not_or]at h;omega
 have J:Hid (gG p r=if(fe p).isNone=true then p else if r.code=6\/r.code=11 then p else if r.code=7 then{p with over:=true}else if p.shut=true then{p with at_:=p.at_+1,over:=decide (p.at_+1=p.outs.length)}else if 0<p.at_ then{p with at_:=(p.at_+1)%(p.outs.length+1)}else if r.code=0 then{p with value:=r.value,at_:=1}else{p with shut:=true}):=rfl;clear hq Q hr;obtain⟨t,y,u,o,outs,a,v⟩:=p;obtain⟨A,d⟩:=s;unfold ma;dsimp only at *;obtain⟨n,hn⟩:=aG outs.length;rw[<-hn]at rX iH J hl hc ⊢;have K:=ae hn;clear hn;obtain⟨E,D⟩:=aG ((((w.alloc (.cells #[t,y,u,o,.slice A n d,a,v] 86)).alloc (qX r.seq r.cs r.code r.value)).alloc (.cells #[false,false,false,oZ,oN,oZ,oZ] 86)).alloc (.cells #[t,y,u,o,.slice A n d,a,v] 86));have bE:Hid (Below w w E):=by rw[D];exact ak (ak (ak (ak (aj w) _) _) _) _
 have CG:Hid (af E w 86 #[t,y,u,o,.slice A n d,a,v]):=by rw[D];exact(((af.new _ _ _).alloc _).alloc _).alloc _
 have jh:Hid (af E (w.heap.size+1) 48 #[r.seq,r.cs,r.code,r.value]):=by rw[D];exact((af.newAt _ _ _ aD).alloc _).alloc _
 have iC:Hid (af E (w.heap.size+1+1) 86 #[false,false,false,oZ,oN,oZ,oZ]):=by rw[D];exact(af.newAt _ _ _ aD).alloc _
 have ft:Hid (af E (w.heap.size+1+1+1) 86 #[t,y,u,o,.slice A n d,a,v]):=by rw[D];exact af.newAt _ _ _ aD
 have sX:=ae D;clear D;go_enter func76,ntmps76;go_upto_region 2 with fail
 rw[<-sX.Y];clear sX;obtain⟨Y,-,Z⟩:=af.aM CG;have N:=ft.lt;go_wp2_with fail;go_fit (iH _ bE);rintro e w3 ⟨B,m,rfl,(HM:Hid _),ho,F⟩;have HL:Hid (w.heap.size+1+1+1<E.heap.size):=ft.lt;have SN:GQ w E (w.heap.size+1+1) (w.heap.size+1+1+1) (.slice B n m) outs _ w3:=⟨ai bE F,iC.ai F,ft.ai F,ho,aa,aa,ft.lt⟩
 have G4:=ae (SN.set 4 (.slice B n m));have Qa:Hid (af (w3.setCell ⟨w.heap.size+1+1+1,4,none⟩ (.slice B n m)) w 86 _):=ba (CG.ai F) aa [.slice B n m] 4;have lC:Hid (af (w3.setCell ⟨w.heap.size+1+1+1,4,none⟩ (.slice B n m)) (w.heap.size+1) 48 _):=ba (jh.ai F) aa [.slice B n m] 4;have Yo:=fun i=>af.free SN.o i;obtain⟨T,-,N⟩:=af.aM SN.o;clear F ho Y Z CG jh iC ft bE iH SN;go_upto_region 3 with fail
 clear Yo T N;generalize w3.setCell ⟨w.heap.size+1+1+1,4,none⟩ (.slice B n m)=w4 at *;obtain⟨Y,-,Z⟩:=af.aM Qa;go_wp2_with fail;go_fit (rX _ G4.jH);rintro e C ⟨⟨k,l⟩,rfl,_,ei⟩;obtain⟨H,NN,jV⟩:=aZ (G4.ext ei) (Qa.ai ei) (lC.ai ei);clear Y Z ei G4 Qa lC rX;obtain⟨Y,-,Z⟩:=af.aM NN;obtain⟨kM,-,a6⟩:=af.aM jV;obtain⟨T,Yo,N⟩:=af.aM H.o;simp only[List.setIfInBounds_toArray,List.set_cons_zero,List.set_cons_succ]at T;have aq:b=false\/(b=true/\r.code=6)\/(b=true/\r.code=11)\/(b=true/\r.code=7)\/(b=true/\(r.code≠6/\r.code≠11/\r.code≠7)/\y=true)\/(b=true/\(r.code≠6/\r.code≠11/\r.code≠7)/\y=false/\0<a)\/(b=true/\(r.code≠6/\r.code≠11/\r.code≠7)/\y=false/\a<=0/\r.code=0)\/(b=true/\(r.code≠6/\r.code≠11/\r.code≠7)/\y=false/\a<=0/\r.code≠0):=by cases b<;>cases y<;>simp<;>omega
 rcases aq with rfl|⟨rfl,f⟩|⟨rfl,f⟩|⟨rfl,f⟩|⟨rfl,f,rfl⟩|⟨rfl,f,rfl,h0⟩|⟨rfl,f,rfl,h0,U⟩|⟨rfl,f,rfl,h0,U⟩
 case' inl =>
  go_upto_region 5 with fail
  obtain⟨c,j⟩:∃c:Pm,c=⟨t,y,u,o,outs,a,v⟩:=⟨_,rfl⟩
  have R:Hid (gG ⟨t,y,u,o,outs,a,v⟩ r=c):=by unfold Hid;rw[J.Y,P.Y];rw[au ag];exact j.symm
  have L:Hid (c.outs=outs):=by unfold Hid;rw[j]
  have M:GQ w E (w.heap.size+1+1) (w.heap.size+1+1+1) (.slice B n m) outs (ma c ⟨B,m⟩).toArray (C.alloc (jx q k q.cases.length l)):=by have h:=H.alloc (jx q k q.cases.length l);rw[j,ma];dsimp only;rw[<-K.Y];exact h
  generalize C.alloc (jx q k q.cases.length l)=I at *
 case' inr.inl =>
  have X:(r.code==6)=true:=by rw[f];rfl
  go_upto_region 9 with fail
  obtain⟨c,j⟩:∃c:Pm,c=⟨t,y,u,o,outs,a,v⟩:=⟨_,rfl⟩
  have R:Hid (gG ⟨t,y,u,o,outs,a,v⟩ r=c):=by unfold Hid;rw[J.Y,P.Y];rw[ah ag,au (.inl f)];exact j.symm
  have L:Hid (c.outs=outs):=by unfold Hid;rw[j]
  have M:GQ w E (w.heap.size+1+1) (w.heap.size+1+1+1) (.slice B n m) outs (ma c ⟨B,m⟩).toArray (C.alloc (jx q k q.cases.length l)):=by have h:=H.alloc (jx q k q.cases.length l);rw[j,ma];dsimp only;rw[<-K.Y];exact h
  generalize C.alloc (jx q k q.cases.length l)=I at *
 case' inr.inr.inl =>
  have X:(r.code==6)=false:=by rw[f];rfl
  have G:(r.code==11)=true:=by rw[f];rfl
  go_upto_region 9 with fail
  obtain⟨c,j⟩:∃c:Pm,c=⟨t,y,u,o,outs,a,v⟩:=⟨_,rfl⟩
  have R:Hid (gG ⟨t,y,u,o,outs,a,v⟩ r=c):=by unfold Hid;rw[J.Y,P.Y];rw[ah ag,au (.inr f)];exact j.symm
  have L:Hid (c.outs=outs):=by unfold Hid;rw[j]
  have M:GQ w E (w.heap.size+1+1) (w.heap.size+1+1+1) (.slice B n m) outs (ma c ⟨B,m⟩).toArray (C.alloc (jx q k q.cases.length l)):=by have h:=H.alloc (jx q k q.cases.length l);rw[j,ma];dsimp only;rw[<-K.Y];exact h
  generalize C.alloc (jx q k q.cases.length l)=I at *
 case' inr.inr.inr.inl =>
  have X:(r.code==6)=false:=by rw[f];rfl
  have G:(r.code==11)=false:=by rw[f];rfl
  have O:(r.code==7)=true:=by rw[f];rfl
  go_upto_region 12 with fail
  obtain⟨c,j⟩:∃c:Pm,c=⟨t,y,true,o,outs,a,v⟩:=⟨_,rfl⟩
  have R:Hid (gG ⟨t,y,u,o,outs,a,v⟩ r=c):=by unfold Hid;rw[J.Y,P.Y];rw[ah ag,ah aa,au f];exact j.symm
  have L:Hid (c.outs=outs):=by unfold Hid;rw[j]
  have M:GQ w E (w.heap.size+1+1) (w.heap.size+1+1+1) (.slice B n m) outs (ma c ⟨B,m⟩).toArray ((C.setCell ⟨w.heap.size+1+1+1,2,none⟩ true).alloc (jx q k q.cases.length l)):=by have h:=(H.set 2 true).alloc (jx q k q.cases.length l);rw[j,ma];dsimp only;rw[<-K.Y];exact h
  generalize(C.setCell ⟨w.heap.size+1+1+1,2,none⟩ true).alloc (jx q k q.cases.length l)=I at *
 case' inr.inr.inr.inr.inl =>
  have X:(r.code==6)=false:=by rw[di];exact f.1
  have G:(r.code==11)=false:=by rw[di];exact f.2.1
  have O:(r.code==7)=false:=by rw[di];exact f.2.2
  have x:=x rfl;have V:IntKind.i64.wrap (a+1)=a+1:=cD _ aa;have W:IntKind.i64.wrap ((n:Int)+1)=(n:Int)+1:=cD _ aa;have oK:((n:Int)+1==0)=false:=by rw[di];omega
  have R1:(a+1).tmod ((n:Int)+1)=(a+1)%((n:Int)+1):=Int.tmod_eq_emod_of_nonneg aa;go_upto_region 21 with fail
  obtain⟨c,j⟩:∃c:Pm,c=⟨t,true,decide (a+1=n),o,outs,a+1,v⟩:=⟨_,rfl⟩
  have R:Hid (gG ⟨t,true,u,o,outs,a,v⟩ r=c):=by unfold Hid;rw[J.Y,P.Y];rw[ah ag,ah (fun h=>h.elim f.1 f.2.1),ah f.2.2,au (by first|rfl|trivial)];exact j.symm
  have L:Hid (c.outs=outs):=by unfold Hid;rw[j]
  have M:GQ w E (w.heap.size+1+1) (w.heap.size+1+1+1) (.slice B n m) outs (ma c ⟨B,m⟩).toArray (((C.setCell ⟨w.heap.size+1+1+1,5,none⟩ (.int .i64 (a+1))).setCell ⟨w.heap.size+1+1+1,2,none⟩ (.bool (a+1==n))).alloc (jx q k q.cases.length l)):=by have h:=((H.set 5 (.int .i64 (a+1))).set 2 (.bool (a+1==n))).alloc (jx q k q.cases.length l);rw[j,ma];dsimp only;rw[<-K.Y];exact h
  generalize((C.setCell ⟨w.heap.size+1+1+1,5,none⟩ (.int .i64 (a+1))).setCell ⟨w.heap.size+1+1+1,2,none⟩ (.bool (a+1==n))).alloc (jx q k q.cases.length l)=I at *
 case' inr.inr.inr.inr.inr.inl =>
  have X:(r.code==6)=false:=by rw[di];exact f.1
  have G:(r.code==11)=false:=by rw[di];exact f.2.1
  have O:(r.code==7)=false:=by rw[di];exact f.2.2
  have x:=x rfl;have V:IntKind.i64.wrap (a+1)=a+1:=cD _ aa;have W:IntKind.i64.wrap ((n:Int)+1)=(n:Int)+1:=cD _ aa;have oK:((n:Int)+1==0)=false:=by rw[di];omega
  have R1:(a+1).tmod ((n:Int)+1)=(a+1)%((n:Int)+1):=Int.tmod_eq_emod_of_nonneg aa;go_upto_region 21 with fail
  obtain⟨c,j⟩:∃c:Pm,c=⟨t,false,u,o,outs,(a+1)%(n+1),v⟩:=⟨_,rfl⟩
  have R:Hid (gG ⟨t,false,u,o,outs,a,v⟩ r=c):=by unfold Hid;rw[J.Y,P.Y];rw[ah ag,ah (fun h=>h.elim f.1 f.2.1),ah f.2.2,ah ag,au h0];exact j.symm
  have L:Hid (c.outs=outs):=by unfold Hid;rw[j]
  have M:GQ w E (w.heap.size+1+1) (w.heap.size+1+1+1) (.slice B n m) outs (ma c ⟨B,m⟩).toArray ((C.setCell ⟨w.heap.size+1+1+1,5,none⟩ (.int .i64 ((a+1)%(n+1)))).alloc (jx q k q.cases.length l)):=by have h:=(H.set 5 (.int .i64 ((a+1)%(n+1)))).alloc (jx q k q.cases.length l);rw[j,ma];dsimp only;rw[<-K.Y];exact h
  generalize(C.setCell ⟨w.heap.size+1+1+1,5,none⟩ (.int .i64 ((a+1)%(n+1)))).alloc (jx q k q.cases.length l)=I at *
 case' inr.inr.inr.inr.inr.inr.inl =>
  have X:(r.code==6)=false:=by rw[di];exact f.1
  have G:(r.code==11)=false:=by rw[di];exact f.2.1
  have O:(r.code==7)=false:=by rw[di];exact f.2.2
  have x:=x rfl;have V:IntKind.i64.wrap (a+1)=a+1:=cD _ aa;have W:IntKind.i64.wrap ((n:Int)+1)=(n:Int)+1:=cD _ aa;have oK:((n:Int)+1==0)=false:=by rw[di];omega
  have R1:(a+1).tmod ((n:Int)+1)=(a+1)%((n:Int)+1):=Int.tmod_eq_emod_of_nonneg aa;go_upto_region 21 with fail
  obtain⟨c,j⟩:∃c:Pm,c=⟨t,false,u,o,outs,1,r.value⟩:=⟨_,rfl⟩
  have R:Hid (gG ⟨t,false,u,o,outs,a,v⟩ r=c):=by unfold Hid;rw[J.Y,P.Y];rw[ah ag,ah (fun h=>h.elim f.1 f.2.1),ah f.2.2,ah ag,ah aa,au U];exact j.symm
  have L:Hid (c.outs=outs):=by unfold Hid;rw[j]
  have M:GQ w E (w.heap.size+1+1) (w.heap.size+1+1+1) (.slice B n m) outs (ma c ⟨B,m⟩).toArray (((C.setCell ⟨w.heap.size+1+1+1,6,none⟩ r.value).setCell ⟨w.heap.size+1+1+1,5,none⟩ (.int .i64 1)).alloc (jx q k q.cases.length l)):=by have h:=((H.set 6 r.value).set 5 (.int .i64 1)).alloc (jx q k q.cases.length l);rw[j,ma];dsimp only;rw[<-K.Y];exact h
  generalize((C.setCell ⟨w.heap.size+1+1+1,6,none⟩ r.value).setCell ⟨w.heap.size+1+1+1,5,none⟩ (.int .i64 1)).alloc (jx q k q.cases.length l)=I at *
 case' inr.inr.inr.inr.inr.inr.inr =>
  have X:(r.code==6)=false:=by rw[di];exact f.1
  have G:(r.code==11)=false:=by rw[di];exact f.2.1
  have O:(r.code==7)=false:=by rw[di];exact f.2.2
  have x:=x rfl;have V:IntKind.i64.wrap (a+1)=a+1:=cD _ aa;have W:IntKind.i64.wrap ((n:Int)+1)=(n:Int)+1:=cD _ aa;have oK:((n:Int)+1==0)=false:=by rw[di];omega
  have R1:(a+1).tmod ((n:Int)+1)=(a+1)%((n:Int)+1):=Int.tmod_eq_emod_of_nonneg aa;have a7:(r.code==0)=false:=by rw[di];exact U
  go_upto_region 21 with fail
  obtain⟨c,j⟩:∃c:Pm,c=⟨t,true,u,o,outs,a,v⟩:=⟨_,rfl⟩
  have R:Hid (gG ⟨t,false,u,o,outs,a,v⟩ r=c):=by unfold Hid;rw[J.Y,P.Y];rw[ah ag,ah (fun h=>h.elim f.1 f.2.1),ah f.2.2,ah ag,ah aa,ah U];exact j.symm
  have L:Hid (c.outs=outs):=by unfold Hid;rw[j]
  have M:GQ w E (w.heap.size+1+1) (w.heap.size+1+1+1) (.slice B n m) outs (ma c ⟨B,m⟩).toArray ((C.setCell ⟨w.heap.size+1+1+1,1,none⟩ true).alloc (jx q k q.cases.length l)):=by have h:=(H.set 1 true).alloc (jx q k q.cases.length l);rw[j,ma];dsimp only;rw[<-K.Y];exact h
  generalize(C.setCell ⟨w.heap.size+1+1+1,1,none⟩ true).alloc (jx q k q.cases.length l)=I at *
 all_goals
  clear Y Z kM a6 T Yo N j H NN jV;have S:=ae M;clear M;have T:=fun i=>af.cell S.o i;obtain⟨dR,dK,dN⟩:=af.aM S.q;unfold ma at T;go_wp2_with fail;have hl:=S.l;have hQ:=aQ (vs:=[c.on,c.shut,c.over,c.fp,.slice B c.outs.length m,c.at_,c.value]) (cs:=[false,false,false,oZ,oN,oZ,oZ]) S.q rfl;have U:=cm (fun g' hg=>by have:=(aX S.i hg).1;omega) [c.on,c.shut,c.over,c.fp,.slice B c.outs.length m,c.at_,c.value] _ 0 _ S.i (g:=w.heap.size+1+1);have hB:Below w w (aw I (w.heap.size+1+1) 0 [c.on,c.shut,c.over,c.fp,.slice B c.outs.length m,c.at_,c.value]):=ax aa _ _ _ S.jH;change bodyPost _ _ _ _ _ (aw I (w.heap.size+1+1) 0 [c.on,c.shut,c.over,c.fp,.slice B c.outs.length m,c.at_,c.value]);clear T dR dK dN;generalize aw I (w.heap.size+1+1) 0 [c.on,c.shut,c.over,c.fp,.slice B c.outs.length m,c.at_,c.value]=wz at *;have fH:=fun i=>af.cell hQ i;refine bodyPost_ret (v:=.agg #[c.on,c.shut,c.over,c.fp,.slice B c.outs.length m,c.at_,c.value]) (by simp[results,results76,go_sem,fH]) rfl ?_;rw[R.Y];refine⟨⟨B,m⟩,rfl,⟨⟨by rw[L.Y];exact(aJ.pP U).2,fun ad ha _=>?_⟩,by rw[L.Y, <-K.Y];exact HM.Y⟩,hB⟩;dsimp only at ha;subst ha;have:=aX U (g:=ad.block) rfl;omega
end
def zl(x:Nt)(s:Sl):List Value:=[x.kind,x.th,x.seq,x.time,x.aN.kind,x.aN.arg,x.aN.value,x.aN.dflt,.slice s.A x.aN.cases.length s.c,x.res.seq,x.res.cs,x.res.code,x.res.value]
def tnC(x:Tn)(s:Sl):List Value:=[x.time,x.th,.slice s.A x.ops.length s.c]
def PTk:sU Tk:=fun w S r x=>∃s,r=iK x s/\nU w S x s
def PPm:sU Pm:=fun w S r x=>∃s:Sl,r=ma x s/\dx w S .i64 s.A x.outs/\x.outs.length<=s.c
def Te:sU Nt:=fun w S r x=>∃s:Sl,r=zl x s/\dG w S bC s.A x.aN.cases
def Wd:sU Tn:=fun w S r x=>∃s:Sl,r=tnC x s/\ru w S s.A x.ops
theorem kz:Good PTk:=⟨fun h ⟨s,h1,h2⟩=>⟨s,h1,h2.move (fun _ _=>rfl) h⟩,fun h ⟨s,h1,h2⟩=>⟨s,h1,h2.move h fun _ h=>h⟩⟩
theorem lN:Good PPm:=⟨fun h ⟨s,h1,h2,h3⟩=>⟨s,h1,h2.mono h,h3⟩,fun h ⟨s,h1,h2,h3⟩=>⟨s,h1,h2.same h,h3⟩⟩
theorem fx:Good Te:=⟨fun h ⟨s,h1,h2⟩=>⟨s,h1,h2.mono h⟩,fun h ⟨s,h1,h2⟩=>⟨s,h1,h2.same h⟩⟩
theorem iL:Good Wd:=⟨fun h ⟨s,h1,h2⟩=>⟨s,h1,h2.move (fun _ _=>rfl) h⟩,fun h ⟨s,h1,h2⟩=>⟨s,h1,h2.move h fun _ h=>h⟩⟩
structure Sx where
 (T P N V S M:Value)
 m:Mm
class OW where
 O:Nat->Prop
variable[OW]
def Sx.X(s:Sx)(c b:Nat):Prop:=b=c\/s.T.ownBlock=some b\/s.P.ownBlock=some b\/s.N.ownBlock=some b\/s.V.ownBlock=some b\/s.S.ownBlock=some b\/s.M.ownBlock=some b
def Sx.U(s:Sx)(f b:Nat):Prop:=s.X f b\/s.m.own b
def Sx.I(s:Sx)(w:World)(f b:Nat):Prop:=b<w.heap.size/\¬s.m.own b/\¬s.X f b/\¬OW.O b
def nW(A:Option Addr)(n k:Nat)(x:Mc)(s:Sx):Array Value:=#[x.c.kind,x.c.threads,x.c.chans,x.c.cap,x.c.nodes,x.c.aL,x.c.aF,x.c.tags,x.c.bG,x.c.bt,.slice A n k,.pointer (some ⟨s.m.g,0,none⟩),s.T,s.P,s.N,s.V,s.S,s.M,x.time]
structure MS (w:World) (x0:Nat) (A:Option Addr) (n k q:Nat) (x:Mo.Mc) (s:Sx):Prop where
 blk:af w x0 101 (nW A n k x s)
 mem:ze w s.m x.L q
 T:aI 50 34 PTk w 0 (s.I w x0) s.T x.T
 P:aI 86 7 PPm w 0 (s.I w x0) s.P x.P
 N:aI 93 13 Te w 0 (s.I w x0) s.N x.N
 V:aI 96 3 Wd w 0 (s.I w x0) s.V x.V
 S:aJ w 0 3 .i64 s.S x.S
 M:aJ w 0 3 .i64 s.M x.M
 mx:∀b,s.m.own b->¬s.X x0 b
 sm:∀b,s.S.ownBlock=some b->s.M.ownBlock≠some b
 cf:dx w (s.I w x0) .i64 A x.c.start
 hn:n=x.c.start.length
 ol:∀b,OW.O b->b<w.heap.size/\¬s.U x0 b
structure gw (w w':World) (U U':Nat->Prop):Prop where
 jH:Below 0 w w'
 same:∀b,b<w.heap.size->¬U b->w'.heap[b]?=w.heap[b]?
 own:∀b,U' b->U b\/w.heap.size<=b
theorem gw.refl(w:World)(U:Nat->Prop):gw w w U U:=⟨Below.refl _ _,fun _ _ _=>rfl,fun _ h=>.inl h⟩
theorem gw.trans{u:World}{U l r:Nat->Prop}(h:gw w w1 U l)(k:gw w1 u l r):gw w u U r :=
 have d:=h.jH.size
 ⟨h.jH.trans k.jH,fun b a c=>(k.same b aa fun e=>(h.own b e).elim c fun e=>by omega).trans (h.same b a c),fun b a=>(k.own b a).elim (h.own b) fun e=>.inr aa⟩
theorem gw.ext(f:Below w w w')(U:Nat->Prop):gw w w' U U:=⟨f.mono (aV _),fun _ h _=>f.block _ h,fun _ h=>.inl h⟩
section
variable{w w':World} {x0:Nat} {A:Option Addr} {n k q:Nat} {x x':Mo.Mc} {s:Sx}
theorem MS.ul(H:MS w x0 A n k q x s)(f:s.U x0 b):b<w.heap.size:=by
 rcases f with(rfl|f|f|f|f|f|f)|f
 ·exact H.blk.lt
 ·exact(aI.lt H.T f).2
 ·exact(aI.lt H.P f).2
 ·exact(aI.lt H.N f).2
 ·exact(aI.lt H.V f).2
 ·exact(aX H.S f).2
 ·exact(aX H.M f).2
 ·exact H.mem.lt f
theorem eB{c:Nat}{t:TypeId}{o r:Array Value}{f l:Nat×Nat}(i:w.heap[b]?=some (.cells o e f))(m:w.heap[c]?=some (.cells r t l))(h:e≠t):b≠c:=fun a=>by
 rw[a,m]at i
 injection i with i
 injection i with _ h4
 exact h h4.symm
structure Mv (w w':World) (x0:Nat) (s s':Sx) (D:Nat->Prop):Prop where
 jH:Below 0 w w'
 same:∀b,b<w.heap.size->¬D b->w'.heap[b]?=w.heap[b]?
 sub:∀b,D b->s.U x0 b
 own:∀b,s'.U x0 b->s.U x0 b\/w.heap.size<=b
section
variable{s':Sx} {D:Nat->Prop}
theorem Mv.mono(V:Mv w w' x0 s s' D):∀b,s.I w x0 b->s'.I w' x0 b:=fun b h =>
 have a:¬s'.U x0 b:=fun e=>(V.own b e).elim (fun e=>e.elim h.2.2.1 h.2.1) fun e=>by have:=h.1;omega
 ⟨bL h.1 V.jH.size,fun e=>a (.inr e),fun e=>a (.inl e),h.2.2.2⟩
theorem Mv.ol(V:Mv w w' x0 s s' D)(h:∀b,OW.O b->b<w.heap.size/\¬s.U x0 b):∀b,OW.O b->b<w'.heap.size/\¬s'.U x0 b:=fun b a =>
 have a:=h b a
 ⟨bL a.1 V.jH.size,fun e=>(V.own b e).elim a.2 fun e=>by omega⟩
theorem Mv.sm(V:Mv w w' x0 s s' D):Sm (s.I w x0) w w':=fun b h=>V.same b h.1 fun e=>(V.sub b e).elim h.2.2.1 h.2.1
theorem Mv.fr(V:Mv w w' x0 s s' D):gw w w' (s.U x0) (s'.U x0):=⟨V.jH,fun b a c=>V.same b a fun e=>c (V.sub b e),V.own⟩
theorem Mv.rows(V:Mv w w' x0 s s' D){m:Nat}{P:sU α}(g:Good P)(h:aI e m P w 0 (s.I w x0) v xs)(f:∀b,v.ownBlock=some b->¬D b):aI e m P w' 0 (s'.I w' x0) v xs:=(h.move g V.sm fun b a=>V.same b (aI.lt h a).2 (f b a)).mono g V.mono
theorem Mv.ints(V:Mv w w' x0 s s' D){c:IntKind}{f:List Int}(h:aJ w 0 e c v f)(i:∀b,v.ownBlock=some b->¬D b):aJ w' 0 e c v f:=cJ h fun b a=>V.same b (aX h a).2 (i b a)
theorem Mv.CO(V:Mv w w' x0 s s' D)(h:ze w s.m L q)(c:∀b,s.m.own b->¬D b):ze w' s.m L q:=h.same fun b a=>V.same b (h.lt a) (c b a)
theorem Mv.cfg(V:Mv w w' x0 s s' D)(h:dx w (s.I w x0) .i64 A x.c.start):dx w' (s'.I w' x0) .i64 A x.c.start:=(h.same V.sm).mono V.mono
end
theorem aI.mg{m:Nat}{P:sU α}{S:Nat->Prop}(h:aI e m P w 0 S v xs):∀b,v.ownBlock=some b->∃d a,w.heap[b]?=some (.cells d e a):=by obtain⟨rows,_,c,_⟩:=h;exact eh c
theorem MS.bO(H:MS w x0 A n k q x s):(∀b,s.T.ownBlock=some b->b≠x0)/\(∀b,s.P.ownBlock=some b->b≠x0)/\(∀b,s.N.ownBlock=some b->b≠x0)/\(∀b,s.V.ownBlock=some b->b≠x0)/\(∀b,s.S.ownBlock=some b->b≠x0)/\(∀b,s.M.ownBlock=some b->b≠x0):=⟨fun b a=>(aI.mg H.T b a).elim fun _ h=>h.elim fun _ h=>eB h H.blk ag,fun b a=>(aI.mg H.P b a).elim fun _ h=>h.elim fun _ h=>eB h H.blk ag,fun b a=>(aI.mg H.N b a).elim fun _ h=>h.elim fun _ h=>eB h H.blk ag,fun b a=>(aI.mg H.V b a).elim fun _ h=>h.elim fun _ h=>eB h H.blk ag,fun b a=>(eh H.S b a).elim fun _ h=>h.elim fun _ h=>eB h H.blk ag,fun b a=>(eh H.M b a).elim fun _ h=>h.elim fun _ h=>eB h H.blk ag⟩
theorem MS.upd(H:MS w x0 A n k q x s)(i:Below 0 w w')(D:∀b,b<w.heap.size->b≠x0->w'.heap[b]?=w.heap[b]?){c:Array Value}(l:af w' x0 101 c)(C:c=nW A n k x' s)(f:x'.c=x.c)(m:x'.L=x.L)(z:x'.T=x.T)(u:x'.P=x.P)(r:x'.N=x.N)(B:x'.V=x.V)(y:x'.S=x.S)(o:x'.M=x.M):MS w' x0 A n k q x' s :=
 have V:Mv w w' x0 s s (·=x0):=⟨i,D,fun b h=>.inl (.inl h),fun b h=>.inl h⟩
 have F:=H.bO
 {blk:=C▸l
  mem:=m▸V.CO H.mem fun b a e=>H.mx b a (.inl e)
  T:=z▸V.rows kz H.T F.1
  P:=u▸V.rows lN H.P F.2.1
  N:=r▸V.rows fx H.N F.2.2.1
  V:=B▸V.rows iL H.V F.2.2.2.1
  S:=y▸V.ints H.S F.2.2.2.2.1
  M:=o▸V.ints H.M F.2.2.2.2.2
  mx:=H.mx
  sm:=H.sm
  cf:=f▸V.cfg H.cf
  hn:=f▸H.hn
  ol:=V.ol H.ol}
theorem MS.more(H:MS w x0 A n k q x s)(f:Below w w w'):MS w' x0 A n k q x s:=H.upd (f.mono (aV _)) (fun b h _=>f.block b h) (H.blk.ai f) rfl rfl rfl rfl rfl rfl rfl rfl rfl
theorem MS.rG(H:MS w x0 A n k q x s)(l:s.T=.slice g j d)(B:t<x.T.length)(y:Tk)(z:Sh)(C:nU w (s.I w x0) y z):MS (aw w g (t*34) (iK y z)) x0 A n k q {x with T:=x.T.set t y} s/\gw w (aw w g (t*34) (iK y z)) (s.U x0) (s.U x0):=by
 have m:s.X x0 g:=by unfold Sx.X;rw[l];exact .inr (.inl rfl)
 have c:=H.T;rw[l]at c;obtain⟨p,o,_⟩:=aI.ty c;have V:Mv w (aw w g (t*34) (iK y z)) x0 s s (·=g):=⟨ax (aV _) _ _ _ (Below.refl _ _),fun b _ h=>aO h _ _,fun b h=>.inl (h▸m),fun b h=>.inl h⟩
 have u:=(aI.LJ kz c B (iK y z) rfl (List.all_eq_true.1 (by rfl)) (fun e=>e.2.2.1 m) ⟨z,rfl,C⟩).mono kz V.mono;have f:∀{e:TypeId} {v:Value} {b:Nat} (_:∃p r,w.heap[b]?=some (.cells p e r)),e≠50->b≠g:=fun h i=>h.elim fun _ h=>h.elim fun _ h=>eB h o i;refine⟨⟨ba H.blk (eB H.blk o ag) _ _,V.CO H.mem fun b a e=>H.mx b a (e▸m),?_,?_,?_,?_,V.ints H.S fun b a=>f (eh H.S b a) ag (v:=s.S),V.ints H.M fun b a=>f (eh H.M b a) ag (v:=s.M),H.mx,H.sm,V.cfg H.cf,H.hn,V.ol H.ol⟩,V.fr⟩
 ·exact l▸u
 ·exact V.rows lN H.P fun b a=>f (aI.mg H.P b a) ag (v:=s.P)
 ·exact V.rows fx H.N fun b a=>f (aI.mg H.N b a) ag (v:=s.N)
 ·exact V.rows iL H.V fun b a=>f (aI.mg H.V b a) ag (v:=s.V)
theorem MS.aaU(H:MS w x0 A n k q x s)(l:s.P=.slice g j d)(C:t<x.P.length)(y:Pm)(z:Sl)(r:dx w (s.I w x0) .i64 z.A y.outs/\y.outs.length<=z.c):MS (aw w g (t*7) (ma y z)) x0 A n k q {x with P:=x.P.set t y} s/\gw w (aw w g (t*7) (ma y z)) (s.U x0) (s.U x0):=by
 have m:s.X x0 g:=by unfold Sx.X;rw[l];exact .inr (.inr (.inl rfl))
 have c:=H.P;rw[l]at c;obtain⟨p,o,_⟩:=aI.ty c;have V:Mv w (aw w g (t*7) (ma y z)) x0 s s (·=g):=⟨ax (aV _) _ _ _ (Below.refl _ _),fun b _ h=>aO h _ _,fun b h=>.inl (h▸m),fun b h=>.inl h⟩
 have B:=(aI.LJ lN c C (ma y z) rfl (List.all_eq_true.1 (by rfl)) (fun e=>e.2.2.1 m) ⟨z,rfl,r.1,r.2⟩).mono lN V.mono;have f:∀{e:TypeId} {v:Value} {b:Nat} (_:∃p u,w.heap[b]?=some (.cells p e u)),e≠86->b≠g:=fun h i=>h.elim fun _ h=>h.elim fun _ h=>eB h o i;refine⟨⟨ba H.blk (eB H.blk o ag) _ _,V.CO H.mem fun b a e=>H.mx b a (e▸m),?_,?_,?_,?_,V.ints H.S fun b a=>f (eh H.S b a) ag (v:=s.S),V.ints H.M fun b a=>f (eh H.M b a) ag (v:=s.M),H.mx,H.sm,V.cfg H.cf,H.hn,V.ol H.ol⟩,V.fr⟩
 ·exact V.rows kz H.T fun b a=>f (aI.mg H.T b a) ag (v:=s.T)
 ·exact l▸B
 ·exact V.rows fx H.N fun b a=>f (aI.mg H.N b a) ag (v:=s.N)
 ·exact V.rows iL H.V fun b a=>f (aI.mg H.V b a) ag (v:=s.V)
theorem MS.adk(H:MS w x0 A n k q x s)(l:s.S=.slice g j d)(t:Nat)(z:Int):MS (w.setCell ⟨g,t,none⟩ z) x0 A n k q {x with S:=x.S.set t z} s/\gw w (w.setCell ⟨g,t,none⟩ z) (s.U x0) (s.U x0):=by
 have r:s.X x0 g:=by unfold Sx.X;rw[l];exact(.inr (.inr (.inr (.inr (.inr (.inl rfl))))))
 have c:=H.S;obtain⟨u,m,o⟩:=eh c g (by rw[l];rfl);rw[l]at c;have V:Mv w (w.setCell ⟨g,t,none⟩ z) x0 s s (·=g):=⟨(Below.refl _ _).setCell (p:=⟨g,t,none⟩) (aV _) _,fun b _ h=>dp _ _ _ _ h,fun b h=>.inl (h▸r),fun b h=>.inl h⟩
 have f:∀{e:TypeId} {b:Nat} (_:∃u m,w.heap[b]?=some (.cells u e m)),e≠3->b≠g:=fun h i=>h.elim fun _ h=>h.elim fun _ h=>eB h o i;have v:=aJ.stored c t z;exact⟨{blk:=(dp _ _ _ _ (eB H.blk o ag)).trans H.blk,mem:=V.CO H.mem fun b a e=>H.mx b a (e▸r),T:=V.rows kz H.T fun b a=>f (aI.mg H.T b a) ag,P:=V.rows lN H.P fun b a=>f (aI.mg H.P b a) ag,N:=V.rows fx H.N fun b a=>f (aI.mg H.N b a) ag,V:=V.rows iL H.V fun b a=>f (aI.mg H.V b a) ag,S:=l▸v,M:=V.ints H.M fun b a e=>H.sm g (by rw[l];rfl) (e▸a),mx:=H.mx,sm:=H.sm,cf:=V.cfg H.cf,hn:=H.hn,ol:=V.ol H.ol},V.fr⟩
theorem MS.aeS(H:MS w x0 A n k q x s)(c:s.M=.slice g j d)(t:Nat)(z:Int):MS (w.setCell ⟨g,t,none⟩ z) x0 A n k q {x with M:=x.M.set t z} s/\gw w (w.setCell ⟨g,t,none⟩ z) (s.U x0) (s.U x0):=by
 have r:s.X x0 g:=by unfold Sx.X;rw[c];exact(.inr (.inr (.inr (.inr (.inr (.inr rfl))))))
 have i:=H.M;obtain⟨u,m,o⟩:=eh i g (by rw[c];rfl);rw[c]at i;have V:Mv w (w.setCell ⟨g,t,none⟩ z) x0 s s (·=g):=⟨(Below.refl _ _).setCell (p:=⟨g,t,none⟩) (aV _) _,fun b _ h=>dp _ _ _ _ h,fun b h=>.inl (h▸r),fun b h=>.inl h⟩
 have f:∀{e:TypeId} {b:Nat} (_:∃u m,w.heap[b]?=some (.cells u e m)),e≠3->b≠g:=fun h l=>h.elim fun _ h=>h.elim fun _ h=>eB h o l;have v:=aJ.stored i t z;exact⟨{blk:=(dp _ _ _ _ (eB H.blk o ag)).trans H.blk,mem:=V.CO H.mem fun b a e=>H.mx b a (e▸r),T:=V.rows kz H.T fun b a=>f (aI.mg H.T b a) ag,P:=V.rows lN H.P fun b a=>f (aI.mg H.P b a) ag,N:=V.rows fx H.N fun b a=>f (aI.mg H.N b a) ag,V:=V.rows iL H.V fun b a=>f (aI.mg H.V b a) ag,M:=c▸v,S:=V.ints H.S fun b a e=>H.sm b a (by rw[e,c];rfl),mx:=H.mx,sm:=H.sm,cf:=V.cfg H.cf,hn:=H.hn,ol:=V.ol H.ol},V.fr⟩
theorem MS.aeT(H:MS w x0 A n k q x s)(r:Below 0 w w1)(l:∀b,b<w.heap.size->s.N.ownBlock≠some b->w1.heap[b]?=w.heap[b]?){y:Nt}(i:aI 93 13 Te w1 0 (s.I w x0) v' (x.N++[y]))(hf:∀b,v'.ownBlock=some b->s.N.ownBlock=some b\/w.heap.size<=b):MS (w1.setCell ⟨x0,14,none⟩ v') x0 A n k q {x with N:=x.N++[y]} {s with N:=v'}/\gw w (w1.setCell ⟨x0,14,none⟩ v') (s.U x0) (Sx.U {s with N:=v'} x0):=by
 have j:∀b,Sx.X {s with N:=v'} x0 b->s.X x0 b\/w.heap.size<=b:=by exact adl
 have f:af w1 x0 101 _:=(l x0 H.blk.lt (fun e=>(H.bO.2.2.1) x0 e rfl)).trans H.blk;have V:Mv w (w1.setCell ⟨x0,14,none⟩ v') x0 s {s with N:=v'} (fun b=>b=x0\/s.N.ownBlock=some b):=⟨r.setCell (p:=⟨x0,14,none⟩) (aV _) _,fun b m g=>(dp _ _ _ _ (fun e=>g (.inl e))).trans (l b m fun e=>g (.inr e)),fun b h=>h.elim (fun h=>.inl (.inl h)) fun h=>.inl (.inr (.inr (.inr (.inl h)))),fun b h=>h.elim (fun h=>(j b h).imp .inl id) fun h=>.inl (.inr h)⟩
 have d:∀b,v'.ownBlock=some b->b≠x0:=fun b a=>(aI.mg i b a).elim fun _ h=>h.elim fun _ h=>eB h f ag;have o:aI 93 13 Te (w1.setCell ⟨x0,14,none⟩ v') 0 (Sx.I {s with N:=v'} (w1.setCell ⟨x0,14,none⟩ v') x0) v' (x.N++[y]):=(i.move fx (fun b h=>dp _ _ _ _ fun e=>h.2.2.1 (.inl e)) fun b a=>dp _ _ _ _ (d b a)).mono fx V.mono
 exact⟨{blk:=f.bj 14 v',mem:=V.CO H.mem fun b a e=>H.mx b a (e.elim (fun e=>.inl e) fun e=>(.inr (.inr (.inr (.inl e))))),N:=o,T:=V.rows kz H.T fun b a e=>e.elim (H.bO.1 b a) fun e=>(aI.mg H.T b a).elim fun _ h=>h.elim fun _ h=>(aI.mg H.N b e).elim fun _ c=>c.elim fun _ c=>eB h c ag rfl,P:=V.rows lN H.P fun b a e=>e.elim (H.bO.2.1 b a) fun e=>(aI.mg H.P b a).elim fun _ h=>h.elim fun _ h=>(aI.mg H.N b e).elim fun _ c=>c.elim fun _ c=>eB h c ag rfl,V:=V.rows iL H.V fun b a e=>e.elim (H.bO.2.2.2.1 b a) fun e=>(aI.mg H.V b a).elim fun _ h=>h.elim fun _ h=>(aI.mg H.N b e).elim fun _ c=>c.elim fun _ c=>eB h c ag rfl,S:=V.ints H.S fun b a e=>e.elim (H.bO.2.2.2.2.1 b a) fun e=>(eh H.S b a).elim fun _ h=>h.elim fun _ h=>(aI.mg H.N b e).elim fun _ c=>c.elim fun _ c=>eB h c ag rfl,M:=V.ints H.M fun b a e=>e.elim (H.bO.2.2.2.2.2 b a) fun e=>(eh H.M b a).elim fun _ h=>h.elim fun _ h=>(aI.mg H.N b e).elim fun _ c=>c.elim fun _ c=>eB h c ag rfl,mx:=fun b a h=>(j b h).elim (H.mx b a) fun h=>by have:=H.mem.lt a;omega,sm:=H.sm,cf:=V.cfg H.cf,hn:=H.hn,ol:=V.ol H.ol},V.fr⟩
theorem MS.aeU(H:MS w x0 A n k q x s)(r:Below 0 w w1)(l:∀b,b<w.heap.size->s.V.ownBlock≠some b->w1.heap[b]?=w.heap[b]?){y:Tn}(i:aI 96 3 Wd w1 0 (s.I w x0) v' (x.V++[y]))(u:∀b,v'.ownBlock=some b->s.V.ownBlock=some b\/w.heap.size<=b):MS (w1.setCell ⟨x0,15,none⟩ v') x0 A n k q {x with V:=x.V++[y]} {s with V:=v'}/\gw w (w1.setCell ⟨x0,15,none⟩ v') (s.U x0) (Sx.U {s with V:=v'} x0):=by
 have j:∀b,Sx.X {s with V:=v'} x0 b->s.X x0 b\/w.heap.size<=b:=by
  rintro b (h|h|h|h|h|h|h)
  ·exact .inl (.inl h)
  ·exact .inl (.inr (.inl h))
  ·exact .inl (.inr (.inr (.inl h)))
  ·exact .inl (.inr (.inr (.inr (.inl h))))
  ·exact(u b h).imp (fun h=>(.inr (.inr (.inr (.inr (.inl h)))))) id
  ·exact .inl (.inr (.inr (.inr (.inr (.inr (.inl h))))))
  ·exact .inl (.inr (.inr (.inr (.inr (.inr (.inr h))))))
 have f:af w1 x0 101 _:=(l x0 H.blk.lt (fun e=>(H.bO.2.2.2.1) x0 e rfl)).trans H.blk;have V:Mv w (w1.setCell ⟨x0,15,none⟩ v') x0 s {s with V:=v'} (fun b=>b=x0\/s.V.ownBlock=some b):=⟨r.setCell (p:=⟨x0,15,none⟩) (aV _) _,fun b m g=>(dp _ _ _ _ (fun e=>g (.inl e))).trans (l b m fun e=>g (.inr e)),fun b h=>h.elim (fun h=>.inl (.inl h)) fun h=>.inl (.inr (.inr (.inr (.inr (.inl h))))),fun b h=>h.elim (fun h=>(j b h).imp .inl id) fun h=>.inl (.inr h)⟩
 have d:∀b,v'.ownBlock=some b->b≠x0:=fun b a=>(aI.mg i b a).elim fun _ h=>h.elim fun _ h=>eB h f ag;have o:aI 96 3 Wd (w1.setCell ⟨x0,15,none⟩ v') 0 (Sx.I {s with V:=v'} (w1.setCell ⟨x0,15,none⟩ v') x0) v' (x.V++[y]):=(i.move iL (fun b h=>dp _ _ _ _ fun e=>h.2.2.1 (.inl e)) fun b a=>dp _ _ _ _ (d b a)).mono iL V.mono
 exact⟨{blk:=f.bj 15 v',mem:=V.CO H.mem fun b a e=>H.mx b a (e.elim (fun e=>.inl e) fun e=>(.inr (.inr (.inr (.inr (.inl e)))))),V:=o,T:=V.rows kz H.T fun b a e=>e.elim (H.bO.1 b a) fun e=>(aI.mg H.T b a).elim fun _ h=>h.elim fun _ h=>(aI.mg H.V b e).elim fun _ c=>c.elim fun _ c=>eB h c ag rfl,P:=V.rows lN H.P fun b a e=>e.elim (H.bO.2.1 b a) fun e=>(aI.mg H.P b a).elim fun _ h=>h.elim fun _ h=>(aI.mg H.V b e).elim fun _ c=>c.elim fun _ c=>eB h c ag rfl,N:=V.rows fx H.N fun b a e=>e.elim (H.bO.2.2.1 b a) fun e=>(aI.mg H.N b a).elim fun _ h=>h.elim fun _ h=>(aI.mg H.V b e).elim fun _ c=>c.elim fun _ c=>eB h c ag rfl,S:=V.ints H.S fun b a e=>e.elim (H.bO.2.2.2.2.1 b a) fun e=>(eh H.S b a).elim fun _ h=>h.elim fun _ h=>(aI.mg H.V b e).elim fun _ c=>c.elim fun _ c=>eB h c ag rfl,M:=V.ints H.M fun b a e=>e.elim (H.bO.2.2.2.2.2 b a) fun e=>(eh H.M b a).elim fun _ h=>h.elim fun _ h=>(aI.mg H.V b e).elim fun _ c=>c.elim fun _ c=>eB h c ag rfl,mx:=fun b a h=>(j b h).elim (H.mx b a) fun h=>by have:=H.mem.lt a;omega,sm:=H.sm,cf:=V.cfg H.cf,hn:=H.hn,ol:=V.ol H.ol},V.fr⟩
theorem MS.Ke(H:MS w x0 A n k q x s){q':Nat}{c:Mm}(F:cu w w' p s.m c)(l:w.heap.size<=p)(i:ze w' c L q'):MS w' x0 A n k q' {x with L:=L} {s with m:=c}/\gw w w' (s.U x0) (Sx.U {s with m:=c} x0):=by
 have V:Mv w w' x0 s {s with m:=c} s.m.own:=⟨F.jH,fun b d g=>F.same b d aa g,fun b h=>.inr h,fun b h=>h.elim (fun h=>.inl (.inl h)) fun h=>(F.own b h).imp .inr id⟩
 have f:∀b,s.X x0 b->¬s.m.own b:=fun b h e=>H.mx b e h;refine⟨{blk:=?_,mem:=i,T:=V.rows kz H.T fun b a=>f b (.inr (.inl a)),P:=V.rows lN H.P fun b a=>f b (.inr (.inr (.inl a))),N:=V.rows fx H.N fun b a=>f b (.inr (.inr (.inr (.inl a)))),V:=V.rows iL H.V fun b a=>f b (.inr (.inr (.inr (.inr (.inl a))))),S:=V.ints H.S fun b a=>f b (.inr (.inr (.inr (.inr (.inr (.inl a)))))),M:=V.ints H.M fun b a=>f b (.inr (.inr (.inr (.inr (.inr (.inr a)))))),mx:=fun b a h=>(F.own b a).elim (fun e=>H.mx b e h) fun e=>by have:=H.ul (.inl h);omega,sm:=H.sm,cf:=V.cfg H.cf,hn:=H.hn,ol:=V.ol H.ol},V.fr⟩;have h:=(V.same x0 H.blk.lt (f x0 (.inl rfl))).trans H.blk;unfold nW at h ⊢;dsimp only;rw[F.g];exact h
end
variable[OW]
section
variable{w:World} {x0:Nat} {A:Option Addr} {n k q:Nat} {x:Mo.Mc} {s:Sx}
theorem rz(H:MS w x0 A n k q x s):Calls prog 38 #[.pointer x0] w fun e w'=>e=.returned true/\w=w':=by have a:=fun i=>af.cell H.blk i;unfold nW at a;clear H;go_enter func38,ntmps38;go_wp2;go_ret;exact⟨rfl,rfl⟩
theorem Bx(H:MS w x0 A n k q x s)(t:Int):Calls prog 42 #[.pointer x0,t] w fun e w'=>e=.returned (decide (0<=t/\t<x.T.length))/\w=w':=by
 have g:=ae (rz H);obtain⟨B,d,l⟩:=aI.shape H.T;have a:=fun i=>af.cell H.blk i;unfold nW at a;rw[l]at a;generalize x.T.length=j at a ⊢;have m:=H.blk.lt;clear H l;by_cases c:0<=t
 ·have f:decide (0<=t)=true:=eE c;go_enter func42,ntmps42;go_wp2_with fail;refine g.mono ?_;rintro e w' ⟨rfl,rfl⟩;go_wp2;go_ret;refine⟨?_,rfl⟩;simp[c]
 ·have f:decide (0<=t)=false:=bU c;go_enter func42,ntmps42;go_wp2_with fail;refine g.mono ?_;rintro e w' ⟨rfl,rfl⟩;go_wp2;go_ret;exact⟨congrArg (fun b=>Ending.returned (.bool b)) (bU (fun h=>by omega)).symm,rfl⟩
end
section
variable(w:World)
theorem jZ(q:Rq)(z:Sl)(r:q.cases.length<=1000000)(u:dI w bC z.A q.cases):Calls prog 60 #[.agg (mW q z).toArray] w fun e w'=>∃F,e=.returned (.agg (mW q F).toArray)/\sB w w' q F/\Below w w w':=by
 obtain⟨A,d⟩:=z;have x:=ae (fun E (R:Below w w E)=>qF E A d q.cases rfl r (u.below R));unfold mW;dsimp only at *;clear u;obtain⟨c,a⟩:=aG ((w.alloc (jx q A q.cases.length d)).alloc YW);have l:Hid (Below w w c):=by rw[a];exact ak (ak (aj w) _) _
 have f:Hid (af c w 42 ([q.kind,q.arg,q.value,q.dflt,.slice A q.cases.length d]:VL).toArray):=by rw[a];exact(af.new _ _ _).alloc _
 have o:Hid (af c (w.heap.size+1) 42 ([oZ,oZ,oZ,false,oN]:VL).toArray):=by rw[a];exact af.newAt _ _ _ aD
 have D:=ae a;clear a;go_enter func60,ntmps60;go_upto_region 1 with fail
 rw[<-D.Y];clear D;obtain⟨j,-,k⟩:=af.aM f;go_wp2_with fail;go_fit (x _ l);rintro e p ⟨B,m,rfl,t,(C:Hid _),b⟩;obtain⟨I,y,K,H,G⟩:=dh (f.ai b) (o.ai b) (ai l b) t o.lt;clear b t j k f o l x;obtain⟨j,J,k⟩:=af.aM I;obtain⟨N,L,M⟩:=af.aM y;go_wp2_with fail;have r:=G.Y;have s:∀n:Nat,n<c.heap.size->∀g,(Value.slice B q.cases.length m).ownBlock=some g->g≠n:=fun n h g S=>by have:=(aX C S).1;omega
 have h1:=cm (s (w.heap.size+1) r) ([q.kind,q.arg,q.value,q.dflt,.slice B q.cases.length m]:VL) _ 0 _ (cm (s w aa) [.slice B q.cases.length m] _ 4 _ C);have Q:=aQ (vs:=([q.kind,q.arg,q.value,q.dflt,.slice B q.cases.length m]:VL)) (cs:=([oZ,oZ,oZ,false,oN]:VL)) (ba y (show w.heap.size+1≠w by omega) [.slice B q.cases.length m] 4) rfl;have P:Below w w (aw (aw p w 4 [.slice B q.cases.length m]) (w.heap.size+1) 0 ([q.kind,q.arg,q.value,q.dflt,.slice B q.cases.length m]:VL)):=ax (cj _) _ _ _ (ax (aS _) _ _ _ K);change bodyPost _ _ _ _ _ (aw (aw p w 4 [.slice B q.cases.length m]) (w.heap.size+1) 0 ([q.kind,q.arg,q.value,q.dflt,.slice B q.cases.length m]:VL));clear N L M j J k;generalize aw (aw p w 4 [.slice B q.cases.length m]) (w.heap.size+1) 0 ([q.kind,q.arg,q.value,q.dflt,.slice B q.cases.length m]:VL)=T at *;have O:=fun i=>af.cell Q i;refine bodyPost_ret (v:=.agg (#[q.kind,q.arg,q.value,q.dflt,.slice B q.cases.length m]:VA)) (by simp[results,results60,go_sem,O]) rfl ?_;refine⟨⟨B,m⟩,rfl,⟨⟨(aH.zX h1).2,fun ad ha _=>?_⟩,H⟩,P⟩;exact Ys
end
variable[OW]
theorem IK:∀(a A B:List α) (o:Nat),o+a.length<=A.length->gN (A++B) o a=gN A o a++B:=by
 intro a;induction a with
 |nil=>intro A B o _;rfl
 |cons v a b=>intro A B o h;simp only[List.length_cons]at h;rw[gN,List.set_append_left _ _ aa,b _ _ _ (by rw[cq];omega),gN]
theorem R2{m:Nat}:∀(rows:List (Row m)) (i o:Nat) (a:List Value) (r b:Row m),rows[i]?=some r->b.val=gN r.val o a->o+a.length<=m->gN (rows.flatMap eA) (i*m+o) a=(rows.set i b).flatMap eA:=by
 intro rows;induction rows with
 |nil=>intro i o a r b h;simp at h
 |cons x l e =>
  intro i o a r b h c d;rcases i with _|i
  ·injection h with h
   subst h;rw[List.flatMap_cons,Nat.zero_mul,Nat.zero_add,IK _ _ _ _ (by rw[b9];exact d)];show gN x.val o a++_=_;rw[<-c];rfl
  ·rw[List.flatMap_cons,vk _ _ _ _ (by rw[b9,Nat.add_mul];omega),b9,show(i+1)*m+o-m=i*m+o by rw[Nat.add_mul];omega,e i o a r b (by simpa using h) c d];rfl
theorem Nc:∀(a L:List α) (o:Nat) (u:α),u∈gN L o a->u∈L\/u∈a:=by
 intro a;induction a with
 |nil=>intro L o u h;exact .inl h
 |cons v a b =>
  intro L o u h;rw[gN]at h;rcases b _ _ _ h with h|h
  ·rcases List.mem_or_eq_of_mem_set h with h|h
   ·exact .inl h
   ·exact .inr (by rw[h];exact List.mem_cons_self)
  ·exact .inr (List.mem_cons_of_mem _ h)
section
variable{α:Type} {m:Nat} {P:sU α} {w w':World} {S S':Nat->Prop} {xs:List α} {e:TypeId} {base g n c:Nat} {v:Value}
theorem aI.part(gd:Good P)(h:aI e m P w base S (.slice g n c) xs){i:Nat}{x:α}(y:xs[i]?=some x)(o:Nat)(f:List Value)(J:o+f.length<=m)(D:∀u∈f,u.oneCell'=true)(G:¬S g)(F:∀r,r.length=m->P w S r x->P w S (gN r o f) x) :
 aI e m P (aw w g (i*m+o) f) base S (.slice g n c) xs:=by
 have hlen:=h.len
 obtain⟨rows,s,t,l⟩:=h
 have K:i<xs.length:=dv y
 have B:i<rows.length:=aa
 have p:Sm S w (aw w g (i*m+o) f):=fun b E=>aO (fun H=>by subst H;exact G E) f _
 have v:=cY B
 have C:∀z∈gN rows[i].val o f,z.oneCell'=true:=fun z a=>(Nc _ _ _ _ a).elim (rows[i].property.2 z) (D z)
 obtain⟨q,j⟩:∃q:Row m,q.val=gN rows[i].val o f:=⟨⟨_,by rw[LI];exact rows[i].property.1,C⟩,rfl⟩
 refine⟨rows.set i q,by simp[s],?_,?_⟩
 ·have I:n=rows.length:=aa;subst I;have:=tZ f w (i*m+o) _ t;unfold aH;rw[cq, <-R2 rows i o f rows[i] q v j J];exact this
 ·intro k r z d a;by_cases A:k=i
  ·subst A;rw[List.getElem?_set_self B]at d;rw[y]at a;injection d with d;injection a with a
   subst d a;rw[j];exact gd.same p (F _ rows[k].property.1 (l k _ x v y))
  ·rw[List.getElem?_set_ne (fun h=>A h.symm)]at d;exact gd.same p (l k r z d a)
end
def Bv(S:Nat->Prop)(n:Nat)(v:Value)(w:World)(b:Nat):Prop:=(S b\/n<=b)/\b<w.heap.size/\v.ownBlock≠some b
section
variable{α:Type} {m:Nat} {P:sU α} {w w':World} {xs:List α} {e:TypeId} {base n:Nat} {v:Value} {S:Nat->Prop}
theorem aI.grow(gd:Good P)(h:aI e m P w base (Bv S n v w) v xs)(c:Below w w w'):aI e m P w' base (Bv S n v w') v xs:=(h.move gd (fun b a=>c.block b a.2.1) fun b a=>c.block b (aI.lt h a).2).mono gd fun b a=>⟨a.1,bL a.2.1 c.size,a.2.2⟩
theorem Bv.of(h:aI e m P w base S v xs)(f:w.heap.size=n)(c:∀b,S b->b<n)(k:n<=base)(gd:Good P):aI e m P w base (Bv S n v w) v xs:=h.mono gd fun b a=>⟨.inl a,by rw[f];exact c b a,fun e=>by have:=(aI.lt h e).1;have:=c b a;omega⟩
theorem Bv.start(h:aI e m P w' w S v xs)(f:∀b,S b->b<w.heap.size)(l:Below w w w')(gd:Good P):aI e m P w' w (Bv S w v w') v xs:=h.mono gd fun b a=>⟨.inl a,bL (f b a) l.size,fun e=>by have:=(aI.lt h e).1;have:=f b a;omega⟩
theorem Bv.own{c:Nat}(w:World):¬Bv S n (.slice g m c) w g:=fun h=>h.2.2 rfl
end
section
variable(w:World)
theorem Kf(A:Option Addr)(n c:Nat)(l:List Mo.Op)(J:n=l.length)(hl:n<=1000000)(R:∀x∈l,x.aN.cases.length<=1000000){S:Nat->Prop}(H:∀b,S b->b<w.heap.size)(o:kF 8 NQ w S A l):Calls prog 40 #[.slice A n c] w fun e w'=>∃B d,e=.returned (.slice B n d)/\aI 66 8 NQ w' w (Bv S w (.slice B n d) w') (.slice B n d) l/\Below w w w':=by
 obtain⟨rows,L,T,U⟩:=o.F9;obtain⟨M,Y,X,Z⟩:=bN ((xU w A c rows (by rw[L];exact J) hl T).mono fun e w' h=>fD.toX ku H L U h) R J H;clear L T U J R H o;go_enter func40,ntmps40;go_wp2_with fail;refine M.mono ?_;rintro e w1 ⟨B,d,rfl,hd,o,k⟩;obtain⟨HO,HB⟩:=av (Bv.start o Z k ku) k;clear k o M hd;go_wp2;go_loopw[4,9] (fun _ i wr=>∃j:Nat,j<=n/\i=j/\Hid (Below w w wr)/\Hid (aI 66 8 NQ wr w (Bv S w (.slice B n d) wr) (.slice B n d) l)) (fun _ i _=>n-(intOf i).toNat);case atStart=>exact⟨0,aV _,rfl,HB,HO⟩
 case round =>
  clear HB HO;obtain⟨j,hj,rfl,HB,HO⟩:=hrel;by_cases I:j<n
  ·have p:j<l.length:=by rw[<-X.Y];exact I
   obtain⟨g,d',hv,Q,m⟩:=aI.form HO (by rintro e;rw[e]at p;exact absurd p (Nat.not_lt_zero _));injection hv with zJ hv2 hv3
   subst zJ hv3;clear hv2;obtain⟨x,q⟩:∃x,l[j]?=some x:=⟨_,cY p⟩
   obtain⟨r,⟨V,dq,rfl,N⟩,K,f⟩:=aI.at_ HO q;have z:=f 3 _ rfl;have C:=f 4 _ rfl;have D:=f 5 _ rfl;have E:=f 6 _ rfl;have F:=f 7 _ rfl;have f3:=fun i=>aI.cR HO (i:=i);have s:=ae (jZ wr x.aN ⟨V,dq⟩ (Y x (dB q)) N.1);unfold mW at s;dsimp only at s;have HX:=ae q;clear K f q p N;go_wp2_with fail;refine s.mono ?_;rintro e w2 ⟨⟨t,v⟩,rfl,(iC:Hid _),a⟩;obtain⟨O,bE,W,y⟩:=bN (aI.grow ku HO a) (ai HB a) m Q;have hg:=bL m a.size;have d3:=Below.cell a (bb z) |>.trans z
   have d4:=Below.cell a (bb C) |>.trans C
   have d5:=Below.cell a (bb D) |>.trans D
   have d6:=Below.cell a (bb E) |>.trans E
   have d7:=Below.cell a (bb F) |>.trans F
   have zD:Hid (w.heap.size<=wr.heap.size):=HB.size;clear a z C D E F f3 HO HB Q m s;have f3:=fun i=>aI.cR O (i:=i);go_wp2_with fail;have hP:=aI.part ku O HX 3 [x.aN.kind,x.aN.arg,x.aN.value,x.aN.dflt,.slice t x.aN.cases.length v] (aS _) (by intro u P;simp at P;rcases P with rfl|rfl|rfl|rfl|rfl<;>rfl) (Bv.own _) (by
    rintro r _ ⟨B9,d9,rfl,_⟩;exact⟨t,v,rfl,iC.1.mono fun b k=>⟨.inr (bq zD k.1),k.2,fun e=>by injection e with e;have e:g=_:=e;have:=k.1;have:=W.Y;omega⟩⟩)
   have G:=hP.mono ku (S':=Bv S w (.slice g n d) (aw w2 g (j*8+3) [x.aN.kind,x.aN.arg,x.aN.value,x.aN.dflt,.slice t x.aN.cases.length v])) fun b k=>⟨k.1,by rw[bH];exact k.2.1,k.2.2⟩
   obtain⟨jr,cM⟩:=av G (ax y [x.aN.kind,x.aN.arg,x.aN.value,x.aN.dflt,.slice t x.aN.cases.length v] _ (j*8+3) bE);exact aaV
  ·exact aaW
end
section
variable{w:World} {x0:Nat} {A:Option Addr} {n k q:Nat} {x:Mo.Mc} {s:Sx}
theorem E6(H:MS w x0 A n k q x s){m:Nat}(z:m=x.V.length)(hl:m<=1000000)(S:∀y∈x.V,y.ops.length<=1000000/\∀o∈y.ops,o.aN.cases.length<=1000000):Calls prog 12 #[.pointer (some ⟨x0,0,none⟩)] w fun e w'=>∃B d,e=.returned (.slice B m d)/\aI 96 3 Wd w' w (Bv (s.I w x0) w (.slice B m d) w') (.slice B m d) x.V/\Below w w w':=by
 have N:Hid (∀b,s.I w x0 b->b<w.heap.size):=fun b a=>a.1;have t:=ae (rz H);obtain⟨V,e,D⟩:=aI.shape H.V;have l:=H.V;rw[D]at l;obtain⟨rows,U,r2,r3⟩:=l.Ma.F9;have F:=ae ((F5 w V e rows (by rw[U];exact z) hl r2).mono fun e w' h=>fD.toX iL N U r3 h);obtain⟨O,-,-⟩:=af.aM H.blk;unfold nW at O;rw[D, <-z]at O;generalize x.V=L at z S F ⊢;obtain⟨I,Z⟩:=aG (s.I w x0);rw[<-Z]at N F ⊢;obtain⟨HQ,HN⟩:=av S z;clear H l D U r2 r3 Z z S;go_enter func12,ntmps12;go_wp2_with fail;refine t.mono ?_;rintro e w1 ⟨rfl,rfl⟩;go_wp2_with fail;refine F.mono ?_;rintro e w1 ⟨B,d,rfl,hd,ho,a⟩;obtain⟨HO,HB⟩:=av (Bv.start ho N a iL) a;clear a ho F hd O t;go_wp2;go_loopw[4,15] (fun _ i wr=>∃j:Nat,j<=m/\i=j/\Hid (Below w w wr)/\Hid (aI 96 3 Wd wr w (Bv I w (.slice B m d) wr) (.slice B m d) L)) (fun _ i _=>m-(intOf i).toNat);case atStart=>exact⟨0,aV _,rfl,HB,HO⟩
 case round =>
  clear HB HO;obtain⟨j,hj,rfl,HB,HO⟩:=hrel;by_cases R:j<m
  ·have E:j<L.length:=by rw[<-HN.Y];exact R
   obtain⟨g,d',D,(M:Hid _),f⟩:=aI.form HO (by rintro e;rw[e]at E;exact absurd E (Nat.not_lt_zero _));injection D with zJ hv2 hv3
   subst zJ hv3;clear hv2;obtain⟨y,G⟩:∃y,L[j]?=some y:=⟨_,cY E⟩
   obtain⟨r,⟨⟨Bq,dq⟩,rfl,X⟩,T,C⟩:=aI.at_ HO G;have P:=C 2 _ rfl;have f3:=fun i=>aI.cR HO (i:=i);have p:=HQ.Y y (dB G);obtain⟨qW,HX,W⟩:=aZ (Kf wr Bq y.ops.length dq y.ops rfl p.1 p.2 (fun b a=>a.2.1) X.1) G f;clear T C G E X p;go_wp2_with fail;refine qW.mono ?_;rintro e w2 ⟨J,K,rfl,v,c⟩;obtain⟨Y,bE,iC⟩:=aZ (aI.grow iL HO c) (ai HB c) v;have zD:Hid (w.heap.size<=wr.heap.size):=HB.size;have hg:=bL f c.size;have d2:=Below.cell c (bb P) |>.trans P
   clear c v P f3 HO HB f qW;have f3:=fun i=>aI.cR Y (i:=i);go_wp2_with fail;have hP:=aI.part iL Y HX 2 [.slice J y.ops.length K] (aS _) (by intro u hu;simp at hu;subst hu;rfl) (Bv.own _) (by
    rintro r _ ⟨⟨B9,d9⟩,rfl,_⟩;refine⟨⟨J,K⟩,rfl,(aI.mono ku (fun b a=>?_) iC).Ma,fun ad ha _=>?_⟩
    ·exact⟨a.1.elim (fun h=>h.1) fun h=>.inr (bq zD h),a.2.1,a.1.elim (fun h=>h.2.2) fun h e=>by injection e with e;have e:g=_:=e;have:=W.Y;omega⟩
    ·subst ha;have Q:=aI.lt iC rfl;exact⟨.inr (bq zD Q.1),Q.2,fun e=>by injection e with e;have e:g=_:=e;have:=W.Y;have:=Q.1;omega⟩)
   obtain⟨jr,cM⟩:=av (hP.mono iL (S':=Bv I w (.slice g m d) (aw w2 g (j*3+2) [.slice J y.ops.length K])) fun b a=>⟨a.1,by rw[bH];exact a.2.1,a.2.2⟩) (ax M [.slice J y.ops.length K] _ (j*3+2) bE);exact aaV
  ·exact aaW
theorem R4(H:MS w x0 A n k q x s){m:Nat}(z:m=x.N.length)(hl:m<=1000000)(T:∀y∈x.N,y.aN.cases.length<=1000000):Calls prog 27 #[.pointer (some ⟨x0,0,none⟩)] w fun e w'=>∃B d,e=.returned (.slice B m d)/\aI 93 13 Te w' w (Bv (s.I w x0) w (.slice B m d) w') (.slice B m d) x.N/\Below w w w':=by
 have K:Hid (∀b,s.I w x0 b->b<w.heap.size):=fun b c=>c.1;have p:=ae (rz H);obtain⟨V,e,t⟩:=aI.shape H.N;have o:=H.N;rw[t]at o;obtain⟨rows,W,r2,r3⟩:=o.Ma.F9;have C:=ae ((F8 w V e rows (by rw[W];exact z) hl r2).mono fun e w' h=>fD.toX fx K W r3 h);obtain⟨M,-,-⟩:=af.aM H.blk;unfold nW at M;rw[t, <-z]at M;generalize x.N=L at z T C ⊢;obtain⟨I,Z⟩:=aG (s.I w x0);rw[<-Z]at K C ⊢;obtain⟨HQ,HN⟩:=av T z;clear H o t W r2 r3 Z z T;go_enter func27,ntmps27;go_wp2_with fail;refine p.mono ?_;rintro e w1 ⟨rfl,rfl⟩;go_wp2_with fail;refine C.mono ?_;rintro e w1 ⟨B,d,rfl,hd,ho,c⟩;obtain⟨HO,HB⟩:=av (Bv.start ho K c fx) c;clear c ho C hd M p;go_wp2;go_loopw[4,15] (fun _ i wr=>∃j:Nat,j<=m/\i=j/\Hid (Below w w wr)/\Hid (aI 93 13 Te wr w (Bv I w (.slice B m d) wr) (.slice B m d) L)) (fun _ i _=>m-(intOf i).toNat);case atStart=>exact⟨0,aV _,rfl,HB,HO⟩
 case round =>
  clear HB HO;obtain⟨j,hj,rfl,HB,HO⟩:=hrel;by_cases S:j<m
  ·have v:j<L.length:=by rw[<-HN.Y];exact S
   obtain⟨g,d',t,pS,l⟩:=aI.form HO (by rintro e;rw[e]at v;exact absurd v (Nat.not_lt_zero _));injection t with zJ hv2 hv3
   subst zJ hv3;clear hv2;obtain⟨y,D⟩:∃y,L[j]?=some y:=⟨_,cY v⟩
   obtain⟨r,⟨⟨Bq,dq⟩,rfl,X⟩,U,f⟩:=aI.at_ HO D;have N:=f 4 _ rfl;have O:=f 5 _ rfl;have P:=f 6 _ rfl;have Q:=f 7 _ rfl;have R:=f 8 _ rfl;have f3:=fun i=>aI.cR HO (i:=i);have E:=ae (jZ wr y.aN ⟨Bq,dq⟩ (HQ y (dB D)) X.1);unfold mW at E;dsimp only at E;obtain⟨HX,HG,J⟩:=aZ D l pS;clear U f D v X;go_wp2_with fail;refine E.mono ?_;rintro e w2 ⟨⟨F,G⟩,rfl,(iC:Hid _),a⟩;obtain⟨Y,bE⟩:=av (aI.grow fx HO a) (ai HB a);have zD:Hid (w.heap.size<=wr.heap.size):=HB.size;have hg:=bL l a.size;have d4:=Below.cell a (bb N) |>.trans N
   have d5:=Below.cell a (bb O) |>.trans O
   have d6:=Below.cell a (bb P) |>.trans P
   have d7:=Below.cell a (bb Q) |>.trans Q
   have d8:=Below.cell a (bb R) |>.trans R
   clear a N O P Q R f3 HO HB pS l E;have f3:=fun i=>aI.cR Y (i:=i);go_wp2_with fail;have hP:=aI.part fx Y HX 4 [y.aN.kind,y.aN.arg,y.aN.value,y.aN.dflt,.slice F y.aN.cases.length G] (by show 4+5<=13;decide) (by intro u hu;simp at hu;rcases hu with rfl|rfl|rfl|rfl|rfl<;>rfl) (Bv.own _) (by
    rintro r _ ⟨⟨B9,d9⟩,rfl,_⟩;exact⟨⟨F,G⟩,rfl,iC.1.mono fun b c=>⟨.inr (bq zD c.1),c.2,fun e=>by injection e with e;have e:g=_:=e;have:=c.1;have:=HG.Y;omega⟩⟩)
   obtain⟨jr,cM⟩:=av (hP.mono fx (S':=Bv I w (.slice g m d) (aw w2 g (j*13+4) [y.aN.kind,y.aN.arg,y.aN.value,y.aN.dflt,.slice F y.aN.cases.length G])) fun b c=>⟨c.1,by rw[bH];exact c.2.1,c.2.2⟩) (ax J [y.aN.kind,y.aN.arg,y.aN.value,y.aN.dflt,.slice F y.aN.cases.length G] _ (j*13+4) bE);exact aaV
  ·exact aaW
end
def sL(V:List Tn):Nat:=(V.map fun v=>v.ops.length).sum
theorem By{V:List Tn}{y:Tn}(h:V[j]?=some y):sL (V.take (j+1))=sL (V.take j)+y.ops.length:=by unfold sL;rw[List.take_add_one,h];simp
theorem Bz:∀(V:List Tn) (j:Nat),sL (V.take j)<=sL V
 |[],_=>by simp[sL]
 |y::V,0=>aV _
 |y::V,j+1=>by
  have:=Bz V j
  unfold sL at *
  simp only[List.take_succ_cons,List.map_cons,List.sum_cons]
  omega
section
variable{w:World} {S:Nat->Prop} {A:Option Addr} {c m:Nat} {V:List Mo.Tn}
theorem IL(hm:m=V.length)(SF:m<=1000000)(hS:∀b,S b->b<w.heap.size)(F:kF 3 Wd w S A V)(hq:sL V<=1000000):Calls prog 20 #[.slice A m c] w fun e w'=>∃B d,e=.returned (.slice B (sL V) d)/\Below w w w':=by
 obtain⟨HN,HS,HO,HQ⟩:=bN hm hS F hq;clear hm hS F hq;go_enter func20,ntmps20;go_wp2;go_loopw[3,10] (fun v i wr=>∃j:Nat,j<=m/\i=j/\∃(z:Value) (rows:List (Row 8)),v=z/\Hid (Below w w wr)/\Hid (aH wr w 66 8 eA z rows)/\Hid (rows.length=sL (V.take j))) (fun _ i _=>m-(intOf i).toNat);case atStart=>exact⟨0,aV _,rfl,_,[],rfl,aj w,aH.nil _ _ _ _ _,rfl⟩
 case round =>
  obtain⟨j,hj,rfl,z,rows,rfl,f,n,p⟩:=hrel;by_cases Q:j<m
  ·obtain⟨I,y,r,L,hy,M,_,a⟩:=kF.at_ (by decide) HO.Y (i:=j) (by rw[<-HN.Y];exact Q);obtain⟨⟨zA,zc⟩,rfl,C,-⟩:=M;have q0:w.cell? (I.add (j*3))=_:=a 0 _ rfl;have q1:=a 1 _ rfl;have q2:=a 2 _ rfl;have J:=(Below.cell f.Y (bb q0)).trans q0;have x:=(Below.cell f.Y (bb q1)).trans q1;have q:=(Below.cell f.Y (bb q2)).trans q2;subst L;rw[add_lit _ _ (by decide)]at x q;dsimp only at q;obtain⟨E,h⟩:∃E,E=wr.alloc (.cells (tnC y ⟨zA,zc⟩).toArray 96):=⟨_,rfl⟩
   have K:Hid (Below wr wr E):=by rw[h];exact ak (aj wr) _
   have D:Hid (af E wr 96 (tnC y ⟨zA,zc⟩).toArray):=by rw[h];exact af.new _ _ _
   obtain⟨u,HY,Bu⟩:=aZ h hy C;unfold tnC at u D;obtain⟨l,P⟩:∃l,l=y.ops.length:=⟨_,rfl⟩
   dsimp only at u D;rw[<-P]at q u D;have G:=ae P;clear h hy C a q0 q1 q2 P;go_upto_region 5 with fail
   rw[<-u.Y];obtain⟨s,t⟩:=av (ai f.Y K.Y) (n.Y.ai K.Y);obtain⟨aT,-,jd⟩:=af.aM D.Y;clear u J x q K f n;go_wp2;go_loopw[3,17] (fun v i wx=>∃k:Nat,k<=l/\i=k/\∃(z:Value) (rows:List (Row 8)),v=z/\Hid (Below w w wx)/\Hid (aH wx w 66 8 eA z rows)/\Hid (rows.length=sL (V.take j)+k)) (fun _ i _=>l-(intOf i).toNat);case atStart=>exact⟨0,aV _,rfl,_,rows,rfl,s,t,p⟩
   case round =>
    clear s t p aT jd;obtain⟨k,hk,rfl,z,rows,rfl,f,n,p⟩:=hrel;by_cases O:k<l
    ·obtain⟨I,o,r,L,F,M,_,a⟩:=kF.at_ (by decide) Bu.Y (i:=k) (by rw[<-G.Y];exact O);obtain⟨B,d,rfl,-⟩:=M;have T:w.cell? (I.add (k*8))=_:=a 0 _ rfl;have U:=a 1 _ rfl;have W:=a 2 _ rfl;have X:=a 3 _ rfl;have Y:=a 4 _ rfl;have Z:=a 5 _ rfl;have p6:=a 6 _ rfl;have p7:=a 7 _ rfl;have J:=(Below.cell f.Y (bb T)).trans T;have x:=(Below.cell f.Y (bb U)).trans U;have q:=(Below.cell f.Y (bb W)).trans W;have c3:=(Below.cell f.Y (bb X)).trans X;have c4:=(Below.cell f.Y (bb Y)).trans Y;have c5:=(Below.cell f.Y (bb Z)).trans Z;have c6:=(Below.cell f.Y (bb p6)).trans p6;have c7:=(Below.cell f.Y (bb p7)).trans p7;subst L;rw[add_lit _ _ (by decide)]at x q c3 c4 c5 c6 c7;clear T U W X Y Z p6 p7 a F;obtain⟨A9,c9,rfl⟩:=n.Y.shape;obtain⟨R,hR⟩:∃R:Row 8,eA R=[.int .i64 o.th,.int .i64 o.seq,.int .i64 o.phase,.int .i64 o.aN.kind,.int .i64 o.aN.arg,.int .i64 o.aN.value,.bool o.aN.dflt,.slice B o.aN.cases.length d]:=⟨⟨_,rfl,List.all_eq_true.1 (by rfl)⟩,rfl⟩
     have lX:=ae (fun(wy:World)=>(show dI (wy.alloc (.cells #[.int .i64 o.th,.int .i64 o.seq,.int .i64 o.phase,.int .i64 o.aN.kind,.int .i64 o.aN.arg,.int .i64 o.aN.value,.bool o.aN.dflt,.slice B o.aN.cases.length d] 66)) eA (some ⟨wy,0,none⟩) [R]from by
      unfold dI;rw[List.flatMap_cons,List.flatMap_nil,List.append_nil,hR];exact Rd.lit wy _ _))
     clear hR;have rL:rows.length+1<=1000000/\l<=1000000:=by have:=By HY.Y;have:=Bz V (j+1);have:=HQ.Y;have:=p.Y;have:=G.Y;omega
     go_wp2_with(at_builtin;refine cG _ rfl _ _ 45 rfl w 66 8 80 (.agg #[.int .i64 0,.int .i64 0,.int .i64 0,.int .i64 0,.int .i64 0,.int .i64 0,.bool false,.slice none 0 0]) eA b9 fX underlying45 mH rfl (by decide) _ rows rfl ?c1 _ 1 1 [R] rfl rfl ?c3 ?c4 ?c5 ?c6 ?_)
     case c1=>exact(n.Y.alloc _).alloc _
     case c3=>simpa using lX.Y (wr.alloc _)
     case c4=>simp;omega
     case c5=>simp;omega
     case c6=>have:=f.Y.size;simp;omega
     rintro v' w' (H:Hid _) h2 -;have UH:=ae (((n.Y.alloc _).alloc _).bh ((f.Y.alloc f.Y.size _).alloc (by have:=f.Y.size;simp;omega) _) h2 (by have:=f.Y.size;simp;omega) (aS _));have g:Hid ((rows++[R]).length=sL (V.take j)+(k+1)):=by have:=p.Y;unfold Hid;simp;omega
     clear h2 J x q c3 c4 c5 c6 c7;go_wp2;go_roundw;case rel=>exact⟨k+1,by omega,by go_num,_,_,rfl,UH,H,g⟩
     case measure=>simp[intOf];omega
    ·have N:=By HY.Y;have g:Hid (rows.length=sL (V.take (j+1))):=by unfold Hid;have:=p.Y;have:=G.Y;omega
     clear N;go_wp2;go_roundw;case rel=>exact⟨j+1,by omega,by go_num,_,_,rfl,f,n,g⟩
     case measure=>simp[intOf];omega
  ·obtain⟨A9,c9,rfl⟩:=n.Y.shape;have g:Hid (rows.length=sL V):=by
    have h1:=p.Y;rw[List.take_of_length_le (by have:=HN.Y;omega)]at h1;exact h1
   go_wp2;go_ret;exact⟨A9,c9,by rw[g.Y];rfl,f.Y⟩
end
end Go.Proofs.YtjcjjiieblineaaGreat
