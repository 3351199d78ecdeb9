/- Walks and plain facts. No condition. -/
import Derived.Test.YtpfbfhfcbdbglaaGreatPt
namespace Go.Proofs.YtpfbfhfcbdbglaaGreat
open Go.RowKit Go.Proofs.Tryz Mo
set_option maxHeartbeats 8000000
set_option maxRecDepth 100000
set_option linter.all false
variable {w w' w1:World}{A:Option Addr}{k x0 g j:Nat}{x x':Mo.Mc}{c:Mo.dG}{P:Program}{ops:Array Oper}
abbrev OW0:OW:=⟨λ_=>False⟩
attribute [local instance] OW0
theorem IW:(prog.info? 75).map (λi=>(i.zero,i.size,i.bytes))=some (some (.agg zT.toArray),34,384):=by kernel_rfl
theorem IX:(prog.info? 114).map (λi=>(i.zero,i.size,i.bytes))=some (some (.agg #[false,false,false,oZ,oN,oZ,oZ]),7,56):=by kernel_rfl
theorem Vq{o:Oper}{a:Act}{K:Act->World->Prop}{Q:Exit->Act->World->Prop}{E:Prop}{v:Value}(b:o.guard=none)(d:(execOp a.eval o).run P w=.ok (.value v) w')(h:K (a.put o.dst v) w'):if Region.wanted o (yielded ops a.tmps)=true then Oper.wp P o a w K Q else E:=by rw[ay (by simp[Region.wanted,b])];simp only[Oper.wp,d,Oper.upon];exact h
section
variable{n q:Nat}{s:Sx}
theorem MS.ads(H:MS w x0 A n k q x s){d:Value}{y:Tk}(o:aD 75 34 PTk w1 0 (s.I w x0) d (x.T++[y]))(t:w.grownBy w1 s.T.ownBlock)(l:d.ownBlock=s.T.ownBlock\/d.ownBlock=some w.heap.size) :
 MS (w1.setCell ⟨x0,12,none⟩ d) x0 A n k q {x with T:=x.T++[y]} {s with T:=d}/\gV w (w1.setCell ⟨x0,12,none⟩ d) (s.U x0) (Sx.U {s with T:=d} x0):=by
 obtain⟨rows,D,B,E⟩:=H.T
 have z:Below 0 w w1:=aH.aW B (Below.refl 0 w) t (aZ _) (aR _)
 have u:∀b,b<w.heap.size->s.T.ownBlock≠some b->w1.heap[b]?=w.heap[b]?:=λb a hn=>t.block b a λe=>hn e.symm
 have l:∀b,d.ownBlock=some b->s.T.ownBlock=some b\/w.heap.size<=b:=λb a=>l.elim (λe=>.inl (e▸a)) λe=>.inr (by rw[a]at e;injection e with e;omega)
 have r:∀b,Sx.X {s with T:=d} x0 b->s.X x0 b\/w.heap.size<=b:=by
  rintro b (h|h|h)
  .exact .inl (.inl h)
  .exact(l b h).imp (λh=>.inr (.inl h)) id
  .exact .inl (.inr (.inr h))
 have m:ag w1 x0 86 _:=(u x0 H.blk.lt (λe=>H.b9.1 x0 e rfl)).trans H.blk
 have V:Mv w (w1.setCell ⟨x0,12,none⟩ d) x0 s {s with T:=d} (λb=>b=x0\/s.T.ownBlock=some b):=⟨z.setCell (p:=⟨x0,12,none⟩) (aZ _) _,λb i c=>(dE _ _ _ _ (λe=>c (.inl e))).trans (u b i λe=>c (.inr e)),λb h=>h.elim (λh=>.inl (.inl h)) λh=>.inl (.inr (.inl h)),λb h=>h.elim (λh=>(r b h).imp .inl id) λh=>.inl (.inr h)⟩
 have j:∀b,d.ownBlock=some b->b≠x0:=λb a=>(aD.mA o b a).elim λ_ h=>h.elim λ_ h=>fw h m af
 have f:∀{b:Nat} {e:TypeId} (_:∃C v,w.heap[b]?=some (.cells C e v)),e≠75->b≠x0->¬(b=x0\/s.T.ownBlock=some b):=λh i c e=>e.elim c λe=>h.elim λ_ h=>h.elim λ_ h=>(aD.mA H.T _ e).elim λ_ g=>g.elim λ_ g=>fw h g i rfl
 have F:=H.b9
 exact⟨{blk:=m.bp 12 d,mem:=V.CI H.mem λb a e=>H.mx b a (e.elim .inl λe=>.inr (.inl e)),T:=(o.move lv (λb h=>dE _ _ _ _ λe=>h.2.2.1 (.inl e)) λb a=>dE _ _ _ _ (j b a)).mono lv V.mono,P:=V.rows ny H.P λb a=>f (aD.mA H.P b a) af (F.2.1 b a),N:=V.rows fI H.N λb a=>f (aD.mA H.N b a) af (F.2.2.1 b a),V:=V.rows je H.V λb a=>f (aD.mA H.V b a) af (F.2.2.2.1 b a),S:=V.ints H.S λb a=>f (dY H.S b a) af (F.2.2.2.2.1 b a),M:=V.ints H.M λb a=>f (dY H.M b a) af (F.2.2.2.2.2 b a),mx:=λb a h=>(r b h).elim (H.mx b a) λh=>by have:=H.mem.lt a;omega,sm:=H.sm,cf:=V.cfg H.cf,hn:=H.hn,ol:=V.ol H.ol},V.fr⟩
theorem Nd(a:aV c=true):c.start.length<=8:=by
 unfold aV nI at a;simp only[eT]at a;have h:=a.2;split at h
 .simp only[eT,eI]at h;omega
 .split at h
  .simp only[eT,eI,iN]at h;omega
  .cases h
theorem gV.below{r:World}{U U':Nat->Prop}(a:Below w w w1)(F:gV w1 r U U')(l:∀b,U b->w.heap.size<=b):Below w w r/\∀b,U' b->w.heap.size<=b:=⟨⟨F.lS.os.trans a.os,F.lS.tape.trans a.tape,F.lS.output.trans a.output,bm a.size F.lS.size,λb h=>(F.same b (bW h a.size) λe=>by have:=l b e;omega).trans (a.block b h)⟩,λb h=>(F.own b h).elim (l b) λe=>bm a.size e⟩
def RG(a:World)(c:dG)(B:Option Addr)(n d g:Nat)(i:Value)(b:World):Prop:=∃p h e f,i=.pointer (some ⟨p,0,none⟩)/\ag b p 86 #[c.kind,c.threads,c.chans,c.cap,c.nodes,c.aP,c.aB,c.tags,c.bw,c.bn,.slice B n d,.pointer (some ⟨g,0,none⟩),oN,.slice (some ⟨h,0,none⟩) c.threads.toNat c.threads.toNat,oN,oN,.slice (some ⟨e,0,none⟩) c.threads.toNat c.threads.toNat,.slice (some ⟨f,0,none⟩) c.threads.toNat c.threads.toNat,oZ]/\a.heap.size<=p/\a.heap.size<=h/\a.heap.size<=e/\a.heap.size<=f/\e≠f/\ag b h 114 (madeCells (nK xE ⟨none,0⟩).toArray (c.threads.toNat*7))/\ag b e 3 (madeCells [Value.int .i64 0].toArray (c.threads.toNat*1))/\ag b f 3 (madeCells [Value.int .i64 0].toArray (c.threads.toNat*1))/\Ext a b
def NmE(c:dG)(n:Nat)(x:Mc)(w:World)(e:Ending)(w':World):Prop:=∃x0 A k s,e=.returned (.tuple #[.pointer (some ⟨x0,0,none⟩),oZ])/\MS w' x0 A n k 0 x s/\Below w w w'/\∀b,s.U x0 b->w.heap.size<=b
theorem BB{base:Nat}(m:Nat)(d:m<=100000)(h:ag w g 3 (madeCells [Value.int .i64 0].toArray (m*1)))(b:base<=g):aK w base 3 .i64 (.slice g m m) (List.replicate m 0):=by
 have a:=rL (f:=λz:Int=>[Value.int .i64 z]) (λ_=>rfl) af 0 m d h b;unfold aH at a;unfold aK;rw[jI]at a ⊢;have e:(List.replicate m (0:Int)).flatMap (λz=>[Value.int .i64 z])=(List.replicate m (0:Int)).map (Value.int .i64):=by rw[List.map_eq_flatMap]
 rw[e]at a;exact a
end
section
variable{n:Nat}
theorem RG.ms{a o:World}{B:Option Addr}{d:Nat}{u t s:Value}{p m f l:Nat}(L:aV c=true)(M:c.threads<=4)(I:n=c.start.length)(D:eD a 0 g u t s (qu c) [] [] false)(K:dL a (λb=>b<a.heap.size/\¬Mm.own ⟨g,u,t,s,[],[],false⟩ b) .i64 B c.start)(H:ag o p 86 #[c.kind,c.threads,c.chans,c.cap,c.nodes,c.aP,c.aB,c.tags,c.bw,c.bn,.slice B n d,.pointer g,oN,.slice m c.threads.toNat c.threads.toNat,oN,oN,.slice f c.threads.toNat c.threads.toNat,.slice l c.threads.toNat c.threads.toNat,oZ])(N:a.heap.size<=p)(O:a.heap.size<=m)(Q:a.heap.size<=f)(R:a.heap.size<=l)(J:f≠l)(E:ag o m 114 (madeCells (nK xE ⟨none,0⟩).toArray (c.threads.toNat*7)))(F:ag o f 3 (madeCells [Value.int .i64 0].toArray (c.threads.toNat*1)))(G:ag o l 3 (madeCells [Value.int .i64 0].toArray (c.threads.toNat*1)))(C:Ext a o) :
 MS o p B n d 0 {mU c with T:=[]} ⟨oN,.slice m c.threads.toNat c.threads.toNat,oN,oN,.slice f c.threads.toNat c.threads.toNat,.slice l c.threads.toNat c.threads.toNat,⟨g,u,t,s,[],[],false⟩⟩:=by
 have v:c.threads.toNat<=100000:=aa
 have x:∀b,Mm.own ⟨g,u,t,s,[],[],false⟩ b->b<a.heap.size:=λb e=>xz.lt (q:=0) ⟨D,aR _,aZ _⟩ e
 have w:∀b,Sx.X ⟨oN,.slice m c.threads.toNat c.threads.toNat,oN,oN,.slice f c.threads.toNat c.threads.toNat,.slice l c.threads.toNat c.threads.toNat,⟨g,u,t,s,[],[],false⟩⟩ p b->a.heap.size<=b:=by
  rintro b (h|h|h|h|h|h|h)
  .omega
  .cases h
  .injection h with h;have h:m=b:=h;omega
  .cases h
  .cases h
  .injection h with h;have h:f=b:=h;omega
  .injection h with h;have h:l=b:=h;omega
 refine⟨H,⟨D.ah C.Y,aR _,aZ _⟩,aD.nil _ _ _ _ _ _,?_,aD.nil _ _ _ _ _ _,aD.nil _ _ _ _ _ _,BB _ v F (aZ _),BB _ v G (aZ _),λb e h=>by have:=x b e;have:=w b h;omega,λb j k=>?_,?_,I,λ_ h=>h.elim⟩
 .refine⟨List.replicate c.threads.toNat ⟨nK xE ⟨none,0⟩,rfl,List.all_eq_true.1 (by rfl)⟩,by simp[mU],rL bY af ⟨nK xE ⟨none,0⟩,rfl,List.all_eq_true.1 (by rfl)⟩ _ v E (aZ _),λi r y z A=>?_⟩;rw[List.eq_of_mem_replicate (cH z),List.eq_of_mem_replicate (cH A)];exact⟨⟨none,0⟩,rfl,dL.nil _ _ _ _,aR _⟩
 .injection j with j;injection k with k;have j:f=b:=j;have k:l=b:=k;omega
 .exact(K.same λb e=>C.Y.block b e.1).mono λb e=>⟨bW e.1 C.Y.size,e.2,λh=>by have:=w b h;have:=e.1;omega,λh=>h⟩
theorem RH(hc:aV c=true)(T:c.kind=3)(ko:c.threads<=4)(kF:bG c<=1048576)(hn:n=c.start.length)(hr:bD w .i64 A c.start):Calls prog 37 #[j8 c A n k] w (NmE c n (mU c) w):=by
 have hp:=Mo.aO hc;have ND:n<=2000000:=by
  have:=(Nd hc)
  omega
 obtain⟨C,mn⟩:=aw (w.alloc (dB c A n k));have br:Hid (Below w w C):=by rw[mn];exact aj (ai w) _
 have tu:Hid (ag C w.heap.size 24 #[c.kind,c.threads,c.chans,c.cap,c.nodes,c.aP,c.aB,c.tags,c.bw,c.bn,.slice A n k]):=by rw[mn];exact ag.new _ _ _
 obtain⟨R,HR,HN,HC,Sn,a7⟩:=cS (M5 (w:=C) (k:=k) hc T kF hn (hr.below br)) hr hn hc ko kF;have b3:1<=c.threads:=hp.1.1;have a3:¬64<c.threads:=aa;have a4:¬c.threads<0:=aa;have lW:=ae mn;unfold j8 at R ⊢;obtain⟨l,-,o⟩:=ag.aF tu;have mq:=ae T;clear mn hr hn hc hp kF T;go_enter func37,ntmps37;go_upto_region 1 with fail
 rw[<-lW.Y];clear lW;go_wp2_with fail;refine R.mono ?_;rintro e w2 ⟨g,vl,vg,vc,rfl,(uO:Hid _),a⟩;obtain⟨bB,jm⟩:=av (ah br a) (tu.ah a);have iF:=ae (mG w2 A k c.start HN ND (HR.below bB));have tz:Hid (w.heap.size<C.heap.size):=tu.lt;have CU:Hid (C.heap.size<=w2.heap.size):=a.size;clear a l o R tu;obtain⟨l,-,o⟩:=ag.aF jm;go_wp2_with fail;refine iF.mono ?_;rintro e M ⟨B,d,rfl,hd,(j5:Hid _),a⟩;obtain⟨bU,np,qW⟩:=aS (ah bB a) (jm.ah a) (uO.ah a);have UJ:Hid (w2.heap.size<=M.heap.size):=a.size;clear a hd l o iF jm;obtain⟨l,Sp,o⟩:=ag.aF np;go_upto_region 5 with fail
 have m:∀b,C.heap.size<=b->(M.setCell ⟨w.heap.size,10,none⟩ (.slice B n d)).heap[b]?=M.heap[b]?:=λb a=>dE _ _ _ _ (show b≠w.heap.size by have:=tz.Y;omega);obtain⟨rI,fh⟩:=av (np.bp 10 (.slice B n d)) (bU.setCell (p:=⟨w.heap.size,10,none⟩) (aR _) (.slice B n d));have U:∀b,Mm.own ⟨g,vl,vg,vc,[],[],false⟩ b->C.heap.size<=b/\b<w2.heap.size:=λb a=>⟨by
  rcases a with rfl|a|a|a
  .exact uO.low
  .exact(bk uO.words a).1
  .exact(bk uO.log a).1
  .exact(bk uO.counts a).1,xz.lt (q:=0) ⟨uO.zero,aR _,aZ _⟩ a⟩
 have Kc:=ae (xz.same (q:=0) (w':=M.setCell ⟨w.heap.size,10,none⟩ (.slice B n d)) ⟨qW.zero,aR _,aZ _⟩ λb a=>m b (U b a).1).mv;obtain⟨j7,O⟩:=av (iL j5 (w':=M.setCell ⟨w.heap.size,10,none⟩ (.slice B n d)) λb a=>m b (by have:=(bk j5 a).1;have:=CU.Y;omega)) U;have b8:(M.setCell ⟨w.heap.size,10,none⟩ (.slice B n d)).heap.size=M.heap.size:=aA;have WH:Hid (w2.heap.size<=(M.setCell ⟨w.heap.size,10,none⟩ (.slice B n d)).heap.size):=by rw[b8];exact UJ.Y
 clear m U b8 l Sp o np bU qW j5;generalize M.setCell ⟨w.heap.size,10,none⟩ (.slice B n d)=w4 at *;have a6:Hid (dL w4 (λb=>b<w4.heap.size/\¬Mm.own ⟨g,vl,vg,vc,[],[],false⟩ b) .i64 B c.start):=⟨(aK.pw j7).2,λad Y h2=>by
  subst Y
  have S:=bk j7 (g:=ad.block) rfl
  exact⟨S.2,λe=>by have:=(O _ e).2;have:=S.1;omega⟩⟩
 have Z6:Hid (ag w4 w.heap.size 24 #[c.kind,c.threads,c.chans,c.cap,c.nodes,c.aP,c.aB,c.tags,c.bw,c.bn,.slice B n d]):=rI.Y;go_cut[6] (λs6 f=>RG w4 c B n d g s6 f);case first =>
  have cI:=λf (V:Ext w4 f) i=>ag.cell (Z6.ah V.Y) i;have m1:=λf=>run_mk f 84 114 (z:=.agg #[false,false,false,oZ,oN,oZ,oZ]) (sz:=7) (by_:=56) rfl IX c.threads aa aa af;have m2:=λf=>run_mk f 22 3 (z:=oZ) (sz:=1) (by_:=8) rfl dI c.threads aa aa af;have e1:(Value.agg #[false,false,false,oZ,oN,oZ,oZ]).cells=(nK xE ⟨none,0⟩).toArray:=rfl;have e2:(Value.int .i64 0).cells=[Value.int .i64 0].toArray:=rfl;rw[e1]at m1;rw[e2]at m2;clear e1 e2;generalize vV:madeCells (nK xE ⟨none,0⟩).toArray (c.threads.toNat*7)=M1 at m1;generalize uO:madeCells [Value.int .i64 0].toArray (c.threads.toNat*1)=M2 at m2;obtain⟨vV,uO⟩:=av vV uO;go_region_held3(Ext w4) (with_reducible(repeat(first|assumption|exact Ext.start _|exact Ext.iD _ _|exact Ext.vo _ _ _|exact Ext.Hk _ _ _ _|exact Ext.Qx _ _ _ _ _|refine Ext.alloc ?_ _|refine Ext.set ?_ (by simp;try omega)))) (fail);all_goals
   go_wp2;go_meet;apply Exists.intro;apply Exists.intro;apply Exists.intro;apply Exists.intro;refine⟨rfl,?_,?_⟩
   .repeat(with_reducible first|(refine ag.newAt _ _ _ ?_;simp;done)|refine ag.dr ?_|refine ag.alloc ?_ _)
   refine⟨aa,aa,aa,aa,aa,?_,?_,?_,aN⟩
   .rw[vV.Y];repeat(with_reducible first|(refine ag.newAt _ _ _ ?_;simp;done)|refine ag.dr ?_|refine ag.alloc ?_ _)
   .exact XL
   .exact XL
 case rest =>
  obtain⟨p,g1,g2,g3,rfl,hP,l0,l1,l2,l3,m,Y,h2,S,hX⟩:=hcut;have BA:=ae (RG.ms HC Sn HN Kc a6 hP l0 l1 l2 l3 m Y h2 S hX);have HU:Hid (∀b,Sx.U ⟨oN,.slice g1 c.threads.toNat c.threads.toNat,oN,oN,.slice g2 c.threads.toNat c.threads.toNat,.slice g3 c.threads.toNat c.threads.toNat,⟨g,vl,vg,vc,[],[],false⟩⟩ p b->C.heap.size<=b):=by
   have cR:=bm CU WH;rintro b (h|h)
   .rcases h with h|h|h|h|h|h|h
    .omega
    .cases h
    .injection h with h;have h:g1=b:=h;omega
    .cases h
    .cases h
    .injection h with h;have h:g2=b:=h;omega
    .injection h with h;have h:g3=b:=h;omega
   .exact(O b h).1
  obtain⟨Ij,iq⟩:=av (Z6.ah hX.Y) (ah fh hX.Y);clear hP l0 l1 l2 l3 m Y h2 S hX Z6 fh Kc a6 j7 rI O;obtain⟨l,-,o⟩:=ag.aF Ij;obtain⟨th,IY⟩:∃th:Nat,c.threads=th:=⟨c.threads.toNat,aa⟩
  rw[IY]at l;have RI:=ae IY;clear IY;have bz:Hid (∃s,MS wc p B n d 0 {mU c with T:=(mU c).T.take 0} s/\∀b,s.U p b->C.heap.size<=b):=⟨_,BA,HU⟩
  clear BA HU;have cO:th<=4:=by have:=RI.Y;omega
  go_wp2;go_loopw[7,35] (λ_ i wr=>∃j:Nat,j<=th/\i=j/\Hid (Below w w wr)/\Hid (ag wr w.heap.size 24 #[c.kind,c.threads,c.chans,c.cap,c.nodes,c.aP,c.aB,c.tags,c.bw,c.bn,.slice B n d])/\Hid (∃s,MS wr p B n d 0 {mU c with T:=(mU c).T.take j} s/\∀b,s.U p b->C.heap.size<=b)) (λ_ i _=>th-(intOf i).toNat);case atStart=>exact⟨0,aZ _,rfl,iq,Ij,bz⟩
  case round =>
   clear iq Ij bz l o;obtain⟨j,hj,rfl,HB,N,HR⟩:=hrel;by_cases c0:j<th
   .obtain⟨s,F,hU⟩:=HR.Y;have b7:CfS c n (j:Int):=⟨HC,HN,ko,a7,aa,by rw[RI.Y];omega,mq⟩
    have Q:=ae (λf (V:Ext wr f)=>(Rj (w:=f) (k:=d) b7 (F.cf.1.below V.Y)).mono (λe w' h=>(by obtain⟨z,Y,h2,S⟩:=h;exact⟨_,z,Y,rfl,h2,S⟩:∃(E:List Value) (z:Sh),e=.returned (.agg E.toArray)/\E=jA (xD c j) z/\oh w' (λb=>f.heap.size<=b/\b<w'.heap.size) (xD c j) z/\Below f f w')));unfold j8 at Q;obtain⟨VT,dT,X⟩:=aD.shape F.T;obtain⟨xs,sQ⟩:=aw ((mU c).T.take j);have cz:Hid (xs++[xD c j]=(mU c).T.take (j+1)):=by unfold Hid;rw[sQ,List.take_add_one];congr 1;unfold mU;have:=RI.Y;simp[show j<c.threads.toNat by omega]
    have yO:xs.length<=4:=by rw[sQ,fK];have:=RI.Y;omega
    rw[<-sQ]at F X;dsimp only at X;generalize xs.length=ln at X;have aT:=λ(f:World) (V:f.heap[p]?=wr.heap[p]?/\f.heap[w.heap.size]?=wr.heap[w.heap.size]?) i=>ag.cell (ag.tA F.blk V.1) i;unfold om at aT;rw[X]at aT;have l:=λ(f:World) (V:f.heap[p]?=wr.heap[p]?/\f.heap[w.heap.size]?=wr.heap[w.heap.size]?) i=>ag.cell (ag.tA N V.2) i;obtain⟨r,t,H,a8⟩:=bh F hU X yO;have L:=F.blk.lt;have Cu:=N.lt;clear F hU b7 X sQ HR yO;go_upto_region 9 with fail
    refine gm 10 (λf:World=>f.heap[p]?=wr.heap[p]?/\f.heap[w.heap.size]?=wr.heap[w.heap.size]?) (by kernel_rfl) ⟨rfl,rfl⟩ (λhHeld=>?_);refine jg 0 hHeld ?_;refine jg 1 hHeld ?_;refine jg 2 hHeld ?_;refine jg 3 hHeld ?_;refine jg 4 hHeld ?_;refine jg 5 hHeld ?_;refine jg 6 hHeld ?_;(try simp only[aL]);refine vA 7 (λK u=>?_);go_simp;go_fit (Q _ (Ext.start _));rintro e D ⟨E,z,rfl,(kM:Hid _),hz,cD⟩;obtain⟨HZ,G⟩:=av hz cD;clear hz cD Q;go_wp2_with fail;have b5:D.heap[p]?=wr.heap[p]?/\D.heap[w.heap.size]?=wr.heap[w.heap.size]?:=⟨G.block p L,G.block _ Cu⟩
    refine u.Y _ _ b5 (λhHeld=>?_);clear u K;(try simp only[aL]);refine vA 8 (λK u=>?_);refine Vq (v:=.slice D.heap.size 1 1) (w':=D.alloc (.cells E.toArray 75)) rfl (by rw[kM.Y];kernel_rfl) ?_;have x:Below wr wr (D.alloc (.cells E.toArray 75)):=ah (ai wr).drew (aj G _);have qa:=ae (Rd.lit D E 75);have ct:oh (D.alloc (.cells E.toArray 75)) (s.I (D.alloc (.cells E.toArray 75)) p) (xD c j) z:=HZ.move (λb a=>(aj (ai D) _).block b a.2) λb a=>⟨bW a.2 (aj (ai D) _).size,λe=>by have:=r.ul (.inr e);have h:wr.heap.size<=b:=a.1;omega,λe=>by have:=r.ul (.inl e);have h:wr.heap.size<=b:=a.1;omega,λe=>by have:=(r.ol b e).1;have h:wr.heap.size<=b:=a.1;omega⟩
    have P:=ae (r.more x);refine u.Y _ _ ⟨x.block p L,x.block _ Cu⟩ (λhHeld=>?_);obtain⟨Z,cF⟩:=av x ct;clear u K x ct HZ G b5;generalize D.alloc (.cells E.toArray 75)=W at *;have J:=P.T;dsimp only at J;rw[H.Y]at J;have cy:=ae J;clear J;(try simp only[aL]);refine vA 9 (λK u=>?_);refine oV rfl _ _ 83 rfl 75 34 384 _ lv underlying83 IW rfl af _ xs rfl cy (λb h=>⟨h.1,λe=>h.2.2.1 (.inr (.inl (H.Y▸e)))⟩) _ _ E (by rw[kM.Y];rfl) (by rw[kM.Y];exact List.all_eq_true.1 (by rfl)) rfl qa (y:=xD c j) ⟨z,kM,cF⟩ (by have:=a8.Y;omega) (by have:=a8.Y;omega) ?_;intro v5 w8 lh pL dJ;rw[<-H.Y]at pL dJ;have I:w8.heap[p]?=wr.heap[p]?/\w8.heap[w.heap.size]?=wr.heap[w.heap.size]?:=⟨(pL.block p (bW L Z.size) λe=>P.b9.1 p e.symm rfl).trans (Z.block p L),(pL.block _ (bW Cu Z.size) λe=>by have:=t.Y _ (.inl (.inr (.inl e.symm)));have:=tz.Y;omega).trans (Z.block _ Cu)⟩
    refine u.Y _ _ I (λhHeld=>?_);clear u K;(try simp only[aL]);obtain⟨qm,Fw,cG⟩:=ag.aF (ag.tA r.blk I.1);obtain⟨aq,cv⟩:=av (MS.ads P lh pL dJ) (ag.tA N I.2);have m:w.heap.size≠p:=λe=>by have:=t.Y p (.inl (.inl rfl));have:=tz.Y;omega
    have Qr:=ae m;unfold om at qm;dsimp only at qm;rw[H.Y]at qm;obtain⟨B5,d5,vh⟩:=aD.shape lh;generalize(xs++[xD c j]).length=l5 at vh;subst vh;clear lh pL dJ I hHeld aT l m;refine wpAnyS.late ?_;have hHeld:(λ_:World=>True) w8:=trivial;refine aU 10 hHeld ?_;refine aU 11 hHeld ?_;(try simp only[aL]);refine eQ 12 (λK u=>?_);go_simp;refine u.Y _ _ trivial (λhHeld=>?_);clear u K;(try simp only[aL]);refine wpAnyH_done (by kernel_rfl) ?_ _;clear qm Fw cG hHeld;have bE:=aq.1;have QV:=aq.2;have b6:=(gV.below (ah HB Z) QV (λb a=>bm (by have:=tz.Y;omega) (t b a))).1;have cw:Hid (∃s,MS (w8.setCell ⟨p,12,none⟩ (.slice B5 l5 d5)) p B n d 0 {mU c with T:=(mU c).T.take (j+1)} s/\∀b,s.U p b->C.heap.size<=b):=by rw[<-cz.Y];exact⟨_,bE,λb a=>(QV.own b a).elim (t b) λe=>by have:=t.Y p (.inl (.inl rfl));have:=Z.size;omega⟩
    obtain⟨xo,Ao⟩:=av b6 (cv.b9 (p:=⟨p,12,none⟩) Qr (.slice B5 l5 d5));clear bE QV b6;generalize w8.setCell ⟨p,12,none⟩ (.slice B5 l5 d5)=w9 at *;go_wp2;go_roundw;case rel=>exact⟨j+1,aa,by go_num,xo,Ao,cw⟩
    case measure=>simp[intOf];omega
   .go_wp2;go_ret2;obtain⟨s,F,hU⟩:=HR.Y;have hT:(mU c).T.take j=(mU c).T:=List.take_of_length_le (by
     have:=RI.Y;unfold mU;simp;omega)
    rw[hT]at F;exact⟨p,B,d,s,rfl,F,HB,λb a=>bm (Nat.le_of_lt tz) (hU b a)⟩
end
variable[OW]
def idF(x:Mc)(t:Nat):Bool:=(cC x t).pc==0 && (gy (iW x t)).isNone
theorem Fj{rest:List Oper}{b:Oper}{a:Act}{Q:Exit->Act->World->Prop}(d:b.guard=none)(v:Value)(e:World)(f:(execOp a.eval b).run P w=.ok (.value v) e)(h:wpList P ops Q rest (a.put b.dst v) e):wpList P ops Q (b::rest) a w:=wpList_plain d λ_ c=>by unfold Oper.wp;rw[f];exact c _ _ h
theorem idS{f:Nat->Bool}(a:(List.range j).all f=true)(b:f j=true):(List.range (j+1)).all f=true:=by rw[List.range_succ,List.all_append,a];simp[b]
theorem idN{f:Nat->Bool}{m:Nat}(h:j<m)(a:f j=false):(List.range m).all f=false:=List.all_eq_false.2 ⟨j,List.mem_range.2 h,by rw[a];decide⟩
section
variable{n q:Nat}{s:Sx}
theorem Vr(H:MS w x0 A n k q x s)(L:x.T.length<=1000000)(Z:x.P.length=x.T.length)(hp:∀t,(iW x t).outs.length<=8):Calls prog 20 #[.pointer x0] w λe w'=>e=.returned (NM x)/\Below w w w':=by
 have HM:=ae (rR H);obtain⟨m,F⟩:=aw x.T.length;have Ky:m<=1000000:=by rw[F];exact L
 have X:Hid (NM x=(List.range m).all (idF x)):=by rw[F];rfl
 obtain⟨gT,dT,W⟩:=aD.shape H.T;obtain⟨gP,dP,D⟩:=aD.shape H.P;obtain⟨b,-,U⟩:=ag.aF H.blk;unfold om at b;rw[W,D, <-F]at b;obtain⟨HH,Cn,Y,R,r,p⟩:=cS H Z hp F W D;obtain⟨mp,C⟩:=aw x.P.length;rw[<-C]at b;have J:Hid (mp=m):=by unfold Hid;rw[C,Z,F]
 clear H Z hp F W D C L;go_enter func20,ntmps20;go_wp2_with fail;refine HM.mono ?_;rintro e w' ⟨rfl,rfl⟩;go_wp2;go_loopw[15] (λi wr=>∃j:Nat,j<=m/\i=j/\Hid (Below w w wr)/\Hid ((List.range j).all (idF x)=true)) (λi _=>m-(intOf i).toNat);case atStart=>exact⟨0,aZ _,rfl,ai w,rfl⟩
 case round =>
  clear b U;obtain⟨j,hj,rfl,Q,HA⟩:=hrel;have hM:=HH.more Q;obtain⟨b,-,U⟩:=ag.aF hM.blk;unfold om at b;rw[r.Y,p.Y]at b;by_cases a:j<m
  .obtain⟨y,bz,z,S,b5,_,_,hc,_⟩:=hM.task (t:=j) (by rw[<-R.Y];exact a);obtain⟨aq,a8,zp,N,bE,_,M,iX,B,_⟩:=hM.IG (t:=j) (by rw[Cn.Y, <-R.Y];exact a);have u:=r.symm.trans S;injection u with u e2 e3
   subst u e3;have u:=p.symm.trans N;injection u with u e2 e3
   subst u e3;obtain⟨T,K⟩:=aw (jA (cC x j) z);have HT:=ae K;have P:Hid (T.length=34):=by rw[K];rfl
   have SC:Hid (wr.rangeAt y (j*34) T):=λi v S=>hc i v (K▸S);have b6:j<mp:=by rw[J.Y];exact a
   have V:=ae (λI (hb:Below wr wr I)=>sS I (iW x j) zp (M.1.below hb) (Y j) iX);obtain⟨pm,c⟩:=aw (iW x j);have aC:∀(I:World),Below wr wr I->∀i v,(nK pm zp)[i]?=some v->I.cell? ⟨aq,j*7+i,none⟩=some v:=λI hb i v h=>(Below.cell hb (bc (B i v (c▸h)))).trans (B i v (c▸h));have E:Hid (idF x j=((cC x j).pc==0 && (gy pm).isNone)):=by unfold Hid idF;rw[c]
   rw[<-c]at V;obtain⟨O,cB⟩:=aw ((cC x j).pc);rw[<-cB]at E;have CD:Hid (T[0]?=some (.int .i64 O)):=by unfold Hid;rw[K,cB];rfl
   generalize gy pm=o at E V;have g:=ae aC;clear K hc B c cB M iX S N aC;go_upto_region 5 with fail
   refine wp_region_lit ?_;refine fA rfl j rfl ?_;refine fA rfl (.pointer (some ⟨y,j*34,none⟩)) (by simp[execOp,go_sem,a]) ?_;refine wpList_load_mid rfl 75 _ rfl y (j*34) rfl T _ SC underlying75 rfl (by rw[P.Y];rfl) ?_;refine Fj rfl (.pointer wr.heap.size) (wr.alloc (.cells zT.toArray 75)) (by kernel_rfl) ?_;refine fA rfl j rfl ?_;have hZ:=ag.new wr 75 zT.toArray;refine wpList_store_mid rfl 75 _ _ rfl wr 0 T.toArray rfl rfl (ag.there hZ 0 _ (by rw[kC,P.Y];decide)) (by rw[kC,P.Y];rfl) (by rw[HT.Y];exact gR _ _) ?_;rw[jQ];have hQ:=aY (vs:=T) (cs:=zT) hZ (by rw[P.Y];rfl);have hB:Below wr wr (ax (wr.alloc (.cells zT.toArray 75)) wr 0 T):=az (aR _) _ _ _ (aj (ai wr) _);generalize ax (wr.alloc (.cells zT.toArray 75)) wr 0 T=l at *;obtain⟨HQ,d⟩:=av hQ hB;clear hZ hQ hB;have Mp:=HH.more (ah Q d);obtain⟨b,-,U⟩:=ag.aF Mp.blk;unfold om at b;rw[r.Y,p.Y]at b;have c0:=g.Y l d 0 _ rfl;rw[Nat.add_zero]at c0;have c1:=g.Y l d 1 _ rfl;have c2:=g.Y l d 2 _ rfl;have c3:=g.Y l d 3 _ rfl;have c4:=g.Y l d 4 _ rfl;have c5:=g.Y l d 5 _ rfl;have c6:=g.Y l d 6 _ rfl;have Z7:=ae (V l d);unfold nK at Z7;rw[<-R.Y, <-show mp=x.P.length by rw[J.Y,Cn.Y];exact R.Y]at b;clear Mp V g;go_wp2_with fail;refine Z7.mono ?_;rintro e w4 ⟨zr,rfl,-,f⟩;have qi:w4.cell? ⟨wr,0,none⟩=some (.int .i64 O):=((HQ.ah f).cell 0).trans (by have:=CD.Y;simpa using this);have a6:wr.heap.size<w4.heap.size:=bW HQ.lt f.size;obtain⟨fh,a7⟩:=av (ah Q (ah d f)) a6;unfold nS;clear c0 c1 c2 c3 c4 c5 c6 b U f Z7;by_cases G:O=0
   .rcases o with _|q
    .have HZ:=ae G;subst G;go_wp2;go_roundw;case rel=>exact⟨j+1,aa,by go_num,aj fh _,idS HA E⟩
     case measure=>simp[intOf];omega
    .subst G;go_wp2;go_ret;refine⟨?_,aj fh _⟩;rw[X.Y,idN a E.Y];rfl
   .have d1:(O !=0)=true:=by simpa using G
    have d2:(O==0)=false:=by simpa using G
    rw[d2,Bool.false_and]at E;clear G;go_wp2;go_ret;refine⟨?_,aj fh _⟩;rw[X.Y,idN a E.Y];rfl
  .go_wp2;go_ret;refine⟨?_,Q⟩;rw[X.Y,show m=j by omega,HA.Y];rfl
end
variable[OW]
structure CpB (x:Mo.Tk):Prop where
 q:x.aQ.cases.length<=1000000
 b:x.buf.length<=2000000
 n:x.next.length<=2000000
 a:x.args.length<=2000000
 s:x.seen.length<=2000000
 f:x.found.length<=1000000
 fq:∀o∈x.found,o.aQ.cases.length<=1000000
 fr:x.aJ.free.length<=100000
 ol:x.aJ.old.length<=100000
theorem Fk(x:Tk)(s:Sh){S:Nat->Prop}(hS:∀b,S b->b<w.heap.size)(h:oh w S x s)(B:CpB x):Calls prog 46 #[.agg (jA x s).toArray] w λe w'=>∃s',e=.returned (.agg (jA {x with aJ:=gX x.aJ} s').toArray)/\Below w w w':=by
 obtain⟨E,u⟩:=av (λ(a:World) (c:Below w w a)=>(h.move (λb F=>c.block b (hS b F)) λb F=>bW (hS b F) c.size:oh a (·<a.heap.size) x s)) B;obtain⟨T,hT⟩:=aw (jA x s);rw[<-hT];obtain⟨w2,o⟩:=aw ((w.alloc (.cells T.toArray 75)).alloc (.cells zT.toArray 75));have bB:Hid (Below w w w2):=by rw[o];exact aj (aj (ai w) _) _
 have za:Hid (ag w2 w 75 (jA x s).toArray):=by rw[o,hT];exact(ag.new _ _ _).alloc _
 have V:Hid (ag w2 (w.heap.size+1) 75 zT.toArray):=by rw[o];exact ag.newAt _ _ _ aA
 unfold zT at o;obtain⟨tv,HT,rj⟩:=aS o hT (λa (c:Below w w a)=>jY a x.aQ s.cs u.q (E a c).cs.1);unfold nS at rj;clear o hT h B hS;go_enter func46,ntmps46;go_upto_region 1 with fail
 rw[<-tv.Y];clear tv HT;obtain⟨g,m,n⟩:=ag.aF za;unfold jA at g;go_wp2_with fail;go_fit (rj _ bB);rintro e w3 ⟨⟨J,L⟩,rfl,-,y⟩;obtain⟨bU,vZ,Nu⟩:=aS (ah bB y) (za.ah y) (V.ah y);clear g m n y rj za V bB;obtain⟨g,m,n⟩:=ag.aF vZ;unfold jA at g;go_upto_region 2 with fail
 obtain⟨i,p⟩:=aw (ax w3 w 2 [x.aQ.kind,x.aQ.arg,x.aQ.value,x.aQ.dflt,.slice J x.aQ.cases.length L]);have l:Hid (ag i w 75 (jA x {s with cs:=⟨J,L⟩}).toArray):=by rw[p];exact dW _ _ 2 _ vZ
 have G:Hid (Below w w i):=by rw[p];exact az (aR _) _ _ _ bU
 have WH:Hid (ag i (w.heap.size+1) 75 zT.toArray):=by rw[p];exact aX Nu aa _ _
 change Code.wp _ _ _ _ (ax w3 w 2 [x.aQ.kind,x.aQ.arg,x.aQ.value,x.aQ.dflt,.slice J x.aQ.cases.length L]);rw[<-p];clear p g m n vZ bU Nu;obtain⟨R,tu,jm,np⟩:=bh (λa (k:Ext i a)=>mH a s.bf.A s.bf.c x.buf rfl u.b (E a (ah G k.Y)).bf.1) (λa (k:Ext i a)=>mH a s.nx.A s.nx.c x.next rfl u.n (E a (ah G k.Y)).nx.1) (λa (k:Ext i a)=>mH a s.ar.A s.ar.c x.args rfl u.a (E a (ah G k.Y)).ar.1) (λa (k:Ext i a)=>mH a s.se.A s.se.c x.seen rfl u.s (E a (ah G k.Y)).se.1);have h0:∀a,Ext i a->a.cell? ⟨w,16,none⟩=some (.slice s.bf.A x.buf.length s.bf.c):=λa k=>(l.ah k.Y).cell 16;have h1:∀a,Ext i a->a.cell? ⟨w,17,none⟩=some (.slice s.nx.A x.next.length s.nx.c):=λa k=>(l.ah k.Y).cell 17;have h2:∀a,Ext i a->a.cell? ⟨w,19,none⟩=some (.slice s.ar.A x.args.length s.ar.c):=λa k=>(l.ah k.Y).cell 19;have h3:∀a,Ext i a->a.cell? ⟨w,21,none⟩=some (.slice s.se.A x.seen.length s.se.c):=λa k=>(l.ah k.Y).cell 21;refine gm 13 (Ext i) (by kernel_rfl) (Ext.start _) (λd=>?_);refine jg 0 d ?_;refine jg 1 d ?_;refine jg 3 d ?_;refine jg 4 d ?_;refine jg 6 d ?_;refine jg 7 d ?_;refine jg 9 d ?_;refine jg 10 d ?_;clear h0 h1 h2 h3;(try simp only[aL]);refine vA 2 (λK f=>?_);go_simp;go_fit (R _ aN);rintro e a7 ⟨M,d0,rfl,-,-,c⟩;have Sv:Ext i a7:=Ext.to aN c;clear c;go_wp2_with fail;refine f.Y _ _ Sv (λd=>?_);clear f K R;(try simp only[aL]);refine jg 12 d ?_;(try simp only[aL]);refine vA 5 (λK f=>?_);go_simp;go_fit (tu _ aN);rintro e a8 ⟨N,d1,rfl,-,-,c⟩;have gF:Ext i a8:=Ext.to aN c;clear c;go_wp2_with fail;refine f.Y _ _ gF (λd=>?_);clear f K tu;(try simp only[aL]);refine vA 8 (λK f=>?_);go_simp;go_fit (jm _ aN);rintro e bz ⟨O,d2,rfl,-,-,c⟩;have xx:Ext i bz:=Ext.to aN c;clear c;go_wp2_with fail;refine f.Y _ _ xx (λd=>?_);clear f K jm;(try simp only[aL]);refine vA 11 (λK f=>?_);go_simp;go_fit (np _ aN);rintro e z ⟨Q,d3,rfl,-,-,c⟩;have xq:Ext i z:=Ext.to aN c;clear c;go_wp2_with fail;refine f.Y _ _ xq (λd=>?_);clear f K np;(try simp only[aL]);obtain⟨A,iq,W⟩:=aS (l.ah xq.Y) (ah G xq.Y) (WH.ah xq.Y);clear d Sv gF xx xq l G WH;obtain⟨g,m,n⟩:=ag.aF A;unfold jA at g;refine wpAnyS.late ?_;have d:(λ_:World=>True) z:=trivial;refine eQ 13 (λK f=>?_);go_simp;refine f.Y _ _ trivial (λd=>?_);clear f K;(try simp only[aL]);refine aU 14 d ?_;(try simp only[aL]);refine eQ 15 (λK f=>?_);go_simp;refine f.Y _ _ trivial (λd=>?_);clear f K;(try simp only[aL]);refine aU 16 d ?_;(try simp only[aL]);refine eQ 17 (λK f=>?_);go_simp;refine f.Y _ _ trivial (λd=>?_);clear f K;(try simp only[aL]);refine aU 18 d ?_;(try simp only[aL]);refine eQ 19 (λK f=>?_);go_simp;refine f.Y _ _ trivial (λd=>?_);clear f K;(try simp only[aL]);refine wpAnyH_done (by kernel_rfl) ?_ _;clear g m n d;obtain⟨H,q⟩:=aw (ax (ax (ax (ax z w 16 [.slice M x.buf.length d0]) w 17 [.slice N x.next.length d1]) w 19 [.slice O x.args.length d2]) w 21 [.slice Q x.seen.length d3]);have PN:Hid (ag H w 75 (jA x ⟨⟨J,L⟩,⟨M,d0⟩,⟨N,d1⟩,⟨O,d2⟩,s.fo,⟨Q,d3⟩,s.fr,s.ol⟩).toArray):=by rw[q];exact dW _ _ 21 _ (dW _ _ 19 _ (dW _ _ 17 _ (dW _ _ 16 _ A)))
 have nJ:Hid (Below w w H):=by rw[q];exact az (aR _) _ _ _ (az (aR _) _ _ _ (az (aR _) _ _ _ (az (aR _) _ _ _ iq)))
 have X:Hid (ag H (w.heap.size+1) 75 zT.toArray):=by rw[q];exact aX (aX (aX (aX W aa _ _) aa _ _) aa _ _) aa _ _
 change Exit.then _ _ _ _ (ax (ax (ax (ax z w 16 [.slice M x.buf.length d0]) w 17 [.slice N x.next.length d1]) w 19 [.slice O x.args.length d2]) w 21 [.slice Q x.seen.length d3]);rw[<-q];clear q A iq W;have Bu:=ae (J8 H s.fo.A x.found.length s.fo.c x.found rfl u.f u.fq (S:=(·<H.heap.size)) (λ_ h=>h) (E H nJ).fo.1);obtain⟨g,m,n⟩:=ag.aF PN;unfold jA at g;go_wp2_with fail;refine Bu.mono ?_;rintro e w7 ⟨B4,d4,rfl,-,c⟩;obtain⟨zE,Si,Y⟩:=aS (ah nJ c) (PN.ah c) (X.ah c);clear c g m n Bu PN nJ X;obtain⟨g,m,n⟩:=ag.aF Si;unfold jA at g;go_upto_region 4 with fail
 obtain⟨w8,r⟩:=aw (ax w7 w 20 [.slice B4 x.found.length d4]);have C:Hid (ag w8 w 75 (jA x ⟨⟨J,L⟩,⟨M,d0⟩,⟨N,d1⟩,⟨O,d2⟩,⟨B4,d4⟩,⟨Q,d3⟩,s.fr,s.ol⟩).toArray):=by rw[r];exact dW _ _ 20 _ Si
 have GI:Hid (Below w w w8):=by rw[r];exact az (aR _) _ _ _ zE
 have YM:Hid (ag w8 (w.heap.size+1) 75 zT.toArray):=by rw[r];exact aX Y aa _ _
 change Code.wp _ _ _ _ (ax w7 w 20 [.slice B4 x.found.length d4]);rw[<-r];clear r g m n Si zE Y;have h8:=E.Y w8 GI;have R5:=ae (AK w8 x.aJ s.fr.A s.fr.c s.ol.A s.ol.c ⟨h8.lr,h8.lo,h8.fr.1,h8.ol.1,u.fr,u.ol⟩);unfold wU mo at R5;obtain⟨g,m,n⟩:=ag.aF C;unfold jA at g;clear h8;go_wp2_with fail;refine R5.mono ?_;rintro e w9 ⟨v,rfl,A5,n5,B5,m5,rfl,-,-,c⟩;obtain⟨xo,D,Z⟩:=aS (ah GI c) (C.ah c) (YM.ah c);clear c g m n R5 C GI YM;obtain⟨g,m,n⟩:=ag.aF D;unfold jA at g;go_upto_region 5 with fail
 obtain⟨U,hU⟩:=aw (jA {x with aJ:=gX x.aJ} ⟨⟨J,L⟩,⟨M,d0⟩,⟨N,d1⟩,⟨O,d2⟩,⟨B4,d4⟩,⟨Q,d3⟩,⟨A5,n5⟩,⟨B5,m5⟩⟩);have RJ:Hid (U.length=34):=by rw[hU];rfl
 obtain⟨I,t⟩:=aw (ax w9 w 22 [.int .i64 (gX x.aJ).own.ix,.int .i64 (gX x.aJ).own.tag,.slice A5 (gX x.aJ).free.length n5,.slice B5 (gX x.aJ).old.length m5,.int .i64 (gX x.aJ).spent]);have a6:Hid (ag I w 75 U.toArray):=by rw[t,hU];exact dW _ _ 22 _ D
 have yT:Hid (Below w w I):=by rw[t];exact az (aR _) _ _ _ xo
 have aq:Hid (ag I (w.heap.size+1) 75 zT.toArray):=by rw[t];exact aX Z aa _ _
 change Code.wp _ _ _ _ (ax w9 w 22 [.int .i64 (gX x.aJ).own.ix,.int .i64 (gX x.aJ).own.tag,.slice A5 (gX x.aJ).free.length n5,.slice B5 (gX x.aJ).old.length m5,.int .i64 (gX x.aJ).spent]);rw[<-t];have HU:=ae hU;clear t hU g m n D xo Z;refine wp_region_lit ?_;refine wpList_load_mid rfl 75 _ rfl w 0 rfl U _ (ag.range a6 U (λj v hv=>by rw[List.getElem?_toArray];exact hv)) underlying75 rfl (by rw[RJ.Y];rfl) ?_;refine wpList_store_mid rfl 75 _ _ rfl (w.heap.size+1) 0 U.toArray rfl rfl (ag.there aq 0 _ (by rw[kC,RJ.Y];decide)) (by rw[kC,RJ.Y];rfl) (by rw[HU.Y];exact gR _ _) ?_;rw[jQ];have hQ:=aY (vs:=U) (cs:=zT) aq (by rw[RJ.Y];rfl);have hB:Below w w (ax I (w.heap.size+1) 0 U):=az (bM _) _ _ _ yT;change wpList _ _ _ _ _ (ax I (w.heap.size+1) 0 U);generalize ax I (w.heap.size+1) 0 U=wz at *;go_wp2_with fail;have iX:=run_loadVar_mid (P:=prog) wz (w.heap.size+1) 0 75 U _ (ag.range hQ U (λj v hv=>by rw[List.getElem?_toArray];exact hv)) underlying75 rfl (by rw[RJ.Y];rfl);refine bodyPost_ret (ri results46 rfl iX) rfl ⟨_,by rw[HU.Y],hB⟩
section
variable{n q:Nat}{s:Sx}
theorem Kf(H:MS w x0 A n k q x s){t:Nat}(ht:t<x.T.length)(B:CpB (cC x t)):Calls prog 21 #[.pointer (some ⟨x0,0,none⟩),t] w λe w'=>∃s',e=.returned (.agg (jA (cC x t) s').toArray)/\Below w w w':=by
 obtain⟨p,C⟩:=aw (w.alloc (.cells zT.toArray 75));have br:Hid (Below w w p):=by rw[C];exact aj (ai w) _
 have PY:Hid (ag p w 75 zT.toArray):=by rw[C];exact ag.new _ _ _
 have F:=H.more br;have G:=ae (Bx F t);obtain⟨g,d,z,o,hg,_,hz,Q,_⟩:=F.task ht;obtain⟨K,hK⟩:=aw (cC x t);rw[<-hK]at hz Q B ⊢;obtain⟨T,O⟩:=aw (jA K z);have HT:=ae O;have Gf:Hid (T.length=34):=by rw[O];rfl
 have SC:Hid (p.rangeAt g (t*34) T):=λi v o=>Q i v (O▸o);have lC:=ae (λwx (y:Below p p wx)=>(Fk (w:=wx) K z (S:=s.I p x0) (λb h=>bW h.1 y.size) (hz.move (λb h=>y.block b h.1) λ_ h=>h) B).mono (λe w' h=>(by obtain⟨E,h1,h2⟩:=h;exact⟨_,E,h1,rfl,h2⟩:∃(r:List Value) (E:Sh),e=.returned (.agg r.toArray)/\r=jA {K with aJ:=gX K.aJ} E/\Below wx wx w')));rw[<-O]at lC;have W:=Q 22 _ rfl;have X:=Q 23 _ rfl;obtain⟨u,-,iM⟩:=ag.aF F.blk;unfold om at u;rw[o]at u;obtain⟨m,hm⟩:=aw x.T.length;rw[<-hm]at u G ht;obtain⟨HH,HV,lW,HM,c,f⟩:=cS F o C hm W X;have d1:decide (0<=(t:Int)/\(t:Int)<(m:Int))=true:=cg aa;unfold zT at C;have lW:=ae C;clear H F B hz Q O o hK hm C W X;go_enter func21,ntmps21;go_upto_region 1 with fail
 rw[<-lW.Y];clear lW;go_wp2_with fail;refine G.mono ?_;rintro e w2 ⟨rfl,rfl⟩;rw[d1];go_wp2_with(refine wpList_load_mid rfl 75 _ rfl g (t*34) rfl T _ SC underlying75 rfl (by rw[Gf.Y];rfl) ?_)
 go_fit (lC _ (ai p));rintro e a ⟨r,E,rfl,tx,y⟩;obtain⟨bU,Nu,kM⟩:=aS y (PY.ah y) tx;have Z8:Hid (r.length=34):=by rw[tx];rfl
 clear y tx lC PY SC;go_upto_region 4 with(refine wpList_store_mid rfl 75 _ _ rfl a 0 r.toArray rfl rfl (ag.there (ag.new a 75 zT.toArray) 0 _ (by rw[kC,Z8.Y];decide)) (by rw[kC,Z8.Y];rfl) (by rw[kM.Y];exact gR _ _) ?_)
 obtain⟨R,V⟩:=aw (ax (a.alloc (.cells zT.toArray 75)) a 0 r);have Y:Below a a R:=by rw[V];exact az (aR _) _ _ _ (aj (ai a) _)
 have lz:Hid (ag R a 75 (jA {K with aJ:=gX K.aJ} E).toArray):=by rw[V, <-kM.Y];exact aY (cs:=zT) (ag.new a _ _) (by rw[Z8.Y];rfl)
 rw[jQ];change Code.wp _ _ _ _ (ax (a.alloc (.cells zT.toArray 75)) a 0 r);rw[<-V];obtain⟨iq,I⟩:=av Y (Nu.ah Y);have M:Below p p R:=ah bU Y;have N:=ae M;have W:=(Below.cell M (bc c)).trans c;have X:=(Below.cell M (bc f)).trans f;have H5:=HH.more M;obtain⟨u,-,iM⟩:=ag.aF H5.blk;unfold om at u;rw[HV.Y, <-HM.Y]at u;obtain⟨bN,cj,a6⟩:=ag.aF lz;unfold jA at bN;have Dp:g<a.heap.size:=bW hg bU.size;have yO:x0<a.heap.size:=bW HH.blk.lt bU.size;have Cu:=Nu.lt;clear V Y M H5;go_upto_region 5 with fail
 obtain⟨U,Z⟩:=aw (jA K E);have L:Hid (U.length=34):=by rw[Z];rfl
 obtain⟨D,l⟩:=aw (ax R a 22 [K.aJ.own.ix,K.aJ.own.tag]);have aq:Hid (ag D a 75 U.toArray):=by rw[l,Z];exact dW _ _ 22 _ lz
 have yT:Hid (Below w w D):=by rw[l];exact az (Nat.le_of_lt Cu) _ _ _ (ah br N)
 have J:Hid (ag D w 75 zT.toArray):=by rw[l];exact aX I aa _ _
 change Code.wp _ _ _ _ (ax R a 22 [K.aJ.own.ix,K.aJ.own.tag]);rw[<-l];have HU:=ae Z;clear l Z u iM bN cj a6 W X lz I iq N kM c f;refine wp_region_lit ?_;refine wpList_load_mid rfl 75 _ rfl a 0 rfl U _ (ag.range aq U (λj v o=>by rw[List.getElem?_toArray];exact o)) underlying75 rfl (by rw[L.Y];rfl) ?_;refine wpList_store_mid rfl 75 _ _ rfl w 0 U.toArray rfl rfl (ag.there J 0 _ (by rw[kC,L.Y];decide)) (by rw[kC,L.Y];rfl) (by rw[HU.Y];exact gR _ _) ?_;rw[jQ];have hQ:=aY (vs:=U) (cs:=zT) J (by rw[L.Y];rfl);have hB:Below w w (ax D w 0 U):=az (aR _) _ _ _ yT;change wpList _ _ _ _ _ (ax D w 0 U);generalize ax D w 0 U=wz at *;go_wp2_with fail;have iX:=run_loadVar_mid (P:=prog) wz w 0 75 U _ (ag.range hQ U (λj v o=>by rw[List.getElem?_toArray];exact o)) underlying75 rfl (by rw[L.Y];rfl);refine bodyPost_ret (ri results21 rfl iX) rfl ⟨_,by rw[HU.Y],hB⟩
end
end Go.Proofs.YtpfbfhfcbdbglaaGreat
