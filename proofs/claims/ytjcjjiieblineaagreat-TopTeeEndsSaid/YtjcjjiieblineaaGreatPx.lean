/- Walks and plain facts. No condition. -/
import Derived.Test.YtjcjjiieblineaaGreatPw
namespace Go.Proofs.YtjcjjiieblineaaGreat
open Go.RowKit Go.Proofs.Tryz Mo
set_option maxHeartbeats 8000000
set_option maxRecDepth 100000
set_option linter.all false
variable {w w1:World}{g j:Nat}{P:Program}{ops:Array Oper}
abbrev NZ:OW:=⟨fun _=>False⟩
attribute [local instance] NZ
theorem I2:(prog.info? 50).map (fun i=>(i.zero,i.size,i.bytes))=some (some (.agg zT.toArray),34,384):=by kernel_rfl
theorem I3:(prog.info? 86).map (fun i=>(i.zero,i.size,i.bytes))=some (some (.agg #[false,false,false,oZ,oN,oZ,oZ]),7,56):=by kernel_rfl
theorem Wq{o:Oper}{a:Act}{w':World}{K:Act->World->Prop}{Q:Exit->Act->World->Prop}{E:Prop}{v:Value}(b:o.guard=none)(c:(execOp a.eval o).run P w=.ok (.value v) w')(h:K (a.put o.dst v) w'):if Region.wanted o (yielded ops a.tmps)=true then Oper.wp P o a w K Q else E:=by rw[au (by simp[Region.wanted,b])];simp only[Oper.wp,c,Oper.upon];exact h
section
variable{w w':World} {x0:Nat} {A:Option Addr} {n k q:Nat} {x x':Mo.Mc} {s:Sx}
theorem MS.ae4(H:MS w x0 A n k q x s){c:Value}{y:Tk}(o:aI 50 34 PTk w1 0 (s.I w x0) c (x.T++[y]))(t:w.grownBy w1 s.T.ownBlock)(l:c.ownBlock=s.T.ownBlock\/c.ownBlock=some w.heap.size) :
 MS (w1.setCell ⟨x0,12,none⟩ c) x0 A n k q {x with T:=x.T++[y]} {s with T:=c}/\gw w (w1.setCell ⟨x0,12,none⟩ c) (s.U x0) (Sx.U {s with T:=c} x0):=by
 obtain⟨rows,D,B,E⟩:=H.T
 have z:Below 0 w w1:=aH.bh B (Below.refl 0 w) t (aV _) (aS _)
 have u:∀b,b<w.heap.size->s.T.ownBlock≠some b->w1.heap[b]?=w.heap[b]?:=fun b a hn=>t.block b a fun e=>hn e.symm
 have l:∀b,c.ownBlock=some b->s.T.ownBlock=some b\/w.heap.size<=b:=fun b a=>l.elim (fun e=>.inl (e▸a)) fun e=>.inr (by rw[a]at e;injection e with e;omega)
 have r:∀b,Sx.X {s with T:=c} x0 b->s.X x0 b\/w.heap.size<=b:=by
  rintro b (h|h|h)
  ·exact .inl (.inl h)
  ·exact(l b h).imp (fun h=>.inr (.inl h)) id
  ·exact .inl (.inr (.inr h))
 have m:af w1 x0 101 _:=(u x0 H.blk.lt (fun e=>H.bO.1 x0 e rfl)).trans H.blk
 have V:Mv w (w1.setCell ⟨x0,12,none⟩ c) x0 s {s with T:=c} (fun b=>b=x0\/s.T.ownBlock=some b):=⟨z.setCell (p:=⟨x0,12,none⟩) (aV _) _,fun b i d=>(dp _ _ _ _ (fun e=>d (.inl e))).trans (u b i fun e=>d (.inr e)),fun b h=>h.elim (fun h=>.inl (.inl h)) fun h=>.inl (.inr (.inl h)),fun b h=>h.elim (fun h=>(r b h).imp .inl id) fun h=>.inl (.inr h)⟩
 have j:∀b,c.ownBlock=some b->b≠x0:=fun b a=>(aI.mg o b a).elim fun _ h=>h.elim fun _ h=>eB h m ag
 have f:∀{b:Nat} {e:TypeId} (_:∃C v,w.heap[b]?=some (.cells C e v)),e≠50->b≠x0->¬(b=x0\/s.T.ownBlock=some b):=fun h i d e=>e.elim d fun e=>h.elim fun _ h=>h.elim fun _ h=>(aI.mg H.T _ e).elim fun _ g=>g.elim fun _ g=>eB h g i rfl
 have F:=H.bO
 exact⟨{blk:=m.bj 12 c,mem:=V.CO H.mem fun b a e=>H.mx b a (e.elim .inl fun e=>.inr (.inl e)),T:=(o.move kz (fun b h=>dp _ _ _ _ fun e=>h.2.2.1 (.inl e)) fun b a=>dp _ _ _ _ (j b a)).mono kz V.mono,P:=V.rows lN H.P fun b a=>f (aI.mg H.P b a) ag (F.2.1 b a),N:=V.rows fx H.N fun b a=>f (aI.mg H.N b a) ag (F.2.2.1 b a),V:=V.rows iL H.V fun b a=>f (aI.mg H.V b a) ag (F.2.2.2.1 b a),S:=V.ints H.S fun b a=>f (eh H.S b a) ag (F.2.2.2.2.1 b a),M:=V.ints H.M fun b a=>f (eh H.M b a) ag (F.2.2.2.2.2 b a),mx:=fun b a h=>(r b h).elim (H.mx b a) fun h=>by have:=H.mem.lt a;omega,sm:=H.sm,cf:=V.cfg H.cf,hn:=H.hn,ol:=V.ol H.ol},V.fr⟩
theorem Nl{c:bA}(a:aU c=true):c.start.length<=8:=by
 unfold aU rA at a;simp only[cA]at a;have h:=a.2;split at h
 ·simp only[cA,bP]at h;omega
 ·split at h
  ·simp only[cA,bP,kD]at h;omega
  ·cases h
theorem gw.below{w r:World}{U U':Nat->Prop}(a:Below w w w1)(F:gw w1 r U U')(l:∀b,U b->w.heap.size<=b):Below w w r/\∀b,U' b->w.heap.size<=b:=⟨⟨F.jH.os.trans a.os,F.jH.tape.trans a.tape,F.jH.output.trans a.output,bq a.size F.jH.size,fun b h=>(F.same b (bL h a.size) fun e=>by have:=l b e;omega).trans (a.block b h)⟩,fun b h=>(F.own b h).elim (l b) fun e=>bq a.size e⟩
def Sg(a:World)(c:bA)(B:Option Addr)(n d g:Nat)(i:Value)(b:World):Prop:=∃p h e f,i=.pointer (some ⟨p,0,none⟩)/\af b p 101 #[c.kind,c.threads,c.chans,c.cap,c.nodes,c.aL,c.aF,c.tags,c.bG,c.bt,.slice B n d,.pointer (some ⟨g,0,none⟩),oN,.slice (some ⟨h,0,none⟩) c.threads.toNat c.threads.toNat,oN,oN,.slice (some ⟨e,0,none⟩) c.threads.toNat c.threads.toNat,.slice (some ⟨f,0,none⟩) c.threads.toNat c.threads.toNat,oZ]/\a.heap.size<=p/\a.heap.size<=h/\a.heap.size<=e/\a.heap.size<=f/\e≠f/\af b h 86 (madeCells (ma kA ⟨none,0⟩).toArray (c.threads.toNat*7))/\af b e 3 (madeCells [Value.int .i64 0].toArray (c.threads.toNat*1))/\af b f 3 (madeCells [Value.int .i64 0].toArray (c.threads.toNat*1))/\Ext a b
def NmE(c:bA)(n:Nat)(x:Mc)(w:World)(e:Ending)(w':World):Prop:=∃x0 A k s,e=.returned (.tuple #[.pointer (some ⟨x0,0,none⟩),oZ])/\MS w' x0 A n k 0 x s/\Below w w w'/\∀b,s.U x0 b->w.heap.size<=b
theorem BA{w:World}{base:Nat}(m:Nat)(c:m<=100000)(h:af w g 3 (madeCells [Value.int .i64 0].toArray (m*1)))(b:base<=g):aJ w base 3 .i64 (.slice g m m) (List.replicate m 0):=by
 have a:=rp (f:=fun z:Int=>[Value.int .i64 z]) (fun _=>rfl) ag 0 m c h b;unfold aH at a;unfold aJ;rw[gp]at a ⊢;have e:(List.replicate m (0:Int)).flatMap (fun z=>[Value.int .i64 z])=(List.replicate m (0:Int)).map (Value.int .i64):=by rw[List.map_eq_flatMap]
 rw[e]at a;exact a
end
section
variable{w:World} {A:Option Addr} {n k:Nat} {c:Mo.bA}
theorem Sg.ms{a o:World}{B:Option Addr}{d:Nat}{u t s:Value}{p m f l:Nat}(L:aU c=true)(R:c.threads<=4)(H:n=c.start.length)(C:eu a 0 g u t s (ir c) [] [] false)(K:dx a (fun b=>b<a.heap.size/\¬Mm.own ⟨g,u,t,s,[],[],false⟩ b) .i64 B c.start)(G:af o p 101 #[c.kind,c.threads,c.chans,c.cap,c.nodes,c.aL,c.aF,c.tags,c.bG,c.bt,.slice B n d,.pointer g,oN,.slice m c.threads.toNat c.threads.toNat,oN,oN,.slice f c.threads.toNat c.threads.toNat,.slice l c.threads.toNat c.threads.toNat,oZ])(M:a.heap.size<=p)(N:a.heap.size<=m)(O:a.heap.size<=f)(Q:a.heap.size<=l)(I:f≠l)(D:af o m 86 (madeCells (ma kA ⟨none,0⟩).toArray (c.threads.toNat*7)))(E:af o f 3 (madeCells [Value.int .i64 0].toArray (c.threads.toNat*1)))(F:af o l 3 (madeCells [Value.int .i64 0].toArray (c.threads.toNat*1)))(x:Ext a o) :
 MS o p B n d 0 {iA c with T:=[]} ⟨oN,.slice m c.threads.toNat c.threads.toNat,oN,oN,.slice f c.threads.toNat c.threads.toNat,.slice l c.threads.toNat c.threads.toNat,⟨g,u,t,s,[],[],false⟩⟩:=by
 have v:c.threads.toNat<=100000:=aa
 have z:∀b,Mm.own ⟨g,u,t,s,[],[],false⟩ b->b<a.heap.size:=fun b e=>ze.lt (q:=0) ⟨C,aS _,aV _⟩ e
 have w:∀b,Sx.X ⟨oN,.slice m c.threads.toNat c.threads.toNat,oN,oN,.slice f c.threads.toNat c.threads.toNat,.slice l c.threads.toNat c.threads.toNat,⟨g,u,t,s,[],[],false⟩⟩ p b->a.heap.size<=b:=by
  rintro b (h|h|h|h|h|h|h)
  ·omega
  ·cases h
  ·injection h with h;have h:m=b:=h;omega
  ·cases h
  ·cases h
  ·injection h with h;have h:f=b:=h;omega
  ·injection h with h;have h:l=b:=h;omega
 refine⟨G,⟨C.ai x.Y,aS _,aV _⟩,aI.nil _ _ _ _ _ _,?_,aI.nil _ _ _ _ _ _,aI.nil _ _ _ _ _ _,BA _ v E (aV _),BA _ v F (aV _),fun b e h=>by have:=z b e;have:=w b h;omega,fun b j k=>?_,?_,H,fun _ h=>h.elim⟩
 ·refine⟨List.replicate c.threads.toNat ⟨ma kA ⟨none,0⟩,rfl,List.all_eq_true.1 (by rfl)⟩,by simp[iA],rp b9 ag ⟨ma kA ⟨none,0⟩,rfl,List.all_eq_true.1 (by rfl)⟩ _ v D (aV _),fun i r y A J=>?_⟩;rw[List.eq_of_mem_replicate (dB A),List.eq_of_mem_replicate (dB J)];exact⟨⟨none,0⟩,rfl,dx.nil _ _ _ _,aS _⟩
 ·injection j with j;injection k with k;have j:f=b:=j;have k:l=b:=k;omega
 ·exact(K.same fun b e=>x.Y.block b e.1).mono fun b e=>⟨bL e.1 x.Y.size,e.2,fun h=>by have:=w b h;have:=e.1;omega,fun h=>h⟩
theorem Si(hc:aU c=true)(mN:c.threads<=4)(nV:bB c<=1048576)(hn:n=c.start.length)(hr:bJ w .i64 A c.start):Calls prog 44 #[zF c A n k] w (NmE c n (iA c) w):=by
 have hp:=Mo.aK hc;have VJ:n<=2000000:=by
  have:=(Nl hc)
  omega
 obtain⟨C,oX⟩:=aG (w.alloc (dV c A n k));have br:Hid (Below w w C):=by rw[oX];exact ak (aj w) _
 have vZ:Hid (af C w.heap.size 24 #[c.kind,c.threads,c.chans,c.cap,c.nodes,c.aL,c.aF,c.tags,c.bG,c.bt,.slice A n k]):=by rw[oX];exact af.new _ _ _
 obtain⟨R,HR,HN,HC,cv,a8⟩:=cT (M9 (w:=C) (k:=k) hc nV hn (hr.below br)) hr hn hc mN nV;have b3:1<=c.threads:=hp.1.1;have a3:¬64<c.threads:=aa;have a4:¬c.threads<0:=aa;have pI:=ae oX;unfold zF at R ⊢;obtain⟨l,-,o⟩:=af.aM vZ;clear oX hr hn hc hp nV;go_enter func44,ntmps44;go_upto_region 1 with fail
 rw[<-pI.Y];clear pI;go_wp2_with fail;refine R.mono ?_;rintro e w2 ⟨g,vl,vg,vc,rfl,(q7:Hid _),a⟩;obtain⟨bE,jI⟩:=av (ai br a) (vZ.ai a);have iH:=ae (iE w2 A k c.start HN VJ (HR.below bE));have De:Hid (w.heap.size<C.heap.size):=vZ.lt;have C7:Hid (C.heap.size<=w2.heap.size):=a.size;clear a l o R vZ;obtain⟨l,-,o⟩:=af.aM jI;go_wp2_with fail;refine iH.mono ?_;rintro e M ⟨B,d,rfl,hd,(jr:Hid _),a⟩;obtain⟨cM,sY,px⟩:=aZ (ai bE a) (jI.ai a) (q7.ai a);have VR:Hid (w2.heap.size<=M.heap.size):=a.size;clear a hd l o iH jI;obtain⟨l,cC,o⟩:=af.aM sY;go_upto_region 5 with fail
 have m:∀b,C.heap.size<=b->(M.setCell ⟨w.heap.size,10,none⟩ (.slice B n d)).heap[b]?=M.heap[b]?:=fun b a=>dp _ _ _ _ (show b≠w.heap.size by have:=De.Y;omega);obtain⟨a6,gC⟩:=av (sY.bj 10 (.slice B n d)) (cM.setCell (p:=⟨w.heap.size,10,none⟩) (aS _) (.slice B n d));have U:∀b,Mm.own ⟨g,vl,vg,vc,[],[],false⟩ b->C.heap.size<=b/\b<w2.heap.size:=fun b a=>⟨by
  rcases a with rfl|a|a|a
  ·exact q7.low
  ·exact(aX q7.words a).1
  ·exact(aX q7.log a).1
  ·exact(aX q7.counts a).1,ze.lt (q:=0) ⟨q7.zero,aS _,aV _⟩ a⟩
 have Kk:=ae (ze.same (q:=0) (w':=M.setCell ⟨w.heap.size,10,none⟩ (.slice B n d)) ⟨px.zero,aS _,aV _⟩ fun b a=>m b (U b a).1).mv;obtain⟨lF,O⟩:=av (cJ jr (w':=M.setCell ⟨w.heap.size,10,none⟩ (.slice B n d)) fun b a=>m b (by have:=(aX jr a).1;have:=C7.Y;omega)) U;have Fo:(M.setCell ⟨w.heap.size,10,none⟩ (.slice B n d)).heap.size=M.heap.size:=aD;have Mu:Hid (w2.heap.size<=(M.setCell ⟨w.heap.size,10,none⟩ (.slice B n d)).heap.size):=by rw[Fo];exact VR.Y
 clear m U Fo l cC o sY cM px jr;generalize M.setCell ⟨w.heap.size,10,none⟩ (.slice B n d)=w4 at *;have a7:Hid (dx w4 (fun b=>b<w4.heap.size/\¬Mm.own ⟨g,vl,vg,vc,[],[],false⟩ b) .i64 B c.start):=⟨(aJ.pP lF).2,fun ad Y h2=>by
  subst Y
  have T:=aX lF (g:=ad.block) rfl
  exact⟨T.2,fun e=>by have:=(O _ e).2;have:=T.1;omega⟩⟩
 have S:Hid (af w4 w.heap.size 24 #[c.kind,c.threads,c.chans,c.cap,c.nodes,c.aL,c.aF,c.tags,c.bG,c.bt,.slice B n d]):=a6.Y;go_cut[6] (fun s6 f=>Sg w4 c B n d g s6 f);case first =>
  have dC:=fun f (V:Ext w4 f) i=>af.cell (S.ai V.Y) i;have m1:=fun f=>run_mk f 99 86 (z:=.agg #[false,false,false,oZ,oN,oZ,oZ]) (sz:=7) (by_:=56) rfl I3 c.threads aa aa ag;have m2:=fun f=>run_mk f 22 3 (z:=oZ) (sz:=1) (by_:=8) rfl fS c.threads aa aa ag;have e1:(Value.agg #[false,false,false,oZ,oN,oZ,oZ]).cells=(ma kA ⟨none,0⟩).toArray:=rfl;have e2:(Value.int .i64 0).cells=[Value.int .i64 0].toArray:=rfl;rw[e1]at m1;rw[e2]at m2;clear e1 e2;generalize rJ:madeCells (ma kA ⟨none,0⟩).toArray (c.threads.toNat*7)=M1 at m1;generalize q7:madeCells [Value.int .i64 0].toArray (c.threads.toNat*1)=M2 at m2;obtain⟨rJ,q7⟩:=av rJ q7;go_region_held3(Ext w4) (with_reducible(repeat(first|assumption|exact Ext.start _|exact Ext.gR _ _|exact Ext.CE _ _ _|exact Ext.Rj _ _ _ _|exact Ext.Rk _ _ _ _ _|refine Ext.alloc ?_ _|refine Ext.set ?_ (by simp;try omega)))) (fail);all_goals
   go_wp2;go_meet;apply Exists.intro;apply Exists.intro;apply Exists.intro;apply Exists.intro;refine⟨rfl,?_,?_⟩
   ·repeat(with_reducible first|(refine af.newAt _ _ _ ?_;simp;done)|refine af.dr ?_|refine af.alloc ?_ _)
   refine⟨aa,aa,aa,aa,aa,?_,?_,?_,bc⟩
   ·rw[rJ.Y];repeat(with_reducible first|(refine af.newAt _ _ _ ?_;simp;done)|refine af.dr ?_|refine af.alloc ?_ _)
   ·exact YO
   ·exact YO
 case rest =>
  obtain⟨p,g1,g2,g3,rfl,hP,l0,l1,l2,l3,m,Y,h2,T,hX⟩:=hcut;have E8:=ae (Sg.ms HC cv HN Kk a7 hP l0 l1 l2 l3 m Y h2 T hX);have HU:Hid (∀b,Sx.U ⟨oN,.slice g1 c.threads.toNat c.threads.toNat,oN,oN,.slice g2 c.threads.toNat c.threads.toNat,.slice g3 c.threads.toNat c.threads.toNat,⟨g,vl,vg,vc,[],[],false⟩⟩ p b->C.heap.size<=b):=by
   have c2:=bq C7 Mu;rintro b (h|h)
   ·rcases h with h|h|h|h|h|h|h
    ·omega
    ·cases h
    ·injection h with h;have h:g1=b:=h;omega
    ·cases h
    ·cases h
    ·injection h with h;have h:g2=b:=h;omega
    ·injection h with h;have h:g3=b:=h;omega
   ·exact(O b h).1
  obtain⟨M6,je⟩:=av (S.ai hX.Y) (ai gC hX.Y);clear hP l0 l1 l2 l3 m Y h2 T hX S gC Kk a7 lF a6 O;obtain⟨l,-,o⟩:=af.aM M6;obtain⟨th,I4⟩:∃th:Nat,c.threads=th:=⟨c.threads.toNat,aa⟩
  rw[I4]at l;have Sn:=ae I4;clear I4;have bo:Hid (∃s,MS wc p B n d 0 {iA c with T:=(iA c).T.take 0} s/\∀b,s.U p b->C.heap.size<=b):=⟨_,E8,HU⟩
  clear E8 HU;have c0:th<=4:=by have:=Sn.Y;omega
  go_wp2;go_loopw[7,35] (fun _ i wr=>∃j:Nat,j<=th/\i=j/\Hid (Below w w wr)/\Hid (af wr w.heap.size 24 #[c.kind,c.threads,c.chans,c.cap,c.nodes,c.aL,c.aF,c.tags,c.bG,c.bt,.slice B n d])/\Hid (∃s,MS wr p B n d 0 {iA c with T:=(iA c).T.take j} s/\∀b,s.U p b->C.heap.size<=b)) (fun _ i _=>th-(intOf i).toNat);case atStart=>exact⟨0,aV _,rfl,je,M6,bo⟩
  case round =>
   clear je M6 bo l o;obtain⟨j,hj,rfl,HB,N,HR⟩:=hrel;by_cases c3:j<th
   ·obtain⟨s,F,hU⟩:=HR.Y;have b6:CfS c n (j:Int):=⟨HC,HN,mN,a8,aa,by rw[Sn.Y];omega⟩
    have Q:=ae (fun f (V:Ext wr f)=>(RV (w:=f) (k:=d) b6 (F.cf.1.below V.Y)).mono (fun e w' h=>(by obtain⟨z,Y,h2,T⟩:=h;exact⟨_,z,Y,rfl,h2,T⟩:∃(E:List Value) (z:Sh),e=.returned (.agg E.toArray)/\E=iK (lV c j) z/\nU w' (fun b=>f.heap.size<=b/\b<w'.heap.size) (lV c j) z/\Below f f w')));unfold zF at Q;obtain⟨VT,dT,X⟩:=aI.shape F.T;obtain⟨xs,J8⟩:=aG ((iA c).T.take j);have cy:Hid (xs++[lV c j]=(iA c).T.take (j+1)):=by unfold Hid;rw[J8,List.take_add_one];congr 1;unfold iA;have:=Sn.Y;simp[show j<c.threads.toNat by omega]
    have VF:xs.length<=4:=by rw[J8,fF];have:=Sn.Y;omega
    rw[<-J8]at F X;dsimp only at X;generalize xs.length=ln at X;have aT:=fun(f:World) (V:f.heap[p]?=wr.heap[p]?/\f.heap[w.heap.size]?=wr.heap[w.heap.size]?) i=>af.cell (af.rM F.blk V.1) i;unfold nW at aT;rw[X]at aT;have l:=fun(f:World) (V:f.heap[p]?=wr.heap[p]?/\f.heap[w.heap.size]?=wr.heap[w.heap.size]?) i=>af.cell (af.rM N V.2) i;obtain⟨r,t,H,bg⟩:=bN F hU X VF;have L:=F.blk.lt;have S9:=N.lt;clear F hU b6 X J8 HR VF;go_upto_region 9 with fail
    refine wF 10 (fun f:World=>f.heap[p]?=wr.heap[p]?/\f.heap[w.heap.size]?=wr.heap[w.heap.size]?) (by kernel_rfl) ⟨rfl,rfl⟩ (fun hHeld=>?_);refine FL 0 hHeld ?_;refine FL 1 hHeld ?_;refine FL 2 hHeld ?_;refine FL 3 hHeld ?_;refine FL 4 hHeld ?_;refine FL 5 hHeld ?_;refine FL 6 hHeld ?_;(try simp only[aC]);refine rdS 7 (fun K u=>?_);go_simp;go_fit (Q _ (Ext.start _));rintro e D ⟨E,z,rfl,(fP:Hid _),hz,bY⟩;obtain⟨HZ,G⟩:=av hz bY;clear hz bY Q;go_wp2_with fail;have bR:D.heap[p]?=wr.heap[p]?/\D.heap[w.heap.size]?=wr.heap[w.heap.size]?:=⟨G.block p L,G.block _ S9⟩
    refine u.Y _ _ bR (fun hHeld=>?_);clear u K;(try simp only[aC]);refine rdS 8 (fun K u=>?_);refine Wq (v:=.slice D.heap.size 1 1) (w':=D.alloc (.cells E.toArray 50)) rfl (by rw[fP.Y];kernel_rfl) ?_;have x:Below wr wr (D.alloc (.cells E.toArray 50)):=ai (aj wr).drew (ak G _);have qu:=ae (Rd.lit D E 50);have b7:nU (D.alloc (.cells E.toArray 50)) (s.I (D.alloc (.cells E.toArray 50)) p) (lV c j) z:=HZ.move (fun b a=>(ak (aj D) _).block b a.2) fun b a=>⟨bL a.2 (ak (aj D) _).size,fun e=>by have:=r.ul (.inr e);have h:wr.heap.size<=b:=a.1;omega,fun e=>by have:=r.ul (.inl e);have h:wr.heap.size<=b:=a.1;omega,fun e=>by have:=(r.ol b e).1;have h:wr.heap.size<=b:=a.1;omega⟩
    have P:=ae (r.more x);refine u.Y _ _ ⟨x.block p L,x.block _ S9⟩ (fun hHeld=>?_);obtain⟨Z,cz⟩:=av x b7;clear u K x b7 HZ G bR;generalize D.alloc (.cells E.toArray 50)=W at *;have J:=P.T;dsimp only at J;rw[H.Y]at J;have cw:=ae J;clear J;(try simp only[aC]);refine rdS 9 (fun K u=>?_);refine oI rfl _ _ 98 rfl 50 34 384 _ kz underlying98 I2 rfl ag _ xs rfl cw (fun b h=>⟨h.1,fun e=>h.2.2.1 (.inr (.inl (H.Y▸e)))⟩) _ _ E (by rw[fP.Y];rfl) (by rw[fP.Y];exact List.all_eq_true.1 (by rfl)) rfl qu (y:=lV c j) ⟨z,fP,cz⟩ (by have:=bg.Y;omega) (by have:=bg.Y;omega) ?_;intro v5 w8 lH ux ei;rw[<-H.Y]at ux ei;have I:w8.heap[p]?=wr.heap[p]?/\w8.heap[w.heap.size]?=wr.heap[w.heap.size]?:=⟨(ux.block p (bL L Z.size) fun e=>P.bO.1 p e.symm rfl).trans (Z.block p L),(ux.block _ (bL S9 Z.size) fun e=>by have:=t.Y _ (.inl (.inr (.inl e.symm)));have:=De.Y;omega).trans (Z.block _ S9)⟩
    refine u.Y _ _ I (fun hHeld=>?_);clear u K;(try simp only[aC]);obtain⟨vp,cF,cO⟩:=af.aM (af.rM r.blk I.1);obtain⟨aq,cd⟩:=av (MS.ae4 P lH ux ei) (af.rM N I.2);have m:w.heap.size≠p:=fun e=>by have:=t.Y p (.inl (.inl rfl));have:=De.Y;omega
    have Ra:=ae m;unfold nW at vp;dsimp only at vp;rw[H.Y]at vp;obtain⟨B5,d5,Af⟩:=aI.shape lH;generalize(xs++[lV c j]).length=l5 at Af;subst Af;clear lH ux ei I hHeld aT l m;refine wpAnyS.late ?_;have hHeld:(fun _:World=>True) w8:=trivial;refine aP 10 hHeld ?_;refine aP 11 hHeld ?_;(try simp only[aC]);refine et 12 (fun K u=>?_);go_simp;refine u.Y _ _ trivial (fun hHeld=>?_);clear u K;(try simp only[aC]);refine wpAnyH_done (by kernel_rfl) ?_ _;clear vp cF cO hHeld;have bz:=aq.1;have RA:=aq.2;have b5:=(gw.below (ai HB Z) RA (fun b a=>bq (by have:=De.Y;omega) (t b a))).1;have ct:Hid (∃s,MS (w8.setCell ⟨p,12,none⟩ (.slice B5 l5 d5)) p B n d 0 {iA c with T:=(iA c).T.take (j+1)} s/\∀b,s.U p b->C.heap.size<=b):=by rw[<-cy.Y];exact⟨_,bz,fun b a=>(RA.own b a).elim (t b) fun e=>by have:=t.Y p (.inl (.inl rfl));have:=Z.size;omega⟩
    obtain⟨b8,cn⟩:=av b5 (cd.bO (p:=⟨p,12,none⟩) Ra (.slice B5 l5 d5));clear bz RA b5;generalize w8.setCell ⟨p,12,none⟩ (.slice B5 l5 d5)=w9 at *;go_wp2;go_roundw;case rel=>exact⟨j+1,aa,by go_num,b8,cn,ct⟩
    case measure=>simp[intOf];omega
   ·go_wp2;go_ret2;obtain⟨s,F,hU⟩:=HR.Y;have hT:(iA c).T.take j=(iA c).T:=List.take_of_length_le (by
     have:=Sn.Y;unfold iA;simp;omega)
    rw[hT]at F;exact⟨p,B,d,s,rfl,F,HB,fun b a=>bq (Nat.le_of_lt De) (hU b a)⟩
end
variable[OW]
def idF(x:Mc)(t:Nat):Bool:=(bm x t).pc==0 && (fe (gH x t)).isNone
theorem Fh{rest:List Oper}{b:Oper}{a:Act}{Q:Exit->Act->World->Prop}(c:b.guard=none)(v:Value)(d:World)(f:(execOp a.eval b).run P w=.ok (.value v) d)(h:wpList P ops Q rest (a.put b.dst v) d):wpList P ops Q (b::rest) a w:=wpList_plain c fun _ e=>by unfold Oper.wp;rw[f];exact e _ _ h
theorem idS{f:Nat->Bool}(a:(List.range j).all f=true)(b:f j=true):(List.range (j+1)).all f=true:=by rw[List.range_succ,List.all_append,a];simp[b]
theorem idN{f:Nat->Bool}{m:Nat}(h:j<m)(a:f j=false):(List.range m).all f=false:=List.all_eq_false.2 ⟨j,List.mem_range.2 h,by rw[a];decide⟩
section
variable{w:World} {x0:Nat} {A:Option Addr} {n k q:Nat} {x:Mo.Mc} {s:Sx}
theorem Wr(H:MS w x0 A n k q x s)(M:x.T.length<=1000000)(NX:x.P.length=x.T.length)(hp:∀t,(gH x t).outs.length<=8):Calls prog 37 #[.pointer x0] w fun e w'=>e=.returned (Og x)/\Below w w w':=by
 have HM:=ae (rz H);obtain⟨m,G⟩:=aG x.T.length;have SF:m<=1000000:=by rw[G];exact M
 have Y:Hid (Og x=(List.range m).all (idF x)):=by rw[G];rfl
 obtain⟨gT,dT,X⟩:=aI.shape H.T;obtain⟨gP,dP,E⟩:=aI.shape H.P;obtain⟨b,-,V⟩:=af.aM H.blk;unfold nW at b;rw[X,E, <-G]at b;obtain⟨HH,Cw,Z,S,r,p⟩:=cT H NX hp G X E;obtain⟨mp,D⟩:=aG x.P.length;rw[<-D]at b;have K:Hid (mp=m):=by unfold Hid;rw[D,NX,G]
 clear H NX hp G X E D M;go_enter func37,ntmps37;go_wp2_with fail;refine HM.mono ?_;rintro e w' ⟨rfl,rfl⟩;go_wp2;go_loopw[15] (fun i wr=>∃j:Nat,j<=m/\i=j/\Hid (Below w w wr)/\Hid ((List.range j).all (idF x)=true)) (fun i _=>m-(intOf i).toNat);case atStart=>exact⟨0,aV _,rfl,aj w,rfl⟩
 case round =>
  clear b V;obtain⟨j,hj,rfl,R,HA⟩:=hrel;have hM:=HH.more R;obtain⟨b,-,V⟩:=af.aM hM.blk;unfold nW at b;rw[r.Y,p.Y]at b;by_cases a:j<m
  ·obtain⟨B,a8,z,U,bo,_,_,hc,_⟩:=hM.task (t:=j) (by rw[<-S.Y];exact a);obtain⟨aq,a7,zp,O,bg,_,N,jU,C,_⟩:=hM.IM (t:=j) (by rw[Cw.Y, <-S.Y];exact a);have y:=r.symm.trans U;injection y with y e2 e3
   subst y e3;have y:=p.symm.trans O;injection y with y e2 e3
   subst y e3;obtain⟨T,L⟩:=aG (iK (bm x j) z);have HT:=ae L;have Q:Hid (T.length=34):=by rw[L];rfl
   have Tf:Hid (wr.rangeAt B (j*34) T):=fun i v U=>hc i v (L▸U);have bz:j<mp:=by rw[K.Y];exact a
   have W:=ae (fun J (hb:Below wr wr J)=>sD J (gH x j) zp (N.1.below hb) (Z j) jU);obtain⟨pm,c⟩:=aG (gH x j);have aB:∀(J:World),Below wr wr J->∀i v,(ma pm zp)[i]?=some v->J.cell? ⟨aq,j*7+i,none⟩=some v:=fun J hb i v h=>(Below.cell hb (bb (C i v (c▸h)))).trans (C i v (c▸h));have F:Hid (idF x j=((bm x j).pc==0 && (fe pm).isNone)):=by unfold Hid idF;rw[c]
   rw[<-c]at W;obtain⟨P,bQ⟩:=aG ((bm x j).pc);rw[<-bQ]at F;have uy:Hid (T[0]?=some (.int .i64 P)):=by unfold Hid;rw[L,bQ];rfl
   generalize fe pm=o at F W;have g:=ae aB;clear L hc C c bQ N jU U O aB;go_upto_region 5 with fail
   refine wp_region_lit ?_;refine fw rfl j rfl ?_;refine fw rfl (.pointer (some ⟨B,j*34,none⟩)) (by simp[execOp,go_sem,a]) ?_;refine wpList_load_mid rfl 50 _ rfl B (j*34) rfl T _ Tf underlying50 rfl (by rw[Q.Y];rfl) ?_;refine Fh rfl (.pointer wr.heap.size) (wr.alloc (.cells zT.toArray 50)) (by kernel_rfl) ?_;refine fw rfl j rfl ?_;have hZ:=af.new wr 50 zT.toArray;refine wpList_store_mid rfl 50 _ _ rfl wr 0 T.toArray rfl rfl (af.there hZ 0 _ (by rw[jG,Q.Y];decide)) (by rw[jG,Q.Y];rfl) (by rw[HT.Y];exact eK _ _) ?_;rw[jm];have hQ:=aQ (vs:=T) (cs:=zT) hZ (by rw[Q.Y];rfl);have hB:Below wr wr (aw (wr.alloc (.cells zT.toArray 50)) wr 0 T):=ax (aS _) _ _ _ (ak (aj wr) _);generalize aw (wr.alloc (.cells zT.toArray 50)) wr 0 T=l at *;obtain⟨HQ,d⟩:=av hQ hB;clear hZ hQ hB;have Ta:=HH.more (ai R d);obtain⟨b,-,V⟩:=af.aM Ta.blk;unfold nW at b;rw[r.Y,p.Y]at b;have c0:=g.Y l d 0 _ rfl;rw[Nat.add_zero]at c0;have c1:=g.Y l d 1 _ rfl;have c2:=g.Y l d 2 _ rfl;have c3:=g.Y l d 3 _ rfl;have c4:=g.Y l d 4 _ rfl;have c5:=g.Y l d 5 _ rfl;have c6:=g.Y l d 6 _ rfl;have u:=ae (W l d);unfold ma at u;rw[<-S.Y, <-show mp=x.P.length by rw[K.Y,Cw.Y];exact S.Y]at b;clear Ta W g;go_wp2_with fail;refine u.mono ?_;rintro e w4 ⟨zr,rfl,-,f⟩;have lR:w4.cell? ⟨wr,0,none⟩=some (.int .i64 P):=((HQ.ai f).cell 0).trans (by have:=uy.Y;simpa using this);have a6:wr.heap.size<w4.heap.size:=bL HQ.lt f.size;obtain⟨gC,We⟩:=av (ai R (ai d f)) a6;unfold mW;clear c0 c1 c2 c3 c4 c5 c6 b V f u;by_cases I:P=0
   ·rcases o with _|q
    ·have HZ:=ae I;subst I;go_wp2;go_roundw;case rel=>exact⟨j+1,aa,by go_num,ak gC _,idS HA F⟩
     case measure=>simp[intOf];omega
    ·subst I;go_wp2;go_ret;refine⟨?_,ak gC _⟩;rw[Y.Y,idN a F.Y];rfl
   ·have d1:(P !=0)=true:=by simpa using I
    have d2:(P==0)=false:=by simpa using I
    rw[d2,Bool.false_and]at F;clear I;go_wp2;go_ret;refine⟨?_,ak gC _⟩;rw[Y.Y,idN a F.Y];rfl
  ·go_wp2;go_ret;refine⟨?_,R⟩;rw[Y.Y,show m=j by omega,HA.Y];rfl
end
variable[OW]
structure CpB (x:Mo.Tk):Prop where
 q:x.aN.cases.length<=1000000
 b:x.buf.length<=2000000
 n:x.next.length<=2000000
 a:x.args.length<=2000000
 s:x.seen.length<=2000000
 f:x.found.length<=1000000
 fq:∀o∈x.found,o.aN.cases.length<=1000000
 fr:x.aA.free.length<=100000
 ol:x.aA.old.length<=100000
section
variable{w:World}
theorem Fi(x:Tk)(s:Sh){S:Nat->Prop}(hS:∀b,S b->b<w.heap.size)(h:nU w S x s)(B:CpB x):Calls prog 43 #[.agg (iK x s).toArray] w fun e w'=>∃s',e=.returned (.agg (iK {x with aA:=eH x.aA} s').toArray)/\Below w w w':=by
 obtain⟨A,t⟩:=av (fun(c:World) (d:Below w w c)=>(h.move (fun b C=>d.block b (hS b C)) fun b C=>bL (hS b C) d.size:nU c (·<c.heap.size) x s)) B;obtain⟨T,hT⟩:=aG (iK x s);rw[<-hT];obtain⟨w2,n⟩:=aG ((w.alloc (.cells T.toArray 50)).alloc (.cells zT.toArray 50));have bE:Hid (Below w w w2):=by rw[n];exact ak (ak (aj w) _) _
 have uh:Hid (af w2 w 50 (iK x s).toArray):=by rw[n,hT];exact(af.new _ _ _).alloc _
 have R:Hid (af w2 (w.heap.size+1) 50 zT.toArray):=by rw[n];exact af.newAt _ _ _ aD
 unfold zT at n;obtain⟨sX,HT,qW⟩:=aZ n hT (fun c (d:Below w w c)=>jZ c x.aN s.cs t.q (A c d).cs.1);unfold mW at qW;clear n hT h B hS;go_enter func43,ntmps43;go_upto_region 1 with fail
 rw[<-sX.Y];clear sX HT;obtain⟨g,m,l⟩:=af.aM uh;unfold iK at g;go_wp2_with fail;go_fit (qW _ bE);rintro e w3 ⟨⟨H,I⟩,rfl,-,u⟩;obtain⟨cM,pV,G2⟩:=aZ (ai bE u) (uh.ai u) (R.ai u);clear g m l u qW uh R bE;obtain⟨g,m,l⟩:=af.aM pV;unfold iK at g;go_upto_region 2 with fail
 obtain⟨i,o⟩:=aG (aw w3 w 2 [x.aN.kind,x.aN.arg,x.aN.value,x.aN.dflt,.slice H x.aN.cases.length I]);have D:Hid (af i w 50 (iK x {s with cs:=⟨H,I⟩}).toArray):=by rw[o];exact dL _ _ 2 _ pV
 have E:Hid (Below w w i):=by rw[o];exact ax (aS _) _ _ _ cM
 have Mu:Hid (af i (w.heap.size+1) 50 zT.toArray):=by rw[o];exact ba G2 aa _ _
 change Code.wp _ _ _ _ (aw w3 w 2 [x.aN.kind,x.aN.arg,x.aN.value,x.aN.dflt,.slice H x.aN.cases.length I]);rw[<-o];clear o g m l pV cM G2;obtain⟨Q,vZ,jI,sY⟩:=bN (fun c (k:Ext i c)=>mj c s.bf.A s.bf.c x.buf rfl t.b (A c (ai E k.Y)).bf.1) (fun c (k:Ext i c)=>mj c s.nx.A s.nx.c x.next rfl t.n (A c (ai E k.Y)).nx.1) (fun c (k:Ext i c)=>mj c s.ar.A s.ar.c x.args rfl t.a (A c (ai E k.Y)).ar.1) (fun c (k:Ext i c)=>mj c s.se.A s.se.c x.seen rfl t.s (A c (ai E k.Y)).se.1);have h0:∀c,Ext i c->c.cell? ⟨w,16,none⟩=some (.slice s.bf.A x.buf.length s.bf.c):=fun c k=>(D.ai k.Y).cell 16;have h1:∀c,Ext i c->c.cell? ⟨w,17,none⟩=some (.slice s.nx.A x.next.length s.nx.c):=fun c k=>(D.ai k.Y).cell 17;have h2:∀c,Ext i c->c.cell? ⟨w,19,none⟩=some (.slice s.ar.A x.args.length s.ar.c):=fun c k=>(D.ai k.Y).cell 19;have h3:∀c,Ext i c->c.cell? ⟨w,21,none⟩=some (.slice s.se.A x.seen.length s.se.c):=fun c k=>(D.ai k.Y).cell 21;refine wF 13 (Ext i) (by kernel_rfl) (Ext.start _) (fun a=>?_);refine FL 0 a ?_;refine FL 1 a ?_;refine FL 3 a ?_;refine FL 4 a ?_;refine FL 6 a ?_;refine FL 7 a ?_;refine FL 9 a ?_;refine FL 10 a ?_;clear h0 h1 h2 h3;(try simp only[aC]);refine rdS 2 (fun K f=>?_);go_simp;go_fit (Q _ bc);rintro e a8 ⟨J,d0,rfl,-,-,d⟩;have Yb:Ext i a8:=Ext.to bc d;clear d;go_wp2_with fail;refine f.Y _ _ Yb (fun a=>?_);clear f K Q;(try simp only[aC]);refine FL 12 a ?_;(try simp only[aC]);refine rdS 5 (fun K f=>?_);go_simp;go_fit (vZ _ bc);rintro e bg ⟨L,d1,rfl,-,-,d⟩;have kX:Ext i bg:=Ext.to bc d;clear d;go_wp2_with fail;refine f.Y _ _ kX (fun a=>?_);clear f K vZ;(try simp only[aC]);refine rdS 8 (fun K f=>?_);go_simp;go_fit (jI _ bc);rintro e bo ⟨M,d2,rfl,-,-,d⟩;have xg:Ext i bo:=Ext.to bc d;clear d;go_wp2_with fail;refine f.Y _ _ xg (fun a=>?_);clear f K jI;(try simp only[aC]);refine rdS 11 (fun K f=>?_);go_simp;go_fit (sY _ bc);rintro e y ⟨N,d3,rfl,-,-,d⟩;have yA:Ext i y:=Ext.to bc d;clear d;go_wp2_with fail;refine f.Y _ _ yA (fun a=>?_);clear f K sY;(try simp only[aC]);obtain⟨zH,je,V⟩:=aZ (D.ai yA.Y) (ai E yA.Y) (Mu.ai yA.Y);clear a Yb kX xg yA D E Mu;obtain⟨g,m,l⟩:=af.aM zH;unfold iK at g;refine wpAnyS.late ?_;have a:(fun _:World=>True) y:=trivial;refine et 13 (fun K f=>?_);go_simp;refine f.Y _ _ trivial (fun a=>?_);clear f K;(try simp only[aC]);refine aP 14 a ?_;(try simp only[aC]);refine et 15 (fun K f=>?_);go_simp;refine f.Y _ _ trivial (fun a=>?_);clear f K;(try simp only[aC]);refine aP 16 a ?_;(try simp only[aC]);refine et 17 (fun K f=>?_);go_simp;refine f.Y _ _ trivial (fun a=>?_);clear f K;(try simp only[aC]);refine aP 18 a ?_;(try simp only[aC]);refine et 19 (fun K f=>?_);go_simp;refine f.Y _ _ trivial (fun a=>?_);clear f K;(try simp only[aC]);refine wpAnyH_done (by kernel_rfl) ?_ _;clear g m l a;obtain⟨F,p⟩:=aG (aw (aw (aw (aw y w 16 [.slice J x.buf.length d0]) w 17 [.slice L x.next.length d1]) w 19 [.slice M x.args.length d2]) w 21 [.slice N x.seen.length d3]);have QL:Hid (af F w 50 (iK x ⟨⟨H,I⟩,⟨J,d0⟩,⟨L,d1⟩,⟨M,d2⟩,s.fo,⟨N,d3⟩,s.fr,s.ol⟩).toArray):=by rw[p];exact dL _ _ 21 _ (dL _ _ 19 _ (dL _ _ 17 _ (dL _ _ 16 _ zH)))
 have xe:Hid (Below w w F):=by rw[p];exact ax (aS _) _ _ _ (ax (aS _) _ _ _ (ax (aS _) _ _ _ (ax (aS _) _ _ _ je)))
 have W:Hid (af F (w.heap.size+1) 50 zT.toArray):=by rw[p];exact ba (ba (ba (ba V aa _ _) aa _ _) aa _ _) aa _ _
 change Exit.then _ _ _ _ (aw (aw (aw (aw y w 16 [.slice J x.buf.length d0]) w 17 [.slice L x.next.length d1]) w 19 [.slice M x.args.length d2]) w 21 [.slice N x.seen.length d3]);rw[<-p];clear p zH je V;have Bu:=ae (Kf F s.fo.A x.found.length s.fo.c x.found rfl t.f t.fq (S:=(·<F.heap.size)) (fun _ h=>h) (A F xe).fo.1);obtain⟨g,m,l⟩:=af.aM QL;unfold iK at g;go_wp2_with fail;refine Bu.mono ?_;rintro e w7 ⟨B4,d4,rfl,-,d⟩;obtain⟨S3,S6,X⟩:=aZ (ai xe d) (QL.ai d) (W.ai d);clear d g m l Bu QL xe W;obtain⟨g,m,l⟩:=af.aM S6;unfold iK at g;go_upto_region 4 with fail
 obtain⟨w8,q⟩:=aG (aw w7 w 20 [.slice B4 x.found.length d4]);have S7:Hid (af w8 w 50 (iK x ⟨⟨H,I⟩,⟨J,d0⟩,⟨L,d1⟩,⟨M,d2⟩,⟨B4,d4⟩,⟨N,d3⟩,s.fr,s.ol⟩).toArray):=by rw[q];exact dL _ _ 20 _ S6
 have S4:Hid (Below w w w8):=by rw[q];exact ax (aS _) _ _ _ S3
 have Y:Hid (af w8 (w.heap.size+1) 50 zT.toArray):=by rw[q];exact ba X aa _ _
 change Code.wp _ _ _ _ (aw w7 w 20 [.slice B4 x.found.length d4]);rw[<-q];clear q g m l S6 S3 X;have h8:=A.Y w8 S4;have SR:=ae (AQ w8 x.aA s.fr.A s.fr.c s.ol.A s.ol.c ⟨h8.lr,h8.lo,h8.fr.1,h8.ol.1,t.fr,t.ol⟩);unfold wV lZ at SR;obtain⟨g,m,l⟩:=af.aM S7;unfold iK at g;clear h8;go_wp2_with fail;refine SR.mono ?_;rintro e w9 ⟨v,rfl,A5,n5,B5,m5,rfl,-,-,d⟩;obtain⟨O,z,Z⟩:=aZ (ai S4 d) (S7.ai d) (Y.ai d);clear d g m l SR S7 S4 Y;obtain⟨g,m,l⟩:=af.aM z;unfold iK at g;go_upto_region 5 with fail
 obtain⟨U,hU⟩:=aG (iK {x with aA:=eH x.aA} ⟨⟨H,I⟩,⟨J,d0⟩,⟨L,d1⟩,⟨M,d2⟩,⟨B4,d4⟩,⟨N,d3⟩,⟨A5,n5⟩,⟨B5,m5⟩⟩);have Sp:Hid (U.length=34):=by rw[hU];rfl
 obtain⟨G,r⟩:=aG (aw w9 w 22 [.int .i64 (eH x.aA).own.ix,.int .i64 (eH x.aA).own.tag,.slice A5 (eH x.aA).free.length n5,.slice B5 (eH x.aA).old.length m5,.int .i64 (eH x.aA).spent]);have a7:Hid (af G w 50 U.toArray):=by rw[r,hU];exact dL _ _ 22 _ z
 have a6:Hid (Below w w G):=by rw[r];exact ax (aS _) _ _ _ O
 have aq:Hid (af G (w.heap.size+1) 50 zT.toArray):=by rw[r];exact ba Z aa _ _
 change Code.wp _ _ _ _ (aw w9 w 22 [.int .i64 (eH x.aA).own.ix,.int .i64 (eH x.aA).own.tag,.slice A5 (eH x.aA).free.length n5,.slice B5 (eH x.aA).old.length m5,.int .i64 (eH x.aA).spent]);rw[<-r];have HU:=ae hU;clear r hU g m l z O Z;refine wp_region_lit ?_;refine wpList_load_mid rfl 50 _ rfl w 0 rfl U _ (af.range a7 U (fun j v hv=>by rw[List.getElem?_toArray];exact hv)) underlying50 rfl (by rw[Sp.Y];rfl) ?_;refine wpList_store_mid rfl 50 _ _ rfl (w.heap.size+1) 0 U.toArray rfl rfl (af.there aq 0 _ (by rw[jG,Sp.Y];decide)) (by rw[jG,Sp.Y];rfl) (by rw[HU.Y];exact eK _ _) ?_;rw[jm];have hQ:=aQ (vs:=U) (cs:=zT) aq (by rw[Sp.Y];rfl);have hB:Below w w (aw G (w.heap.size+1) 0 U):=ax (cj _) _ _ _ a6;change wpList _ _ _ _ _ (aw G (w.heap.size+1) 0 U);generalize aw G (w.heap.size+1) 0 U=wz at *;go_wp2_with fail;have jU:=run_loadVar_mid (P:=prog) wz (w.heap.size+1) 0 50 U _ (af.range hQ U (fun j v hv=>by rw[List.getElem?_toArray];exact hv)) underlying50 rfl (by rw[Sp.Y];rfl);refine bodyPost_ret (qU results43 rfl jU) rfl ⟨_,by rw[HU.Y],hB⟩
end
section
variable{w:World} {x0:Nat} {A:Option Addr} {n k q:Nat} {x:Mo.Mc} {s:Sx}
theorem CU(H:MS w x0 A n k q x s){t:Nat}(ht:t<x.T.length)(B:CpB (bm x t)):Calls prog 14 #[.pointer (some ⟨x0,0,none⟩),t] w fun e w'=>∃s',e=.returned (.agg (iK (bm x t) s').toArray)/\Below w w w':=by
 obtain⟨p,D⟩:=aG (w.alloc (.cells zT.toArray 50));have br:Hid (Below w w p):=by rw[D];exact ak (aj w) _
 have Qe:Hid (af p w 50 zT.toArray):=by rw[D];exact af.new _ _ _
 have G:=H.more br;have I:=ae (Bx G t);obtain⟨g,d,z,o,hg,_,hz,R,_⟩:=G.task ht;obtain⟨K,hK⟩:=aG (bm x t);rw[<-hK]at hz R B ⊢;obtain⟨T,Q⟩:=aG (iK K z);have HT:=ae Q;have AH:Hid (T.length=34):=by rw[Q];rfl
 have Tf:Hid (p.rangeAt g (t*34) T):=fun i v o=>R i v (Q▸o);have pH:=ae (fun wx (C:Below p p wx)=>(Fi (w:=wx) K z (S:=s.I p x0) (fun b h=>bL h.1 C.size) (hz.move (fun b h=>C.block b h.1) fun _ h=>h) B).mono (fun e w' h=>(by obtain⟨F,h1,h2⟩:=h;exact⟨_,F,h1,rfl,h2⟩:∃(r:List Value) (F:Sh),e=.returned (.agg r.toArray)/\r=iK {K with aA:=eH K.aA} F/\Below wx wx w')));rw[<-Q]at pH;have X:=R 22 _ rfl;have Y:=R 23 _ rfl;obtain⟨u,-,jd⟩:=af.aM G.blk;unfold nW at u;rw[o]at u;obtain⟨m,hm⟩:=aG x.T.length;rw[<-hm]at u I ht;obtain⟨HH,HV,pI,HM,c,f⟩:=cT G o D hm X Y;have d1:decide (0<=(t:Int)/\(t:Int)<(m:Int))=true:=eE aa;unfold zT at D;have pI:=ae D;clear H G B hz R Q o hK hm D X Y;go_enter func14,ntmps14;go_upto_region 1 with fail
 rw[<-pI.Y];clear pI;go_wp2_with fail;refine I.mono ?_;rintro e w2 ⟨rfl,rfl⟩;rw[d1];go_wp2_with(refine wpList_load_mid rfl 50 _ rfl g (t*34) rfl T _ Tf underlying50 rfl (by rw[AH.Y];rfl) ?_)
 go_fit (pH _ (aj p));rintro e a ⟨r,F,rfl,qN,C⟩;obtain⟨cM,G2,fP⟩:=aZ C (Qe.ai C) qN;have y:Hid (r.length=34):=by rw[qN];rfl
 clear C qN pH Qe Tf;go_upto_region 4 with(refine wpList_store_mid rfl 50 _ _ rfl a 0 r.toArray rfl rfl (af.there (af.new a 50 zT.toArray) 0 _ (by rw[jG,y.Y];decide)) (by rw[jG,y.Y];rfl) (by rw[fP.Y];exact eK _ _) ?_)
 obtain⟨V,W⟩:=aG (aw (a.alloc (.cells zT.toArray 50)) a 0 r);have Z:Below a a V:=by rw[W];exact ax (aS _) _ _ _ (ak (aj a) _)
 have rI:Hid (af V a 50 (iK {K with aA:=eH K.aA} F).toArray):=by rw[W, <-fP.Y];exact aQ (cs:=zT) (af.new a _ _) (by rw[y.Y];rfl)
 rw[jm];change Code.wp _ _ _ _ (aw (a.alloc (.cells zT.toArray 50)) a 0 r);rw[<-W];obtain⟨je,J⟩:=av Z (G2.ai Z);have N:Below p p V:=ai cM Z;have O:=ae N;have X:=(Below.cell N (bb c)).trans c;have Y:=(Below.cell N (bb f)).trans f;have H5:=HH.more N;obtain⟨u,-,jd⟩:=af.aM H5.blk;unfold nW at u;rw[HV.Y, <-HM.Y]at u;obtain⟨dR,dK,a7⟩:=af.aM rI;unfold iK at dR;have Fj:g<a.heap.size:=bL hg cM.size;have VF:x0<a.heap.size:=bL HH.blk.lt cM.size;have S9:=G2.lt;clear W Z N H5;go_upto_region 5 with fail
 obtain⟨U,hU⟩:=aG (iK K F);have M:Hid (U.length=34):=by rw[hU];rfl
 obtain⟨E,l⟩:=aG (aw V a 22 [K.aA.own.ix,K.aA.own.tag]);have a6:Hid (af E a 50 U.toArray):=by rw[l,hU];exact dL _ _ 22 _ rI
 have aq:Hid (Below w w E):=by rw[l];exact ax (Nat.le_of_lt S9) _ _ _ (ai br O)
 have L:Hid (af E w 50 zT.toArray):=by rw[l];exact ba J aa _ _
 change Code.wp _ _ _ _ (aw V a 22 [K.aA.own.ix,K.aA.own.tag]);rw[<-l];have HU:=ae hU;clear l hU u jd dR dK a7 X Y rI J je O fP c f;refine wp_region_lit ?_;refine wpList_load_mid rfl 50 _ rfl a 0 rfl U _ (af.range a6 U (fun j v o=>by rw[List.getElem?_toArray];exact o)) underlying50 rfl (by rw[M.Y];rfl) ?_;refine wpList_store_mid rfl 50 _ _ rfl w 0 U.toArray rfl rfl (af.there L 0 _ (by rw[jG,M.Y];decide)) (by rw[jG,M.Y];rfl) (by rw[HU.Y];exact eK _ _) ?_;rw[jm];have hQ:=aQ (vs:=U) (cs:=zT) L (by rw[M.Y];rfl);have hB:Below w w (aw E w 0 U):=ax (aS _) _ _ _ aq;change wpList _ _ _ _ _ (aw E w 0 U);generalize aw E w 0 U=wz at *;go_wp2_with fail;have jU:=run_loadVar_mid (P:=prog) wz w 0 50 U _ (af.range hQ U (fun j v o=>by rw[List.getElem?_toArray];exact o)) underlying50 rfl (by rw[M.Y];rfl);refine bodyPost_ret (qU results14 rfl jU) rfl ⟨_,by rw[HU.Y],hB⟩
end
end Go.Proofs.YtjcjjiieblineaaGreat
