/- Walks and plain facts. No condition. -/
import Derived.Test.YtpfbfhfcbdbglaaGreatSd
import Derived.Test.YtpfbfhfcbdbglaaGreatPk
namespace Go.Proofs.YtpfbfhfcbdbglaaGreat
open Go.RowKit Go.Proofs.Tryz Mo
set_option maxHeartbeats 8000000
set_option maxRecDepth 100000
set_option linter.all false
variable {w w' wr W w4 W2 w3 w5 wz:World}{n base g m1 m2 m3 k q fuel d i dd p bl t dl b' j y d' n1 n' b2 b3:Nat}{h:Mo.Hl}{A1 A2 A3 A B D B':Option Addr}{a:Act}{v v4 v3 v2:Value}{P:Program}{ops:Array Oper}{Q:Exit->Act->World->Prop}{c:Mo.dG}{listed:Array Bool}{S:World->Prop}{md:Region.Mode}{x:Mo.Wt}{xs ys:List Mo.Wt}{oi:Oper}{hd N:Int}{G g':Mo.r7}{E:Prop}{X:Nat->Prop}{m:Mm}{r:Mo.Rn}{s:Sh}{L:List Nat}{zs:List Int}{f:Func}
theorem EI(t e:TypeId)(o:P.underlying t=some (.slice e)){z:Option Value}{C b:Nat}(l:(P.info? e).map (λi=>(i.zero,i.size,i.bytes))=some (z,C,b))(A:Option Addr)(n c:Nat)(F:n<=c)(u:A=none->n=0)(w:World) :
 (Instr.slice t (.slice A n c) none (some (.int .i64 n)) (some (.int .i64 n))).run P w=.ok (.slice A n n) w:=by
 cases d:P.info? e with
 |none=>rw[d]at l;cases l
 |some i =>
  have f:0<=(n:Int)/\(n:Int)<=(c:Int):=aa;cases A with
  |none=>have g:=u rfl;subst g;simp[Instr.slice,Instr.sliceBounds,run_underlying o,sizeOf,typeInfo,d,run_sliceBound_if]
  |some a=>simp[Instr.slice,Instr.sliceBounds,run_underlying o,sizeOf,typeInfo,d,run_sliceBound_if,f,add_zero]
theorem rQ:(prog.info? 69).map (λi=>(i.zero,i.size,i.bytes))=some (some (.int .u64 0),1,8):=by kernel_rfl
theorem yU(w:World)(A:Option Addr)(n c:Nat)(l:n<=c)(b:A=none->n=0):Calls prog 143 #[.slice A n c] w λe w'=>e=.returned (.slice A n n)/\w=w':=by have a:=EI (P:=prog) 30 69 underlying30 rQ A n c l b;clear l b;go_enter func143,ntmps143;go_wp2;go_ret;exact⟨rfl,rfl⟩
theorem UQ(w:World)(A:Option Addr)(n c:Nat)(b:n<=c)(hA:A=none->n=0):Calls prog 150 #[.slice A n c] w λe w'=>e=.returned (.slice A n n)/\w=w':=by have a:=EI (P:=prog) 32 40 underlying32 nc A n c b hA;clear b hA;go_enter func150,ntmps150;go_wp2;go_ret;exact⟨rfl,rfl⟩
theorem sT{o:Oper}{K:Act->World->Prop}(H:o.guard=none)(s x:Operand)(t:TypeId)(O:o.op=.call {callee:=.builtin .append,args:=#[s,x],argTypes:=#[t,t]})(e:TypeId)(k:IntKind)(T:P.underlying t=some (.slice e))(M:(P.info? e).map (λi=>(i.zero,i.size,i.bytes))=some (some (.int k 0),1,8))(A:Option Addr)(n:Nat)(C:List Int)(R:a.eval s=.slice A n n)(l:n=C.length)(I:bD w k A C)(B:Addr)(c:Nat)(z:Int)(U:a.eval x=.slice (some B) 1 c)(J:bD w k (some B) [z])(F:n<=1000000)(h:∀f g w',aK w' w e k (.slice f (n+1) g) (C++[z])->Below w w w'->K (a.put o.dst (.slice f (n+1) g)) w') :
 if Region.wanted o (yielded ops a.tmps)=true then Oper.wp P o a w K Q else E:=by
 obtain⟨i,N,q,r,v⟩:=info_parts M
 refine step_append_grows H s x t O e i (.int k 0) 1 8 T N q r v rfl af A n n (C.map (Value.int k)) R (λe=>?_) (by simp[l]) (λb F j u p=>?_) B 1 c [.int k z] U rfl (λj u p=>?_) (by simp[Value.oneCell']) aa (by unfold maxLen;omega) aa (λS w' hown L=>?_)
 .subst e;have:=I.po;rw[this]at l;exact⟨l,l⟩
 .obtain⟨G,d,m⟩:=I j u p;rw[F]at d;injection d with d
  subst d;exact m
 .obtain⟨G,d,m⟩:=J j u p;injection d with d
  subst d;exact m
 .have y:aK w' w e k S (C++[z]):=by
   unfold aK;rw[List.map_append];subst l;simpa using hown
  obtain⟨f,g,D⟩:=y.shape
  rw[fM,iw, <-l]at D
  subst D
  exact h f g w' y ((Below.refl _ w).grown L (aR _) (λb F=>by cases F))
theorem tkH(u:ops[i]?=some oi)(e:(Region.noSelect ops && (Region.free md ops listed i && (Region.ready md ops listed).contains i))=true)(z:Region.wanted oi (yielded ops a.tmps)=true)(l:∀c a w,Q (.panic c) (a.put oi.dst v) w->Q (.panic c) a w)(o:S w)(C:∀w,S w->(execOp a.eval oi).run P w=.ok (.value v) w)(h:wpAnyH P md ops Q S fuel (listed.setIfInBounds i true) (a.put oi.dst v) w):wpAnyH P md ops Q S (fuel+1) listed a w:=by
 simp only[eT]at e
 exact wpAnyH_take u e.1 e.2.1 e.2.2 l (Or.inl ⟨z,C⟩) o h
theorem tkU(o:ops[i]?=some oi)(b:(Region.noSelect ops && (Region.free md ops listed i && (Region.ready md ops listed).contains i))=true)(u:Region.wanted oi (yielded ops a.tmps)=false)(e:∀c a w,Q (.panic c) (a.put oi.dst undef) w->Q (.panic c) a w)(l:S w)(h:wpAnyH P md ops Q S fuel (listed.setIfInBounds i true) (a.put oi.dst undef) w):wpAnyH P md ops Q S (fuel+1) listed a w:=by
 simp only[eT]at b
 exact wpAnyH_take o b.1 b.2.1 b.2.2 e (Or.inr ⟨u,rfl⟩) l h
theorem aU(i:Nat){d:Tmp}{e l u C F}(I:S w)(h:wpAnyH P md ops Q S fuel (listed.setIfInBounds i true) (a.put (some d) v) w)(K:ops[i]?=some ⟨some d,e,l,u,C,F⟩:=by rfl)(J:(Region.noSelect ops && (Region.free md ops listed i && (Region.ready md ops listed).contains i))=true:=by kernel_rfl)(M:Region.wanted ⟨some d,e,l,u,C,F⟩ (yielded ops a.tmps)=true:=by rfl)(H:∀c a w,Q (.panic c) (a.put (some d) v) w->Q (.panic c) a w:=by exactλ_ _ _ h=>h)(O:∀w,S w->(execOp a.eval ⟨some d,e,l,u,C,F⟩).run P w=.ok (.value v) w:=by intro w b;(try dsimp only at b);first|(go_simp;done)|(go_simp;with_reducible rfl)):wpAnyH P md ops Q S (fuel+1) listed a w:=tkH K J M H I O h
theorem Cy(i:Nat){d:Tmp}{b e l u z}(F:S w)(h:wpAnyH P md ops Q S fuel (listed.setIfInBounds i true) (a.put (some d) undef) w)(I:ops[i]?=some ⟨some d,b,e,l,u,z⟩:=by rfl)(H:(Region.noSelect ops && (Region.free md ops listed i && (Region.ready md ops listed).contains i))=true:=by kernel_rfl)(J:Region.wanted ⟨some d,b,e,l,u,z⟩ (yielded ops a.tmps)=false:=by rfl)(C:∀c a w,Q (.panic c) (a.put (some d) undef) w->Q (.panic c) a w:=by exactλ_ _ _ h=>h):wpAnyH P md ops Q S (fuel+1) listed a w:=tkU I H J C F h
theorem eQ(i:Nat){d:Option Tmp}{e l u C F}(h:∀b:Act->World->Prop,Shut (∀a w,S w->(S w->wpAnyH P md ops Q S fuel (listed.setIfInBounds i true) a w)->b a w)->if Region.wanted ⟨d,e,l,u,C,F⟩ (yielded ops a.tmps)=true then Oper.wp P ⟨d,e,l,u,C,F⟩ a w b Q else b (a.put d undef) w)(H:ops[i]?=some ⟨d,e,l,u,C,F⟩:=by rfl)(I:Region.ready md ops listed=[i]:=by kernel_rfl):wpAnyH P md ops Q S (fuel+1) listed a w:=wpAnyH_ready I aA (AllReadyH.cons H h AllReadyH.nil)
theorem aL:(∀(a:Act) (d:Tmp) (v:Value),a.put (some d) v={a with tmps:=a.tmps.setIfInBounds d v})/\(∀(a:Act) (v:Value),a.put none v=a)/\(∀(l:List Value) (i:Nat) (x:Value),l.toArray.setIfInBounds i x=(l.set i x).toArray)/\(∀(a:Value) (l:List Value) (x:Value),(a::l).set 0 x=x::l)/\∀(a:Value) (l:List Value) (i:Nat) (x:Value),(a::l).set (i+1) x=a::l.set i x:=⟨λ_ _ _=>rfl,λ_ _=>rfl,λ_ _ _=>by simp,λ_ _ _=>rfl,λ_ _ _ _=>rfl⟩
def wpAnyS(n:Nat)(P:Program)(e:Region.Mode)(b:Array Oper)(Q:Exit->Act->World->Prop)(S:World->Prop):Nat->Array Bool->Act->World->Prop
 |0,listed,a,w=>Region.ready e b listed=[]/\Q .normal a w
 |fuel+1,listed,a,w=>(Region.ready e b listed=[]->Q .normal a w)/\∀i∈Region.ready e b listed,wpOp P b Q i (λc w'=>(i<n->S w')/\wpAnyS n P e b Q S fuel (listed.setIfInBounds i true) c w') a w
theorem wpAnyS.any:∀(fuel:Nat) (listed:Array Bool) (a:Act) (w:World),wpAnyS n P md ops Q S fuel listed a w->wpAny P md ops Q fuel listed a w
 |0,_,_,_,h=>h
 |fuel+1,_,_,_,h=>⟨h.1,λi c=>wpOp_mono (λ_ _ b=>wpAnyS.any fuel _ _ _ b.2) (h.2 i c)⟩
theorem wpAnyS.W7:∀(fuel:Nat) (listed:Array Bool) (a:Act) (w:World),(∀i,i<n->listed.getD i true=true)->wpAnyH P md ops Q (λ_=>True) fuel listed a w->wpAnyS n P md ops Q S fuel listed a w
 |0,_,_,_,_,h=>h
 |fuel+1,listed,_,_,hl,h=>⟨h.1,λi b=>by
  have c:=(mem_ready.1 b).1
  have g:¬i<n:=λe=>by rw[hl i e]at c;cases c
  exact wpOp_mono (λ_ _ d=>⟨λe=>absurd e g,wpAnyS.W7 fuel _ _ _ (λj f=>by rw[getD_set_ne true aa];exact hl j f) d.2⟩) (h.2 i b)⟩
theorem wpAnyS.late(h:wpAnyH P md ops Q (λ_=>True) fuel listed a w)(e:((List.range n).all λi=>listed.getD i true)=true:=by kernel_rfl):wpAnyS n P md ops Q S fuel listed a w:=wpAnyS.W7 fuel listed a w (λi b=>List.all_eq_true.1 e i (List.mem_range.2 b)) h
def Ig(n i:Nat)(l:Region.Mode)(b:Array Oper):Bool:=decide (i<n) && ((List.range b.size).all λj=>decide (j<n) || match b[j]? with|some o=>o.after.any λe=>Region.binds l e && e.on==i|none=>true)
theorem wpAnyS.first(I:ops[i]?=some oi)(u:∀(j:Nat) (o:Oper) q b,ops[j]?=some o->o.op≠.select q b)(C:Ig n i md ops=true)(U:∀c a w,Q (.panic c) (a.put oi.dst v) w->Q (.panic c) a w) :
 ∀(fuel:Nat) (listed:Array Bool) (a:Act) (w:World),
  (∀j p,ops[j]?=some p->j≠i->listed.getD j true=false->(∀e∈p.after,Region.binds md e=true->e.on≠i)->oi.apart ops p=true) ->
  i∈Region.ready md ops listed->YieldsIf P ops S oi v a->S w ->
  wpAnyS n P md ops Q S fuel (listed.setIfInBounds i true) (a.put oi.dst v) w->wpAnyS n P md ops Q S (fuel+1) listed a w:=by
 intro fuel
 induction fuel with
 |zero =>
  intro listed a w _ m B r H;refine⟨λh=>(by rw[h]at m;cases m),λj A=>?_⟩;by_cases f:j=i
  .subst f;exact B.wpOp I r ⟨λ_=>r,H⟩
  .have:=ready_mono A f;rw[H.1]at this;cases this
 |succ fuel W =>
  intro listed a w M m B r H;refine⟨λh=>(by rw[h]at m;cases m),λj A=>?_⟩;by_cases f:j=i
  .subst f;exact B.wpOp I r ⟨λ_=>r,H⟩
  .have l:=H.2 j (ready_mono A f);obtain⟨g,p,d,hall⟩:=mem_ready.1 A;have L:∀e∈p.after,Region.binds md e=true->e.on≠i:=λe E s F=>by
    have l:=hall e E s
    have N:=(mem_ready.1 m).1
    rw[F]at l
    rcases Nat.lt_or_ge i listed.size with D|D
    .simp[D]at N l;rw[N]at l;cases l
    .simp[Array.getElem?_eq_none D]at l
   have K:j<n:=by
    simp only[Ig,eT,List.all_eq_true,List.mem_range,Bool.or_eq_true,eI]at C;rcases C.2 j (Array.getElem?_eq_some_iff.1 d).1 with h|h
    .exact h
    .rw[d]at h;obtain⟨e,E,s⟩:=Array.any_eq_true'.1 h;simp only[eT,beq_iff_eq]at s;exact absurd s.2 (L e E s.1)
   have T:=wpOp_putIf d (M j p d f g L) (λq b=>u i oi q b I) (λq b=>u j p q b d) U B l;have O:∀k y,ops[k]?=some y->k≠i->(listed.setIfInBounds j true).getD k true=false ->
    (∀e∈y.after,Region.binds md e=true->e.on≠i)->oi.apart ops y=true:=λk y V G x J=>by
    refine M k y V G ?_ J
    by_cases t:j=k
    .subst t;exact g
    .rw[getD_set_ne true t]at x;exact x
   refine wpOp_mono (λR X z=>⟨λ_=>z.2.1 K,W (listed.setIfInBounds j true) R X O (ready_mono m (Ne.symm f)) z.1 (z.2.1 K) ?_⟩) T;rw[Array.setIfInBounds_comm _ _ f];exact z.2.2
theorem jg(i:Nat){d:Tmp}{l o u C F}(J:S w)(h:wpAnyS n P md ops Q S fuel (listed.setIfInBounds i true) (a.put (some d) v) w)(H:ops[i]?=some ⟨some d,l,o,u,C,F⟩:=by rfl)(b:(Region.noSelect ops && (Region.free md ops listed i && ((Region.ready md ops listed).contains i && Ig n i md ops)))=true:=by kernel_rfl)(K:Region.wanted ⟨some d,l,o,u,C,F⟩ (yielded ops a.tmps)=true:=by rfl)(I:∀c a w,Q (.panic c) (a.put (some d) v) w->Q (.panic c) a w:=by exactλ_ _ _ h=>h)(M:∀w,S w->(execOp a.eval ⟨some d,l,o,u,C,F⟩).run P w=.ok (.value v) w:=by intro w e;(try dsimp only at e);first|(go_simp;done)|(go_simp;with_reducible rfl)):wpAnyS n P md ops Q S (fuel+1) listed a w:=by
 simp only[eT]at b
 exact wpAnyS.first H (Region.noSelect_spec b.1) b.2.2.2 I fuel listed a w (Region.free_spec H b.2.1) (by simpa using b.2.2.1) (Or.inl ⟨K,M⟩) J h
theorem vA(i:Nat){d:Option Tmp}{e l o u C}(h:∀b:Act->World->Prop,Shut (∀a w,S w->(S w->wpAnyS n P md ops Q S fuel (listed.setIfInBounds i true) a w)->b a w)->if Region.wanted ⟨d,e,l,o,u,C⟩ (yielded ops a.tmps)=true then Oper.wp P ⟨d,e,l,o,u,C⟩ a w b Q else b (a.put d undef) w)(H:ops[i]?=some ⟨d,e,l,o,u,C⟩:=by rfl)(F:Region.ready md ops listed=[i]:=by kernel_rfl):wpAnyS n P md ops Q S (fuel+1) listed a w:=by
 refine⟨λc=>(by rw[F]at c;cases c),λj g=>?_⟩
 rw[F]at g
 obtain rfl:=List.mem_singleton.1 g
 exact wpOp_step H (λb k=>h b (λa w f m=>k a w ⟨λ_=>f,m f⟩))
theorem gm(n:Nat)(S:World->Prop){id:Nat}(e:P.follows .mixedOrders=true)(b:S w.drew)(h:S w.drew->wpAnyS n P .any ops Q S ops.size (Array.replicate ops.size false) a w.drew):(Code.region id ops true).wp P Q a w:=wp_region_any e (wpAnyS.any _ _ _ _ (h b))
section
variable(w:World)
theorem Ih(A B:Option Addr)(c d:Nat)(l:List Int)(z:n=l.length)(F:n<=100000)(o:bD w .u64 A l)(u:bD w .u64 B l) :
 Calls prog 54 #[.slice A n c,.slice B n d] w λe w'=>e=.returned true/\Below w w w':=by
 obtain⟨f,j,m⟩:=aS z o u
 clear z o u
 go_enter func54,ntmps54
 go_wp2
 go_loopw[13] (λi wr=>∃k:Nat,k<=n/\i=k/\Hid (Below w w wr)) (λi _=>n-(intOf i).toNat)
 case atStart=>exact⟨0,aZ _,rfl,ai w⟩
 case round =>
  obtain⟨k,C,rfl,b⟩:=hrel;by_cases a:k<n
  .obtain⟨r,x,p,g,t⟩:=bD.at_ (j.below b) (by rw[<-f.Y];exact a);obtain⟨s,y,q,h,v⟩:=bD.at_ (m.below b) (by rw[<-f.Y];exact a);cases g.symm.trans h
   subst p;subst q;clear g h;go_wp2;go_quiet(fail);go_wp2;go_roundw;case rel=>exact⟨k+1,aa,by go_num,bZ b _⟩
   case measure=>simp[intOf];omega
  .go_wp2;go_ret;exact⟨rfl,b⟩
def sg(c:dG):Nat:=1+(1+c.cap.toNat)*c.chans.toNat+4*c.threads.toNat+c.threads.toNat
def QH(c:dG)(l:List Int)(w:World)(e:Ending)(b:World):Prop :=∃A1 A2 A3 m1 m2 m3,e=.returned (.agg (rZ (kj c l).ak A1 (kj c l).chans.length m1 A2 (kj c l).waits.length m2 A3 (kj c l).done.length m3))/\wu b (kj c l) A1 A2 A3/\Below w w b
theorem Ii(hc:1<=c.threads/\c.threads<=64/\0<=c.cap/\c.cap<=8/\1<=c.chans/\c.chans<=8)(l:List Int)(D:Option Addr)(dd:Nat)(fF:dl=l.length)(n7:dl=sg c)(hu:fV l)(hD:bD w .u64 D l) :
 Calls prog 53 #[j8 c A n k,.slice D dl dd] w (QH c l w):=by
 obtain⟨b1,b2,b3,b4,b5,b6⟩:=hc
 have Ca:dl<=1000:=by unfold sg at n7;have:(1+c.cap.toNat)*c.chans.toNat<=9*8:=Nat.mul_le_mul aa aa;omega
 have xm:0<dl:=by rw[n7];unfold sg;omega
 have hw:∀i,i<dl->∃ad z,D=some ad/\l[i]?=some z/\(0<=z/\z<18446744073709551616)/\∀r,Below w w r->r.cell? (ad.add i)=some (.int .u64 z):=λi hi=>by
  obtain⟨ad,z,T,h2,h3⟩:=bD.at_ hD (i:=i) aa
  exact⟨ad,z,T,h2,hu z (cH h2),λr M=>(Below.cell M (bc h3)).trans h3⟩
 obtain⟨ad,z,rfl,F,d,m⟩:=hw 0 xm
 obtain⟨W,hW⟩:=aw ((w.alloc (dB c A n k)).alloc sj)
 have hB:Below w w W:=by rw[hW];exact aj (aj (ai w) _) _
 obtain⟨cO,Zf,HB,jf⟩:=bh n7 hw hB fF
 have h0:=m W hB
 rw[show ad.add 0=ad from add_zero _]at h0
 have G:Hid (ag W w 24 #[c.kind,c.threads,c.chans,c.cap,c.nodes,c.aP,c.aB,c.tags,c.bw,c.bn,.slice A n k]):=by rw[hW];exact(ag.new w _ _).alloc _
 have K2:Hid (ag W (w.heap.size+1) 45 #[oZ,oN,oN,oN]):=by rw[hW];exact ag.newAt _ _ _ aA
 have k1:z.tmod 4294967296=z%4294967296:=Int.tmod_eq_emod_of_nonneg d.1
 have k2:IntKind.i64.wrap (z%4294967296)=z%4294967296:=bH _ aa
 obtain⟨HW,HZ⟩:=av hW F
 clear n7 hw hu hD fF hW hB F d m
 unfold j8 at *
 go_enter func53,ntmps53
 go_upto_region 1 with fail
 rw[<-HW.Y]
 have dg:=K2.lt
 go_upto_region 2 with fail
 have H0:Hid (uH w (W.alloc (sY (z%4294967296) none 0 0 none 0 0 none 0 0)) (z%4294967296) oN oN oN [] [] [] W):=⟨ag.new _ _ _,aD.nil _ _ _ _ _ _,aD.nil _ _ _ _ _ _,aH.nil _ _ _ _ _,aj HB _,HB.size⟩
 obtain⟨I,uw⟩:=aw (z%4294967296)
 rw[<-uw]at H0
 have hX:=aj (ai W) (sY I none 0 0 none 0 0 none 0 0)
 obtain⟨G,K2⟩:=av (G.ah hX) (K2.ah hX)
 obtain⟨gh,rX⟩:=aw W.heap.size
 have rJ:Hid (I=l.getD 0 0%4294967296):=by unfold Hid;rw[uw,ew,HZ.Y];rfl
 rw[<-rX]at H0
 have HGW:Hid (w.heap.size+1<gh):=by rw[rX];exact dg
 rw[<-uw, <-rX]
 generalize W.alloc (sY I none 0 0 none 0 0 none 0 0)=V at *
 clear h0 k1 k2 dg hX uw rX
 obtain⟨hcc,-,fE⟩:=ag.aF G
 go_wp2_with fail
 clear hcc fE
 go_loopw[6,7] (λa i wr=>∃(j p:Nat) (v1:Value),j<=c.chans.toNat/\a=p/\i=j/\Hid (p=1+(1+c.cap.toNat)*j)/\Hid (uH w wr I v1 oN oN (pieces (iy c) (1+c.cap.toNat) j (l.drop 1)) [] [] gh)/\Hid (ag wr w 24 #[c.kind,c.threads,c.chans,c.cap,c.nodes,c.aP,c.aB,c.tags,c.bw,c.bn,.slice A n k])/\Hid (ag wr (w.heap.size+1) 45 #[oZ,oN,oN,oN])) (λ_ i _=>c.chans.toNat-(intOf i).toNat)
 case atStart=>exact⟨0,1,_,aZ _,rfl,rfl,rfl,H0,G,K2⟩
 case round =>
  clear H0 G K2;obtain⟨j,p,v1,hj,rfl,rfl,HP,H,G,K2⟩:=hrel;obtain⟨hcc,-,fE⟩:=ag.aF G;by_cases dh:(j:Int)<c.chans
  .have hm:p+c.cap.toNat<dl:=by
    have:=Nat.mul_le_mul_left (1+c.cap.toNat) (show j+1<=c.chans.toNat by omega);have:=cO.Y;rw[HP.Y];unfold sg at this;rw[Nat.mul_succ]at *;omega
   obtain⟨dO,z,hA,F,d,m⟩:=Zf.Y p aa
   cases hA
   have h0:=m wr H.ext
   obtain⟨l1,t⟩:=aw (l.drop p)
   have bz:l1.getD 0 0=z:=by rw[t,ew,List.getElem?_drop,Nat.add_zero,F];rfl
   obtain⟨x,M⟩:=aw (iy c l1)
   have u:=M
   unfold iy at u
   rw[bz]at u
   dsimp only at u
   obtain⟨y1,xN⟩:=aw (z/4096)
   obtain⟨y2,Dc⟩:=aw (z/65536)
   obtain⟨y3,dm⟩:=aw (z/131072)
   have a1:z.tmod 4096=x.gen:=by rw[u];exact Int.tmod_eq_emod_of_nonneg d.1
   have a2:IntKind.i64.wrap x.gen=x.gen:=bH _ (by rw[u];dsimp only;omega)
   have a3:IntKind.u64.wrap (z.tdiv 4096)=y1:=by rw[Int.tdiv_eq_ediv_of_nonneg d.1,cA];omega
   have a4:y1.tmod 16=x.cap:=by rw[u,xN];exact Int.tmod_eq_emod_of_nonneg aa
   have a5:IntKind.i64.wrap x.cap=x.cap:=bH _ (by rw[u];dsimp only;omega)
   have a6:IntKind.u64.wrap (z.tdiv 65536)=y2:=by rw[Int.tdiv_eq_ediv_of_nonneg d.1,cA];omega
   have a7:(y2.tmod 2==1)=x.used:=by rw[u,Dc,Int.tmod_eq_emod_of_nonneg aa]
   have a8:IntKind.u64.wrap (z.tdiv 131072)=y3:=by rw[Int.tdiv_eq_ediv_of_nonneg d.1,cA];omega
   have a9:(y3.tmod 2==1)=x.closed:=by rw[u,dm,Int.tmod_eq_emod_of_nonneg aa]
   obtain⟨W3,B⟩:=aw (wr.alloc (.cells #[x.gen,x.cap,x.used,x.closed,oN] 50))
   have bU:=ae (aj (ai wr) (.cells #[x.gen,x.cap,x.used,x.closed,oN] 50))
   rw[<-B]at bU
   have J:Hid (ag W3 wr 50 #[x.gen,x.cap,x.used,x.closed,oN]):=by rw[B];exact ag.new _ _ _
   have oL:=ae B
   obtain⟨HX,aq,tz,cv,HM⟩:=bQ M u t d hm
   clear F m M u t bz xN Dc dm B d
   go_upto_region 8 with fail
   rw[<-oL.Y]
   clear a1 a2 a3 a4 a5 a6 a7 a8 a9 h0 hcc fE
   obtain⟨o,cG⟩:=aw wr
   subst cG
   obtain⟨y4,bE⟩:=aw (z/1048576)
   obtain⟨Q,E⟩:=aw (z/1048576%16)
   have d:=cv.Y
   have a1:IntKind.u64.wrap (z.tdiv 1048576)=y4:=by rw[Int.tdiv_eq_ediv_of_nonneg d.1,cA];omega
   have a2:y4.tmod 16=Q:=by rw[E,bE];exact Int.tmod_eq_emod_of_nonneg aa
   have a3:IntKind.i64.wrap Q=Q:=bH _ aa
   obtain⟨N,hN⟩:=aw x.buf.length
   have UR:(N:Int)=min Q c.cap:=by
    rw[hN,aq.Y, <-E];have:=HM.Y;have T:l1.length+p=dl:=by rw[tz.Y,iu];have:=jf.Y;omega
    simp only[fP,fK,iu];omega
   obtain⟨HN,ct⟩:=av hN (show ∀q,q<N->∃S,l[p+1+q]?=some S/\x.buf[q]?=some (S%4294967296)fromλq hq=>by
    have:=HM.Y
    have T:p+1+q<l.length:=by have:=jf.Y;omega
    refine⟨_,cq T,?_⟩
    rw[aq.Y, <-E,tz.Y]
    simp only[List.drop_drop]
    rw[List.getElem?_map,List.getElem?_take,ay aa,List.getElem?_take,ay aa,List.getElem?_drop,cq aa]
    rfl)
   obtain⟨HY,en⟩:=av UR bU
   clear d bE E hN UR
   go_wp2
   go_loopw[10] (λi wr=>∃(q:Nat) (v:Value),q<=N/\i=q/\Hid (Below o o wr)/\Hid (ag wr o 50 #[x.gen,x.cap,x.used,x.closed,v])/\Hid (aK wr o 3 .i64 v (x.buf.take q))) (λi _=>N-(intOf i).toNat)
   case atStart=>exact⟨0,_,aZ _,rfl,bU,J,aK.nil _ _ _ _⟩
   case round =>
    clear bU J;obtain⟨q,v,hq,rfl,HB,J,s⟩:=hrel;have hy:=HY.Y;obtain⟨Bn,K1w⟩:=av (ah H.ext HB) (G.ah HB);by_cases cF:q<N
    .have g1:(q:Int)<Q:=aa;have g2:(q:Int)<c.cap:=aa;obtain⟨S,T,h2⟩:=ct.Y q cF;obtain⟨P1,sF⟩:=aw (p+1);obtain⟨P2,O⟩:=aw (p+1+q);have NC:P2<dl:=by have:=HM.Y;omega
     obtain⟨_,dU,hA,F,d,m⟩:=Zf.Y P2 NC;cases hA
     rw[O]at F;cases T.symm.trans F
     obtain⟨X,hX⟩:=aw (S%4294967296);have e1:IntKind.i64.wrap ((p:Int)+1)=(P1:Int):=by rw[bH _ aa];omega
     have e2:IntKind.i64.wrap ((P1:Int)+(q:Int))=(P2:Int):=by rw[bH _ aa];omega
     have e3:S.tmod 4294967296=X:=by rw[hX];exact Int.tmod_eq_emod_of_nonneg d.1
     have e4:IntKind.i64.wrap X=X:=bH _ aa;have Np:Hid (x.buf.take (q+1)=x.buf.take q++[X]):=by unfold Hid;rw[hX];exact eM h2
     have er:q+1<=100:=aa;obtain⟨L,hL⟩:=aw (x.buf.take q);have Db:L.length<=q:=by rw[hL];exact List.length_take_le _ _
     rw[<-hL]at s Np;obtain⟨Bv,dv,hv⟩:=s.shape;obtain⟨Ln,cy⟩:=aw L.length;rw[<-cy]at hv;subst hv;have aT:=λr (M:Below w w r/\ag r o 50 #[x.gen,x.cap,x.used,x.closed,.slice Bv Ln dv]) i=>ag.cell M.2 i;have fy:=λr (M:Below w w r/\ag r o 50 #[x.gen,x.cap,x.used,x.closed,.slice Bv Ln dv])=>m r M.1;obtain⟨EJ,Gk⟩:=av Db cy;obtain⟨hcc,-,fE⟩:=ag.aF K1w;clear hy T h2 F d m sF O hX hL Db cy;go_upto_region 11 with fail
     have Zj:Below w w wr/\ag wr o 50 #[x.gen,x.cap,x.used,x.closed,.slice Bv Ln dv]:=⟨Bn,J⟩
     refine gm 13 (λr=>Below w w r/\ag r o 50 #[x.gen,x.cap,x.used,x.closed,.slice Bv Ln dv]) gG ⟨Bn.drew,J⟩ (λf=>?_);refine jg 0 f ?_;refine jg 1 f ?_;refine jg 2 f ?_;refine jg 3 f ?_;refine jg 4 f ?_;refine jg 5 f ?_;refine jg 6 f ?_;refine jg 7 f ?_;refine jg 8 f ?_;refine jg 9 f ?_;refine jg 10 f ?_;clear fy;(try simp only[aL]);refine vA 11 (λK y=>?_);go_simp;refine y.Y _ _ ⟨aj Bn.drew _,ag.alloc (w:=wr.drew) J _⟩ (λf=>?_);clear y K;(try simp only[aL]);refine vA 12 (λK y=>?_);have C:Below wr wr (wr.drew.alloc (.cells #[X] 3)):=aj (ai wr).drew _;refine mE rfl _ _ 22 rfl o.heap.size 3 .i64 underlying22 xL _ L rfl (s.ah C) wr.heap.size 1 1 [X] rfl rfl (bD.one wr.drew .i64 X _) (by have:=EJ.Y;simp;omega) (bm HB.size C.size) ?_;intro v5 Z lh pL _;have yT:Below o o Z:=(s.ah C).aW (ah HB C) pL (ah HB C).size (aR _);have U:ag Z o 50 #[x.gen,x.cap,x.used,x.closed,.slice Bv Ln dv]:=(J.ah C).grown pL (ba (s.ah C) (J.ah C) af);refine y.Y _ _ ⟨ah H.ext yT,U⟩ (λf=>?_);clear y K;(try simp only[aL]);rw[<-Np.Y]at lh;obtain⟨B5,d5,vh⟩:=aK.shape lh;generalize(x.buf.take (q+1)).length=l5 at vh;subst vh;obtain⟨pR,yT,U⟩:=aS lh yT U;obtain⟨aT,kf,hgx⟩:=ag.aF U;clear lh pL Zj C f;refine wpAnyS.late ?_;have f:(λ_:World=>True) Z:=trivial;refine aU 13 f ?_;(try simp only[aL]);refine eQ 14 (λK y=>?_);go_simp;refine y.Y _ _ trivial (λf=>?_);clear y K;(try simp only[aL]);refine nT ?_;obtain⟨nJ,K6,Ec⟩:=aS (yT.setCell (p:=⟨o,4,none⟩) (aR _) (.slice B5 l5 d5)) (U.bp 4 (.slice B5 l5 d5)) (bu pR U af 4 (.slice B5 l5 d5));clear aT kf hgx hcc fE e1 e2 e3 e4 yT U pR;generalize Z.setCell ⟨o,4,none⟩ (.slice B5 l5 d5)=w6 at *;exact W9
    .have g:¬((q:Int)<Q/\(q:Int)<c.cap):=aa;obtain⟨hcc,-,fE⟩:=ag.aF K1w;have HT:Hid (x.buf.take q=x.buf/\x.buf.length<=100):=⟨List.take_of_length_le (by rw[<-HN.Y];omega),by rw[<-HN.Y];omega⟩
     rw[HT.Y.1]at s;obtain⟨Bv,dv,hv⟩:=s.shape;obtain⟨bl,P⟩:=aw x.buf.length;rw[<-P]at hv;subst hv;have H':=ae (H.more HB);obtain⟨A1,d1,oq⟩:=aD.shape H'.ch;obtain⟨xs,sQ⟩:=aw (pieces (iy c) (1+c.cap.toNat) j (l.drop 1));have yO:xs.length=j:=by rw[sQ];exact jT _ _ _ _
     rw[<-sQ]at H' oq;rw[yO]at oq;subst oq;obtain⟨rows,r1,r2,r3⟩:=H'.ch;obtain⟨R1,R2,R3,Su,fW⟩:=bQ r1 r2 r3 sQ P;have iX:rows.length=j:=r1.trans yO;have ZA:=ae (aK.cap s).2;have Le:Hid (dL wr (eP wr) .i64 Bv x.buf):=⟨s.pw.2,λad ha dQ=>by subst ha;exact .inl (pI s)⟩
     obtain⟨aT,-,hgx⟩:=ag.aF J;obtain⟨hch,hfh,rX⟩:=ag.aF H'.kh;have eG:IntKind.i64.wrap (1+c.cap)=1+c.cap:=bH _ aa;have cD:IntKind.i64.wrap ((p:Int)+(1+c.cap))=((p+(1+c.cap.toNat):Nat):Int):=by have:=HM.Y;rw[bH _ aa];omega
     obtain⟨P2,O⟩:=aw (p+(1+c.cap.toNat));rw[<-O]at cD;have xy:=ae O;clear hy r1 r2 r3 yO sQ P O s;rcases Classical.em ((q:Int)<Q)with g1|g1
     .have g2:¬(q:Int)<c.cap:=λe=>g ⟨g1,e⟩;exact Xa
     .exact Xa
  .obtain⟨CH,Zn⟩:=aw (pieces (iy c) (1+c.cap.toNat) c.chans.toNat (l.drop 1));have dc:j=c.chans.toNat:=aa;obtain⟨P0,Pd⟩:=aw (1+(1+c.cap.toNat)*c.chans.toNat);have HP:=ae HP;rw[dc]at H HP;rw[<-Zn]at H;rw[<-Pd]at HP;have dS:p=P0:=HP.Y;subst dS;obtain⟨Mi,c0⟩:=av Zn Pd;have cR:Hid (dl=p+5*c.threads.toNat):=by unfold Hid;rw[c0.Y,cO.Y,sg];omega
   clear Zn Pd HP dc;go_wp2_with fail;clear hcc fE;go_loopw[6,11] (λa i wr=>∃(j p2:Nat) (v2:Value),j<=c.threads.toNat/\a=p2/\i=j/\Hid (p2=p+4*j)/\Hid (uH w wr I v1 v2 oN CH (pieces iO 4 j (l.drop p)) [] gh)/\Hid (ag wr w 24 #[c.kind,c.threads,c.chans,c.cap,c.nodes,c.aP,c.aB,c.tags,c.bw,c.bn,.slice A n k])/\Hid (ag wr (w.heap.size+1) 45 #[oZ,oN,oN,oN])) (λ_ i _=>c.threads.toNat-(intOf i).toNat);case atStart=>exact⟨0,p,_,aZ _,rfl,rfl,rfl,H,G,K2⟩
   case round =>
    clear H G K2;obtain⟨j,p2,v2,hj,rfl,rfl,HP,H,G,K2⟩:=hrel;obtain⟨hcc,-,fE⟩:=ag.aF G;by_cases dh:(j:Int)<c.threads
    .have hm:p2+3<dl:=by
      have:=cR.Y;have:=HP.Y;omega
     obtain⟨dO,z,hA,F,d,m⟩:=Zf.Y p2 aa
     cases hA
     have h0:=m wr H.ext
     obtain⟨l1,t⟩:=aw (l.drop p2)
     have bz:l1.getD 0 0=z:=by rw[t,ew,List.getElem?_drop,Nat.add_zero,F];rfl
     obtain⟨x,M⟩:=aw (iO l1)
     have u:=M
     unfold iO at u
     rw[bz]at u
     dsimp only at u
     obtain⟨y1,xN⟩:=aw (z/16)
     have a1:(z.tmod 2==1)=x.on:=by rw[u,Int.tmod_eq_emod_of_nonneg d.1]
     have a2:IntKind.u64.wrap (z.tdiv 16)=y1:=by rw[Int.tdiv_eq_ediv_of_nonneg d.1,cA];omega
     have a3:y1.tmod 1048576=x.seq:=by rw[u,xN];exact Int.tmod_eq_emod_of_nonneg aa
     have a4:IntKind.i64.wrap x.seq=x.seq:=bH _ (by rw[u];dsimp only;omega)
     have a5:IntKind.u64.wrap (z.tdiv 4294967296)=x.ak:=by rw[u,Int.tdiv_eq_ediv_of_nonneg d.1,cA];dsimp only;omega
     have a6:IntKind.i64.wrap x.ak=x.ak:=bH _ (by rw[u];dsimp only;omega)
     obtain⟨W3,B⟩:=aw (wr.alloc (.cells #[x.on,x.ak,x.seq,oN] 99))
     have bU:=ae (aj (ai wr) (.cells #[x.on,x.ak,x.seq,oN] 99))
     rw[<-B]at bU
     have J:Hid (ag W3 wr 99 #[x.on,x.ak,x.seq,oN]):=by rw[B];exact ag.new _ _ _
     have oL:=ae B
     obtain⟨HX,aq,tz,cv,HM⟩:=bQ M u t d hm
     clear F m M u t bz xN B d
     go_upto_region 19 with fail
     rw[<-oL.Y]
     clear a1 a2 a3 a4 a5 a6 h0 hcc fE
     obtain⟨o,cG⟩:=aw wr
     subst cG
     obtain⟨y4,bE⟩:=aw (z/2)
     obtain⟨Q,E⟩:=aw (z/2%8)
     have d:=cv.Y
     have a1:IntKind.u64.wrap (z.tdiv 2)=y4:=by rw[Int.tdiv_eq_ediv_of_nonneg d.1,cA];omega
     have a2:y4.tmod 8=Q:=by rw[E,bE];exact Int.tmod_eq_emod_of_nonneg aa
     have a3:IntKind.i64.wrap Q=Q:=bH _ aa
     obtain⟨N,hN⟩:=aw x.cases.length
     have UR:(N:Int)=min Q 3:=by
      rw[hN,aq.Y, <-E];have:=HM.Y;have T:l1.length+p2=dl:=by rw[tz.Y,iu];have:=jf.Y;omega
      simp only[fP,fK,iu];omega
     obtain⟨HN,ct⟩:=av hN (show ∀q,q<N->∃S,l[p2+1+q]?=some S/\x.cases[q]?=some (Mo.rT S)fromλq hq=>by
      have:=HM.Y
      have T:p2+1+q<l.length:=by have:=jf.Y;omega
      refine⟨_,cq T,?_⟩
      rw[aq.Y, <-E,tz.Y]
      simp only[List.drop_drop]
      rw[List.getElem?_map,List.getElem?_take,ay aa,List.getElem?_take,ay aa,List.getElem?_drop,cq aa]
      rfl)
     have HY:=ae UR
     clear d bE E hN UR
     go_wp2
     go_loopw[14] (λi wr=>∃(q:Nat) (v:Value),q<=N/\i=q/\Hid (Below o o wr)/\Hid (ag wr o 99 #[x.on,x.ak,x.seq,v])/\Hid (aH wr o 101 3 bj v (x.cases.take q))) (λi _=>N-(intOf i).toNat)
     case atStart=>exact⟨0,_,aZ _,rfl,bU,J,aH.nil _ _ _ _ _⟩
     case round =>
      clear bU J;obtain⟨q,v,hq,rfl,HB,J,s⟩:=hrel;have hy:=HY.Y;obtain⟨Bn,K1w⟩:=av (ah H.ext HB) (G.ah HB);by_cases cF:q<N
      .have g1:(q:Int)<Q:=aa;have g2:(q:Int)<3:=aa;obtain⟨S,T,h2⟩:=ct.Y q cF;obtain⟨P1,sF⟩:=aw (p2+1);obtain⟨P2,O⟩:=aw (p2+1+q);have NC:P2<dl:=by have:=HM.Y;omega
       obtain⟨_,dU,hA,F,d,m⟩:=Zf.Y P2 NC;cases hA
       rw[O]at F;cases T.symm.trans F
       have h9:=m wr Bn;obtain⟨Y,hY⟩:=aw (Mo.rT S);rw[<-hY]at h2;unfold Mo.rT at hY;obtain⟨y6,dw⟩:=aw (S/256);have e1:IntKind.i64.wrap ((p2:Int)+1)=(P1:Int):=by rw[bH _ aa];omega
       have e2:IntKind.i64.wrap ((P1:Int)+(q:Int))=(P2:Int):=by rw[bH _ aa];omega
       have e3:S.tmod 256=Y.1:=by rw[hY];exact Int.tmod_eq_emod_of_nonneg d.1
       have e4:IntKind.i64.wrap Y.1=Y.1:=bH _ (by rw[hY];dsimp only;omega);have e5:IntKind.u64.wrap (S.tdiv 256)=y6:=by rw[Int.tdiv_eq_ediv_of_nonneg d.1,cA];omega
       have e6:y6.tmod 65536=Y.2.1:=by rw[hY,dw];exact Int.tmod_eq_emod_of_nonneg aa
       have e7:IntKind.i64.wrap Y.2.1=Y.2.1:=bH _ (by rw[hY];dsimp only;omega);have e8:IntKind.u64.wrap (S.tdiv 4294967296)=Y.2.2:=by rw[hY,Int.tdiv_eq_ediv_of_nonneg d.1,cA];dsimp only;omega
       have e9:IntKind.i64.wrap Y.2.2=Y.2.2:=bH _ (by rw[hY];dsimp only;omega);have Np:Hid (x.cases.take (q+1)=x.cases.take q++[Y]):=eM h2;obtain⟨L,hL⟩:=aw (x.cases.take q);have Db:L.length<=3:=by rw[hL];have:=List.length_take_le q x.cases;omega
       rw[<-hL]at s Np;obtain⟨Bv,dv,hv⟩:=s.shape;generalize L.length=Ln at hv;subst hv;have EJ:=ae Db;obtain⟨hcc,-,fE⟩:=ag.aF K1w;obtain⟨aT,kf,hgx⟩:=ag.aF J;have lW:=ae (show cN (wr.alloc (.cells #[Y.1,Y.2.1,Y.2.2] 101)) bj wr [Y]from Rd.lit wr (bj Y) _);clear hy T h2 F d m sF O hY hL Db dw;go_wp2_with(at_builtin;refine bR _ rfl _ _ 36 rfl o 101 3 24 (.agg #[oZ,oZ,oZ]) bj cM mF underlying36 px rfl af _ L rfl (s.alloc _) _ 1 1 [Y] rfl rfl lW (by have:=EJ.Y;simp;omega) (by have:=EJ.Y;simp;omega) (by have:=HB.size;simp;omega) ?_)
       intro v5 Z lh pL _;have yT:Below o o Z:=(s.alloc _).aW (aj HB _) pL (by have:=HB.size;simp;omega) (aR _);have U:ag Z o 99 #[x.on,x.ak,x.seq,.slice Bv Ln dv]:=(J.alloc _).grown pL (ba (s.alloc (.cells #[Y.1,Y.2.1,Y.2.2] 101)) (J.alloc _) af);rw[<-Np.Y]at lh;obtain⟨B5,d5,vh⟩:=aH.shape lh;generalize(x.cases.take (q+1)).length=l5 at vh;subst vh;clear aT kf hgx hcc fE;obtain⟨aT,kf,hgx⟩:=ag.aF U;obtain⟨nJ,K6,Ec⟩:=aS (yT.setCell (p:=⟨o,3,none⟩) (aR _) (.slice B5 l5 d5)) (U.bp 3 (.slice B5 l5 d5)) (bu lh U af 3 (.slice B5 l5 d5));clear lh pL yT U e1 e2 e3 e4 e5 e6 e7 e8 e9 h9;go_upto_region 21 with fail
       generalize Z.setCell ⟨o,3,none⟩ (.slice B5 l5 d5)=w6 at *;clear aT kf hgx;exact W9
      .have g:¬((q:Int)<Q/\(q:Int)<3):=aa;have HT:Hid (x.cases.take q=x.cases/\x.cases.length<=3):=⟨List.take_of_length_le (by rw[<-HN.Y];omega),by rw[<-HN.Y];omega⟩
       rw[HT.Y.1]at s;obtain⟨Bv,dv,hv⟩:=s.shape;obtain⟨bl,P⟩:=aw x.cases.length;rw[<-P]at hv;subst hv;have H':=ae (H.more HB);obtain⟨A1,d1,oq⟩:=aD.shape H'.wt;obtain⟨xs,sQ⟩:=aw (pieces iO 4 j (l.drop p));have yO:xs.length=j:=by rw[sQ];exact jT _ _ _ _
       rw[<-sQ]at H' oq;rw[yO]at oq;subst oq;obtain⟨rows,r1,r2,r3⟩:=H'.wt;obtain⟨R1,R2,R3,Su,fW⟩:=bQ r1 r2 r3 sQ P;have iX:rows.length=j:=r1.trans yO;have ZA:=ae (aH.cap s).2;have Le:Hid (eo wr (eP wr) bj Bv x.cases):=⟨s.xS.2,λad ha dQ=>by subst ha;exact .inr (kz s)⟩
       obtain⟨aT,-,hgx⟩:=ag.aF J;obtain⟨hch,hfh,rX⟩:=ag.aF H'.kh;have cD:IntKind.i64.wrap ((p2:Int)+4)=((p2+4:Nat):Int):=by have:=HM.Y;rw[bH _ aa];omega
       obtain⟨P2,O⟩:=aw (p2+4);rw[<-O]at cD;have xy:=ae O;clear hy r1 r2 r3 yO sQ P O s;rcases Classical.em ((q:Int)<Q)with g1|g1
       .have g2:¬(q:Int)<3:=λe=>g ⟨g1,e⟩;exact Xb
       .exact Xb
    .obtain⟨WT,cz⟩:=aw (pieces iO 4 c.threads.toNat (l.drop p));have df:j=c.threads.toNat:=aa;rw[df]at H HP;rw[<-cz]at H;obtain⟨dz,b8⟩:=av cz (show dl=p2+c.threads.toNat by have:=cR.Y;have:=HP.Y;omega);clear cz df;go_wp2_with fail;clear hcc fE;go_loopw[16] (λi wr=>∃(j:Nat) (v3:Value),j<=c.threads.toNat/\i=j/\Hid (uH w wr I v1 v2 v3 CH WT (((l.drop p2).take j).map cV) gh)/\Hid (ag wr w 24 #[c.kind,c.threads,c.chans,c.cap,c.nodes,c.aP,c.aB,c.tags,c.bw,c.bn,.slice A n k])/\Hid (ag wr (w.heap.size+1) 45 #[oZ,oN,oN,oN])) (λi _=>c.threads.toNat-(intOf i).toNat);case atStart=>exact⟨0,_,aZ _,rfl,H,G,K2⟩
     case round =>
      clear H G K2;obtain⟨j,v3,hj,rfl,H,G,K2⟩:=hrel;obtain⟨hcc,-,fE⟩:=ag.aF G;by_cases dh:(j:Int)<c.threads
      .obtain⟨P2,O⟩:=aw (p2+j);have NC:P2<dl:=by have:=b8.Y;omega
       obtain⟨_,z,hA,F,d,m⟩:=Zf.Y P2 NC;cases hA
       have e2:IntKind.i64.wrap ((p2:Int)+(j:Int))=(P2:Int):=by rw[bH _ aa];omega
       obtain⟨R,hR⟩:=aw (cV z);have c4:Hid (((l.drop p2).take (j+1)).map cV=((l.drop p2).take j).map cV++[R]):=by unfold Hid;rw[map_take _ (z:=z) (by rw[List.getElem?_drop, <-O];exact F),hR]
       have rB:=ae (λr=>Kr r z d.1 d.2);rw[show(Value.agg #[(rS z),(rC z),(rO z),(rV z)])=.agg #[R.seq,R.cs,R.code,R.value]by rw[hR];rfl]at rB;obtain⟨L,hL⟩:=aw (((l.drop p2).take j).map cV);have Db:L.length=j:=by rw[hL,fP,fK,iu,Nat.min_eq_left (by have:=jf.Y;have:=b8.Y;omega)]
       rw[<-hL]at H c4;obtain⟨A3,d3,b7⟩:=H.dn.shape;rw[Db]at b7;subst b7;have hch:=λr (M:Below w w r/\ag r gh 45 #[I,v1,v2,.slice A3 j d3]) i=>ag.cell M.2 i;have fy:=λr (M:Below w w r/\ag r gh 45 #[I,v1,v2,.slice A3 j d3])=>m r M.1;have EJ:=ae Db;clear F d m O hR hL Db;go_upto_region 29 with fail
       refine gm 11 (λr=>Below w w r/\ag r gh 45 #[I,v1,v2,.slice A3 j d3]) gG ⟨H.ext.drew,H.kh⟩ (λf=>?_);refine jg 0 f ?_;refine jg 1 f ?_;refine jg 2 f ?_;refine jg 3 f ?_;refine jg 4 f ?_;refine jg 5 f ?_;refine jg 6 f ?_;refine jg 7 f ?_;clear fy hch;(try simp only[aL]);refine vA 8 (λK y=>?_);go_simp;go_fit (rB _);rintro e Z ⟨rfl,dJ⟩;have H5:=ae (H.more ((ai wr).drew.trans (dJ.mono (aR _))));go_wp2_with fail;refine y.Y _ _ ⟨H5.ext,H5.kh⟩ (λf=>?_);clear y K;(try simp only[aL]);refine vA 9 (λK y=>?_);go_simp;refine y.Y _ _ ⟨aj H5.ext _,H5.kh.alloc _⟩ (λf=>?_);clear y K;(try simp only[aL]);refine vA 10 (λK y=>?_);refine gf rfl _ _ 43 rfl w 64 4 32 (.agg #[oZ,oZ,oZ,oZ]) fD dC qH underlying43 ry rfl af _ L rfl (H5.dn.alloc _) Z.heap.size 1 1 [R] rfl rfl (show cN (Z.alloc (.cells #[R.seq,R.cs,R.code,R.value] 64)) fD _ [R]from Rd.lit Z (fD R) _) (by have:=EJ.Y;simp;omega) (by have:=EJ.Y;simp;omega) (by have:=H5.ext.size;simp;omega) ?_;intro v6 w6 Ah xe _;obtain⟨hA,hS,hK6⟩:=H5.ac3 Ah xe;have f:Below w w w6/\ag w6 gh 45 #[I,v1,v2,.slice A3 j d3]:=⟨Below.grown (aj H5.ext _) xe (by have:=H5.ext.size;simp;omega) (λb hb=>(bk H5.dn hb).1),hK6⟩
       refine y.Y _ _ f (λf=>?_);clear y K;(try simp only[aL]);obtain⟨B6,d6,hv6⟩:=Ah.shape;rw[fM,iw,EJ.Y]at hv6;subst hv6;have EL:=(ai wr).drew.trans (dJ.mono (aR _));obtain⟨HA,K17,K27⟩:=aS hA (hS _ _ _ (by decide) (by have:=HGW.Y;omega) (G.Y.ah EL)) (hS _ _ _ (by decide) (by have:=HGW.Y;omega) (K2.Y.ah EL));obtain⟨hch6,hfh6,hgh6⟩:=ag.aF hK6;clear hA hS hK6 Ah xe f dJ EL hcc fE e2;refine wpAnyS.late ?_;have f:(λ_:World=>True) w6:=trivial;refine aU 11 f ?_;(try simp only[aL]);refine eQ 12 (λK y=>?_);go_simp;refine y.Y _ _ trivial (λf=>?_);clear y K;(try simp only[aL]);refine nT ?_;clear hch6 hfh6 hgh6 f;generalize w6.setCell ⟨gh,3,none⟩ (.slice B6 (j+1) d6)=w7 at *;go_wp2;go_roundw;case rel=>exact⟨j+1,_,aa,by go_num,by rw[c4.Y];exact HA,K17,K27⟩
       case measure=>simp[intOf];omega
      .obtain⟨DN,cw⟩:=aw (((l.drop p2).take j).map cV);rw[<-cw]at H;have HE:Hid (kj c l=⟨I,CH,WT,DN⟩):=by
        unfold Hid kj;dsimp only;rw[<-rJ.Y, <-Mi.Y,List.drop_drop, <-c0.Y, <-dz.Y,List.drop_drop,show p+4*c.threads.toNat=p2 from HP.Y.symm,yN _ _ (by rw[iu];have:=jf.Y;have:=b8.Y;omega),cw,show j=c.threads.toNat by omega]
       clear cw;obtain⟨B1,d1,oq⟩:=aD.shape H.ch;obtain⟨B2,d2,dT⟩:=aD.shape H.wt;obtain⟨B3,d3,b7⟩:=H.dn.shape;subst oq dT b7;obtain⟨hch,-,rX⟩:=ag.aF H.kh;obtain⟨gB,nQ,dP⟩:=ag.aF K2;go_wp2_with fail;obtain⟨n1,mI⟩:=aw CH.length;obtain⟨n2,pG⟩:=aw WT.length;obtain⟨n3,sH⟩:=aw DN.length;rw[<-mI, <-pG, <-sH];have hQ:=aY (vs:=[I,.slice B1 n1 d1,.slice B2 n2 d2,.slice B3 n3 d3]) K2 rfl;have Ms:Below w w (ax wr (w.heap.size+1) 0 [I,.slice B1 n1 d1,.slice B2 n2 d2,.slice B3 n3 d3]):=az aa _ _ _ H.ext;have jD:∀b,eP wr b->(ax wr (w.heap.size+1) 0 [I,.slice B1 n1 d1,.slice B2 n2 d2,.slice B3 n3 d3]).heap[b]?=wr.heap[b]?:=λb hb=>aM (λe=>by subst e;exact eP.not K2 af af hb) _ _;obtain⟨HC,dM,dy⟩:=aS (iV cd H.ch λb hb=>hb.elim (jD b) λhb=>aM (aD.other H.ch K2 af b hb) _ _) (iV aI H.wt λb hb=>hb.elim (jD b) λhb=>aM (aD.other H.wt K2 af b hb) _ _) (eV (λg' hg=>λe=>ba H.dn K2 af (by rw[e]at hg;exact hg.symm)) [I,.slice B1 n1 d1,.slice B2 n2 d2,.slice B3 n3 d3] _ 0 _ H.dn);clear hch rX gB nQ dP hcc fE;change bodyPost _ _ _ _ _ (ax wr (w.heap.size+1) 0 [I,.slice B1 n1 d1,.slice B2 n2 d2,.slice B3 n3 d3]);generalize ax wr (w.heap.size+1) 0 [I,.slice B1 n1 d1,.slice B2 n2 d2,.slice B3 n3 d3]=wz at *;have eO:=λi=>ag.cell hQ i;refine bodyPost_ret (v:=.agg #[I,.slice B1 n1 d1,.slice B2 n2 d2,.slice B3 n3 d3]) (by simp[results,results53,go_sem,eO]) rfl ?_;unfold QH;rw[HE.Y];refine⟨B1,B2,B3,d1,d2,d3,by dsimp only;rw[mI,pG,sH],wu.own HC dM dy,Ms⟩
end
theorem QI(F:kJ c h):(gI c h).length=sg c:=by have a:=(sk (gb.2 F)).2;obtain⟨b,-,-,-,-,-,d,e⟩:=Mo.aO F.ee;unfold bA eC at a;rw[au (by rw[F.ee];decide),au (by rw[F.ee];decide),ay F.kind]at a;unfold sg;exact Vz
def abO(h:Hl)(w:World)(e:Ending)(b:World):Prop :=∃A1 A2 A3 m1 m2 m3,e=.returned (.tuple #[.agg (rZ h.ak A1 h.chans.length m1 A2 h.waits.length m2 A3 h.done.length m3),true])/\wu b h A1 A2 A3/\Below w w b
theorem yV(w:World)(M:n=c.start.length)(O:bD w .i64 A c.start)(F:kJ c h)(D:Option Addr)(dd:Nat)(C:dl=(gI c h).length)(hu:fV (gI c h))(hD:bD w .u64 D (gI c h)) :
 Calls prog 29 #[j8 c A n k,.slice D dl dd] w (abO h w):=by
 obtain⟨p1,-,-,-,-,-,p7,p8⟩:=Mo.aO F.ee
 have p9:=xk (gb.2 F)
 have o:1<=c.chans:=by have:=F.ee;unfold aV nI at this;rw[au (by have:=F.kind;omega),ay F.kind]at this;simp only[eT]at this;exact(NI this.2.1.1.1.1).1
 have hlen:dl=sg c:=by rw[C];exact QI F
 have a6:((dl:Int) !=bA c)=false:=by rw[bne_eq_false_iff_eq,C];exact(sk (gb.2 F)).2
 have hk:(c.kind !=3)=false:=by rw[bne_eq_false_iff_eq];exact F.kind
 obtain⟨W,J⟩:=aw ((w.alloc (dB c A n k)).alloc sj)
 have hB:Below w w W:=by rw[J];exact aj (aj (ai w) _) _
 have tu:=ae (lj W F.ee M (O.below hB) (k:=k))
 have jm:=ae (λp (a:Below w w p)=>Ew p F.ee M (O.below a) (k:=k))
 have np:=ae (λp (a:Below w w p)=>by have:=Ii p (c:=c) (A:=A) (n:=n) (k:=k) ⟨p1.1,p1.2,p9.1,p9.2,o,p8.2⟩ (gI c h) D dd C hlen hu (hD.below a);unfold QH at this;rw[(sk (gb.2 F)).1]at this;exact this)
 have N:=ae (λp (a:Below w w p) g j l m1 m2 m3 (H:wu p h g j l)=>vr p M (O.below a) F H rfl rfl rfl (k:=k) (m1:=m1) (m2:=m2) (m3:=m3))
 have Gg:dl<=100000:=by rw[hlen];unfold sg;have:(1+c.cap.toNat)*c.chans.toNat<=9*8:=Nat.mul_le_mul (by omega) (by omega);omega
 have K:=ae (λp (a:Below w w p) B d (H:bD p .u64 B (gI c h))=>Ih p B D d dd (gI c h) C Gg H (hD.below a))
 have K1:Hid (ag W w 24 #[c.kind,c.threads,c.chans,c.cap,c.nodes,c.aP,c.aB,c.tags,c.bw,c.bn,.slice A n k]):=by rw[J];exact(ag.new w _ _).alloc _
 have K2:Hid (ag W (w.heap.size+1) 45 #[oZ,oN,oN,oN]):=by rw[J];exact ag.newAt _ _ _ (by simp)
 obtain⟨HB,HW,jf⟩:=aS hB J C
 clear M O F hu hD C J hB hlen p1 p7 p8 p9 o
 unfold j8 at *
 go_enter func29,ntmps29
 go_upto_region 1 with fail
 rw[<-HW.Y]
 obtain⟨f,-,q⟩:=ag.aF K1.Y
 go_wp2_with fail
 go_fit tu.Y
 rintro e w1 ⟨rfl,a⟩
 obtain⟨br,E,S⟩:=aS (ah HB.Y a) (K1.Y.ah a) (K2.Y.ah a)
 clear a f q tu
 obtain⟨f,-,q⟩:=ag.aF E.Y
 go_wp2_with fail
 go_fit (jm.Y _ br.Y)
 rintro e w2 ⟨rfl,a⟩
 obtain⟨bB,G,T⟩:=aS (ah br.Y a) (E.Y.ah a) (S.Y.ah a)
 clear a f q jm
 obtain⟨f,-,q⟩:=ag.aF G.Y
 go_wp2_with fail
 go_fit (np.Y _ bB.Y)
 rintro e w3 ⟨g,j,l,m1,m2,m3,rfl,hX,a⟩
 obtain⟨bU,I,U,HX⟩:=bh (ah bB.Y a) (G.Y.ah a) (T.Y.ah a) hX
 clear a f q np hX
 obtain⟨f,-,q⟩:=ag.aF I.Y
 obtain⟨W4,L⟩:=aw (w3.alloc (.cells (rZ h.ak g h.chans.length m1 j h.waits.length m2 l h.done.length m3) 45))
 have m:=aj (ai w3) (.cells (rZ h.ak g h.chans.length m1 j h.waits.length m2 l h.done.length m3) 45)
 rw[<-L]at m
 have s:Hid (ag W4 w3 45 (rZ h.ak g h.chans.length m1 j h.waits.length m2 l h.done.length m3)):=by rw[L];exact ag.new _ _ _
 obtain⟨fh,R,V,Bo⟩:=bh (ah bU.Y m) (I.Y.ah m) (U.Y.ah m) (HX.Y.ext m)
 have Ci:=ae L
 clear L m
 obtain⟨x,t⟩:=aw h.chans.length
 obtain⟨y,UR⟩:=aw h.waits.length
 obtain⟨z,u⟩:=aw h.done.length
 have N:=ae (N.Y W4 fh.Y g j l m1 m2 m3 Bo.Y)
 rw[<-t, <-UR, <-u]at N Ci s ⊢
 obtain⟨vU,Q,Jw⟩:=aS t UR u
 clear t UR u
 go_upto_region 4 with fail
 rw[<-Ci.Y]
 clear f q
 obtain⟨f,-,q⟩:=ag.aF R.Y
 obtain⟨o,-,rX⟩:=ag.aF s.Y
 go_wp2_with fail
 go_fit N.Y
 rintro e w5 ⟨B5,d5,rfl,hO,a⟩
 have K:=ae (K.Y w5 (ah fh.Y a) B5 d5 hO.pw.2)
 obtain⟨iq,X,Y,nD⟩:=bh (ah fh.Y a) (V.Y.ah a) (s.Y.ah a) (Bo.Y.ext a)
 rw[show(gI c h).length=dl from jf.Y.symm]
 clear a hO f q o rX
 go_wp2_with fail
 go_fit K.Y
 rintro e P ⟨rfl,a⟩
 obtain⟨nJ,r,Z,Fz⟩:=bh (ah iq.Y a) (X.Y.ah a) (Y.Y.ah a) (nD.Y.ext a)
 clear a K
 obtain⟨o,-,rX⟩:=ag.aF Z.Y
 obtain⟨gB,nQ,aq⟩:=ag.aF r.Y
 go_wp2_with fail
 have hQ:=aY (vs:=[h.ak,.slice g x m1,.slice j y m2,.slice l z m3]) r.Y rfl
 have zE:=ae (az (bM _) [h.ak,.slice g x m1,.slice j y m2,.slice l z m3] P 0 nJ.Y)
 have Cm:Hid (wu (ax P (w.heap.size+1) 0 [h.ak,.slice g x m1,.slice j y m2,.slice l z m3]) h g j l):=Fz.Y.b9 r.Y (by decide) λb a=>aM a _ _
 clear o rX gB nQ aq
 change bodyPost _ _ _ _ _ (ax P (w.heap.size+1) 0 [h.ak,.slice g x m1,.slice j y m2,.slice l z m3])
 generalize ax P (w.heap.size+1) 0 [h.ak,.slice g x m1,.slice j y m2,.slice l z m3]=wz at *
 have eO:=λi=>ag.cell hQ i
 refine bodyPost_ret (v:=.tuple #[.agg #[h.ak,.slice g x m1,.slice j y m2,.slice l z m3],true]) (by simp[results,results29,go_sem,eO]) rfl ?_
 exact⟨g,j,l,m1,m2,m3,by rw[vU.Y,Q.Y,Jw.Y],Cm.Y,zE.Y⟩
def Ik(x:Wt)(e l:Int)(k:Cs):Bool:=x.on && (k.2.1==l && (e==0 || k.1==e))
section
variable(w:World)
theorem rf(x:Wt)(B:Option Addr)(d:Nat)(l:bl=x.cases.length)(O:bl<=100000)(C:cN w bj B x.cases)(e o:Int) :
 Calls prog 174 #[.agg #[x.on,x.ak,x.seq,.slice B bl d],e,o] w (JC (il (Ik x e o) x.cases) w):=by
 obtain⟨W,f⟩:=aw (w.alloc (.cells #[x.on,x.ak,x.seq,.slice B bl d] 99))
 have s:Below w w W:=by rw[f];exact aj (ai w) _
 have K:Hid (ag W w 99 #[x.on,x.ak,x.seq,.slice B bl d]):=by rw[f];exact ag.new _ _ _
 obtain⟨m,z,u,E⟩:=bh l (C.below s) s f
 clear l C s f
 obtain⟨J,D⟩:=aw x.cases
 obtain⟨p,t⟩:=aw (Ik x e o)
 rw[<-D]at m z ⊢
 rw[<-t]
 have v:Hid (∀k:Cs,p k=(x.on && (k.2.1==o && (e==0 || k.1==e)))):=λk=>by rw[t];rfl
 clear D t
 go_enter func174,ntmps174
 go_upto_region 1 with fail
 rw[<-E.Y]
 obtain⟨r,-,b⟩:=ag.aF K.Y
 go_wp2_with fail
 clear r b
 go_loopw[12] (λi wr=>∃k:Nat,k<=bl/\i=k/\Hid (Below W W wr)/\Hid (∀(j:Nat) (y),j<k->J[j]?=some y->p y=false)) (λi _=>bl-(intOf i).toNat)
 case atStart=>exact⟨0,aZ _,rfl,ai W,λj _ h=>absurd h (Nat.not_lt_zero _)⟩
 case round =>
  obtain⟨k,M,rfl,a,n⟩:=hrel;by_cases c:k<bl
  .obtain⟨L,y,I,(A:Hid _),g⟩:=cN.at_ cM (by decide) (z.below a) (i:=k) (by rw[<-m.Y];exact c);subst I;have F:=g 0 _ rfl;have G:=g 1 _ rfl;have H:=g 2 _ rfl;simp only[add_zero]at F;rw[add_lit _ _ (by decide)]at G H;have q:=ae (v.Y y);obtain⟨r,-,b⟩:=ag.aF (K.Y.ah a.Y);clear g v;rcases f1:(y.2.1==o)with _|_<;>rcases f2:(e==0)with _|_<;>rcases f3:(y.1==e)with _|_<;>rcases f4:x.on with _|_
   all_goals
    rw[f1,f2,f3,f4]at q;rw[f4]at r;go_wp2_with fail;first
     |(go_ret;rw[xf A.Y n.Y q.Y];exact⟨rfl,ah u.Y (aj a.Y _)⟩)
     |(go_roundw;(case rel=>exact⟨k+1,by omega,by go_num,aj a.Y _,qw A.Y n.Y q.Y⟩);(case measure=>simp[intOf];omega))
  .go_wp2_with fail;go_ret;rw[F0 m.Y c n.Y];exact⟨rfl,ah u.Y a.Y⟩
theorem EM(x:Wt)(B:Option Addr)(d:Nat)(b:bl=x.cases.length)(u:bl<=100000)(o:cN w bj B x.cases)(l:Int) :
 Calls prog 123 #[.agg #[x.on,x.ak,x.seq,.slice B bl d],l] w (JC (il (Ik x 0 l) x.cases) w):=by
 have a:=ae (aj (ai w) (.cells #[x.on,x.ak,x.seq,.slice B bl d] 99))
 have f:=ae (rf (w.alloc (.cells #[x.on,x.ak,x.seq,.slice B bl d] 99)) x B d b u (o.below a.Y) 0 l)
 clear b o
 go_enter func123,ntmps123
 go_wp2_with fail
 go_fit f.Y
 rintro e h ⟨rfl,c⟩
 have g:=ae (ah a.Y c)
 clear c
 go_wp2_with fail
 go_ret
 exact⟨rfl,g.Y⟩
theorem ZB{b:Int}(h:b≠0):il (Ik x b hd) x.cases=if(mh x b hd).isSome=true then Af x b hd else -1:=by
 unfold mh Af il;cases a:x.on
 .have:x.cases.findIdx? (Ik x b hd)=none:=List.findIdx?_eq_none_iff.2 λk _=>by unfold Ik;rw[a];rfl
  rw[this];rfl
 .have:Ik x b hd=wX b hd:=by
   funext k
   unfold Ik wX;rw[a,show(b==0)=false by simpa using h,Bool.true_and,Bool.false_or,Bool.and_comm]
  rw[this,ay rfl]
  have e:x.cases.findIdx? (λc=>c.1==b && c.2.1==hd)=x.cases.findIdx? (wX b hd):=rfl
  rw[e]
  cases x.cases.findIdx? (wX b hd)with
  |none=>rfl
  |some i=>show(i:Int)=max (i:Int) 0;omega
theorem wI(A:Option Addr)(c:Nat)(o:List Wt)(hn:n=o.length)(hl:n<=100000)(hr:ez w A o)(hc:∀x∈o,x.cases.length<=100000)(l u:Int)(K:l≠0) :
 Calls prog 120 #[.slice A n c,l,u] w (Pk o l u w):=by
 obtain⟨H,HC,U,HD⟩:=bh hn hc (λw' (hb:Below w w w') (j:Nat) (x:Wt) q=>ez.row (hr.gK aI hb) (j:=j) (x:=x) q) K
 have d0:(l !=0)=true:=by simpa using K
 clear hn hr hc K
 go_enter func120,ntmps120
 go_wp2
 go_loopw[9,10,17] (λtt ww i wr=>∃(k:Nat) (T W:Int) (b:Bool),k<=n/\i=k/\tt=T/\ww=W/\Hid (jy o l u k T W b)/\Hid (b=false->T=-1)/\Hid (Below w w wr)) (λ_ _ i _=>n-(intOf i).toNat)
 case atStart=>exact⟨0,-1,0,false,aZ _,rfl,rfl,rfl,⟨rfl,λt i h=>by cases h⟩,λ_=>rfl,ai w⟩
 case round =>
  obtain⟨k,T,W,b,hk,rfl,rfl,rfl,a,J,z⟩:=hrel;by_cases N:k<n
  .obtain⟨x,q⟩:∃x,o[k]?=some x:=⟨_,cq (by rw[<-H.Y];exact N)⟩
   obtain⟨ad,B,d,hA,M,pS,c0,c1,c2,Y⟩:=U.Y wr z k x q;obtain⟨D,C⟩:=av q (rf (wr.alloc (.cells #[x.on,x.ak,x.seq,.slice B x.cases.length d] 99)) x B d rfl (by have:=HC.Y x (cH q);omega) (pS.alloc _) l u);rw[ZB HD.Y]at C;subst hA;clear q M pS;generalize x.cases.length=X at C Y;go_wp2_with fail;go_fit C.Y;rintro e w2 ⟨rfl,p⟩;have Z:=(ag.new wr 99 #[x.on,x.ak,x.seq,.slice B X d]).ah p;obtain⟨cU,-,eB⟩:=ag.aF Z;have v:=ae (ah (ah z (aj (ai wr) (.cells #[x.on,x.ak,x.seq,.slice B X d] 99))) p);clear p Z c0 c1 c2 Y C;rcases F:(mh x l u).isSome with _|_
   .rw[au (by decide)];have E:=ae F;clear F;go_wp2_with fail;go_quiet(fail);go_wp2;go_roundw;case rel=>exact⟨k+1,T,W,b,by omega,by go_num,rfl,rfl,a.none_ D E,J,bZ v _⟩
    case measure=>simp[intOf];omega
   .rw[ay rfl];obtain⟨I,G⟩:=aw (Af x l u);rw[<-G];have a6:0<=I:=by rw[G];unfold Af;omega
    obtain⟨E,s⟩:=av F G;clear F G;rcases b with _|_
    .have m:=J.Y rfl;subst m;go_wp2_with fail;go_quiet(fail);go_wp2;go_roundw;case rel=>exact⟨k+1,k,I,true,by omega,by go_num,rfl,rfl,s.Y▸a.TV D E (λh=>by cases h),(nomatch ·),bZ v _⟩
     case measure=>simp[intOf];omega
    .obtain⟨⟨t,Q⟩,f⟩:=Option.isSome_iff_exists.1 a.1.symm;obtain⟨m,L,uw⟩:=a.2 t Q f;obtain⟨y,P⟩:∃y,o[t]?=some y:=⟨_,cq (by rw[<-H.Y];omega)⟩
     obtain⟨aq,_,_,S,_,_,_,q1,_⟩:=U.Y w2 v t y P;injection S with S
     subst S m;have V:Hid ((o.getD t ⟨false,0,0,[]⟩)=y):=by unfold Hid;rw[ew,P];rfl
     have d2:decide ((t:Int)<0)=false:=bF (by omega);clear f P L;by_cases r:x.ak<y.ak
     .have d1:decide (x.ak<y.ak)=true:=cg r;have R:Hid (∀g:Nat,(t:Int)=g->x.ak<(o.getD g ⟨false,0,0,[]⟩).ak):=by
       intro g O;have e:g=t:=by omega
       rw[e,V.Y];exact r
      clear r;go_wp2_with fail;go_quiet(fail);go_wp2;go_roundw;case rel=>exact⟨k+1,k,I,true,by omega,by go_num,rfl,rfl,s.Y▸a.TV D E (λ_=>R),(nomatch ·),bZ v _⟩
      case measure=>simp[intOf];omega
     .have d1:decide (x.ak<y.ak)=false:=bF r;have R:Hid (∀g:Nat,(t:Int)=g->¬x.ak<(o.getD g ⟨false,0,0,[]⟩).ak):=by
       intro g O;have e:g=t:=by omega
       rw[e,V.Y];exact r
      clear r;go_wp2_with fail;go_quiet(fail);go_wp2;go_roundw;case rel=>exact⟨k+1,t,W,true,by omega,by go_num,rfl,rfl,a.keep D (λg O=>Int.not_lt.2 (R.Y g O)),(nomatch ·),bZ v _⟩
      case measure=>simp[intOf];omega
  .have rz:k=o.length:=by have:=H.Y;omega
   rw[rz]at a;clear rz;rcases b with _|_
   .have m:=J.Y rfl;subst m;go_wp2;go_ret3;exact⟨0,0,false,rfl,⟨a.Y.1,λt i h=>by have:=a.Y.1;rw[h]at this;cases this⟩,z⟩
   .obtain⟨⟨t,Q⟩,f⟩:=Option.isSome_iff_exists.1 a.1.symm;obtain⟨m,L,uw⟩:=a.2 t Q f;subst m;clear f L uw;go_wp2;go_ret3;exact⟨t,W,true,rfl,a,z⟩
end
abbrev iQ (w:World) (base:Nat) (v:Value) (b:List Wt):Prop:=aD 99 4 OO w base (Ty w 101) v b
theorem iQ.o(h:iQ w base v xs):j6 w base v xs:=aD.mono aI (λ_ h=>.inr h) h
theorem iQ.by{w l:World}{base:Nat}{v:Value}{o:List Wt}(h:iQ w base v o)(e:∀b,Ty w 101 b\/v.ownBlock=some b->l.heap[b]?=w.heap[b]?):iQ l base v o :=
 (aD.move aI h (λb a=>e b (.inl a)) (λg i=>e g (.inr i))).mono aI λb a=>by
  obtain⟨f,c,d⟩:=a
  exact⟨f,c,(e b (.inl ⟨f,c,d⟩)).trans d⟩
theorem iQ.ext(h:iQ w base v xs)(e:Below w w w'):iQ w' base v xs:=h.by λb a=>e.block b (by
 rcases a with a|a
 .exact eP.lt (.inr a)
 .obtain⟨rows,_,c,_⟩:=h;exact(bk c a).2)
theorem iQ.grown{m:Nat}{e:TypeId}{C:Value}{l:List Value}(h:iQ w base v xs)(u:w.ownsRow b' e m C k l)(o:w.grownBy w' C.ownBlock)(F:e≠101)(H:e≠99):iQ w' base v xs:=h.by λb a=>by
 rcases a with⟨f,d,a⟩|a
 .exact o.block b (eP.lt (.inr ⟨f,d,a⟩)) (eh u a F)
 .obtain⟨rows,_,c,_⟩:=h;exact o.block b (bk c a).2 (cL c u H.symm a)
def ac6(e:List Wt)(n:Nat)(w:World)(v:Value)(b:World):Prop:=∃A c,v=.slice A n c/\iQ b w (.slice A n c) e/\Below w w b
theorem QJ{rows:List (Row 4)}(F:rows.length=ys.length)(H:aH wr base 99 4 dF v rows)(I:∀(i:Nat) (r:Row 4) (x:Wt),rows[i]?=some r->ys[i]?=some x->OO wr (Ty wr 101) r.val x)(l:x.cases.length<=d)(C:eo wr (Ty wr 101) bj B x.cases){o:Obj}(z:aH w4 base 99 4 dF v4 (rows++[QB x B d]))(u:(wr.alloc o).grownBy w4 v.ownBlock):iQ w4 base v4 (ys++[x]):=by
 have f:Sm (Ty wr 101) wr w4:=λb c=>(u.block b (by have:=eP.lt (.inr c);simp;omega) (λe=>by
  obtain⟨j,a,k⟩:=dY H b e.symm
  exact eP.not k (by decide) (by decide) (.inr c))).trans ((aj (ai wr) o).block b (eP.lt (.inr c)))
 have g:∀b,Ty wr 101 b->Ty w4 101 b:=λb ⟨ys,a,h⟩=>⟨ys,a,(f b ⟨ys,a,h⟩).trans h⟩
 exact(aD.app aI F I f z (x:=x) ⟨B,d,rfl,l,C.same f⟩).mono aI g
theorem nv(w:World)(A:Option Addr)(c:Nat)(xs:List Wt)(hn:n=xs.length)(hl:n<=100000)(hr:ez w A xs)(hc:∀x∈xs,x.cases.length<=100000) :
 Calls prog 82 #[.slice A n c] w λe w'=>∃v,e=.returned v/\ac6 xs n w v w':=by
 obtain⟨D,HC,HR⟩:=aS hn hc (λw' (hb:Below w w w') (j:Nat) (x:Wt) o=>ez.row (hr.gK aI hb) (j:=j) (x:=x) o)
 clear hn hr hc
 go_enter func82,ntmps82
 go_wp2
 go_loopw[3,8] (λv i wr=>∃(k:Nat) (z:Value),k<=n/\i=k/\v=z/\Hid (iQ wr w z (xs.take k))/\Hid (Below w w wr)) (λ_ i _=>n-(intOf i).toNat)
 case atStart=>exact⟨0,_,aZ _,rfl,rfl,aD.nil _ _ _ _ _ _,ai w⟩
 case round =>
  obtain⟨k,z,hk,rfl,rfl,X,J⟩:=hrel;by_cases Q:k<n
  .obtain⟨x,o⟩:∃x,xs[k]?=some x:=⟨_,cq (by rw[<-D.Y];exact Q)⟩
   obtain⟨ad,B,d,hA,P,pS,c0,c1,c2,Z⟩:=HR.Y wr J k x o;subst hA;obtain⟨h,a⟩:=aw (wr.alloc (.cells #[x.on,x.ak,x.seq,.slice B x.cases.length d] 99));have O:=ae (aj (ai wr) (.cells #[x.on,x.ak,x.seq,.slice B x.cases.length d] 99));rw[<-a]at O;have L:Hid (ag h wr 99 #[x.on,x.ak,x.seq,.slice B x.cases.length d]):=by rw[a];exact ag.new _ _ _
   obtain⟨l,m⟩:=aw x.cases.length;rw[<-m]at a Z L;obtain⟨Y,oL,E,jC,r⟩:=bQ (eM o) a m (pS.below O.Y) (HC.Y x (cH o));clear o P pS m a;go_upto_region 5 with fail
   rw[<-oL.Y];obtain⟨s,R,b⟩:=ag.aF L.Y;clear c0 c1 c2 Z;go_wp2_with(at_builtin;refine bR _ rfl _ _ 36 rfl h 101 3 24 (.agg #[oZ,oZ,oZ]) bj cM mF underlying36 px rfl (by decide) _ [] rfl (aH.empty _ _ _ _) B l d x.cases rfl E.Y.symm (jC.Y.alloc _) (by have:=r.Y;simp;omega) (by have:=r.Y;simp;omega) (by simp) ?_)
   intro v5 w5 S pL _;have hE:=aH.empty h 101 3 bj;have U:Below h h w5:=hE.aW (aj (ai h) _) pL (by simp) (aR _);obtain⟨f,d5,vh⟩:=aH.shape S;rw[<-E.Y]at vh;subst vh;have y:=L.Y.ah U;obtain⟨nJ,K6,I⟩:=aS ((ah O.Y U).setCell (p:=⟨wr,3,none⟩) (aR _) (.slice f l d5)) (y.bp 3 (.slice f l d5)) (show aH _ h 101 3 bj (.slice f l d5) x.cases from bu S y (by decide) 3 (.slice f l d5));clear s R b S pL U hE;obtain⟨s,R,b⟩:=ag.aF y;go_upto_region 6 with fail
   clear s R b y;generalize w5.setCell ⟨wr,3,none⟩ (.slice f l d5)=u at *;have g:=ae (iQ.ext X.Y nJ.Y);obtain⟨V,d1,q⟩:=aD.shape g.Y;obtain⟨ys,G⟩:=aw (xs.take k);have K:ys.length=k:=by rw[G,fK,Nat.min_eq_left (by rw[<-D.Y];omega)]
   rw[<-G]at g Y q;rw[K]at q;subst q;obtain⟨rows,T,r2,r3⟩:=g.Y;obtain⟨R1,M,R3⟩:=aS T r2 r3;have iX:rows.length=k:=T.trans K;have Le:Hid (eo u (Ty u 101) bj f x.cases):=⟨I.Y.xS.2,λad ha aq=>by subst ha;exact kz I.Y⟩
   have ZA:=ae (aH.cap I.Y).2;have F:=ae (ah J.Y nJ.Y);obtain⟨s,-,b⟩:=ag.aF K6.Y;have lW:Hid (cN (u.alloc (.cells #[x.on,x.ak,x.seq,.slice f l d5] 99)) dF (some ⟨u,0,none⟩) [QB x f d5]):=by unfold Hid;rw[E.Y];exact Rd.lit u (QB x f d5).val _
   clear T r2 r3 G K;go_wp2_with(at_builtin;refine bR _ rfl _ _ 42 rfl w 99 4 48 (.agg #[false,oZ,oZ,oN]) dF bY eU underlying42 na rfl (by decide) _ rows rfl (M.Y.alloc _) _ 1 1 [QB x f d5] rfl rfl lW.Y (by simp;omega) (by simp;omega) (by have:=F.Y.size;simp;omega) ?_)
   intro v7 w7 t N _;have W:=ae (QJ R1.Y M.Y R3.Y (d:=d5) (by rw[<-E.Y];exact ZA.Y) Le.Y t N);have K7:=ae ((M.Y.alloc _).aW (aj F.Y _) N (by have:=F.Y.size;simp;omega) (aR _));rw[<-Y.Y]at W;clear t N s b;go_wp2;go_roundw;case rel=>exact⟨k+1,_,by omega,by go_num,rfl,W,K7⟩
   case measure=>simp[intOf];omega
  .have C:∀v,iQ wr w v (xs.take k)->Hid (iQ wr w v xs):=λv H=>by
    rw[List.take_of_length_le (by rw[<-D.Y];omega)]at H
    exact H
   have C:=C _ X.Y
   obtain⟨V,d1,q⟩:=aD.shape C.Y
   rw[<-D.Y]at q
   subst q
   go_wp2
   go_ret
   exact⟨_,rfl,V,d1,rfl,C.Y,J.Y⟩
theorem MH(w:World)(A:Option Addr)(c:Nat)(xs:List Wt)(o:n=xs.length)(F:n<=100000)(u:ez w A xs)(z:∀x∈xs,x.cases.length<=100000)(l:xs[j]?=some x)(C:x.on=true) :
 Calls prog 92 #[.slice A n c,j] w λe w'=>∃v,e=.returned (.tuple #[v,true])/\Pa (et xs j) n w v w':=by
 obtain⟨i,k,HX⟩:=aS (nv w A c xs o F u z) o l
 have s:j<n:=by rw[o];exact bT l
 have m:=ae (λw' (hb:Below w w w')=>ez.row (u.gK aI hb) l)
 obtain⟨p,_,_,a,_⟩:=ez.row u l
 subst a
 clear o u z l
 go_enter func92,ntmps92
 go_wp2_with fail
 refine i.mono ?_
 rintro e G ⟨v,rfl,H,K,rfl,h,d⟩
 obtain⟨iU,br⟩:=av (iQ.o h) d
 clear h d i
 obtain⟨I,_,_,a,_,_,B,_⟩:=m.Y G br
 injection a with a
 subst a
 rw[C]at B
 have f:xs≠[]:=by have:=k.Y;rintro rfl;simp at this;omega
 obtain⟨g,J,t,hg0,N⟩:=iU.form f
 injection t with e1 e2 e3
 subst e1 e3
 have M:=ae e2
 clear e2 f
 obtain⟨r,q,y,hcell⟩:=iU.at_ HX
 obtain⟨D,L,rfl,_,_⟩:=q
 have E:=hcell 0 _ rfl
 rw[Nat.add_zero]at E
 have O:=hcell 1 _ rfl
 have P:=hcell 2 _ rfl
 have Q:=hcell 3 _ rfl
 have f0:=iU.bq (j*4)
 have f1:=iU.bq (j*4+1)
 have f2:=iU.bq (j*4+2)
 have f3:=iU.bq (j*4+3)
 have d1:decide ((j:Int)<0)=false:=bF (by omega)
 have d2:decide ((n:Int)<=(j:Int))=false:=bF (by omega)
 clear hcell y C
 go_wp2_with fail
 exact We
theorem MI(w:World)(A:Option Addr)(c:Nat)(o:List Wt)(O:n=o.length)(hl:n<=100000)(R:ez w A o)(hc:∀x∈o,x.cases.length<=100000)(J:o[j]?=some x)(z u:Int)(C:List Cs)(D:Option Addr)(l F:Nat)(M:l=C.length)(aq:l<=100000)(hD:cN w bj D C) :
 Calls prog 89 #[.slice A n c,j,.agg #[false,z,u,.slice D l F]] w λe w'=>∃v,e=.returned (.tuple #[v,.bool (!x.on)])/\Pa (if x.on=true then o else o.set j ⟨true,z,u,C⟩) n w v w':=by
 obtain⟨zs,f⟩:=aw (if x.on=true then o else o.set j ⟨true,z,u,C⟩)
 rw[<-f]
 have HZ:=ae f
 clear f
 obtain⟨lC,HN,HX,K⟩:=bh (nv (w.alloc (.cells #[false,z,u,.slice D l F] 99)) A c o O hl (R.gK aI (aj (ai w) _)) hc) O J M
 have a8:j<n:=by rw[O];exact bT J
 obtain⟨HR,HD⟩:=av (λw' (a:Below w w w')=>ez.row (R.gK aI a) J) (λw' (a:Below w w w')=>hD.below a)
 obtain⟨a6,_,_,B,_⟩:=ez.row R J
 subst B
 have bJ:Hid (Below w w (w.alloc (.cells #[false,z,u,.slice D l F] 99))):=aj (ai w) _
 have eW:Hid (ag (w.alloc (.cells #[false,z,u,.slice D l F] 99)) w 99 #[false,z,u,.slice D l F]):=ag.new _ _ _
 have d1:decide ((j:Int)<0)=false:=bF (by omega)
 have d2:decide ((n:Int)<=(j:Int))=false:=bF (by omega)
 clear O R hc J M hD
 go_enter func89,ntmps89
 go_wp2_with fail
 refine lC.mono ?_
 rintro e Q ⟨v,rfl,A1,c1,rfl,fe,i⟩
 obtain⟨N,V,L⟩:=aS (iQ.o fe) (ah bJ i) (eW.ah i)
 clear fe i lC
 obtain⟨ad,_,_,B,_,_,Y,_⟩:=HR.Y Q V
 injection B with B
 subst B
 rcases s:x.on with _|_
 .rw[s]at Y;have Fy:=ae s;obtain⟨k,d,m⟩:=ag.aF L;have E:¬eP Q w:=eP.not L (by decide) (by decide);have H:o≠[]:=by have:=HN.Y;rintro rfl;simp at this;omega
  obtain⟨g,c',hv,W,nA⟩:=N.form H;injection hv with e1 e2 e3
  subst e1 e3;have iY:=ae e2;have B8:w.heap.size<g:=by simp at W;omega
  obtain⟨bB,X,eN⟩:=aS (V.Y.setCell (p:=⟨w,0,none⟩) (aR _) true) (L.Y.bp 0 true) (iV (w':=Q.setCell ⟨w,0,none⟩ true) aI N.Y λb a=>dE _ _ _ _ λe=>by
   have e:b=w.heap.size:=e
   rcases a with a|a
   .exact E (e▸a)
   .have:g=b:=by simpa[Value.ownBlock]using a
    omega)
  clear e2 H E s L N;go_upto_region 5 with fail
  generalize Q.setCell ⟨w,0,none⟩ true=t at *;clear k d m Y;obtain⟨k,d,m⟩:=ag.aF X;have Ad:=ae (HD.Y _ bB);go_wp2_with(at_builtin;refine bR _ rfl _ _ 36 rfl t 101 3 24 (.agg #[oZ,oZ,oZ]) bj cM mF underlying36 px rfl (by decide) _ [] rfl (aH.empty _ _ _ _) D l F C rfl K.Y.symm (Ad.Y.alloc _) (by have:=K.Y;simp;omega) (by have:=K.Y;simp;omega) (by simp) ?_)
  intro v3 S U G _;have hE:=aH.empty t 101 3 bj;have T:Below t t S:=hE.aW (aj (ai t) _) G (by simp) (aR _);obtain⟨h,d3,I⟩:=aH.shape U;rw[<-K.Y]at I;subst I;obtain⟨P,bU,j5,rW⟩:=bh (X.Y.ah T) (ah bB.Y T) (aD.gK aI eN.Y T) U;clear k d m hE G U T X eN;obtain⟨k,d,m⟩:=ag.aF P;go_upto_region 6 with fail
  have E:¬eP S w:=eP.not P (by decide) (by decide);obtain⟨fh,rG,q,Z⟩:=bh (bU.Y.setCell (p:=⟨w,3,none⟩) (aR _) (.slice h l d3)) (P.Y.bp 3 (.slice h l d3)) (iV (w':=S.setCell ⟨w,3,none⟩ (.slice h l d3)) aI j5.Y λb a=>dE _ _ _ _ λe=>by
   have e:b=w.heap.size:=e
   rcases a with a|a
   .exact E (e▸a)
   .have:g=b:=by simpa[Value.ownBlock]using a
    omega) (show aH _ t 101 3 bj (.slice h l d3) C from bu rW.Y P.Y (by decide) 3 (.slice h l d3))
  generalize S.setCell ⟨w,3,none⟩ (.slice h l d3)=w4 at *;clear k d m E;obtain⟨k,d,m⟩:=ag.aF rG;obtain⟨r,hP,iX,hcell⟩:=q.at_ HX;obtain⟨D5,a7,rfl,_,_⟩:=hP;have q0:=hcell 0 _ rfl;rw[Nat.add_zero]at q0;have q1:=hcell 1 _ rfl;have q2:=hcell 2 _ rfl;have q3:=hcell 3 _ rfl;have f0:=q.bq (j*4);have f1:=q.bq (j*4+1);have f2:=q.bq (j*4+2);have f3:=q.bq (j*4+3);clear hcell iX;go_wp2_with fail;go_ret2;have M:=K.Y;subst M;have f:=HZ.Y;rw[Fy.Y,au (by decide)]at f;rw[f,Fy.Y];exact⟨_,rfl,_,_,rfl,(j6.put (y:=⟨true,z,u,C⟩) q.Y (bT HX) (aH.cap Z.Y).2 (aH.xS Z.Y).2 (λb a _=>by subst a;exact kz Z.Y)).bL (by simp),az (by omega) [true,z,u,.slice h C.length d3] _ _ fh.Y⟩
 .rw[s]at Y;go_wp2_with fail;go_ret2;have f:=HZ.Y;rw[s,ay rfl]at f;rw[f,s];exact⟨_,rfl,_,_,rfl,N.bL (by simp),V⟩
def stA(f:Nat->Bool)(t:Nat)(s:List Nat×Bool)(y:Nat):List Nat×Bool:=if(!s.2 && f y)=true then(s.1++[t]++[y],true)else(s.1++[y],s.2)
def sA(f:Nat->Bool)(t:Nat)(L:List Nat)(i:Nat):List Nat×Bool:=(L.take i).foldl (stA f t) ([],false)
theorem US{f:Nat->Bool}(h:L[i]?=some y):sA f t L (i+1)=stA f t (sA f t L i) y:=by unfold sA;rw[eM h,List.foldl_append];rfl
theorem UT(f:Nat->Bool)(t:Nat):∀(L:List Nat) (s:List Nat×Bool),(L.foldl (stA f t) s).1.length<=s.1.length+2*L.length:=by
 intro L;induction L with
 |nil=>intro s;simp
 |cons y L a =>
  intro s;have h:=a (stA f t s y);have:(stA f t s y).1.length<=s.1.length+2:=by unfold stA;split<;>simp
  simp only[List.foldl_cons,List.length_cons]at h ⊢;omega
theorem ZC(f:Nat->Bool)(t:Nat)(L:List Nat)(i:Nat):(sA f t L i).1.length<=2*i:=by
 have h:=UT f t (L.take i) ([],false);have:(L.take i).length<=i:=by rw[fK];omega
 unfold sA;simp only[List.length_nil]at h;omega
def UU(f:Nat->Bool)(t:Nat):List Nat->List Nat
 |[]=>[t]
 |y::l=>if f y=true then t::y::l else y::UU f t l
theorem UW(f:Nat->Bool)(t:Nat):∀(L a:List Nat),L.foldl (stA f t) (a,true)=(a++L,true):=by
 intro L;induction L with
 |nil=>intro a;simp
 |cons y L b=>intro a;rw[List.foldl_cons,show stA f t (a,true) y=(a++[y],true)from rfl,b];simp
theorem ZD(f:Nat->Bool)(t:Nat):∀(L a:List Nat),(if(L.foldl (stA f t) (a,false)).2=true then(L.foldl (stA f t) (a,false)).1 else(L.foldl (stA f t) (a,false)).1++[t])=a++UU f t L:=by
 intro L;induction L with
 |nil=>intro a;rfl
 |cons y L c =>
  intro a;rw[List.foldl_cons];rcases b:f y with _|_
  .rw[show stA f t (a,false) y=(a++[y],false)by unfold stA;rw[b];rfl,c];show _=a++(if f y=true then _ else _)
   rw[b,au af];simp
  .rw[show stA f t (a,false) y=(a++[t]++[y],true)by unfold stA;rw[b];rfl,UW];show _=a++(if f y=true then _ else _)
   rw[b,ay rfl,ay rfl];simp
theorem MJ{α:Type}(b:α->α->Bool)(t x:α)(h:b t x=false):∀M:List α,gJ b t (M++[x])=gJ b t M++[x]:=by
 intro M;induction M with
 |nil=>show(if b t x=true then _ else _)=_;rw[h];rfl
 |cons y M a =>
  show(if b t y=true then _ else _)=(if b t y=true then _ else _)++[x]
  split
  .exact congrArg (y:: ·) a
  .rfl
theorem QK(l:Nat->Int)(t:Nat):∀L:List Nat,L.Pairwise (λa b=>l a<=l b)->(gJ (λa b=>decide (l a<l b)) t L.reverse).reverse=UU (λy=>decide (l t<l y)) t L:=by
 intro L;induction L with
 |nil=>intro _;rfl
 |cons x L i =>
  intro h;obtain⟨f,g⟩:=List.pairwise_cons.1 h;show _=if _ then _ else _;by_cases c:l t<l x
  .rw[ay (cg c)];have e:=AX (λa b=>decide (l a<l b)) t (x::L).reverse [] (λq d=>by
    rcases List.mem_cons.1 (List.mem_reverse.1 d)with rfl|d
    .exact cg c
    .exact cg (Int.lt_of_lt_of_le c (f q d)))
   rw[List.append_nil]at e;rw[e];simp[gJ]
  .rw[au (by simp[c]),List.reverse_cons,MJ _ _ _ (bF c),List.reverse_append,i g];rfl
theorem MK(l:Nat->Int)(t:Nat):∀L:List Nat,L.Pairwise (λa b=>l b<=l a)->(gJ (λa b=>decide (l a<l b)) t L).Pairwise (λa b=>l b<=l a):=by
 intro L;induction L with
 |nil=>intro _;exact List.pairwise_singleton _ _
 |cons y L i =>
  intro h;obtain⟨f,g⟩:=List.pairwise_cons.1 h;show(if _ then _ else _:List Nat).Pairwise _;split
  .rename_i d;have d:=of_decide_eq_true d;refine List.pairwise_cons.2 ⟨λz c=>?_,i g⟩;rcases tX _ _ _ _ c with rfl|c
   .omega
   .exact f z c
  .rename_i d;have d:¬l t<l y:=λe=>d (cg e);refine List.pairwise_cons.2 ⟨λz c=>?_,h⟩;rcases List.mem_cons.1 c with rfl|c
   .omega
   .have:=f z c;omega
theorem Il(e:Nat->Int):∀(l c:List Nat),c.Pairwise (λa b=>e b<=e a)->(l.foldl (λc x=>gJ (λa b=>decide (e a<e b)) x c) c).Pairwise (λa b=>e b<=e a):=by
 intro l;induction l with
 |nil=>intro c h;exact h
 |cons x l d=>intro c h;exact d _ (MK e x c h)
def EN(e:List Wt)(l:Int)(k:Nat):List Nat:=eA (λa b=>decide (eX e a<eX e b)) (zD e l k)
theorem UX(l:List Wt)(e:Int)(k:Nat):(EN l e k).length<=k:=by unfold EN;rw[jl];exact xu _ _ _
theorem QL(l:xs[k]?=some x){N:List Nat}{b:Bool}(e:sA (λy=>decide (x.ak<eX xs y)) k (EN xs hd k) (EN xs hd k).length=(N,b))(o:(x.on && x.cases.any (yt hd))=true) :
 EN xs hd (k+1)=if b=true then N else N++[k]:=by
 have f:eX xs k=x.ak:=by unfold eX;rw[ew,l];rfl
 have g:(EN xs hd k).Pairwise (λa b=>eX xs a<=eX xs b):=List.pairwise_reverse.2 (Il (eX xs) (zD xs hd k) [] List.Pairwise.nil)
 have d:EN xs hd (k+1)=UU (λy=>decide (x.ak<eX xs y)) k (EN xs hd k):=by rw[<-f, <-QK (eX xs) k _ g];unfold EN;rw[yu l,ay o,yn]
 have c:=ZD (λy=>decide (x.ak<eX xs y)) k (EN xs hd k) []
 rw[d]
 unfold sA at e
 rw[List.take_length]at e
 rw[e]at c
 exact c.symm
theorem ZE(x:Wt)(l:Int):decide (il (Ik x 0 l) x.cases<0)= !(x.on && x.cases.any (yt l)):=by
 have e:∀p:Cs->Bool,decide (il p x.cases<0)= !(x.cases.any p):=λp=>by
  rw[<-ly, <-decide_not]
  exact decide_eq_decide.2 (by omega)
 rw[e,show Ik x 0 l=λk=>x.on && yt l k by funext k;simp[Ik,yt]];cases x.on<;>simp
theorem ML{z:Int}(h:(dD L)[j]?=some z):∃y:Nat,z=y/\L[j]?=some y:=by unfold dD at h;rw[List.getElem?_map]at h;obtain⟨y,a,b⟩:=Option.map_eq_some_iff.1 h;exact⟨y,b.symm,a⟩
theorem ur{a:World}{N:List Nat}{o:Obj}(F:p=N.length)(z:aK wr a 3 .i64 v (dD N))(u:Below a a wr)(l:aK w4 a 3 .i64 v4 (dD N++[(y:Int)]))(C:(wr.alloc o).grownBy w4 v.ownBlock) :
 ∃B d,v4=.slice B (p+1) d/\Hid (p+1=(N++[y]).length)/\Hid (aK w4 a 3 .i64 (.slice B (p+1) d) (dD (N++[y])))/\Hid (Below a a w4):=by
 rw[<-yw]at l
 obtain⟨B,d,b⟩:=l.shape
 have e:(dD (N++[y])).length=p+1:=by rw[dR,fM, <-F];rfl
 rw[e]at b
 subst b
 exact⟨B,d,rfl,by rw[<-dR,e];rfl,l,aK.aW (aK.alloc z o) (aj u o) C (by have:=u.size;simp;omega) (aR _)⟩
theorem EO(w:World)(A:Option Addr)(c:Nat)(xs:List Wt)(hn:n=xs.length)(hl:n<=100000)(hr:ez w A xs)(hc:∀x∈xs,x.cases.length<=100000)(l:Int) :
 Calls prog 122 #[.slice A n c,l] w (OnE xs l w):=by
 obtain⟨V,HC,HR⟩:=aS hn hc (λw' (Z:Below w w w') (j:Nat) (x:Wt) E=>ez.row (hr.gK aI Z) (j:=j) (x:=x) E)
 clear hn hr hc
 go_enter func122,ntmps122
 go_wp2
 go_loopw[5,14] (λv i wr=>∃(k m:Nat) (B:Option Addr) (d:Nat),k<=n/\i=k/\v=.slice B m d/\Hid (m=(EN xs l k).length)/\Hid (aK wr w 3 .i64 (.slice B m d) (dD (EN xs l k)))/\Hid (Below w w wr)) (λ_ i _=>n-(intOf i).toNat)
 case atStart=>exact⟨0,0,none,0,aZ _,rfl,rfl,rfl,aK.nil _ _ _ _,ai w⟩
 case round =>
  obtain⟨k,m,B,d,hk,rfl,rfl,u,W,U⟩:=hrel;by_cases a6:k<n
  .obtain⟨x,E⟩:∃x,xs[k]?=some x:=⟨_,cq (by rw[<-V.Y];exact a6)⟩
   obtain⟨ad,D,S,hA,aq,pS,c0,c1,c2,c3⟩:=HR.Y wr U k x E;obtain⟨Y,P⟩:=av E (rf (wr.alloc (.cells #[x.on,x.ak,x.seq,.slice D x.cases.length S] 99)) x D S rfl (by have:=HC.Y x (cH E);omega) (pS.alloc _) 0 l);have Q:=ae (ZE x l);subst hA;clear E aq pS;generalize x.cases.length=bl at P c3;generalize il (Ik x 0 l) x.cases=J at P Q;go_wp2_with fail;go_fit P.Y;rintro e w2 ⟨rfl,r⟩;have hK:=(ag.new wr 99 #[x.on,x.ak,x.seq,.slice D bl S]).ah r;have bB:=ae (ah (aj (ai wr) (.cells #[x.on,x.ak,x.seq,.slice D bl S] 99)) r);obtain⟨iH,eN,Bn⟩:=aS hK (aK.ah W bB.Y) (ah U bB.Y);clear r hK c0 c1 c2 c3 P;rcases K:(x.on && x.cases.any (yt l))with _|_
   .have d1:decide (J<0)=true:=by rw[Q.Y,K];rfl
    have a:Hid (EN xs l (k+1)=EN xs l k):=by unfold Hid EN;rw[yu Y.Y,au (by rw[K];decide)]
    go_wp2_with fail;go_roundw;case rel=>exact⟨k+1,m,B,d,by omega,by go_num,rfl,by rw[a.Y];exact u,by rw[a.Y];exact eN,Bn⟩
    case measure=>simp[intOf];omega
   .have d1:decide (J<0)=false:=by rw[Q.Y,K];rfl
    obtain⟨G,H⟩:=av (λN b hs=>QL (N:=N) (b:=b) Y.Y hs K) (λ(wy:World) (Z:Below w2 w2 wy)=>(eN.Y.pw.2).below Z);obtain⟨L,I⟩:=aw (EN xs l k);obtain⟨f,C⟩:=aw (λy=>decide (x.ak<eX xs y));rw[<-C, <-I]at G;rw[<-I]at u H;have HF:Hid (∀y z,xs[y]?=some z->decide (x.ak<z.ak)=f y):=by intro y z M;rw[C];show _=decide (x.ak<(xs.getD y fU).ak);rw[ew,M];rfl
    have F:Hid (∀j y:Nat,L[j]?=some y->y<n):=by intro j y h;have:=JG (mK _ _ (I▸cH h));omega
    have bz:m<=k:=by rw[u.Y,I];exact UX _ _ _
    obtain⟨R,bJ⟩:=av Bn (ai w2);obtain⟨w0,h0⟩:=aw wr;subst h0;clear K I C Q eN Y;obtain⟨cU,-,eB⟩:=ag.aF iH;go_wp2_with fail;clear cU eB;go_loopw[8,9,25] (λv fb i wr=>∃(j p:Nat) (N:List Nat) (b:Bool) (O:Option Addr) (d2:Nat),j<=m/\i=j/\v=.slice O p d2/\fb=b/\Hid (p=N.length)/\Hid (sA f k L j=(N,b))/\Hid (aK wr w2 3 .i64 (.slice O p d2) (dD N))/\Hid (Below w2 w2 wr)) (λ_ _ i _=>m-(intOf i).toNat);case atStart=>exact⟨0,0,[],false,none,0,aZ _,rfl,rfl,rfl,rfl,rfl,aK.nil _ _ _ _,bJ⟩
    case round =>
     obtain⟨j,p,N,b,O,d2,hj,rfl,rfl,rfl,HP,X,eN,bB⟩:=hrel;obtain⟨cU,-,eB⟩:=ag.aF (iH.Y.ah bB.Y);have K7:=ae (ah R.Y bB.Y);have hp:p<=2*j:=by have:=ZC f k L j;rw[X.Y]at this;rw[HP.Y];exact this
     by_cases pC:j<m
     .obtain⟨a8,y,WY,xN,q0⟩:=bD.at_ (H.Y _ bB) (i:=j) (by rw[dR, <-u.Y];exact pC);obtain⟨y,rfl,T⟩:=ML xN;obtain⟨z,M⟩:∃z,xs[y]?=some z:=⟨_,cq (by rw[<-V.Y];exact F.Y j y T)⟩
      obtain⟨a7,_,_,zC,_,_,_,q1,_⟩:=HR.Y wr K7 y z M;injection zC with zC
      subst zC WY;have C:=HF.Y y z M;have bE:=F.Y j y T;have g:=ae (US (f:=f) (t:=k) T);rw[X.Y]at g;clear M T xN;rcases b with _|_
      .rcases s:f y with _|_
       .rw[s]at C;have HSB:Hid (sA f k L (j+1)=(N++[y],false)):=by unfold Hid;rw[g.Y];unfold stA;rw[s];rfl
        clear s;exact Xd
       .rw[s]at C;have HSB:Hid (sA f k L (j+1)=(N++[k]++[y],true)):=by unfold Hid;rw[g.Y];unfold stA;rw[s];rfl
        clear s;go_wp2_with fail;go_quiet(fail);clear cU eB q0 q1;go_wp2_with(at_builtin;refine bS _ rfl _ _ 22 rfl w2 3 .i64 underlying22 dI _ (dD N) rfl (aK.alloc eN _) (some ⟨wr,0,none⟩) 1 1 [(k:Int)] rfl rfl (bD.one _ .i64 _ _) ?c4 ?c6 ?_)
        case c4=>rw[dR, <-HP.Y];simp;omega
        case c6=>have:=bB.size;simp;omega
        intro v4 w4 q o _;obtain⟨B4,d4,rfl,CX,j7,fh⟩:=ur (wr:=wr.drewN _) HP.Y eN (bZ bB _) q o;clear q o;go_wp2_with(at_builtin;refine bS _ rfl _ _ 22 rfl w2 3 .i64 underlying22 dI _ (dD (N++[k])) rfl (aK.alloc j7 _) (some ⟨w4,0,none⟩) 1 1 [(y:Int)] rfl rfl (bD.one _ .i64 _ _) ?c4 ?c6 ?_)
        case c4=>rw[dR, <-CX.Y];simp;omega
        case c6=>have:=fh.size;simp;omega
        intro v5 w5 q o _;obtain⟨B5,d5,rfl,UE,pR,iq⟩:=ur CX.Y j7 fh q o;clear q o;go_wp2;go_roundw;case rel=>exact⟨j+1,_,_,_,B5,d5,by omega,by go_num,rfl,rfl,UE,HSB,pR,iq⟩
        case measure=>simp[intOf];omega
      .have HSB:Hid (sA f k L (j+1)=(N++[y],true)):=by unfold Hid;rw[g.Y];rfl
       exact Xd
     .have YN:j=L.length:=by have:=u.Y;omega
      have a:=ae (G.Y N b (by rw[<-YN];exact X.Y));rcases b with _|_
      .clear cU eB;rw[au af]at a;go_wp2_with(at_builtin;refine bS _ rfl _ _ 22 rfl w2 3 .i64 underlying22 dI _ (dD N) rfl (aK.alloc eN _) (some ⟨wr,0,none⟩) 1 1 [(k:Int)] rfl rfl (bD.one _ .i64 _ _) ?c4 ?c6 ?_)
       case c4=>rw[dR, <-HP.Y];simp;omega
       case c6=>have:=bB.size;simp;omega
       intro v4 w4 q o _;obtain⟨B4,d4,rfl,CX,j7,fh⟩:=ur HP.Y eN bB q o;clear q o;go_wp2;go_roundw;case rel=>exact⟨k+1,_,B4,d4,by omega,by go_num,rfl,by rw[a.Y];exact CX,by rw[a.Y];exact j7.Y.bL R.size,ah R fh⟩
       case measure=>simp[intOf];omega
      .rw[ay rfl]at a;go_wp2;go_roundw;case rel=>exact⟨k+1,p,O,d2,by omega,by go_num,rfl,by rw[a.Y];exact HP,by rw[a.Y];exact eN.Y.bL R.size,K7⟩
       case measure=>simp[intOf];omega
  .have a:Hid (dD (EN xs l k)=dD (mi xs l)):=by
    have e:k=xs.length:=by have:=V.Y;omega
    subst e;rfl
   have HL:Hid (m=(mi xs l).length):=by have:=congrArg List.length a.Y;rw[dR,dR]at this;exact u.Y.trans this
   rw[a.Y]at W
   go_wp2
   go_ret
   unfold OnE
   rw[<-HL.Y]
   exact⟨B,d,rfl,W,U⟩
theorem rh(w:World)(x:Ch)(B:Option Addr)(l d:Nat)(o:l=x.buf.length)(R:l<=100000)(u:bD w .i64 B x.buf) :
 Calls prog 83 #[.agg #[x.gen,x.cap,x.used,x.closed,.slice B l d]] w λe w'=>∃v,e=.returned v/\Pz x w v w':=by
 have n:=ae o
 unfold Pz
 rw[<-o]
 obtain⟨W,g⟩:=aw ((w.alloc (oW x B l d)).alloc rp)
 have j:Hid (Below w w W):=by rw[g];exact aj (aj (ai w) _) _
 have s:Hid (ag W w 50 #[x.gen,x.cap,x.used,x.closed,.slice B l d]):=by rw[g];exact(ag.new _ _ _).alloc _
 have K:Hid (ag W (w.heap.size+1) 50 #[oZ,oZ,false,false,oN]):=by rw[g];exact(ag.newAt _ _ _ aA)
 have C:=ae (u.below j)
 have D:=ae g
 clear o u g
 go_enter func83,ntmps83
 go_upto_region 1 with fail
 rw[<-D.Y]
 obtain⟨k,f,m⟩:=ag.aF s
 go_wp2_with(at_builtin;refine bS _ rfl _ _ 22 rfl W 3 .i64 underlying22 dI _ [] rfl (aK.empty _ _ _) B l d x.buf rfl n.Y.symm (bD.alloc C _) ?c4 ?c6 ?_)
 case c4=>have:=n.Y;simp;omega
 case c6=>simp
 intro S A r t _
 obtain⟨a,d1,y⟩:=r.shape
 rw[<-n.Y]at y
 subst y
 have c:=aK.aW (aK.empty W 3 .i64) (aj (ai W) _) t (by simp) (aR _)
 clear k f m
 obtain⟨F,h,q,N⟩:=bh (ah j c) (s.ah c) (K.ah c) (aK.bL r j.size)
 clear r t c
 obtain⟨k,f,-⟩:=ag.aF h
 have m:=ag.lt h
 obtain⟨E,G,-⟩:=ag.aF q
 have H:=ag.lt q
 go_wp2_with fail
 have L:=h.bp 4 (.slice a l d1)
 have z:=q.b9 (p:=⟨w,4,none⟩) (by show w.heap.size+1≠w;omega) (.slice a l d1)
 have P:aK _ w 3 .i64 (.slice a l d1) x.buf:=bu N h af 4 (.slice a l d1)
 have Q:=F.setCell (p:=⟨w,4,none⟩) (aR _) (.slice a l d1)
 have M:=iK z x.gen x.cap x.used x.closed (.slice a l d1)
 have O:=λi=>ag.cell M i
 have I:aK _ w 3 .i64 (.slice a l d1) x.buf:=dV P z af x.gen x.cap x.used x.closed (.slice a l d1)
 have J:=fx Q (b:=w.heap.size+1) (bM _) x.gen x.cap x.used x.closed (.slice a l d1)
 change bodyPost _ _ _ _ _ (iz (A.setCell ⟨w,4,none⟩ (.slice a l d1)) (w.heap.size+1) x.gen x.cap x.used x.closed (.slice a l d1))
 generalize iz (A.setCell ⟨w,4,none⟩ (.slice a l d1)) (w.heap.size+1) x.gen x.cap x.used x.closed (.slice a l d1)=T at *
 clear k f m E G H
 refine bodyPost_ret (v:=.agg #[x.gen,x.cap,x.used,x.closed,.slice a l d1]) ?_ rfl ?_
 .simp[results,results83,go_sem,O]
 .exact⟨_,rfl,a,d1,rfl,I,J⟩
theorem yX(w:World)(A:Option Addr)(c:Nat)(xs:List Wt)(u:n=xs.length)(z:ez w A xs)(b:xs[t]?=some x)(o co l:Int) :
 Calls prog 121 #[.slice A n c,t,o,co,l] w λe w'=>e=.returned (.agg #[t,x.seq,o,co,l])/\Below w w w':=by
 obtain⟨j,B,d,h,_,_,a,f,k,g⟩:=ez.row (z.gK aI (aj (ai w) (.cells #[oZ,oZ,oZ,oZ,oZ] 188))) b
 have i:t<n:=by rw[u];exact bT b
 subst h
 clear u z b a f g
 go_enter func121,ntmps121
 go_wp2
 refine bodyPost_ret (v:=.agg #[t,x.seq,o,co,l]) ?_ rfl ?_
 .simp[results,results121,go_sem]
 .exact⟨rfl,aj (ai w) _⟩
theorem wJ(w:World)(x:Ch)(B:Option Addr)(u d:Nat)(C:u=x.buf.length)(J:x.used=true)(A:Option Addr)(c:Nat)(o:List Wt)(H:n=o.length)(M:n<=100000)(I:ez w A o)(F:∀x∈o,x.cases.length<=100000)(z l:Int)(K:l=1\/l=2) :
 Calls prog 86 #[.agg #[x.gen,x.cap,x.used,x.closed,.slice B u d],z,.slice A n c,l] w λe w'=>e=.returned (cX x z o l)/\Below w w w':=by
 have f:=ae (λb (h:Below w w b)=>wI b A c o H M (I.gK aI h) F (3-l) z (by omega))
 have HR:Hid (cX x z o l=(x.closed || (dt o (3-l) z).isSome || if l=1 then decide ((u:Int)<x.cap)else decide ((0:Int)<u))):=by unfold Hid cX;rw[J,C];rcases K with rfl|rfl<;>simp
 have a:Hid (Below w w (w.alloc (oW x B u d))):=aj (ai w) _
 have g:Hid (ag (w.alloc (oW x B u d)) w 50 #[x.gen,x.cap,x.used,x.closed,.slice B u d]):=ag.new _ _ _
 generalize cX x z o l=r at *
 clear C H I F
 obtain⟨k,j,m,cl,i⟩:=x
 dsimp only at *
 subst J
 rcases K with rfl|rfl
 all_goals
  go_enter func86,ntmps86;go_wp2_with fail;go_fit (f _ a);rintro e p ⟨T,W,ok,rfl,hf,hb1⟩;obtain⟨br,eZ⟩:=av (ah a hb1) (g.ah hb1);have Ba:=ae (mN hf);exact YC
def jh(g:r7)(n:Nat)(B:Option Addr)(e d:Nat)(A:Option Addr)(c:Nat)(D:Option Addr)(o l:Nat):List Value:=[g.c.gen,g.c.cap,g.c.used,g.c.closed,.slice B e d,.slice A n c,g.r.seq,g.r.cs,g.r.code,g.r.value,.slice D o l]
def GtE(g:r7)(n:Nat)(w:World)(e:Ending)(b:World):Prop:=∃B d A c D dd,e=.returned (.agg (jh g n B g.c.buf.length d A c D g.told.length dd).toArray)/\j9 g n w b B d A c D dd/\Below w w b
abbrev Xe:Obj:=.cells #[oZ,oZ,false,false,oN,oN,oZ,oZ,oZ,oZ,oN] 159
structure nH (g:Mo.r7) (n:Nat) (w W:World) (q r:Nat) (B:Option Addr) (d:Nat) (A:Option Addr) (c:Nat) (D:Option Addr) (dd:Nat):Prop where
 ne:w.heap.size<=r/\r<q
 ext:Below w w W
 kq:ag W q 159 (jh g n B g.c.buf.length d A c D g.told.length dd).toArray
 kr:ag W r 159 #[oZ,oZ,false,false,oN,oN,oZ,oZ,oZ,oZ,oN]
 buf:aK W w 3 .i64 (.slice B g.c.buf.length d) g.c.buf
 wt:iQ W w (.slice A n c) g.l
 td:aH W w 188 5 ie (.slice D g.told.length dd) g.told
section
variable{g:Mo.r7}{r:Nat}{c:Nat}
theorem nH.more(H:nH g n w W q r B d A c D dd)(e:Below W W W2):nH g n w W2 q r B d A c D dd:=⟨H.ne,ah H.ext e,H.kq.ah e,H.kr.ah e,aK.ah H.buf e,iQ.ext H.wt e,aH.ah H.td e⟩
theorem nH.put(H:nH g n w W q r B d A c D dd)(i:Nat)(v:Value)(e:(jh g n B g.c.buf.length d A c D g.told.length dd).toArray.setIfInBounds i v=(jh g' n B g'.c.buf.length d A c D g'.told.length dd).toArray)(l:g'.c.buf=g.c.buf)(o:g'.l=g.l)(u:g'.told=g.told) :
 nH g' n w (W.setCell ⟨q,i,none⟩ v) q r B d A c D dd:=by
 have j:∀b,Ty W 101 b->b≠q:=λb a f=>by subst f;exact eP.not H.kq af af (.inr a)
 refine⟨H.ne,H.ext.setCell (p:=⟨q,i,none⟩) (by have:=H.ne;show w.heap.size<=q;omega) v,e▸H.kq.bp i v,H.kr.b9 (p:=⟨q,i,none⟩) (by have:=H.ne;show r≠q;omega) v,?_,?_,?_⟩
 .rw[l];exact bu H.buf H.kq af i v
 .rw[o];exact iQ.by H.wt λb h=>dE _ _ _ _ (h.elim (j b) λh=>aD.other H.wt H.kq af b h)
 .rw[u];exact bu H.td H.kq af i v
theorem nH.ZF(H:nH g n w W q r B d A c D dd)(l:bl=zs.length)(u:Below w w W2)(e:ag W2 q 159 (jh g n B g.c.buf.length d A c D g.told.length dd).toArray)(z:ag W2 r 159 #[oZ,oZ,false,false,oN,oN,oZ,oZ,oZ,oZ,oN])(C:aK W2 w 3 .i64 (.slice B' bl d') zs)(o:iQ W2 w (.slice A n c) g.l)(F:aH W2 w 188 5 ie (.slice D g.told.length dd) g.told) :
 nH {g with c:={g.c with buf:=zs}} n w (W2.setCell ⟨q,4,none⟩ (.slice B' bl d')) q r B' d' A c D dd:=by
 subst l
 have i:∀b,Ty W2 101 b->b≠q:=λb a f=>by subst f;exact eP.not e af af (.inr a)
 refine⟨H.ne,u.setCell (p:=⟨q,4,none⟩) (by have:=H.ne;show w.heap.size<=q;omega) _,e.bp 4 _,z.b9 (p:=⟨q,4,none⟩) (by have:=H.ne;show r≠q;omega) _,bu C e af 4 _,?_,bu F e af 4 _⟩
 exact iQ.by o λb h=>dE _ _ _ _ (h.elim (i b) λh=>aD.other o e af b h)
theorem nH.kI(H:nH g n w W q r B d A c D dd){o:Obj}(b:(W.alloc o).grownBy W2 (Value.slice B g.c.buf.length d).ownBlock):ag W2 q 159 (jh g n B g.c.buf.length d A c D g.told.length dd).toArray:=(H.kq.alloc o).grown b (ba (aK.alloc H.buf o) (H.kq.alloc o) af)
theorem nH.kT(H:nH g n w W q r B d A c D dd){o:Obj}(b:(W.alloc o).grownBy W2 (Value.slice D g.told.length dd).ownBlock):ag W2 q 159 (jh g n B g.c.buf.length d A c D g.told.length dd).toArray:=(H.kq.alloc o).grown b (ba (aH.alloc H.td o) (H.kq.alloc o) af)
theorem nH.push(H:nH g n w W q r B d A c D dd){o:Obj}(l:bl=zs.length)(e:(W.alloc o).grownBy W2 (Value.slice B g.c.buf.length d).ownBlock)(u:aK W2 w 3 .i64 (.slice B' bl d') zs) :
 nH {g with c:={g.c with buf:=zs}} n w (W2.setCell ⟨q,4,none⟩ (.slice B' bl d')) q r B' d' A c D dd:=by
 have a:=H.more (aj (ai W) o)
 exact H.ZF l (aK.aW a.buf a.ext e a.ext.size (aR _)) (H.kI e) (a.kr.grown e (ba a.buf a.kr af)) u (iQ.grown a.wt a.buf e af af) (ua a.td λb f=>e.block b (bk a.td f).2 (cL a.td a.buf af f))
theorem nH.QM(H:nH g n w W q r B d A c D dd){o:Obj}{u:Option Addr}{z:Nat}{x:Mo.Told}(C:dl=g.told.length+1)(l:(W.alloc o).grownBy W2 (Value.slice D g.told.length dd).ownBlock)(F:aH W2 w 188 5 ie (.slice u dl z) (g.told++[x])) :
 nH {g with told:=g.told++[x]} n w (W2.setCell ⟨q,10,none⟩ (.slice u dl z)) q r B d A c u z:=by
 have a:=H.more (aj (ai W) o)
 have m:=aH.aW a.td a.ext l a.ext.size (aR _)
 have f:=H.kT l
 have s:=a.kr.grown l (ba a.td a.kr af)
 have j:=iQ.grown a.wt a.td l af af
 have t:aK W2 w 3 .i64 (.slice B g.c.buf.length d) g.c.buf:=ua a.buf λb k=>l.block b (bk a.buf k).2 (cL a.buf a.td af k)
 have e:dl=(g.told++[x]).length:=by rw[C];simp
 subst e
 have y:∀b,Ty W2 101 b->b≠q:=λb i v=>by subst v;exact eP.not f af af (.inr i)
 refine⟨H.ne,m.setCell (p:=⟨q,10,none⟩) (by have:=H.ne;show w.heap.size<=q;omega) _,f.bp 10 _,s.b9 (p:=⟨q,10,none⟩) (by have:=H.ne;show r≠q;omega) _,bu t f af 10 _,?_,bu F f af 10 _⟩
 exact iQ.by j λb h=>dE _ _ _ _ (h.elim (y b) λh=>aD.other j f af b h)
theorem nH.cut{l:Nat}(H:nH g n w W q r B d (some ⟨l,0,none⟩) c D dd)(z:t<g.l.length) :
 nH {g with l:=et g.l t} n w (ax W l (t*4) [false,oZ,oZ,oN]) q r B d (some ⟨l,0,none⟩) c D dd:=by
 obtain⟨v,f,_⟩:=H.wt.ty
 have a:o7 W (ax W l (t*4) [false,oZ,oZ,oN]) l l 99 99:=⟨⟨_,f⟩,⟨_,f⟩,λ_ p _=>aM p _ _,bO _ _ _⟩
 have j:w.heap.size<=l:=by obtain⟨rows,_,k,_⟩:=H.wt;exact(bk k rfl).1
 exact⟨H.ne,az j _ _ _ H.ext,aX H.kq (λe=>aD.other H.wt H.kq af l rfl e.symm) _ _,aX H.kr (λe=>aD.other H.wt H.kr af l rfl e.symm) _ _,a.own H.buf af af,
  aD.mono aI (λb o=>(a.ty o af af).1) (aD.Gm aI H.wt z [false,oZ,oZ,oN] rfl (by intro u i;simp at i;rcases i with rfl|rfl|rfl|rfl<;>rfl) (λh=>eP.not f af af (.inr h)) (y:=fU) ⟨none,0,rfl,aR _,cN.nil _ _ _,λs m=>by cases m⟩),a.own H.td af af⟩
theorem nH.ret(H:nH g n w W q r B d A c D dd):GtE g n w (.returned (.agg (jh g n B g.c.buf.length d A c D g.told.length dd).toArray)) (ax W r 0 (jh g n B g.c.buf.length d A c D g.told.length dd))/\ag (ax W r 0 (jh g n B g.c.buf.length d A c D g.told.length dd)) r 159 (jh g n B g.c.buf.length d A c D g.told.length dd).toArray:=by obtain⟨a,i⟩:=o7.one (v1:=jh g n B g.c.buf.length d A c D g.told.length dd) H.kr rfl;have e:=a.own H.buf af af;have f:=a.own H.td af af;exact⟨⟨B,d,A,c,D,dd,rfl,⟨(aK.pw e).2,λb h _=>by subst h;exact pI e,(aK.cap e).2,a.qR aI (iQ.o H.wt) af af af af,(aH.xS f).2,λb h _=>by subst h;exact kz f,(aH.cap f).2⟩,az H.ne.1 _ _ _ H.ext⟩,i⟩
theorem nH.yY(H:nH g n w W q r B d A c D dd)(a:Act)(s:Nat)(o:f.results=#[.cell s 159])(u:a.tmps[s]?.getD undef=.pointer (some ⟨r,0,none⟩))(l:a.defers=[]):bodyPost prog f (GtE g n w) .ret a (ax W r 0 (jh g n B g.c.buf.length d A c D g.told.length dd)):=by obtain⟨e,h⟩:=H.ret;generalize ax W r 0 (jh g n B g.c.buf.length d A c D g.told.length dd)=j at *;have b:=λi=>ag.cell h i;unfold jh at b;refine bodyPost_ret (v:=.agg (jh g n B g.c.buf.length d A c D g.told.length dd).toArray) ?_ l e;simp[results,o,go_sem,b,jh,u]
end
theorem QN(w:World)(x:Ch)(B:Option Addr)(bl d:Nat)(aq:bl=x.buf.length)(LA:bl<=90000)(u:bD w .i64 B x.buf)(A:Option Addr)(c:Nat)(xs:List Wt)(hn:n=xs.length)(hl:n<=90000)(hr:ez w A xs)(hc:∀x∈xs,x.cases.length<=90000)(F J C:Int)(hu:x.used=true)(qc:J=1\/J=2) :
 Calls prog 87 #[.agg #[x.gen,x.cap,x.used,x.closed,.slice B bl d],F,.slice A n c,J,C] w (GtE (nz x F xs J C) n w):=by
 have a8:∀x∈xs,x.cases.length<=100000:=λx N=>bm (hc x N) aa
 obtain⟨n9,lC,cO,mf,cR,DR⟩:=cS (λf (hb:Below w w f)=>rh f x B bl d aq aa (u.below hb)) (λf (hb:Below w w f)=>nv f A c xs hn aa (hr.gK aI hb) a8) (λf (hb:Below w w f)=>wJ f x B bl d aq hu A c xs hn aa (hr.gK aI hb) a8 F J qc) (λf (hb:Below w w f)=>wI f A c xs hn aa (hr.gK aI hb) a8 (3-J) F aa) (λf (hb:Below w w f) (t:Nat) (x:Wt) N (wh co C:Int)=>yX f A c xs hn (hr.gK aI hb) (t:=t) (x:=x) N wh co C) (λf (hb:Below w w f) (t:Nat) (x:Wt) N=>ez.row (hr.gK aI hb) (j:=t) (x:=x) N)
 obtain⟨fW,HN⟩:=av aq hn
 unfold Pz at n9
 rw[<-aq]at n9
 obtain⟨W,hW⟩:=aw ((w.alloc (oW x B bl d)).alloc Xe)
 have bJ:Hid (Below w w W):=by rw[hW];exact aj (aj (ai w) _) _
 have eW:Hid (ag W w 50 #[x.gen,x.cap,x.used,x.closed,.slice B bl d]):=by rw[hW];exact(ag.new _ _ _).alloc _
 have ig:Hid (ag W (w.heap.size+1) 159 #[oZ,oZ,false,false,oN,oN,oZ,oZ,oZ,oZ,oN]):=by rw[hW];exact(ag.newAt _ _ _ aA)
 have HW:=ae hW
 obtain⟨ge,cp,us,cl,bf⟩:=x
 have LJ:us=true:=hu
 subst LJ
 clear aq u hn hr hc a8 hW hu
 dsimp only at *
 go_enter func87,ntmps87
 go_upto_region 1 with fail
 rw[<-HW.Y]
 obtain⟨cU,-,eB⟩:=ag.aF eW
 go_wp2_with fail
 (with_reducible go_fit (n9.Y _ bJ.Y))
 rintro e w1 ⟨v,rfl,B1,d1,rfl,fe,a7⟩
 obtain⟨br,eZ,ik,iU⟩:=bh (ah bJ a7) (eW.ah a7) (ig.ah a7) (aK.bL fe bJ.size)
 clear fe a7 cU eB n9
 go_wp2_with fail
 (with_reducible go_fit (lC.Y _ br.Y))
 rintro e w2 ⟨v,rfl,A2,c2,rfl,gA,hb2⟩
 have oX:Hid (nH ⟨⟨ge,cp,true,cl,bf⟩,xs,cE,[]⟩ n w (w2.alloc (.cells #[ge,cp,true,cl,.slice B1 bl d1,.slice A2 n c2,oZ,oZ,oZ,oZ,oN] 159)) w2 (w.heap.size+1) B1 d1 A2 c2 none 0):=by exact Xf
 have iH:=eZ.ah (ah hb2 (aj (ai w2) (.cells #[ge,cp,true,cl,.slice B1 bl d1,.slice A2 n c2,oZ,oZ,oZ,oZ,oN] 159)))
 clear gA hb2 lC br eZ ik iU bJ eW ig
 go_upto_region 2 with fail
 generalize w2.alloc (.cells #[ge,cp,true,cl,.slice B1 bl d1,.slice A2 n c2,oZ,oZ,oZ,oZ,oN] 159)=w3 at *
 obtain⟨q,hq⟩:=aw w2
 obtain⟨r,hr⟩:=aw (w.heap.size+1)
 rw[<-hq, <-hr]at oX ⊢
 clear hq hr
 obtain⟨cU,-,eB⟩:=ag.aF iH
 go_wp2_with fail
 (with_reducible go_fit (cO.Y _ oX.Y.ext))
 rintro e w4 ⟨rfl,cv⟩
 obtain⟨ZG,rG⟩:=av (oX.more cv) (iH.ah cv)
 clear cv cU eB oX iH cO
 rcases kB:cX ⟨ge,cp,true,cl,bf⟩ F xs J with _|_
 .have HG:Hid (nz ⟨ge,cp,true,cl,bf⟩ F xs J C=⟨⟨ge,cp,true,cl,bf⟩,xs,bg 10,[]⟩):=by unfold Hid nz;rw[kB,ay rfl]
  clear kB;have H5:=ae (ZG.put (g':=⟨⟨ge,cp,true,cl,bf⟩,xs,bg 10,[]⟩) 8 (.int .i64 10) rfl rfl rfl rfl);obtain⟨bN,cj,cu⟩:=ag.aF ZG.kq;dsimp only[jh]at bN;go_upto_region 4 with fail
  clear bN cj cu ZG rG;generalize w4.setCell ⟨q,8,none⟩ (.int .i64 10)=w5 at *;obtain⟨bN,cj,cu⟩:=ag.aF H5.kq;dsimp only[jh,bg,cE]at bN;obtain⟨gB,nQ,hgr⟩:=ag.aF H5.kr;go_wp2_with fail;clear bN cj cu gB nQ hgr;rw[HG.Y];exact H5.yY _ 10 (by kernel_rfl) rfl rfl
 .go_wp2_with fail;(with_reducible go_fit (mf.Y _ ZG.Y.ext));rintro e w5 ⟨T,I,ok,rfl,(X:Hid _),dJ⟩;obtain⟨vB,qT⟩:=av (ZG.more dJ) (rG.ah dJ);have U:=ae kB;clear dJ ZG rG mf kB;obtain⟨cU,-,eB⟩:=ag.aF qT;have Ba:=ae (mN X);rcases qc with rfl|rfl
  .rcases cl with _|_
   .rcases ok with _|_
    .have HG:Hid (nz ⟨ge,cp,true,false,bf⟩ F xs 1 C=⟨⟨ge,cp,true,false,bf++[C]⟩,xs,cE,[]⟩):=by
      have:dt xs 2 F=none:=by have:=Ba.Y;cases hh:dt xs (3-1) F with|none=>exact hh|some p=>rw[hh]at this;cases this
      unfold Hid nz mP;rw[U.Y,this];rfl
     clear U X Ba
     obtain⟨bN,cj,cu⟩:=ag.aF vB.kq
     dsimp only[jh]at bN
     have dM:bf.length<=90000:=by have:=fW.Y;omega
     have u:=vB.buf
     dsimp only at u
     have pR:=ae u
     clear u
     go_wp2_with(at_builtin;refine bS _ rfl _ _ 22 rfl w 3 .i64 underlying22 dI _ bf rfl (aK.alloc pR _) w5 1 1 [C] rfl rfl (bD.one _ .i64 _ _) ?c4 ?c6 ?_)
     case c4=>simp;omega
     case c6=>have:=vB.ext.size;simp;omega
     intro v6 w6 h6 g6 _
     obtain⟨V,d6,L⟩:=h6.shape
     generalize bf++[C]=M at HG h6 L
     obtain⟨b6,fp⟩:=aw M.length
     rw[<-fp]at L
     subst L
     obtain⟨LC,PF,PH⟩:=ag.aF (vB.kI g6)
     dsimp only[jh]at LC
     have G:Hid (nH ⟨⟨ge,cp,true,false,M⟩,xs,cE,[]⟩ n w (w6.setCell ⟨q,4,none⟩ (.slice V b6 d6)) q r V d6 A2 c2 none 0):=vB.push fp g6 h6
     clear h6 g6 fp bN cj cu cU eB vB qT pR
     go_upto_region 13 with fail
     clear LC PF PH
     generalize w6.setCell ⟨q,4,none⟩ (.slice V b6 d6)=O at *
     obtain⟨bN,cj,cu⟩:=ag.aF G.kq
     dsimp only[jh,cE]at bN
     obtain⟨gB,nQ,hgr⟩:=ag.aF G.kr
     go_wp2_with fail
     clear bN cj cu gB nQ hgr
     rw[HG.Y]
     exact G.yY _ 10 (by kernel_rfl) rfl rfl
    .obtain⟨⟨t,i⟩,D⟩:=Option.isSome_iff_exists.1 X.1.symm;obtain⟨hT,hI,_⟩:=X.2 t i D;obtain⟨y,S,bE⟩:=kA D;have HG:Hid (nz ⟨ge,cp,true,false,bf⟩ F xs 1 C=⟨⟨ge,cp,true,false,bf⟩,et xs t,cE,[⟨t,⟨y.seq,i,0,C⟩⟩]⟩):=by
      have h1:dt xs 2 F=some (t,i):=D;have h2:(xs.getD t fU).seq=y.seq:=by rw[ew,S];rfl
      unfold Hid nz mP;rw[U.Y,h1];dsimp only;unfold mO;rw[h2];rfl
     subst hT hI;obtain⟨HE,HY⟩:=av (λf (hb:Below w w f)=>cR f hb t y S i 0 C) S;have a6:xs≠[]:=by rintro rfl;cases S
     obtain⟨z,c',L,_,_⟩:=vB.wt.form a6;injection L with e1 e2 e3
     subst e1 e3;clear D S bE U X Ba a6 e2;obtain⟨bN,cj,cu⟩:=ag.aF vB.kq;dsimp only[jh]at bN;have aT:=λf (N:nH ⟨⟨ge,cp,true,false,bf⟩,xs,cE,[]⟩ n w f q r B1 d1 z c2 none 0) i=>ag.cell N.kq i;dsimp only[jh]at aT;go_upto_region 11 with fail
     clear bN cj cu cU eB qT;refine gm 9 (λf=>nH ⟨⟨ge,cp,true,false,bf⟩,xs,cE,[]⟩ n w f q r B1 d1 z c2 none 0) (by kernel_rfl) (vB.more (ai w5).drew) (λb=>?_);refine jg 0 b ?_;refine jg 1 b ?_;refine jg 2 b ?_;refine jg 3 b ?_;refine jg 4 b ?_;refine jg 5 b ?_;(try simp only[aL]);refine vA 6 (λK g=>?_);go_simp;go_fit (HE _ b.ext);rintro e O ⟨rfl,qU⟩;have m:=ae (b.more qU);clear b qU;go_wp2_with fail;refine g.Y _ _ m (λb=>?_);clear g K;(try simp only[aL]);refine vA 7 (λK g=>?_);go_simp;refine g.Y _ _ (m.more (aj (ai O) _)) (λb=>?_);clear g K;(try simp only[aL]);refine vA 8 (λK g=>?_);refine gf rfl _ _ 157 rfl w 188 5 40 (.agg #[oZ,oZ,oZ,oZ,oZ]) ie mL rF underlying157 pK rfl af oN [] rfl (aH.nil _ _ _ _ _) O 1 1 [⟨t,⟨y.seq,i,0,C⟩⟩] rfl rfl (Rd.lit O (ie ⟨t,⟨y.seq,i,0,C⟩⟩) _) aA aA (bm m.ext.size aA) ?_;intro v8 Q h8 g8 _;have ve:Below O O Q:=aH.aW (aH.nil (O.alloc _) O 188 5 ie) (aj (ai O) _) g8 aA (aR _);refine g.Y _ _ (m.more ve) (λb=>?_);clear g K b;(try simp only[aL]);obtain⟨D8,d8,df⟩:=aH.shape h8;obtain⟨l8,cz⟩:=aw ([]++[(⟨t,⟨y.seq,i,0,C⟩⟩:Mo.Told)]).length;rw[<-cz]at df;subst df;have H:Hid (nH ⟨⟨ge,cp,true,false,bf⟩,xs,cE,[⟨t,⟨y.seq,i,0,C⟩⟩]⟩ n w (Q.setCell ⟨q,10,none⟩ (.slice D8 l8 d8)) q r B1 d1 z c2 D8 d8):=m.QM cz g8 h8;obtain⟨bN,cj,cu⟩:=ag.aF (m.more ve).kq;dsimp only[jh]at bN;clear cz ve h8 g8 m vB;refine wpAnyS.late ?_;have b:(λ_:World=>True) Q:=trivial;refine aU 9 b ?_;(try simp only[aL]);refine eQ 10 (λK g=>?_);go_simp;refine g.Y _ _ trivial (λb=>?_);clear g K b;(try simp only[aL]);refine wpAnyH_done (by kernel_rfl) ?_ _;clear bN cj cu aT;generalize Q.setCell ⟨q,10,none⟩ (.slice D8 l8 d8)=w9 at *;obtain⟨bN,cj,cu⟩:=ag.aF H.kq;dsimp only[jh,cE]at bN;have JH:t<n:=by rw[HN.Y];exact bT HY
     obtain⟨dQ,hP,iX,hcell⟩:=H.wt.at_ HY;obtain⟨D5,dm,rfl,_,_⟩:=hP;have q0:=hcell 0 _ rfl;rw[Nat.add_zero]at q0;have q1:=hcell 1 _ rfl;have q2:=hcell 2 _ rfl;have q3:=hcell 3 _ rfl;have f0:=H.wt.bq (t*4);have f1:=H.wt.bq (t*4+1);have f2:=H.wt.bq (t*4+2);have f3:=H.wt.bq (t*4+3);clear hcell iX;go_upto_region 13 with fail
     have J3:Hid (nH ⟨⟨ge,cp,true,false,bf⟩,et xs t,cE,[⟨t,⟨y.seq,i,0,C⟩⟩]⟩ n w (ax w9 z (t*4) [false,oZ,oZ,oN]) q r B1 d1 z c2 D8 d8):=H.cut (bT HY);clear bN cj cu q0 q1 q2 q3 f0 f1 f2 f3 H;change Code.wp _ _ _ _ (ax w9 z (t*4) [false,oZ,oZ,oN]);generalize ax w9 z (t*4) [false,oZ,oZ,oN]=mr at *;obtain⟨bN,cj,cu⟩:=ag.aF J3.kq;dsimp only[jh,cE]at bN;obtain⟨gB,nQ,hgr⟩:=ag.aF J3.kr;go_wp2_with fail;clear bN cj cu gB nQ hgr;rw[HG.Y];exact J3.yY _ 10 (by kernel_rfl) rfl rfl
   .have HG:Hid (nz ⟨ge,cp,true,true,bf⟩ F xs 1 C=⟨⟨ge,cp,true,true,bf⟩,xs,bg 9,[]⟩):=by unfold Hid nz;rw[U.Y];rfl
    clear U X Ba;have H5:=ae (vB.put (g':=⟨⟨ge,cp,true,true,bf⟩,xs,bg 9,[]⟩) 8 (.int .i64 9) rfl rfl rfl rfl);obtain⟨bN,cj,cu⟩:=ag.aF vB.kq;dsimp only[jh]at bN;go_upto_region 13 with fail
    exact Xg
  .rcases ok with _|_
   .by_cases h0:bf=[]
    .subst h0;have HG:Hid (nz ⟨ge,cp,true,cl,[]⟩ F xs 2 C=⟨⟨ge,cp,true,cl,[]⟩,xs,bg 9,[]⟩):=by
      have:(dt xs 1 F).isSome=false:=Ba.symm;unfold Hid nz;rw[U.Y,this];rfl
     clear U X Ba;have H5:=ae (vB.put (g':=⟨⟨ge,cp,true,cl,[]⟩,xs,bg 9,[]⟩) 8 (.int .i64 9) rfl rfl rfl rfl);obtain⟨bN,cj,cu⟩:=ag.aF vB.kq;dsimp only[jh]at bN;go_upto_region 20 with fail
     exact Xg
    .obtain⟨s,rest,hz⟩:∃s rest,bf=s::rest:=by
      cases hh:bf with
      |nil=>exact absurd hh h0
      |cons a l=>exact⟨a,l,rfl⟩
     have HG:Hid (nz ⟨ge,cp,true,cl,bf⟩ F xs 2 C=⟨⟨ge,cp,true,cl,rest⟩,xs,⟨0,0,0,s⟩,[]⟩):=by
      have:dt xs 1 F=none:=by have:=Ba.Y;cases hh:dt xs (3-2) F with|none=>exact hh|some p=>rw[hh]at this;cases this
      unfold Hid nz mQ;rw[U.Y,this,au af,au aA,ay ⟨rfl,.inl (by rw[hz];simp)⟩,hz];rfl
     obtain⟨bN,cj,cu⟩:=ag.aF vB.kq
     dsimp only[jh]at bN
     clear U X Ba h0
     obtain⟨R,dg⟩:=av hz (show bf.length<=90000 by have:=fW.Y;omega)
     clear hz
     go_upto_region 18 with fail
     clear cU eB bN cj cu qT
     have d0:((bf.length:Int)==0)=false:=by rw[R.Y];simp;omega
     have DO:0<bf.length:=by rw[R.Y];simp
     have u:=vB.buf
     dsimp only at u
     obtain⟨Y,dS,hA,E,hcell⟩:=bD.at_ (aK.pw u).2 (i:=0) DO
     rw[R.Y]at E
     injection E with E
     subst E hA
     have sL:w5.cell? Y=some s:=hcell
     have mX:=(aK.cap u).2
     have Jp:=λw'=>ib (P:=prog) 22 3 underlying22 dI (some Y) bf.length d1 1 1 rfl aa w'
     obtain⟨bN,cj,cu⟩:=ag.aF vB.kq
     dsimp only[jh]at bN
     clear hcell u
     go_upto_region 22 with fail
     have G:Hid (nH ⟨⟨ge,cp,true,cl,bf⟩,xs,⟨0,0,0,s⟩,[]⟩ n w (w5.setCell ⟨q,9,none⟩ s) q r (some Y) d1 A2 c2 none 0):=vB.put 9 s rfl rfl rfl rfl
     clear bN cj cu vB sL
     generalize w5.setCell ⟨q,9,none⟩ s=w6 at *
     obtain⟨bN,cj,cu⟩:=ag.aF G.kq
     dsimp only[jh]at bN
     have iX:bf.length-1=rest.length:=by rw[R.Y];simp
     have b8:Hid (bD (w6.alloc (.cells #[] 3)) .i64 (kS (some Y) d1 1 1) rest):=by have:=bD.from (((aK.pw G.buf).2).below (aj (ai w6) (.cells #[] 3))) (aK.cap G.buf).2 1;rw[show(⟨⟨ge,cp,true,cl,bf⟩,xs,⟨0,0,0,s⟩,[]⟩:r7).c.buf=s::rest from R.Y]at this;unfold Hid;rw[oK];exact this
     obtain⟨C0,xn⟩:=av iX (show rest.length<=90000 by have:=dg.Y;omega)
     clear iX
     go_wp2_with(at_builtin;refine bS _ rfl _ _ 22 rfl w6 3 .i64 underlying22 dI _ [] rfl (aK.empty _ _ _) (kS (some Y) d1 1 1) (bf.length-1) (d1-1) rest rfl C0.symm b8 ?c4 ?c6 ?_)
     case c4=>have:=xn.Y;simp;omega
     case c6=>simp
     intro v7 O h7 g7 _
     obtain⟨B7,d7,L⟩:=h7.shape
     obtain⟨b7,qU⟩:=aw rest.length
     rw[<-qU]at L
     subst L
     have oY:Below w6 w6 O:=aK.aW (aK.empty w6 3 .i64) (aj (ai w6) _) g7 aA (aR _)
     have m:=G.more oY
     have H8:Hid (nH ⟨⟨ge,cp,true,cl,rest⟩,xs,⟨0,0,0,s⟩,[]⟩ n w (O.setCell ⟨q,4,none⟩ (.slice B7 b7 d7)) q r B7 d7 A2 c2 none 0):=m.ZF qU m.ext m.kq m.kr (aK.bL h7 G.ext.size) m.wt m.td
     obtain⟨bN,cj,cu⟩:=ag.aF m.kq
     dsimp only[jh]at bN
     clear qU oY h7 g7 m G d0 DO mX Jp
     go_upto_region 23 with fail
     clear bN cj cu
     generalize O.setCell ⟨q,4,none⟩ (.slice B7 b7 d7)=Q at *
     exact Xh
   .obtain⟨⟨t,i⟩,D⟩:=Option.isSome_iff_exists.1 X.1.symm;obtain⟨hT,hI,_⟩:=X.2 t i D;obtain⟨y,S,bE⟩:=kA D;obtain⟨dP,k,hk,-,-⟩:=Cf bE;obtain⟨s,rest,hz⟩:∃s rest,bf++[k.2.2]=s::rest:=by
     cases hh:bf++[k.2.2]with
     |nil=>simp at hh
     |cons a l=>exact⟨a,l,rfl⟩
    have HG:Hid (nz ⟨ge,cp,true,cl,bf⟩ F xs 2 C=⟨⟨ge,cp,true,cl,rest⟩,et xs t,⟨0,0,0,s⟩,[⟨t,⟨y.seq,i,0,0⟩⟩]⟩):=by
     have h1:dt xs 1 F=some (t,i):=D;have h2:xs.getD t fU=y:=by rw[ew,S];rfl
     have h3:y.cases.getD i (0,0,0)=k:=by rw[ew,hk];rfl
     unfold Hid nz mQ;rw[U.Y,h1,au af,au aA,ay ⟨rfl,.inr rfl⟩];dsimp only;unfold mO;rw[h2,h3,hz];rfl
    subst hT hI;have a6:xs≠[]:=by rintro rfl;cases S
    obtain⟨z,c',L,_,_⟩:=vB.wt.form a6;injection L with e1 e2 e3
    subst e1 e3;obtain⟨dU,Dw,dw,hA,_,pS,_,_,_,c3⟩:=DR.Y w (ai w) t y S;have cw:i<y.cases.length:=bT hk;obtain⟨dT,k',hD,bz,hc⟩:=cN.at_ cM af pS cw;rw[hk]at bz;injection bz with bz
    subst bz hA hD;have cy:=hc 2 _ rfl;rw[add_lit _ _ af]at cy;have JH:t<n:=by rw[HN.Y];exact bT S
    obtain⟨HE,HY⟩:=av (λf (hb:Below w w f)=>cR f hb t y S i 0 0) S;generalize y.cases.length=yl at c3 cw;have aT:=λf (N:Ext w f/\ag f q 159 #[ge,cp,true,cl,.slice B1 bf.length d1,.slice z n c2,oZ,oZ,oZ,oZ,oN]) i=>ag.cell N.2 i;have dz:=λf (N:Ext w f/\ag f q 159 #[ge,cp,true,cl,.slice B1 bf.length d1,.slice z n c2,oZ,oZ,oZ,oZ,oN])=>Ext.cell N.1 c3;have dy:=λf (N:Ext w f/\ag f q 159 #[ge,cp,true,cl,.slice B1 bf.length d1,.slice z n c2,oZ,oZ,oZ,oZ,oN])=>Ext.cell N.1 cy;clear D S bE U X Ba a6 e2 hk dP pS hc cy c3;have R:=ae hz;clear hz;go_upto_region 15 with fail
    clear cU eB qT;refine gm 14 (λf=>Ext w f/\ag f q 159 #[ge,cp,true,cl,.slice B1 bf.length d1,.slice z n c2,oZ,oZ,oZ,oZ,oN]) (by kernel_rfl) ⟨vB.ext.drew,vB.kq⟩ (λb=>?_);refine jg 0 b ?_;refine jg 1 b ?_;refine jg 2 b ?_;refine jg 3 b ?_;refine jg 4 b ?_;refine jg 5 b ?_;refine jg 6 b ?_;refine jg 7 b ?_;refine jg 8 b ?_;refine jg 9 b ?_;refine jg 10 b ?_;refine jg 11 b ?_;clear b dz dy aT cw;have dM:bf.length<=90000:=by have:=fW.Y;omega
    have u:=(vB.more (aj (ai w5).drew (.cells #[k.2.2] 3))).buf;have O7:=vB.more (ai w5).drew;have dO:=vB.ext.size;dsimp only at u;(try simp only[aL]);refine vA 12 (λK g=>?_);go_simp;refine g.Y _ _ ⟨aj O7.ext _,ag.alloc (w:=w5.drew) O7.kq _⟩ (λb=>?_);clear g K;(try simp only[aL]);refine vA 13 (λK g=>?_);refine mE rfl _ _ 22 rfl w 3 .i64 underlying22 dI _ bf rfl u w5 1 1 [k.2.2] rfl rfl (bD.one w5.drew .i64 k.2.2 _) (by simp;omega) (by simp;omega) ?_;intro v6 w6 h6 g6 _;obtain⟨V,d6,L⟩:=h6.shape;obtain⟨M,cF⟩:=aw (bf++[k.2.2]);rw[<-cF]at h6 L R;have dh:=ae cF;obtain⟨b6,fp⟩:=aw M.length;rw[<-fp]at L;subst L;have LB:=O7.kI g6;have m:Hid (nH ⟨⟨ge,cp,true,cl,M⟩,xs,cE,[]⟩ n w (w6.setCell ⟨q,4,none⟩ (.slice V b6 d6)) q r V d6 z c2 none 0):=O7.push fp g6 h6;have c0:=aK.aW u (aj O7.ext _) g6 (by simp;omega) (aR _);refine g.Y _ _ ⟨c0,LB⟩ (λb=>?_);clear g K b;(try simp only[aL]);obtain⟨bN,cj,cu⟩:=ag.aF LB;dsimp only[jh]at bN;clear u O7 dO h6 g6 cF fp LB c0 vB;refine wpAnyS.late ?_;have b:(λ_:World=>True) w6:=trivial;refine aU 14 b ?_;refine aU 15 b ?_;(try simp only[aL]);refine eQ 16 (λK g=>?_);go_simp;refine g.Y _ _ trivial (λb=>?_);clear g K b;(try simp only[aL]);refine wpAnyH_done (by kernel_rfl) ?_ _;clear bN cj cu;generalize w6.setCell ⟨q,4,none⟩ (.slice V b6 d6)=O at *;have aT:=λf (N:nH ⟨⟨ge,cp,true,cl,M⟩,xs,cE,[]⟩ n w f q r V d6 z c2 none 0) i=>ag.cell N.kq i;dsimp only[jh]at aT;go_upto_region 16 with fail
    refine gm 8 (λf=>nH ⟨⟨ge,cp,true,cl,M⟩,xs,cE,[]⟩ n w f q r V d6 z c2 none 0) (by kernel_rfl) (m.more (ai O).drew) (λb=>?_);refine jg 0 b ?_;refine jg 1 b ?_;refine jg 2 b ?_;refine jg 3 b ?_;refine jg 4 b ?_;(try simp only[aL]);refine vA 5 (λK g=>?_);go_simp;go_fit (HE _ b.ext);rintro e Q ⟨rfl,ve⟩;have H8:=ae (b.more ve);clear b ve;go_wp2_with fail;refine g.Y _ _ H8 (λb=>?_);clear g K;(try simp only[aL]);refine vA 6 (λK g=>?_);go_simp;refine g.Y _ _ (H8.more (aj (ai Q) _)) (λb=>?_);clear g K;(try simp only[aL]);refine vA 7 (λK g=>?_);refine gf rfl _ _ 157 rfl w 188 5 40 (.agg #[oZ,oZ,oZ,oZ,oZ]) ie mL rF underlying157 pK rfl af oN [] rfl (aH.nil _ _ _ _ _) Q 1 1 [⟨t,⟨y.seq,i,0,0⟩⟩] rfl rfl (Rd.lit Q (ie ⟨t,⟨y.seq,i,0,0⟩⟩) _) aA aA (bm H8.ext.size aA) ?_;intro v9 w9 h9 g9 _;have zz:Below Q Q w9:=aH.aW (aH.nil (Q.alloc _) Q 188 5 ie) (aj (ai Q) _) g9 aA (aR _);refine g.Y _ _ (H8.more zz) (λb=>?_);clear g K b;(try simp only[aL]);obtain⟨D9,d9,zZ⟩:=aH.shape h9;obtain⟨l9,cD⟩:=aw ([]++[(⟨t,⟨y.seq,i,0,0⟩⟩:Mo.Told)]).length;rw[<-cD]at zZ;subst zZ;have H:Hid (nH ⟨⟨ge,cp,true,cl,M⟩,xs,cE,[⟨t,⟨y.seq,i,0,0⟩⟩]⟩ n w (w9.setCell ⟨q,10,none⟩ (.slice D9 l9 d9)) q r V d6 z c2 D9 d9):=H8.QM cD g9 h9;obtain⟨bN,cj,cu⟩:=ag.aF (H8.more zz).kq;dsimp only[jh]at bN;clear cD zz h9 g9 H8 m;refine wpAnyS.late ?_;have b:(λ_:World=>True) w9:=trivial;refine aU 8 b ?_;(try simp only[aL]);refine eQ 9 (λK g=>?_);go_simp;refine g.Y _ _ trivial (λb=>?_);clear g K b;(try simp only[aL]);refine wpAnyH_done (by kernel_rfl) ?_ _;clear bN cj cu aT;generalize w9.setCell ⟨q,10,none⟩ (.slice D9 l9 d9)=mr at *;obtain⟨bN,cj,cu⟩:=ag.aF H.kq;dsimp only[jh,cE]at bN;obtain⟨dQ,hP,iX,hcell⟩:=H.wt.at_ HY;obtain⟨D5,dm,rfl,_,_⟩:=hP;have q0:=hcell 0 _ rfl;rw[Nat.add_zero]at q0;have q1:=hcell 1 _ rfl;have q2:=hcell 2 _ rfl;have q3:=hcell 3 _ rfl;have f0:=H.wt.bq (t*4);have f1:=H.wt.bq (t*4+1);have f2:=H.wt.bq (t*4+2);have f3:=H.wt.bq (t*4+3);clear hcell iX;go_upto_region 18 with fail
    have J3:Hid (nH ⟨⟨ge,cp,true,cl,M⟩,et xs t,cE,[⟨t,⟨y.seq,i,0,0⟩⟩]⟩ n w (ax mr z (t*4) [false,oZ,oZ,oN]) q r V d6 z c2 D9 d9):=H.cut (bT HY);clear bN cj cu q0 q1 q2 q3 f0 f1 f2 f3 H;change Code.wp _ _ _ _ (ax mr z (t*4) [false,oZ,oZ,oN]);generalize ax mr z (t*4) [false,oZ,oZ,oN]=yM at *;have d0:((M.length:Int)==0)=false:=by rw[R.Y];simp;omega
    have DO:0<M.length:=by rw[R.Y];simp
    have u:=J3.buf;dsimp only at u;obtain⟨Y,dS,hA,E,hcell⟩:=bD.at_ (aK.pw u).2 (i:=0) DO;rw[R.Y]at E;injection E with E
    subst E hA;have sL:yM.cell? Y=some s:=hcell;have mX:=(aK.cap u).2;have Jp:=λw'=>ib (P:=prog) 22 3 underlying22 dI (some Y) M.length d6 1 1 rfl aa w';obtain⟨bN,cj,cu⟩:=ag.aF J3.kq;dsimp only[jh,cE]at bN;clear hcell u;go_upto_region 22 with fail
    have G:Hid (nH ⟨⟨ge,cp,true,cl,M⟩,et xs t,⟨0,0,0,s⟩,[⟨t,⟨y.seq,i,0,0⟩⟩]⟩ n w (yM.setCell ⟨q,9,none⟩ s) q r (some Y) d6 z c2 D9 d9):=J3.put 9 s rfl rfl rfl rfl;clear bN cj cu J3 sL;generalize yM.setCell ⟨q,9,none⟩ s=Qw at *;obtain⟨bN,cj,cu⟩:=ag.aF G.kq;dsimp only[jh]at bN;have iX:M.length-1=rest.length:=by rw[R.Y];simp
    have b8:Hid (bD (Qw.alloc (.cells #[] 3)) .i64 (kS (some Y) d6 1 1) rest):=by have:=bD.from (((aK.pw G.buf).2).below (aj (ai Qw) (.cells #[] 3))) (aK.cap G.buf).2 1;rw[show(⟨⟨ge,cp,true,cl,M⟩,et xs t,⟨0,0,0,s⟩,[⟨t,⟨y.seq,i,0,0⟩⟩]⟩:r7).c.buf=s::rest from R.Y]at this;unfold Hid;rw[oK];exact this
    obtain⟨C0,xn⟩:=av iX (show rest.length<=90000 by have:=congrArg List.length R;rw[dh.Y]at this;simp at this;have:=fW.Y;omega);clear iX;go_wp2_with(at_builtin;refine bS _ rfl _ _ 22 rfl Qw 3 .i64 underlying22 dI _ [] rfl (aK.empty _ _ _) (kS (some Y) d6 1 1) (M.length-1) (d6-1) rest rfl C0.symm b8 ?c4 ?c6 ?_)
    case c4=>have:=xn.Y;simp;omega
    intro en cG ct dc _;obtain⟨b5,d13,L⟩:=ct.shape;obtain⟨c4,Z⟩:=aw rest.length;rw[<-Z]at L;subst L;have oY:Below Qw Qw cG:=aK.aW (aK.empty Qw 3 .i64) (aj (ai Qw) _) dc aA (aR _);have m:=G.more oY;have H8:Hid (nH ⟨⟨ge,cp,true,cl,rest⟩,et xs t,⟨0,0,0,s⟩,[⟨t,⟨y.seq,i,0,0⟩⟩]⟩ n w (cG.setCell ⟨q,4,none⟩ (.slice b5 c4 d13)) q r b5 d13 z c2 D9 d9):=m.ZF Z m.ext m.kq m.kr (aK.bL ct G.ext.size) m.wt m.td;obtain⟨bN,cj,cu⟩:=ag.aF m.kq;dsimp only[jh]at bN;clear Z oY ct dc m G d0 DO mX Jp;go_upto_region 23 with fail
    clear bN cj cu;generalize cG.setCell ⟨q,4,none⟩ (.slice b5 c4 d13)=er at *;exact Xh
theorem Io(w:World)(x:Ch)(B:Option Addr)(o d:Nat)(z:o=x.buf.length)(A:Option Addr)(c:Nat)(l:List Wt)(H:n=l.length)(J:n<=100000)(I:ez w A l)(F:∀x∈l,x.cases.length<=100000)(u:Int)(C:x.used=true) :
 Calls prog 90 #[.agg #[x.gen,x.cap,x.used,x.closed,.slice B o d],u,.slice A n c] w λe w'=>e=.returned (ot x u l)/\Below w w w':=by
 have q:=ae (λp (a:Below w w p)=>EO p A c l H J (I.gK aI a) F u)
 have b:Hid (ot x u l=(x.closed && decide (o=0) && decide ((mi l u).length=0))):=by unfold Hid ot;rw[C, <-z,Bool.true_and]
 generalize ot x u l=r at *
 clear H I F z
 obtain⟨E,y,G,j,L⟩:=x
 have t:G=true:=C
 subst t
 clear C
 dsimp only at *
 have g:Hid (Below w w (w.alloc (.cells #[E,y,true,j,.slice B o d] 50))):=aj (ai w) _
 obtain⟨m,i⟩:=aw (mi l u).length
 rw[<-i]at b
 have s:=ae i
 clear i
 rcases j with _|_
 .go_enter func90,ntmps90;go_wp2_with fail;go_ret;exact⟨bK (by rw[b.Y];simp),g⟩
 .rcases k:((o:Int)==0)with _|_
  .have a:o≠0:=by simpa using k
   have h:Hid (r=false):=by rw[b.Y];simp[a];exact trivial
   clear a b;go_enter func90,ntmps90;go_wp2_with fail;go_ret;exact⟨bK h.Y.symm,g⟩
  .have a:o=0:=by simpa using k
   have h:Hid (r=decide (m=0)):=by rw[b.Y,a];simp;exact trivial
   clear a b;go_enter func90,ntmps90;go_wp2_with fail;go_fit (q _ g);rintro e N ⟨K,M,rfl,D,f⟩;have v:=ae (ah g f);clear D f;rw[<-s.Y];go_wp2;go_ret;exact⟨bK (by rw[h.Y,Bool.eq_iff_iff];simp),v⟩
theorem ac7{y:Wt}(b:y.on=true)(e:y.cases.any (yt hd)=true):il (Ik y 0 hd) y.cases=(lT y hd:Nat):=by
 have:Ik y 0 hd=yt hd:=by
  funext k
  unfold Ik yt;rw[b];simp
 rw[this];exact Ee e
theorem Ip(w:World)(x:Ch)(B:Option Addr)(bl d:Nat)(M:bl=x.buf.length)(LA:bl<=90000)(a6:bD w .i64 B x.buf)(A:Option Addr)(c:Nat)(xs:List Wt)(hn:n=xs.length)(hl:n<=1000)(R:ez w A xs)(hc:∀x∈xs,x.cases.length<=90000)(hd:Int)(hu:x.used=true) :
 Calls prog 91 #[.agg #[x.gen,x.cap,x.used,x.closed,.slice B bl d],hd,.slice A n c] w (GtE (kP x hd xs) n w):=by
 have N:∀x∈xs,x.cases.length<=100000:=λx p=>bm (hc x p) (by omega)
 obtain⟨n9,lC,Fy,b7,DR,HC⟩:=cS (λa (hb:Below w w a)=>rh a x B bl d M (by omega) (a6.below hb)) (λa (hb:Below w w a)=>nv a A c xs hn (by omega) (R.gK aI hb) N) (λa (hb:Below w w a)=>EO a A c xs hn (by omega) (R.gK aI hb) N hd) (λa (hb:Below w w a) (t:Nat) (x:Wt) p (G co va:Int)=>yX a A c xs hn (R.gK aI hb) (t:=t) (x:=x) p G co va) (λa (hb:Below w w a) (t:Nat) (x:Wt) p=>ez.row (R.gK aI hb) (j:=t) (x:=x) p) N
 obtain⟨fW,HN⟩:=av M hn
 unfold Pz at n9
 rw[<-M]at n9
 obtain⟨W,hW⟩:=aw ((w.alloc (oW x B bl d)).alloc Xe)
 have bJ:Hid (Below w w W):=by rw[hW];exact aj (aj (ai w) _) _
 have eW:Hid (ag W w 50 #[x.gen,x.cap,x.used,x.closed,.slice B bl d]):=by rw[hW];exact(ag.new _ _ _).alloc _
 have ig:Hid (ag W (w.heap.size+1) 159 #[oZ,oZ,false,false,oN,oN,oZ,oZ,oZ,oZ,oN]):=by rw[hW];exact(ag.newAt _ _ _ aA)
 have HW:=ae hW
 obtain⟨ge,cp,us,cl,bf⟩:=x
 have LJ:us=true:=hu
 subst LJ
 clear M a6 hn R hc N hW hu
 dsimp only at *
 go_enter func91,ntmps91
 go_upto_region 1 with fail
 rw[<-HW.Y]
 obtain⟨cU,-,eB⟩:=ag.aF eW
 go_wp2_with fail
 (with_reducible go_fit (n9.Y _ bJ.Y))
 rintro e w1 ⟨v,rfl,B1,d1,rfl,fe,L⟩
 obtain⟨br,eZ,ik,iU⟩:=bh (ah bJ L) (eW.ah L) (ig.ah L) (aK.bL fe bJ.size)
 clear fe L cU eB n9
 go_wp2_with fail
 (with_reducible go_fit (lC.Y _ br.Y))
 rintro e w2 ⟨v,rfl,A2,c2,rfl,gA,hb2⟩
 have X:Hid (nH ⟨⟨ge,cp,true,cl,bf⟩,xs,cE,[]⟩ n w (w2.alloc (.cells #[ge,cp,true,cl,.slice B1 bl d1,.slice A2 n c2,oZ,oZ,oZ,oZ,oN] 159)) w2 (w.heap.size+1) B1 d1 A2 c2 none 0):=by exact Xf
 have iH:=eZ.Y.ah (ah hb2 (aj (ai w2) (.cells #[ge,cp,true,cl,.slice B1 bl d1,.slice A2 n c2,oZ,oZ,oZ,oZ,oN] 159)))
 clear gA hb2 lC br eZ ik iU bJ eW ig
 go_upto_region 2 with fail
 generalize w2.alloc (.cells #[ge,cp,true,cl,.slice B1 bl d1,.slice A2 n c2,oZ,oZ,oZ,oZ,oN] 159)=w3 at *
 obtain⟨q,hq⟩:=aw w2.heap.size
 obtain⟨r,R⟩:=aw (w.heap.size+1)
 rw[<-hq, <-R]at X ⊢
 clear hq R
 obtain⟨cU,-,eB⟩:=ag.aF iH
 obtain⟨g,u,C⟩:=ag.aF X.Y.kq
 dsimp only[jh]at g
 rcases cl with _|_
 .have HG:Hid (kP ⟨ge,cp,true,false,bf⟩ hd xs=⟨⟨ge,cp,true,true,bf⟩,(mi xs hd).foldl et xs,cE,jW xs hd (mi xs hd).length⟩):=by
   unfold jW;rw[List.take_of_length_le (aR _)];rfl
  have O:=ae (X.Y.put (g':=⟨⟨ge,cp,true,true,bf⟩,xs,cE,[]⟩) 3 true rfl rfl rfl rfl)
  go_upto_region 6 with fail
  clear g u C X iH cU eB
  generalize w3.setCell ⟨q,3,none⟩ (.bool true)=w5 at *
  go_wp2_with fail
  (with_reducible go_fit (Fy.Y _ O.Y.ext))
  rintro e w6 ⟨A3,c3,rfl,pT,a7⟩
  obtain⟨Q,UZ⟩:=av (O.Y.more a7) (aK.bL pT O.Y.ext.size)
  clear pT a7 Fy O
  obtain⟨m,hm⟩:=aw ((mi xs hd).length)
  have Ky:m<=n:=by exact Wv
  rw[<-hm]at HG UZ ⊢
  have HM:=ae hm
  clear hm
  go_wp2
  go_loopw[31] (λi wr=>∃(j:Nat) (D:Option Addr) (E:Nat),j<=m/\i=j/\Hid (nH ⟨⟨ge,cp,true,true,bf⟩,((mi xs hd).take j).foldl et xs,cE,jW xs hd j⟩ n w wr q r B1 d1 A2 c2 D E)/\Hid (aK wr w 3 .i64 (.slice A3 m c3) (dD (mi xs hd)))) (λi _=>m-(intOf i).toNat)
  case atStart=>exact⟨0,none,0,aZ _,rfl,Q,UZ⟩
  case round =>
   clear Q UZ;obtain⟨j,D,E,hj,rfl,P,HO⟩:=hrel;by_cases a8:j<m
   .obtain⟨t,ht⟩:∃t,(mi xs hd)[j]?=some t:=⟨_,cq (by rw[<-HM.Y];exact a8)⟩
    obtain⟨y,V,jq,tZ⟩:=Cj (bo ht);obtain⟨ad,z,hA,hz,hcell⟩:=bD.at_ (aK.pw HO).2 (i:=j) (by rw[dR, <-HM.Y];exact a8);have ct:z=(t:Int):=by unfold dD at hz;rw[List.getElem?_map,ht]at hz;simpa using hz.symm
    subst ct;have Ef:t∉(mi xs hd).take j:=by exact Ww
    obtain⟨cv,D',T8,zC,_,pS,e0,e1,e2,e3⟩:=DR.Y w (ai w) t y V;have JH:t<n:=by rw[HN.Y];exact bT V
    obtain⟨J,HE,S⟩:=aS (λa (hb:Below w w a)=>EM a y D' T8 rfl (HC.Y y (bo V)) (pS.below hb) hd) (λa (hb:Below w w a)=>b7.Y a hb t y V (lT y hd:Nat) 9 0) (yB ht V);rw[ac7 jq tZ]at J;have QO:=ae ((JJ (xs:=xs) Ef).trans V);have rJ:Hid (((mi xs hd).take (j+1)).foldl et xs=et (((mi xs hd).take j).foldl et xs) t):=by unfold Hid;rw[eM ht,List.foldl_append];rfl
    have Ck:=Bc xs hd j;have MM:=(Bb xs hd)
    obtain⟨G,b5⟩:∃G:Nat,G=lT y hd:=⟨_,rfl⟩
    obtain⟨yl,JN⟩:=aw y.cases.length;rw[<-b5]at J HE S;rw[<-JN]at e3 J;obtain⟨ys,Cv⟩:=aw (((mi xs hd).take j).foldl et xs);obtain⟨F,bE⟩:=aw (jW xs hd j);rw[<-Cv]at P QO rJ;rw[<-bE]at P S Ck;subst hA zC;clear ht V jq tZ hz Ef pS b5 JN Cv bE MM;have bz:ys≠[]:=by rintro rfl;cases QO.Y
    obtain⟨l,c',hv,_,_⟩:=P.Y.wt.form bz;injection hv with e4 e5 e6
    subst e4 e6;have i1:(t:Int)<n:=aa;have i0:(0:Int)<=t:=aa;have aT:=λa (p:Ext w a/\ag a q 159 #[ge,cp,true,true,.slice B1 bf.length d1,.slice (some ⟨l,0,none⟩) n c2,oZ,oZ,oZ,oZ,.slice D F.length E]) i=>ag.cell p.2 i;have vL:=λa (p:Ext w a/\ag a q 159 #[ge,cp,true,true,.slice B1 bf.length d1,.slice (some ⟨l,0,none⟩) n c2,oZ,oZ,oZ,oZ,.slice D F.length E])=>Ext.cell p.1 e0;have xN:=λa (p:Ext w a/\ag a q 159 #[ge,cp,true,true,.slice B1 bf.length d1,.slice (some ⟨l,0,none⟩) n c2,oZ,oZ,oZ,oZ,.slice D F.length E])=>Ext.cell p.1 e1;have Dc:=λa (p:Ext w a/\ag a q 159 #[ge,cp,true,true,.slice B1 bf.length d1,.slice (some ⟨l,0,none⟩) n c2,oZ,oZ,oZ,oZ,.slice D F.length E])=>Ext.cell p.1 e2;have b8:=λa (p:Ext w a/\ag a q 159 #[ge,cp,true,true,.slice B1 bf.length d1,.slice (some ⟨l,0,none⟩) n c2,oZ,oZ,oZ,oZ,.slice D F.length E])=>Ext.cell p.1 e3;clear e0 e1 e2 e3 e5 bz;go_upto_region 9 with fail
    clear hcell;refine gm 13 (λa=>Ext w a/\ag a q 159 #[ge,cp,true,true,.slice B1 bf.length d1,.slice (some ⟨l,0,none⟩) n c2,oZ,oZ,oZ,oZ,.slice D F.length E]) (by kernel_rfl) ⟨P.Y.ext.drew,P.Y.kq⟩ (λf=>?_);refine jg 0 f ?_;refine jg 1 f ?_;refine jg 2 f ?_;refine jg 3 f ?_;refine jg 4 f ?_;refine jg 5 f ?_;refine jg 6 f ?_;refine jg 7 f ?_;refine jg 8 f ?_;(try simp only[aL]);refine vA 9 (λK s=>?_);go_simp;go_fit (J.Y _ f.1);rintro e w7 ⟨rfl,qU⟩;have H7:=ae (P.Y.more (ah (ai wr).drew qU));have PK:=ae (aK.ah HO.Y (ah (ai wr).drew qU));clear f qU;go_wp2_with fail;refine s.Y _ _ ⟨H7.Y.ext,H7.Y.kq⟩ (λf=>?_);clear s K;(try simp only[aL]);refine vA 10 (λK s=>?_);go_simp;go_fit (HE.Y _ f.1);rintro e w8 ⟨rfl,ve⟩;have H:=ae (H7.Y.more (ah ve (aj (ai w8) (.cells #[.int .i64 t,.int .i64 y.seq,.int .i64 G,.int .i64 9,.int .i64 0] 188))));have Sd:=ae (aK.ah PK.Y (ah ve (aj (ai w8) (.cells #[.int .i64 t,.int .i64 y.seq,.int .i64 G,.int .i64 9,.int .i64 0] 188))));have ZH:=ae (H7.Y.more ve);clear f ve H7 PK;go_wp2_with fail;refine s.Y _ _ ⟨ZH.Y.ext,ZH.Y.kq⟩ (λf=>?_);clear s K;(try simp only[aL]);refine vA 11 (λK s=>?_);go_simp;refine s.Y _ _ ⟨H.Y.ext,H.Y.kq⟩ (λf=>?_);clear s K;(try simp only[aL]);refine vA 12 (λK s=>?_);refine gf rfl _ _ 157 rfl w 188 5 40 (.agg #[oZ,oZ,oZ,oZ,oZ]) ie mL rF underlying157 pK rfl af (.slice D F.length E) F rfl H.Y.td w8 1 1 [⟨t,⟨y.seq,G,9,0⟩⟩] rfl rfl (Rd.lit w8 (ie ⟨t,⟨y.seq,G,9,0⟩⟩) _) (by simp;omega) (by simp;omega) H.Y.ext.size ?_;intro v9 w9 h9 g9 _;have Qv:=ZH.Y.kT g9;have V9:=ae (ua Sd.Y λb hb=>g9.block b (bk Sd.Y hb).2 (cL Sd.Y H.Y.td af hb));refine s.Y _ _ ⟨aH.aW H.Y.td H.Y.ext g9 H.Y.ext.size (aR _),Qv⟩ (λf=>?_);clear s K f;(try simp only[aL]);obtain⟨Z,d9,zZ⟩:=aH.shape h9;obtain⟨l9,U⟩:=aw (F++[(⟨t,⟨y.seq,G,9,0⟩⟩:Mo.Told)]).length;rw[<-U]at zZ;subst zZ;have I:Hid (nH ⟨⟨ge,cp,true,true,bf⟩,ys,cE,F++[⟨t,⟨y.seq,G,9,0⟩⟩]⟩ n w (w9.setCell ⟨q,10,none⟩ (.slice Z l9 d9)) q r B1 d1 (some ⟨l,0,none⟩) c2 Z d9):=ZH.Y.QM (U.trans (by simp)) g9 h9;have aq:=ae (bu V9.Y Qv af 10 (.slice Z l9 d9));obtain⟨g,u,C⟩:=ag.aF Qv;dsimp only[jh]at g;clear U h9 g9 H ZH Sd V9 Qv;refine wpAnyS.late ?_;have f:(λ_:World=>True) w9:=trivial;refine aU 13 f ?_;(try simp only[aL]);refine eQ 14 (λK s=>?_);go_simp;refine s.Y _ _ trivial (λf=>?_);clear s K f;(try simp only[aL]);refine wpAnyH_done (by kernel_rfl) ?_ _;clear g u C aT vL xN Dc b8;generalize w9.setCell ⟨q,10,none⟩ (.slice Z l9 d9)=Y at *;obtain⟨g,u,C⟩:=ag.aF I.Y.kq;dsimp only[jh,cE]at g;obtain⟨cy,hP,iX,hcell⟩:=I.Y.wt.at_ QO.Y;obtain⟨D5,cw,rfl,_,_⟩:=hP;have q0:=hcell 0 _ rfl;rw[Nat.add_zero]at q0;have q1:=hcell 1 _ rfl;have q2:=hcell 2 _ rfl;have q3:=hcell 3 _ rfl;have f0:=I.Y.wt.bq (t*4);have f1:=I.Y.wt.bq (t*4+1);have f2:=I.Y.wt.bq (t*4+2);have f3:=I.Y.wt.bq (t*4+3);clear hcell iX;go_upto_region 11 with fail
    have HB:Hid (nH ⟨⟨ge,cp,true,true,bf⟩,((mi xs hd).take (j+1)).foldl et xs,cE,jW xs hd (j+1)⟩ n w (ax Y l (t*4) [false,oZ,oZ,oN]) q r B1 d1 (some ⟨l,0,none⟩) c2 Z d9):=by unfold Hid;rw[rJ.Y,S.Y];exact I.Y.cut (bT QO.Y)
    have b6:Hid (aK (ax Y l (t*4) [false,oZ,oZ,oN]) w 3 .i64 (.slice (some ad) m c3) (dD (mi xs hd))):=by
     obtain⟨zs,hg,_⟩:=I.Y.wt.ty;have TW:o7 Y (ax Y l (t*4) [false,oZ,oZ,oN]) l l 99 99:=⟨⟨_,hg⟩,⟨_,hg⟩,λ_ hq _=>aM hq _ _,bO _ _ _⟩
     exact TW.own aq.Y af af
    clear g u C q0 q1 q2 q3 f0 f1 f2 f3 I aq;change Code.wp _ _ _ _ (ax Y l (t*4) [false,oZ,oZ,oN]);generalize ax Y l (t*4) [false,oZ,oZ,oN]=wy at *;go_wp2;go_roundw;case rel=>exact⟨j+1,_,_,by omega,by go_num,HB,b6⟩
    case measure=>simp[intOf];omega
   .have YN:j=m:=by omega
    subst YN;have Q:Hid (nH ⟨⟨ge,cp,true,true,bf⟩,(mi xs hd).foldl et xs,cE,jW xs hd (mi xs hd).length⟩ n w wr q r B1 d1 A2 c2 D E):=by have:=P.Y;rw[List.take_of_length_le (by have:=HM.Y;omega)]at this;rw[<-HM.Y];exact this
    rw[<-HM.Y]at Q;clear P HO;obtain⟨g,u,C⟩:=ag.aF Q.Y.kq;dsimp only[jh,cE]at g;obtain⟨gB,nQ,T⟩:=ag.aF Q.Y.kr;go_wp2_with fail;clear g u C gB nQ T;rw[HG.Y];exact Q.Y.yY _ 6 (by kernel_rfl) rfl rfl
 .have HG:Hid (kP ⟨ge,cp,true,true,bf⟩ hd xs=⟨⟨ge,cp,true,true,bf⟩,xs,bg 9,[]⟩):=rfl;have O:=ae (X.Y.put (g':=⟨⟨ge,cp,true,true,bf⟩,xs,bg 9,[]⟩) 8 (.int .i64 9) rfl rfl rfl rfl);go_upto_region 4 with fail
  clear g u C X iH cU eB;generalize w3.setCell ⟨q,8,none⟩ (.int .i64 9)=w5 at *;obtain⟨g,u,C⟩:=ag.aF O.Y.kq;dsimp only[jh,bg,cE]at g;obtain⟨gB,nQ,T⟩:=ag.aF O.Y.kr;go_wp2_with fail;clear g u C gB nQ T;rw[HG.Y];exact O.Y.yY _ 6 (by kernel_rfl) rfl rfl
section
variable(w:World)
theorem sU(z:Int)(C:Option Addr)(K:Nat)(u:List Ch)(M:n1=u.length)(o:lV w C u)(I J:Value)(H:List Wt)(F:List Rs)(l:Int) :
 Calls prog 85 #[.agg #[z,.slice C n1 K,I,J],l] w λe w'=>e=.returned (.tuple #[((bP ⟨z,u,H,F⟩ l).getD 0:Nat),.bool (bP ⟨z,u,H,F⟩ l).isSome])/\Below w w w':=by
 have v:=ae (λR=>GC R l)
 have k:(cJ l).2.2=true->0<=(cJ l).1/\(cJ l).1<8:=by
  unfold cJ;split
  .intro h;cases h
  .intro _;dsimp only;omega
 have f:Hid (bP ⟨z,u,H,F⟩ l=if(cJ l).2.2=false then none else match u[(cJ l).1.toNat]? with|none=>none|some x=>if x.used=true/\x.gen=(cJ l).2.1 then some (cJ l).1.toNat else none):=rfl
 generalize bP ⟨z,u,H,F⟩ l=r at *
 generalize cJ l=q at *
 obtain⟨t,g,Q⟩:=q
 dsimp only at *
 obtain⟨y,n⟩:=av (λ(j:Nat) (x:Ch) c=>lV.row (o.gK cd (aj (ai w) (.cells #[z,.slice C n1 K,I,J] 45))) (j:=j) (x:=x) c) M
 clear M o
 have A:Hid (Below w w (w.alloc (.cells #[z,.slice C n1 K,I,J] 45))):=aj (ai w) _
 cases Q
 case' false=>have o:r=none:=f.Y;clear k
 case' true =>
  obtain⟨N,O⟩:=k rfl;clear k;obtain⟨p,rfl⟩:∃p:Nat,t=(p:Int):=⟨t.toNat,aa⟩
  rw[fR]at f;by_cases m:p<n1;case' neg =>
   have o:r=none:=by rw[f.Y,au af,List.getElem?_eq_none (by have:=n.Y;omega)]
   have P:decide ((p:Int)<n1)=false:=bF aa
  case' pos =>
   obtain⟨x,c⟩:∃x,u[p]?=some x:=⟨_,cq (by rw[<-n.Y];exact m)⟩
   obtain⟨S,B,d,L,_,_,T,D,s,E,G⟩:=y.Y p x c;have i:Hid (r=if x.used=true/\x.gen=g then some p else none):=by unfold Hid;rw[f.Y,au af,c]
   subst L;clear c D E G;have P:(p:Int)<n1:=aa;rcases a:x.used with _|_
   case' false =>
    rw[a]at s;have o:r=none:=by rw[i.Y,a];rfl
    clear a
   case' true =>
    rw[a]at s;by_cases b:x.gen=g;case' pos =>
     have o:r=some p:=by rw[i.Y,a,ay ⟨rfl,b⟩]
     have d1:(x.gen==g)=true:=by simpa using b
    case' neg =>
     have o:r=none:=by rw[i.Y,au (λh=>b h.2)]
     have d1:(x.gen==g)=false:=by simpa using b
    all_goals clear a b
 all_goals
  subst o;go_enter func85,ntmps85;go_wp2_with fail;go_fit (v.Y _);rintro e U ⟨rfl,rfl⟩;go_wp2_with fail;go_ret2;exact⟨rfl,A.Y⟩
abbrev Dd (w:World) (base g:Nat):=dx w base g 45 []
abbrev MN (base g:Nat):=HvE base g 45 []
def NtE(base g:Nat)(h:Hl)(o F u:Option Addr)(z H C:Nat)(w:World)(e:Ending)(l:World):Prop:=e=.returned (.tuple #[])/\Dd l base g h o F u z H C/\Below base w l/\gu w g (.slice o h.chans.length z) (.slice u h.done.length C) l
theorem sV(H:Dd w base g h A1 A2 A3 m1 m2 m3)(t:Nat)(l:t<h.done.length)(r:Rs) :
 Calls prog 61 #[.pointer g,t,.agg #[r.seq,r.cs,r.code,r.value]] w (NtE base g {h with done:=h.done.set t r} A1 A2 A3 m1 m2 m3 w):=by
 have d:h.done≠[]:=by intro e;rw[e]at l;cases l
 have o:base<=w.heap.size:=bm H.low (Nat.le_of_lt H.blk.lt)
 have f:=aj (ai w) (qh r.seq r.cs r.code r.value)
 have a:=H.more f
 obtain⟨i,m,B,p,G⟩:=a.done.form d
 injection B with e1 e2 e3
 subst e1 e3
 obtain⟨M,F,s⟩:=kz a.done
 have E:g≠i:=by
  rintro rfl;have:=a.blk;unfold ag at this;rw[s]at this;injection this with this
  injection this with _ h _
  exact absurd h (by decide)
 have q:sM (w.alloc (qh r.seq r.cs r.code r.value)) (w.alloc (qh r.seq r.cs r.code r.value)) base i h.done.length m3 h.done:=⟨a.done,λ_ _ _=>rfl,(ai _).mono (bm o f.size),aR _,p⟩
 obtain⟨u,c⟩:∃u,h.done[t]?=some u:=⟨_,cq l⟩
 have C:=aH.cells dC a.done c (j:=0) rfl
 have J:=aH.cells dC a.done c (j:=1) rfl
 have K:=aH.cells dC a.done c (j:=2) rfl
 have L:=aH.cells dC a.done c (j:=3) rfl
 rw[Nat.add_zero]at C
 have f0:=aH.frozen a.done (t*4)
 have f1:=aH.frozen a.done (t*4+1)
 have f2:=aH.frozen a.done (t*4+2)
 have f3:=aH.frozen a.done (t*4+3)
 obtain⟨z,-,D⟩:=ag.aF a.blk
 have t0:(0:Int)<=t:=aa
 have t1:(t:Int)<h.done.length:=aa
 obtain⟨A,n⟩:=aw h.done.length
 rw[<-n]at z t1
 obtain⟨k,x,y,I⟩:=bh f a (q.put l r) n
 clear n f a q c d e2 s H
 go_enter func61,ntmps61
 go_wp2_with fail
 go_region
 go_wp2
 go_end0
 change NtE _ _ _ _ _ _ _ _ _ _ _ (ax (w.alloc (qh r.seq r.cs r.code r.value)) i (t*4) (fD r)).drew
 exact⟨rfl,(dx.told x (dN ..) y).more (ai _).drew,(az p _ _ _ (k.mono o)).drew,(gu.tell (gu.ext k) k.size (v:=.slice i A m3) (λb _ d=>aM (λe=>d (by rw[e];rfl)) _ _) rfl).drew⟩
theorem gu.len{w:World}{m l o:Nat}(h:gu w g (.slice A n m) (.slice B k l) w'):gu w g (.slice A n' m) (.slice B o l) w':=λb a c d f=>h b a c (λe=>d ((yD A n' m n m).trans e)) (λe=>f ((yD B o l k l).trans e))
theorem dx.Se{w:World}{T:TypeId}{tl:List Value}(H:dx w base g T tl h A1 A2 A3 m1 m2 m3){l:List Mo.Told}(u:cN w ie D l)(z:∀b,D=some b->l≠[]->Ty w 188 b.block)(o:gu w g (.slice A1 h.chans.length m1) (.slice A3 h.done.length m3) w'):cN w' ie D l :=
 Rd.move (U:=λb=>¬Ty w 188 b) u (λb k m=>by
  obtain⟨p,n,a⟩:=Classical.not_not.1 m
  obtain⟨rows,_,f,_⟩:=H.chans
  exact o b k (λe=>by subst e;have:=H.blk;unfold ag at this;rw[a]at this;injection this with this;injection this with _ this;exact H.ty.2.2.2.2.2 this) (λe=>eh f a (by decide) e.symm) (λe=>eh H.done a (by decide) e.symm)) λd j c i=>i (z d j (λe=>c (by rw[e];rfl)))
theorem Bp(H:Dd w base g h A1 A2 A3 m1 m2 m3)(M:i<h.chans.length){base':Nat}{l:Option Addr}{o:Nat}(hP:j9 G n1 base' w B d l o D dd)(hb:base<=base')(mI:n1=G.l.length)(hl:G.told.length<=100)(ko:∀x∈G.told,x.th<h.done.length) :
 Calls prog 88 #[.pointer g,i,.agg (jh G n1 B G.c.buf.length d l o D G.told.length dd).toArray] w (NtE base g {h with chans:=h.chans.set i G.c,waits:=G.l,done:=fN h.done G.told} A1 l A3 m1 o m3 w):=by
 obtain⟨W,v⟩:=aw (w.alloc (.cells (jh G n1 B G.c.buf.length d l o D G.told.length dd).toArray 159))
 have E:Below w w W:=by rw[v];exact aj (ai w) _
 have cG:base<=w.heap.size:=bm H.low (Nat.le_of_lt H.blk.lt)
 have c:=H.more E
 have Pd:=hP.more E
 obtain⟨a,m,hv,a6,nA⟩:=c.chans.form (by intro e;rw[e]at M;cases M)
 injection hv with e1 e2 e3
 subst e1 e3
 obtain⟨x,hx⟩:∃x,h.chans[i]?=some x:=⟨_,cq M⟩
 obtain⟨ad,B1,d1,I,_,_,C,r,s,t,u⟩:=c.xv.row hx
 injection I with I
 subst I
 have f0:=c.chans.bq (i*5)
 have f1:=c.chans.bq (i*5+1)
 have f2:=c.chans.bq (i*5+2)
 have f3:=c.chans.bq (i*5+3)
 have f4:=c.chans.bq (i*5+4)
 rw[lU,Nat.zero_add]at C r s t u
 dsimp only at r s t u
 have a8:g≠a:=c.yK
 have Ac:a≠g:=λe=>a8 e.symm
 have B8:g<w.heap.size:=H.blk.lt
 have LM:a<w.heap.size:=H.nY.2.1 a rfl
 have F:Hid (ag W w 159 (jh G n1 B G.c.buf.length d l o D G.told.length dd).toArray):=by rw[v];exact ag.new _ _ _
 obtain⟨n,-,cu⟩:=ag.aF F
 unfold jh at n
 obtain⟨cI,aq,eH⟩:=ag.aF c.blk
 have i1:(0:Int)<=i:=aa
 have i2:(i:Int)<h.chans.length:=aa
 have A:=ae (dx.got c M Pd mI.symm hb)
 obtain⟨p,f⟩:=aw G.c.buf.length
 obtain⟨tl,O⟩:=aw G.told.length
 obtain⟨cl,kR⟩:=aw h.chans.length
 rw[<-f]at n A F
 rw[<-O]at n F hl
 have gD:=F
 rw[<-kR]at cI i2
 have q:Hid (gu w g (.slice (some ⟨a,0,none⟩) h.chans.length m1) (.slice A3 h.done.length m3) (ax (ax W a (i*5) [.int .i64 G.c.gen,.int .i64 G.c.cap,.bool G.c.used,.bool G.c.closed,.slice B p d]) g 2 [.slice l n1 o])):=((gu.ext E).GU rfl _ _).Co _ _
 have z:Hid (Below base w (ax (ax W a (i*5) [.int .i64 G.c.gen,.int .i64 G.c.cap,.bool G.c.used,.bool G.c.closed,.slice B p d]) g 2 [.slice l n1 o])):=az H.low _ _ _ (az a6 _ _ _ (E.mono cG))
 have Z:=ae f
 have Y:=ae O
 unfold jh at v
 rw[<-f, <-O]at v
 obtain⟨HW,Sn,vU⟩:=aS v ko mI
 clear mI e2 hx M hP Pd H c E v f O kR ko F
 go_enter func88,ntmps88
 unfold jh
 rw[<-Z.Y, <-Y.Y]
 go_upto_region 1 with fail
 rw[<-HW.Y]
 go_wp2_with fail
 go_region
 go_upto_region 3 with fail
 change Code.wp _ _ _ _ (ax (ax W a (i*5) [.int .i64 G.c.gen,.int .i64 G.c.cap,.bool G.c.used,.bool G.c.closed,.slice B p d]) g 2 [.slice l n1 o]).drew
 have N:=(ai (ax (ax W a (i*5) [.int .i64 G.c.gen,.int .i64 G.c.cap,.bool G.c.used,.bool G.c.closed,.slice B p d]) g 2 [.slice l n1 o])).drew
 have J:=aX (aX gD.Y (b:=w.heap.size) (g:=a) aa [.int .i64 G.c.gen,.int .i64 G.c.cap,.bool G.c.used,.bool G.c.closed,.slice B p d] (i*5)) (g:=g) aa [.slice l n1 o] 2
 obtain⟨H5,iA,S,iq,oc,qT⟩:=cS (A.Y.1.more N) (A.Y.2.1.below N) (λb h1 h2=>(A.Y.2.2 b h1 h2).below N) (Below.drew z.Y) (gu.drew q.Y) (J.ah N)
 have L:w.heap.size<=(ax (ax W a (i*5) [.int .i64 G.c.gen,.int .i64 G.c.cap,.bool G.c.used,.bool G.c.closed,.slice B p d]) g 2 [.slice l n1 o]).drew.heap.size:=iq.Y.size
 clear N J A z q gD HW C r s t u f0 f1 f2 f3 f4 n cu cI aq eH
 generalize(ax (ax W a (i*5) [.int .i64 G.c.gen,.int .i64 G.c.cap,.bool G.c.used,.bool G.c.closed,.slice B p d]) g 2 [.slice l n1 o]).drew=w5 at *
 obtain⟨n,-,cu⟩:=ag.aF qT.Y
 unfold jh at n
 go_wp2_with fail
 clear n cu
 go_loopw[24] (λj wr=>∃k:Nat,k<=tl/\j=k/\Hid (Dd wr base g {h with chans:=h.chans.set i G.c,waits:=G.l,done:=fN h.done (G.told.take k)} (some ⟨a,0,none⟩) l A3 m1 o m3)/\Hid (Below base w wr)/\Hid (gu w5 g (.slice (some ⟨a,0,none⟩) h.chans.length m1) (.slice A3 h.done.length m3) wr)/\Hid (w5.heap.size<=wr.heap.size)) (λj _=>tl-(intOf j).toNat)
 case atStart=>exact⟨0,aZ _,rfl,H5,iq,gu.ext (ai _),aR _⟩
 case round =>
  obtain⟨k,hk,rfl,T,z,q,P⟩:=hrel;by_cases a7:k<tl
  .obtain⟨ad,y,I,hy,hcell⟩:=cN.at_ mL af (H5.Y.Se iA.Y S.Y q.Y) (i:=k) (by rw[<-Y.Y];exact a7);have C:=hcell 0 _ rfl;have r:=hcell 1 _ rfl;have s:=hcell 2 _ rfl;have t:=hcell 3 _ rfl;have u:=hcell 4 _ rfl;rw[add_zero]at C;rw[add_lit _ _ af]at r s t u;subst I;have Q:=aj (ai wr) (.cells #[y.th,y.res.seq,y.res.cs,y.res.code,y.res.value] 188);have V:=ae (sV _ (T.Y.more Q) y.th (by dsimp only;rw[ld];exact Sn.Y y (bo hy)) y.res);dsimp only at V;rw[<-yC hy]at V;have ZJ:=ae (q.Y.more P.Y Q);have zG:=ae Q;clear hy hcell Q;go_wp2_with fail;go_fit V.Y;rintro e w6 ⟨rfl,K,X,Sw⟩;have Yi:wr.heap.size<=w6.heap.size:=bm zG.Y.size X.size;obtain⟨U,nJ,C7,R⟩:=bh K ((z.Y.trans (zG.Y.mono (bm cG (bm L P.Y)))).trans X) (ZJ.Y.trans (bm P.Y zG.Y.size) Sw.len) (bm P.Y Yi);clear Yi K X Sw C r s t u;go_wp2;go_roundw;case rel=>exact⟨k+1,by omega,by go_num,U,nJ,C7,R⟩
   case measure=>simp[intOf];omega
  .have HE:Hid (G.told.take k=G.told):=List.take_of_length_le (by have:=Y.Y;omega);rw[HE.Y]at T;have CY:=ae (oc.Y.trans L q.Y);go_wp2;go_end0;exact⟨rfl,T,z,CY.Y.len⟩
end
theorem dx.fin{F:Hl}{u:Option Addr}{z:Nat}(l:Dd w base g h A1 A2 A3 m1 m2 m3)(H:Dd wr base g F A1 u A3 m1 z m3)(J:w.heap.size<=q){C:List Value}(I:ag wr q 64 C.toArray)(R:C.length=4)(K:Below base w wr)(hF:gu w g (.slice A1 h.chans.length m1) (.slice A3 h.done.length m3) wr)(r:Rs){p:Hl×Rs}(e:p=(F,r))(a:Act)(s:Nat)(O:f.results=#[.cell s 64])(T:a.tmps[s]?.getD undef=.pointer (some ⟨q,0,none⟩))(M:a.defers=[]):bodyPost prog f (MN base g A1 A3 m1 m3 p w) .ret a (ax wr q 0 [r.seq,r.cs,r.code,r.value]):=by
 subst e;have n:=dx.yJ H I af af af af af (λb j o=>by
  subst o
  rw[yD A3 _ _ h.done.length m3]at j
  have:=l.nY.2.2.2 _ j
  omega) 0 [r.seq,r.cs,r.code,r.value]
 have k:base<=w.heap.size:=bm l.low (Nat.le_of_lt l.blk.lt);have c:Below base w (ax wr q 0 [r.seq,r.cs,r.code,r.value]):=az (bm k J) _ _ _ K;have d:=hF.new J 0 [r.seq,r.cs,r.code,r.value];have t:ag (ax wr q 0 [r.seq,r.cs,r.code,r.value]) q 64 #[r.seq,r.cs,r.code,r.value]:=aY I R;generalize ax wr q 0 [r.seq,r.cs,r.code,r.value]=x at *;have m:=λi=>ag.cell t i;refine bodyPost_ret (v:=.agg #[r.seq,r.cs,r.code,r.value]) ?_ M ⟨rfl,⟨_,_,n⟩,c,l.PQ _ d⟩;simp[results,O,go_sem,m,T]
theorem Iq(w:World)(H:Dd w base g h A1 A2 A3 m1 m2 m3)(V:GN h)(nA:c.bn<=4095)(l:Int) :
 Calls prog 57 #[j8 c A n k,.pointer g,l] w (MN base g A1 A3 m1 m3 (lH c h l) w):=by
 obtain⟨W,L⟩:=aw ((w.alloc (dB c A n k)).alloc ke)
 have dO:Below w w W:=by rw[L];exact aj (aj (ai w) _) _
 have eW:Hid (ag W w 24 #[c.kind,c.threads,c.chans,c.cap,c.nodes,c.aP,c.aB,c.tags,c.bw,c.bn,.slice A n k]):=by rw[L];exact(ag.new _ _ _).alloc _
 have D:Hid (ag W (w.heap.size+1) 64 #[oZ,oZ,oZ,oZ]):=by rw[L];exact ag.newAt _ _ _ aA
 have cG:base<=w.heap.size:=bm H.low (Nat.le_of_lt H.blk.lt)
 have B8:g<w.heap.size:=H.blk.lt
 obtain⟨r,Q,HW,lR⟩:=bh H dO L V
 clear H dO L V
 unfold j8 at *
 by_cases t:l<0\/c.cap<l
 .have O:Hid (lH c h l=(h,bg 1)):=by unfold Hid lH;rw[ay t]
  by_cases h0:l<0;case' neg=>have h1:c.cap<l:=t.resolve_left h0
  all_goals
   clear t;go_enter func57,ntmps57;go_upto_region 1 with fail
   rw[<-HW.Y];obtain⟨v,-,z⟩:=ag.aF eW.Y;go_wp2_with fail;go_fit (ei W 1);rintro e w2 ⟨rfl,a⟩;obtain⟨G,J,K⟩:=ag.aF (D.Y.ah a);have f:=ae (ah Q.Y a);clear v z;go_wp2_with fail;exact(show bodyPost _ _ _ _ _ (ax w2 (w.heap.size+1) 0 [oZ,oZ,.int .i64 1,oZ])from dx.fin r.Y (r.Y.more f.Y) (bM _) (D.Y.ah a) rfl (f.Y.mono cG) (gu.ext f.Y) (bg 1) O.Y _ 6 (by kernel_rfl) rfl rfl)
 .have a1:¬l<0:=λh=>t (.inl h);have a2:¬c.cap<l:=λh=>t (.inr h);obtain⟨R,E⟩:=aw (eK c.bn h.chans 0 false h.chans.length);have O:Hid (lH c h l=Bf h l R):=by
   unfold Hid lH;rw[au t,E];unfold Bf;rfl
  obtain⟨HR,oo⟩:=av E.symm (r.Y.more Q.Y);clear t E;obtain⟨v,-,z⟩:=ag.aF eW.Y;obtain⟨u,-,T⟩:=ag.aF oo.Y.blk;obtain⟨m,Z⟩:=aw h.chans.length;rw[<-Z]at u HR;have a8:m<=8:=by rw[Z];exact lR.Y.chans
  have iF:=ae Z;clear Z;go_enter func57,ntmps57;go_upto_region 1 with fail
  rw[<-HW.Y];go_wp2_with fail;clear v z u T;go_loopw[7,24] (λb i wr=>∃(j:Nat) (s:Bool) (y:Int),j<=m/\i=j/\b=y/\Hid (y=if s=true then 7 else 6)/\Hid (Below W W wr)/\Hid (eK c.bn h.chans j s (m-j)=R)) (λ_ i _=>m-(intOf i).toNat);case atStart=>exact⟨0,false,6,aZ _,rfl,rfl,rfl,ai _,by unfold Hid;rw[Nat.sub_zero];exact HR.Y⟩
  case round =>
   obtain⟨j,s,y,hj,rfl,rfl,HY,o,P⟩:=hrel;have p:=ae (oo.Y.more o.Y);obtain⟨v,-,z⟩:=ag.aF (eW.Y.ah o.Y);obtain⟨G,J,K⟩:=ag.aF (D.Y.ah o.Y);obtain⟨u,-,T⟩:=ag.aF p.Y.blk;rw[<-iF.Y]at u;by_cases a7:j<m
   .obtain⟨x,Y⟩:∃x,h.chans[j]?=some x:=⟨_,cq (by rw[<-iF.Y];exact a7)⟩
    obtain⟨ad,B,d,hA,_,_,c0,c1,I,c3,S⟩:=lV.row p.Y.xv Y;have bz:=lR.Y.gen x (bo Y);have f:=ae Y;subst hA;clear Y;generalize x.buf.length=bl at S;have F:m-j=(m-(j+1))+1:=aa;rcases q:x.used with _|_
    .rw[q]at I;have e5:IntKind.i64.wrap (x.gen+1)=x.gen+1:=bH _ aa;by_cases zF:c.bn<=x.gen
     .have HN:Hid (eK c.bn h.chans (j+1) true (m-(j+1))=R):=by
       unfold Hid;rw[<-P.Y,F,ue f.Y q aa]
      have d1:decide (c.bn<=x.gen)=true:=cg zF
      clear q F zF
      go_wp2_with fail
      go_quiet(fail)
      go_wp2
      go_roundw
      case rel=>exact⟨j+1,true,7,aa,by go_num,rfl,rfl,bZ o.Y _,HN⟩
      case measure=>simp[intOf];omega
     .obtain⟨C,mm,X,a6,N⟩:=p.Y.chans.form (by have:=bo f;intro he;rw[he]at this;cases this);injection X with e1 e2 e3
      injection e1 with e1
      subst e1 e3;clear e2;have E:R=.inl j:=by rw[<-P.Y,F,yE f.Y q aa]
      have M:fO h j=x:=by unfold fO;rw[ew,f.Y];rfl
      have wg:Hid (lH c h l=({h with chans:=h.chans.set j ⟨x.gen+1,l,true,false,[]⟩},⟨0,0,0,jM j (x.gen+1)⟩)):=by unfold Hid;rw[O.Y,E];unfold Bf;dsimp only;rw[M]
      have f0:=p.Y.chans.bq (j*5);have f1:=p.Y.chans.bq (j*5+1);have f2:=p.Y.chans.bq (j*5+2);have f3:=p.Y.chans.bq (j*5+3);have f4:=p.Y.chans.bq (j*5+4);rw[lU,Nat.zero_add]at c0 c1 I c3 S;dsimp only at c1 I c3 S;have d1:decide (c.bn<=x.gen)=false:=bF zF;have d2:decide (4095<=x.gen)=false:=bF aa;have t0:(0:Int)<=(j:Int):=aa;have t1:(j:Int)<(m:Int):=aa;have aq:=ae (λwx=>Ea wx j (x.gen+1));clear q F zF E M;go_wp2_with fail;go_quiet(fail);go_upto_region 12 with fail
      have U:=bZ (ai wr) (n:=nq);have LM:C<w.heap.size:=r.Y.nY.2.1 C rfl;have BS:=ah Q.Y (ah o.Y U);obtain⟨lM,iG,bU,rW⟩:=bh ((p.Y.more U).Eg (i:=j) (bT f) ⟨x.gen+1,l,true,false,[]⟩ none 0 (aR _) (bD.nil _ _ _) (λb V=>by cases V)) (aX ((D.Y.ah o.Y).ah U) (b:=w.heap.size+1) (g:=C) aa [.int .i64 (x.gen+1),l,true,false,oN] (j*5)) (az a6 [.int .i64 (x.gen+1),l,true,false,oN] _ (j*5) (BS.mono cG)) (gu.GU (v1:=.slice C h.chans.length m1) (v3:=.slice A3 h.done.length m3) (g:=g) (gu.ext BS) rfl (j*5) [.int .i64 (x.gen+1),l,true,false,oN]);change Code.wp _ _ _ _ (ax (wr.drewN nq) C (j*5) [.int .i64 (x.gen+1),l,true,false,oN]);clear U BS v z G J K u T c0 c1 I c3 S f0 f1 f2 f3 f4 t0 t1 N d1 d2 e5;generalize ax (wr.drewN nq) C (j*5) [.int .i64 (x.gen+1),l,true,false,oN]=wy at *;go_wp2_with fail;go_fit (aq.Y _);rintro e wz ⟨rfl,rfl⟩;generalize jM j (x.gen+1)=X at wg ⊢;obtain⟨G,J,K⟩:=ag.aF iG.Y;go_wp2_with fail;exact(show bodyPost _ _ _ _ _ (ax wy (w.heap.size+1) 0 [oZ,oZ,oZ,.int .i64 X])from dx.fin r.Y lM.Y (bM _) iG.Y rfl bU.Y rW.Y ⟨0,0,0,X⟩ wg.Y _ 6 (by kernel_rfl) rfl rfl)
    .rw[q]at I;have HN:Hid (eK c.bn h.chans (j+1) s (m-(j+1))=R):=by
      unfold Hid;rw[<-P.Y,F,wj f.Y q]
     clear q F;go_wp2;go_roundw;case rel=>exact⟨j+1,s,y,aa,by go_num,rfl,HY,o,HN⟩
     case measure=>simp[intOf];omega
   .have uY:m-j=0:=aa;have rB:Hid (R=.inr y):=by
     unfold Hid;rw[<-P.Y,uY,HY.Y];rfl
    clear uY v z u T G J K;have nj:=ae (ah Q.Y o.Y);go_wp2_with fail;go_fit (ei wr y);rintro e w2 ⟨rfl,a⟩;obtain⟨G,J,K⟩:=ag.aF ((D.Y.ah o.Y).ah a);have f:=ae (ah nj.Y a);go_wp2_with fail;exact(show bodyPost _ _ _ _ _ (ax w2 (w.heap.size+1) 0 [oZ,oZ,.int .i64 y,oZ])from dx.fin r.Y (r.Y.more f.Y) (bM _) ((D.Y.ah o.Y).ah a) rfl (f.Y.mono cG) (gu.ext f.Y) (bg y) (by rw[O.Y,rB.Y];rfl) _ 6 (by kernel_rfl) rfl rfl)
theorem dx.keep{u z:World}(l:Dd w base g h A1 A2 A3 m1 m2 m3)(F:w.heap.size<=q){t:TypeId}{C:Array Value}(o:ag u q t C)(hF:gu u g (.slice A1 n m1) (.slice A3 n' m3) z):ag z q t C:=(hF q o.lt (by have:=l.nY.1;omega) (λe=>by rw[yD A1 _ _ h.chans.length m1]at e;have:=l.nY.2.1 q e;omega) (λe=>by rw[yD A3 _ _ h.done.length m3]at e;have:=l.nY.2.2.2 q e;omega)).trans o
theorem Cz(w:World)(H:Dd w base g h A1 A2 A3 m1 m2 m3)(Y:GN h)(u l o:Int)(U:h.done.length=h.waits.length) :
 Calls prog 60 #[.pointer g,u,l,o] w (MN base g A1 A3 m1 m3 (eL h u l o) w):=by
 obtain⟨W,G⟩:=aw (w.alloc ke)
 have O:Below w w W:=by rw[G];exact aj (ai w) _
 have Q:Hid (ag W w 64 #[oZ,oZ,oZ,oZ]):=by rw[G];exact ag.new _ _ _
 have E:base<=w.heap.size:=bm H.low (Nat.le_of_lt H.blk.lt)
 have B8:g<w.heap.size:=H.blk.lt
 obtain⟨C,M,HW,lR,I⟩:=bQ H O G Y (H.more O)
 obtain⟨r,k,F⟩:=ag.aF I.Y.blk
 have jf:=ae U
 have f:Hid (eL h u l o=if l<0\/(h.waits.length:Int)<=l\/l=u\/(h.waits.getD l.toNat fU).on=false\/(h.waits.getD l.toNat fU).seq≠o then(h,bg 12)else({h with waits:=et h.waits l.toNat,done:=fN h.done [⟨l.toNat,⟨o,0,11,0⟩⟩]},cE)):=rfl
 obtain⟨d,K⟩:=aw h.waits.length
 rw[<-K]at r f
 have q:=ae K
 clear H O G Y U K
 by_cases t:l=u
 case' pos =>
  have d0:(l==u)=true:=by simpa using t
  have i:Hid (eL h u l o=(h,bg 12)):=by unfold Hid;rw[f.Y,ay (.inr (.inr (.inl t)))]
 case' neg =>
  have d0:(l==u)=false:=by simpa using t
  by_cases e1:l<0;case' pos=>have i:Hid (eL h u l o=(h,bg 12)):=by unfold Hid;rw[f.Y,ay (.inl e1)]
  case' neg =>
   by_cases e2:(d:Int)<=l;case' pos=>have i:Hid (eL h u l o=(h,bg 12)):=by unfold Hid;rw[f.Y,ay (.inr (.inl e2))]
   case' neg =>
    obtain⟨j,rfl⟩:∃j:Nat,l=j:=⟨l.toNat,aa⟩
    have hj:j<d:=aa;obtain⟨x,m⟩:∃x,h.waits[j]?=some x:=⟨_,cq (by rw[<-q.Y];exact hj)⟩
    obtain⟨ad,D,dd,hA,_,_,S,c1,c2,c3⟩:=ez.row I.Y.GP m;have HX:=ae m;have z:h.waits.getD j fU=x:=by rw[ew,m];rfl
    rw[fR,z]at f;subst hA;have i0:(0:Int)<=j:=aa;have i1:(j:Int)<d:=aa;clear m z;rcases A:x.on with _|_
    case' false=>have i:Hid (eL h u j o=(h,bg 12)):=by unfold Hid;rw[f.Y,ay (.inr (.inr (.inr (.inl A))))]
    case' true =>
     by_cases B:x.seq=o;case' neg =>
      have d3:(x.seq !=o)=true:=by simpa using B
      have i:Hid (eL h u j o=(h,bg 12)):=by unfold Hid;rw[f.Y,ay (.inr (.inr (.inr (.inr B))))]
     case' pos =>
      have d3:(x.seq !=o)=false:=by simpa using B
      have i:Hid (eL h u j o=({h with waits:=et h.waits j,done:=h.done.set j ⟨o,0,11,0⟩},cE)):=by unfold Hid;rw[f.Y,au (by rintro(a|a|a|a|a);omega;omega;exact t a;rw[A]at a;cases a;exact a B)];rfl
     all_goals clear B
    all_goals
     rw[A]at S;clear c1 c3
 all_goals
  clear t f;go_enter func60,ntmps60;go_upto_region 1 with fail
  rw[<-HW.Y];clear k;go_wp2_with fail
 all_goals try
  (go_fit (ei W 12)
   rintro e p ⟨rfl,c⟩
   obtain⟨bN,cj,cu⟩:=ag.aF (Q.Y.ah c)
   have n:=ae (ah M.Y c)
   clear r F
   go_wp2_with fail
   exact(show bodyPost _ _ _ _ _ (ax p w 0 [oZ,oZ,.int .i64 12,oZ])from dx.fin C.Y (C.Y.more n.Y) (aR _) (Q.Y.ah c) rfl (n.Y.mono E) (gu.ext n.Y) (bg 12) i.Y _ 8 (by kernel_rfl) rfl rfl))
 go_fit (MH W (some ad) m2 h.waits q.Y (by have:=q.Y;have:=lR.Y.waits;omega) I.Y.GP (λx m=>bm (lR.Y.cases x m) af) HX.Y A)
 rintro e p ⟨v,rfl,A4,m4,rfl,X,c⟩
 obtain⟨J,T,V,n⟩:=bh (I.Y.more c) X (Q.Y.ah c) (ah M.Y c)
 clear X c r F S c2 A i1
 obtain⟨r,k,F⟩:=ag.aF J.Y.blk
 go_upto_region 5 with fail
 have hlen:(et h.waits j).length=d:=by rw[Ep];exact q.Y.symm
 have lM:Hid (Dd (ax p g 2 [.slice A4 d m4]) base g {h with waits:=et h.waits j} A1 A4 A3 m1 m4 m3):=by have:=dx.JS J.Y (xs:=et h.waits j) (A4:=A4) (m4:=m4) (by rw[hlen];exact aD.bL T.Y (bm E M.Y.size));rw[hlen]at this;exact this
 have N:=ae (az J.Y.low [.slice A4 d m4] p 2 (n.Y.mono E))
 have rW:=ae ((gu.ext (g:=g) (v1:=.slice A1 h.chans.length m1) (v3:=.slice A3 h.done.length m3) n.Y).Co 2 [.slice A4 d m4])
 have Z:=ae (aX V.Y (b:=w.heap.size) (g:=g) aa [.slice A4 d m4] 2)
 change Code.wp _ _ _ _ (ax p g 2 [.slice A4 d m4])
 clear r k F J T V
 generalize ax p g 2 [.slice A4 d m4]=w3 at *
 go_wp2_with fail
 go_fit (sV w3 lM.Y j (by have:=jf.Y;have:=q.Y;dsimp only;omega) ⟨o,0,11,0⟩)
 rintro e w4 ⟨rfl,y,R,L⟩
 obtain⟨sO,P,xb,ku⟩:=bh y (N.Y.trans R) (rW.Y.trans N.Y.size L.len) (C.Y.keep (aR _) Z.Y L)
 clear y R L lM N rW Z
 go_wp2_with fail
 go_fit (ei w4 0)
 rintro e w5 ⟨rfl,s⟩
 obtain⟨bN,cj,cu⟩:=ag.aF (ku.Y.ah s)
 go_wp2_with fail
 exact(show bodyPost _ _ _ _ _ (ax w5 w 0 [oZ,oZ,oZ,oZ])from dx.fin C.Y (sO.Y.more s) (aR _) (ku.Y.ah s) rfl (P.Y.trans (s.mono (bm E P.Y.size))) (xb.Y.more P.Y.size s) cE i.Y _ 8 (by kernel_rfl) rfl rfl)
abbrev gtB (G:r7) (n:Nat) (B:Option Addr) (d:Nat) (A:Option Addr) (c:Nat) (D:Option Addr) (b:Nat):Obj:=.cells (jh G n B G.c.buf.length d A c D G.told.length b).toArray 159
def pX(w:World)(base g q:Nat)(h:Hl)(l o u:Option Addr)(z C F:Nat)(G:r7)(v:Value)(e:World):Prop :=∃(p:Nat) (B:Option Addr) (d:Nat) (A:Option Addr) (c:Nat) (D:Option Addr) (dd:Nat),v=.pointer (some ⟨p,0,none⟩)/\q<p/\ag e p 159 (jh G h.waits.length B G.c.buf.length d A c D G.told.length dd).toArray/\Dd e base g h l o u z C F/\ag e q 64 #[oZ,oZ,oZ,oZ]/\j9 G h.waits.length w e B d A c D dd/\Below w w e
section
variable{c:Nat}
theorem pX.call(o:Below w w w5)(l:Dd w5 base g h A1 A2 A3 m1 m2 m3)(e:ag w5 q 64 #[oZ,oZ,oZ,oZ])(u:j9 G h.waits.length b' w5 B d A c D dd)(z:w.heap.size<=b'):pX w base g q h A1 A2 A3 m1 m2 m3 G (.pointer w5) (w5.alloc (gtB G h.waits.length B d A c D dd)) :=
 have a:=aj (ai w5) (gtB G h.waits.length B d A c D dd)
 ⟨w5.heap.size,B,d,A,c,D,dd,rfl,e.lt,ag.new _ _ _,l.more a,e.ah a,(u.bL z).more a,ah o a⟩
theorem pX.pre(H:Below w w w5)(C:Dd w5 base g h A1 A2 A3 m1 m2 m3)(F:ag w5 q 64 #[oZ,oZ,oZ,oZ])(l:j9 G h.waits.length b' w5 B d A c D dd)(o:w.heap.size<=b')(z:q<p)(I:w.heap.size<=q)(u:ag w5 p 159 #[oZ,oZ,false,false,oN,oN,oZ,oZ,oZ,oZ,oN]):pX w base g q h A1 A2 A3 m1 m2 m3 G (.pointer (some ⟨p,0,none⟩)) (ax w5 p 0 (jh G h.waits.length B G.c.buf.length d A c D G.told.length dd)):=by obtain⟨T,i⟩:=o7.one (v1:=jh G h.waits.length B G.c.buf.length d A c D G.told.length dd) u rfl;refine⟨p,B,d,A,c,D,dd,rfl,z,i,C.yJ u af af af af af (λb o e=>ba C.done u af (by rw[<-e];exact o.symm)) 0 _,aX F (Nat.ne_of_lt z) _ _,?_,az (bm I (Nat.le_of_lt z)) _ _ _ H⟩;have l:=l.bL o;exact⟨T.rd l.pw (λb o a=>l.Ns b o (λf=>a (by rw[f];rfl))) af af,λb o a=>(T.ty (l.Ns b o a) af af).1,l.cap,T.qR aI l.own af af af af,T.rd l.Se (λb o a=>l.LG b o (λf=>a (by rw[f];rfl))) af af,λb o a=>(T.ty (l.LG b o a) af af).1,l.GJ⟩
end
def lq(h:Hl)(q:Rq):Hl×Rs:=if q.kind=2 then mR h q.arg else if q.kind=4 then mS h q.arg else(h,lZ h q)
theorem nU(w:World)(H:Dd w base g h A1 A2 A3 m1 m2 m3)(hb:GN h)(q:Rq)(D:Option Addr)(ql qd:Nat)(fF:h.done.length=h.waits.length)(hk:q.kind=2\/q.kind=4\/q.kind=5\/q.kind=6) :
 Calls prog 59 #[.pointer g,.agg #[q.kind,q.arg,q.value,q.dflt,.slice D ql qd]] w (MN base g A1 A3 m1 m3 (lq h q) w):=by
 obtain⟨ki,f,J,A,P⟩:=q
 dsimp only at hk
 obtain⟨W,hW⟩:=aw ((w.alloc (.cells #[ki,f,J,A,.slice D ql qd] 38)).alloc ke)
 have dO:Below w w W:=by rw[hW];exact aj (aj (ai w) _) _
 have eW:Hid (ag W w 38 #[ki,f,J,A,.slice D ql qd]):=by rw[hW];exact(ag.new _ _ _).alloc _
 have gC:Hid (ag W (w.heap.size+1) 64 #[oZ,oZ,oZ,oZ]):=by rw[hW];exact ag.newAt _ _ _ aA
 have z:base<=w.heap.size:=bm H.low (Nat.le_of_lt H.blk.lt)
 have B8:g<w.heap.size:=H.blk.lt
 have mf:=ae (λa (u9:Below w w a)=>sU a h.ak A1 m1 h.chans rfl ((H.more u9).xv) (.slice A2 h.waits.length m2) (.slice A3 h.done.length m3) h.waits h.done f)
 obtain⟨m,bJ,HW,lR,oo⟩:=bQ H dO hW hb (H.more dO)
 obtain⟨r,hr⟩:=aw (bP h f)
 have e0:bP ⟨h.ak,h.chans,h.waits,h.done⟩ f=r:=hr.symm
 rw[e0]at mf
 obtain⟨rB,jf⟩:=av hr fF
 clear hr e0 H dO hW hb fF
 have zH:=ae (λa (c:Ext W a)=>mf.Y a (ah bJ.Y c.Y))
 have v:=λa (c:Ext W a) i=>ag.cell (dx.blk (oo.Y.more c.Y)) i
 have O:=λa (c:Ext W a) i=>ag.cell (eW.Y.ah c.Y) i
 have L:=oo.Y.blk.lt
 have eB:=eW.Y.lt
 go_enter func59,ntmps59
 go_upto_region 1 with fail
 rw[<-HW.Y]
 rcases r with _|i
 .go_region_held3(Ext W) (with_reducible(first|assumption|exact Ext.start _)) (((with_reducible go_fit (zH.Y _ (by assumption)));rintro e X ⟨rfl,o⟩;have C:=Ext.to (by assumption) o));have u:Hid (lq h ⟨ki,f,J,A,P⟩=(h,bg 8)):=by
   unfold Hid lq mR mS lZ;rw[<-rB.Y];dsimp only;split
   .rfl
   .split<;>rfl
  have nj:=ae (ah bJ.Y C.Y);have gD:=ae (gC.Y.ah C.Y);clear v O C o zH;go_wp2_with fail;go_fit (ei X 8);rintro e w2 ⟨rfl,Q⟩;obtain⟨bN,cj,cu⟩:=ag.aF (gD.Y.ah Q);have jL:=ae (ah nj.Y Q);go_wp2_with fail;exact(show bodyPost _ _ _ _ _ (ax w2 (w.heap.size+1) 0 [oZ,oZ,.int .i64 8,oZ])from dx.fin m.Y (m.Y.more jL.Y) (bM _) (gD.Y.ah Q) rfl (jL.Y.mono z) (gu.ext jL.Y) (bg 8) u.Y _ 4 (by kernel_rfl) rfl rfl)
 .obtain⟨x,c,hu,a6⟩:=lg rB.Y.symm;clear a6;have BS:x.buf.length<=90000:=lR.Y.buf x (bo c);have aq:fO h i=x:=by unfold fO;rw[ew,c];rfl
  have uv:i<h.chans.length:=bT c;have HX:=ae c;go_region_held3(Ext W) (with_reducible(first|assumption|exact Ext.start _)) (((with_reducible go_fit (zH.Y _ (by assumption)));rintro e X ⟨rfl,o⟩;have C:=Ext.to (by assumption) o));obtain⟨nj,gD,lX,eZ⟩:=bh (ah bJ.Y C.Y) (gC.Y.ah C.Y) (oo.Y.more C.Y) (eW.Y.ah C.Y);clear v O C o zH c;obtain⟨ad,B,d,hA,_,kB,c0,c1,Z,c3,K⟩:=lV.row lX.Y.xv HX.Y;subst hA;rw[hu]at Z;obtain⟨v,a8,-⟩:=ag.aF lX.Y.blk;have L:=lX.Y.blk.lt;obtain⟨N,R⟩:=aw x.buf.length;rw[<-R]at K BS;have i1:(0:Int)<=(i:Int):=aa;have i2:(i:Int)<(h.chans.length:Int):=aa;have ik:=ae kB;have fW:=ae R;have HU:=ae hu;have Mi:=ae aq;clear R kB hu aq a8;go_upto_region 5 with fail
  obtain⟨j,F⟩:=aw (X.alloc (.cells #[.int .i64 x.gen,.int .i64 x.cap,.bool true,.bool x.closed,.slice B N d] 50));have Y:Hid (Below X X j):=by rw[F];exact aj (ai _) _
  have V:Hid (ag j X 50 #[.int .i64 x.gen,.int .i64 x.cap,.bool true,.bool x.closed,.slice B N d]):=by rw[F];exact ag.new _ _ _
  rw[<-F];have Nk:=gD.Y.lt;obtain⟨M,S,t,U,gN⟩:=bQ (ah nj.Y Y.Y) (gD.Y.ah Y.Y) (lX.Y.more Y.Y) (eZ.Y.ah Y.Y) (ik.Y.below Y.Y);clear F v L c0 c1 Z c3 K nj gD lX eZ ik Y i1 i2;obtain⟨kc,GH⟩:=aw X.heap.size;rw[<-GH]at V Nk ⊢;clear GH;rcases hk with rfl|rfl|rfl|rfl
  .have Ct:=ae (λa (c:Ext j a)=>Io a x B N d fW.Y A2 m2 h.waits rfl (bm lR.Y.waits af) ((t.Y.more c.Y).GP) (λy hy=>bm (lR.Y.cases y hy) af) f HU.Y);have u:Hid (lq h ⟨2,f,J,A,P⟩=if ot x f h.waits=false then(h,bg 13)else({h with chans:=h.chans.set i ⟨x.gen,0,false,false,[]⟩},cE)):=by unfold Hid lq mR;rw[ay rfl, <-rB.Y];dsimp only;rw[Mi.Y]
   rw[HU.Y]at Ct;have v:=λa (c:Ext j a) i=>ag.cell (dx.blk (t.Y.more c.Y)) i;have O:=λa (c:Ext j a) i=>ag.cell (U.Y.ah c.Y) i;have k:=λa (c:Ext j a) i=>ag.cell (V.Y.ah c.Y) i;have Qp:=λi=>ag.cell U.Y i;have L:=t.Y.blk.lt;have eB:=U.Y.lt;have fE:=V.Y.lt;go_upto_region 7 with fail
   clear Qp;go_region_held3(Ext j) (with_reducible(first|assumption|exact Ext.start _)) (((with_reducible go_fit (Ct.Y _ (by assumption)));rintro e w4 ⟨rfl,s⟩;have l:=Ext.to (by assumption) s));obtain⟨Bo,ku,I,rI⟩:=bh (ah M.Y l.Y) (S.Y.ah l.Y) (t.Y.more l.Y) (V.Y.ah l.Y);clear v O k l s Ct L eB fE;rcases E:ot x f h.waits with _|_
   .have wg:Hid (lq h ⟨2,f,J,A,P⟩=(h,bg 13)):=by unfold Hid;rw[u.Y,ay E]
    clear E;go_wp2_with fail;go_fit (ei w4 13);rintro e w5 ⟨rfl,dJ⟩;obtain⟨bN,cj,cu⟩:=ag.aF (ku.Y.ah dJ);have nD:=ae (ah Bo.Y dJ);go_wp2_with fail;exact(show bodyPost _ _ _ _ _ (ax w5 (w.heap.size+1) 0 [oZ,oZ,.int .i64 13,oZ])from dx.fin m.Y (m.Y.more nD.Y) (bM _) (ku.Y.ah dJ) rfl (nD.Y.mono z) (gu.ext nD.Y) (bg 13) wg.Y _ 4 (by kernel_rfl) rfl rfl)
   .have wg:Hid (lq h ⟨2,f,J,A,P⟩=({h with chans:=h.chans.set i ⟨x.gen,0,false,false,[]⟩},cE)):=by unfold Hid;rw[u.Y,au (by rw[E];decide)]
    clear E;obtain⟨g1,mm,hv,bz,bE⟩:=I.Y.chans.form (by have:=bo HX.Y;intro he;rw[he]at this;cases this);injection hv with e1 e2 e3
    injection e1 with e1
    subst e1 e3;clear e2;obtain⟨ad,B2,d2,hA,_,_,c0,c1,Z,c3,K⟩:=lV.row I.Y.xv HX.Y;injection hA with hA
    subst hA;have f0:=I.Y.chans.bq (i*5);have f1:=I.Y.chans.bq (i*5+1);have f2:=I.Y.chans.bq (i*5+2);have f3:=I.Y.chans.bq (i*5+3);have f4:=I.Y.chans.bq (i*5+4);rw[lU,Nat.zero_add]at c0 c1 Z c3 K;dsimp only at c1 Z c3 K;have LM:g1<w.heap.size:=m.Y.nY.2.1 g1 rfl;obtain⟨v,-,L⟩:=ag.aF I.Y.blk;obtain⟨k,-,fE⟩:=ag.aF rI.Y;have i1:(0:Int)<=(i:Int):=aa;have i2:(i:Int)<(h.chans.length:Int):=aa;obtain⟨nu,lz,T,oc⟩:=bh ((I.Y.Eg (i:=i) uv ⟨x.gen,0,false,false,[]⟩ none 0 (aR _) (bD.nil _ _ _) (λb hb=>by cases hb)).more (ai _).drew) ((aX ku.Y (b:=w.heap.size+1) (g:=g1) aa [.int .i64 x.gen,oZ,false,false,oN] (i*5)).ah (ai _).drew) (Below.drew (az bz [.int .i64 x.gen,oZ,false,false,oN] w4 (i*5) (Bo.Y.mono z))) (gu.drew (gu.GU (v1:=.slice g1 h.chans.length m1) (v3:=.slice A3 h.done.length m3) (g:=g) (gu.ext Bo.Y) rfl (i*5) [.int .i64 x.gen,oZ,false,false,oN]));go_wp2_with fail;go_region;go_upto_region 10 with fail
    change Code.wp _ _ _ _ (ax w4 g1 (i*5) [.int .i64 x.gen,oZ,false,false,oN]).drew;clear v L k fE c0 c1 Z c3 K f0 f1 f2 f3 f4;generalize(ax w4 g1 (i*5) [.int .i64 x.gen,oZ,false,false,oN]).drew=w5 at *;go_wp2_with fail;go_fit (ei w5 0);rintro e w6 ⟨rfl,n⟩;obtain⟨bN,cj,cu⟩:=ag.aF (lz.Y.ah n);go_wp2_with fail;exact(show bodyPost _ _ _ _ _ (ax w6 (w.heap.size+1) 0 [oZ,oZ,oZ,oZ])from dx.fin m.Y (nu.Y.more n) (bM _) (lz.Y.ah n) rfl (T.Y.trans (n.mono (bm z T.Y.size))) (oc.Y.more T.Y.size n) cE wg.Y _ 4 (by kernel_rfl) rfl rfl)
  .have Hd:=ae (λa (c:Ext j a)=>Ip a x B N d fW.Y BS (gN.Y.below c.Y) A2 m2 h.waits rfl (bm lR.Y.waits af) ((t.Y.more c.Y).GP) lR.Y.cases f HU.Y);have u:Hid (lq h ⟨4,f,J,A,P⟩=({h with chans:=h.chans.set i (kP x f h.waits).c,waits:=(kP x f h.waits).l,done:=fN h.done (kP x f h.waits).told},bg (kP x f h.waits).r.code)):=by unfold Hid lq mS;rw[au (by show ¬(4:Int)=2;decide),ay rfl, <-rB.Y];dsimp only;rw[Mi.Y]
   have He:=ae (JT x f h.waits);rw[HU.Y]at Hd;generalize kP x f h.waits=G at *;have v:=λa (c:Ext j a) i=>ag.cell (dx.blk (t.Y.more c.Y)) i;have O:=λa (c:Ext j a) i=>ag.cell (U.Y.ah c.Y) i;have k:=λa (c:Ext j a) i=>ag.cell (V.Y.ah c.Y) i;have Qp:=λi=>ag.cell U.Y i;have L:=t.Y.blk.lt;have eB:=U.Y.lt;have fE:=V.Y.lt;have uD:=S.Y.lt;have C6:Hid (ag (j.alloc Xe).drew j 159 #[oZ,oZ,false,false,oN,oN,oZ,oZ,oZ,oZ,oN]):=ag.new _ _ _;have hL:w.heap.size<=j.heap.size:=M.Y.size;have tz:Hid (j.heap.size<(j.alloc Xe).drew.heap.size):=C6.Y.lt;go_upto_region 12 with fail
   clear Qp;go_cut[8] (λs8 a=>pX w base g (w.heap.size+1) h (some ad) A2 A3 m1 m2 m3 G s8 a);case first =>
    go_region_held3(Ext j) (with_reducible(repeat(first|assumption|exact Ext.start _|exact Ext.iD _ _|refine Ext.alloc ?_ _|refine Ext.set ?_ (by simp;try omega)))) (((with_reducible refine(Hd.Y _ (by assumption)).mono ?_);rintro e w4 ⟨B4,d4,A4,K,D4,a7,rfl,hP,s⟩;unfold jh;have l:=Ext.to (by assumption) s;have HP:=ae hP;(try(have rI:=ae (C6.Y.ah s);have fy:=λi=>ag.cell rI.Y i;have Ji:=λi=>ag.free rI.Y i;have EP:=ag.lt rI.Y));clear hP))
    .go_wp2;go_meet;exact pX.call (ah M.Y l.Y) (t.Y.more l.Y) (S.Y.ah l.Y) HP.Y hL
    .go_wp2;go_meet;exact(show pX _ _ _ _ _ _ _ _ _ _ _ _ _ (ax w4 j.heap.size 0 (jh G h.waits.length B4 G.c.buf.length d4 A4 K D4 G.told.length a7))from pX.pre (ah M.Y l.Y) (t.Y.more l.Y) (S.Y.ah l.Y) HP.Y (bm hL (Nat.le_of_lt tz.Y)) uD (bM _) rI.Y)
   case rest=>obtain⟨p,B5,d5,A5,c5,D5,b5,rfl,hp,hK,hV,hQ,hP,hB⟩:=hcut;have JV:=ae (Bp wc hV uv hP z He.Y.len.symm (by have:=He.Y.told;have:=lR.Y.waits;omega) (λy hy=>by rw[jf.Y];exact He.Y.th y hy));obtain⟨rG,ku,fh⟩:=aS hK hQ hB;clear v O k L eB fE uD C6 hL tz Hd hK hV hQ hP hB;obtain⟨fy,-,EP⟩:=ag.aF rG.Y;unfold jh at fy;go_wp2_with fail;unfold jh at JV;go_fit JV.Y;rintro e w5 ⟨rfl,WK,JU,Ir⟩;obtain⟨nu,lz,qT,T,oc⟩:=bQ WK (m.Y.keep (bM _) ku.Y Ir) (m.Y.keep (by omega) rG.Y Ir) ((fh.Y.mono z).trans JU) ((gu.ext (v1:=.slice (some ad) h.chans.length m1) (v3:=.slice A3 h.done.length m3) fh.Y).trans fh.Y.size Ir.len);clear fy EP WK JU Ir ku rG fh JV;obtain⟨fy,-,EP⟩:=ag.aF qT.Y;unfold jh at fy;go_wp2_with fail;go_fit (ei w5 G.r.code);rintro e w6 ⟨rfl,n⟩;clear fy EP;obtain⟨bN,cj,cu⟩:=ag.aF (lz.Y.ah n);go_wp2_with fail;exact(show bodyPost _ _ _ _ _ (ax w6 (w.heap.size+1) 0 [oZ,oZ,.int .i64 G.r.code,oZ])from dx.fin m.Y (nu.Y.more n) (bM _) (lz.Y.ah n) rfl (T.Y.trans (n.mono (bm z T.Y.size))) (oc.Y.more T.Y.size n) (bg G.r.code) u.Y _ 4 (by kernel_rfl) rfl rfl)
  all_goals
   obtain⟨O,-,eB⟩:=ag.aF U.Y;obtain⟨k,-,fE⟩:=ag.aF V.Y;obtain⟨bN,cj,cu⟩:=ag.aF S.Y;go_wp2_with fail
  .have u:Hid (lq h ⟨5,f,J,A,P⟩=(h,⟨0,0,0,N⟩)):=by unfold Hid lq lZ;rw[au (by show ¬(5:Int)=2;decide),au (by show ¬(5:Int)=4;decide), <-rB.Y];dsimp only;rw[au (by decide),Mi.Y, <-fW.Y]
   exact(show bodyPost _ _ _ _ _ (ax j (w.heap.size+1) 0 [oZ,oZ,oZ,.int .i64 N])from dx.fin m.Y t.Y (bM _) S.Y rfl (M.Y.mono z) (gu.ext M.Y) ⟨0,0,0,N⟩ u.Y _ 4 (by kernel_rfl) rfl rfl)
  .have u:Hid (lq h ⟨6,f,J,A,P⟩=(h,⟨0,0,0,x.cap⟩)):=by unfold Hid lq lZ;rw[au (by show ¬(6:Int)=2;decide),au (by show ¬(6:Int)=4;decide), <-rB.Y];dsimp only;rw[ay rfl,Mi.Y]
   exact(show bodyPost _ _ _ _ _ (ax j (w.heap.size+1) 0 [oZ,oZ,oZ,.int .i64 x.cap])from dx.fin m.Y t.Y (bM _) S.Y rfl (M.Y.mono z) (gu.ext M.Y) ⟨0,0,0,x.cap⟩ u.Y _ 4 (by kernel_rfl) rfl rfl)
theorem all_some(e:List Cs):(e.all λk=>(bP h k.2.1).isSome)= !(e.any λk=>(bP h k.2.1).isNone):=by
 induction e with
 |nil=>rfl
 |cons k e a=>rw[List.all_cons,List.any_cons,a];cases bP h k.2.1<;>rfl
theorem CC(w:World)(H:Dd w base g h A1 A2 A3 m1 m2 m3)(M:GN h)(q:Rq)(D:Option Addr)(u qd:Nat)(qf:u=q.cases.length)(hr:cN w bj D q.cases)(hq:Mo.bt q=true)(fF:h.done.length=h.waits.length){sq:Int}(ht:t<h.waits.length)(uw:0<=h.ak/\h.ak<=4294967295) :
 Calls prog 58 #[.pointer g,t,sq,.agg #[q.kind,q.arg,q.value,q.dflt,.slice D u qd]] w (MN base g A1 A3 m1 m3 (cQ h t sq q) w):=by
 have P:=gY.1 hq
 have uD:u<=3:=by have:=P.2.2.2.1;omega
 obtain⟨W,hW⟩:=aw ((w.alloc (lQ q D u qd)).alloc ke)
 have dO:Below w w W:=by rw[hW];exact aj (aj (ai w) _) _
 have eW:Hid (ag W w 38 #[q.kind,q.arg,q.value,q.dflt,.slice D u qd]):=by rw[hW];exact(ag.new _ _ _).alloc _
 have gC:Hid (ag W (w+1) 64 #[oZ,oZ,oZ,oZ]):=by rw[hW];exact ag.newAt _ _ _ aA
 have R:base<=w:=bm H.low (Nat.le_of_lt H.blk.lt)
 have B8:g<w:=H.blk.lt
 obtain⟨E,bJ,HW,lR,oo,HM⟩:=cS H dO hW M (H.more dO) P.2.2.2.2
 obtain⟨jf,HN,HR,HT,H3⟩:=bQ fF qf hr ht P.2.2.2.1
 have Nk:=gC.lt
 clear H M hr hq qf fF ht P dO hW
 by_cases h0:q.cases=[]
 .have WI:u=0:=by have:=HN.Y;rw[h0]at this;exact this
  subst WI;have o:Hid (cQ h t sq q=(h,bg 1)):=by unfold Hid cQ;rw[h0];rfl
  clear h0;obtain⟨n,-,s⟩:=ag.aF eW;go_enter func58,ntmps58;go_upto_region 1 with fail
  rw[<-HW.Y];go_wp2_with fail;go_fit (ei W 1);rintro e w2 ⟨rfl,c⟩;obtain⟨bN,P,cu⟩:=ag.aF (gC.ah c);have A:=ae (ah bJ c);clear n s;go_wp2;exact(show bodyPost _ _ _ _ _ (ax w2 (w+1) 0 [oZ,oZ,.int .i64 1,oZ])from dx.fin E (E.more A) (bM _) (gC.ah c) rfl (A.mono R) (gu.ext A) (bg 1) o _ 8 gG rfl rfl)
 .have dz:0<u:=by have:=HN.Y;have:=List.length_pos_iff.2 h0;omega
  have q0:¬(u:Int)<1:=aa;have q3:¬(3:Int)<u:=aa;have H0:=ae h0;have n:=λi=>ag.cell eW i;have s:=eW.lt;clear h0;go_enter func58,ntmps58;go_upto_region 1 with fail
  rw[<-HW.Y];go_wp2_with fail;clear n s;go_loopw[9,35] (λgd i wr=>∃(j:Nat) (b:Bool),j<=u/\i=j/\gd=b/\Hid (Below W W wr)/\Hid (b=(q.cases.take j).all λk=>(bP h k.2.1).isSome)) (λ_ i _=>u-(intOf i).toNat);case atStart=>exact⟨0,true,aZ _,rfl,rfl,ai W,rfl⟩
  case round =>
   obtain⟨j,b,hj,rfl,rfl,X,o⟩:=hrel;by_cases bE:j<u
   .obtain⟨ad,z,hA,hz,hcell⟩:=cN.at_ cM af (HR.below (ah bJ X)) (i:=j) (by rw[<-HN.Y];exact bE);have dm:=jH.1 (HM z (bo hz));have c0:=hcell 0 _ rfl;have c1:=hcell 1 _ rfl;have Y:=hcell 2 _ rfl;simp only[add_zero]at c0;rw[add_lit _ _ af]at c1 Y;subst hA;obtain⟨J,U⟩:=aw (wr.alloc (.cells #[z.1,z.2.1,z.2.2] 101));have T:Hid (Below W W J):=by rw[U];exact aj X _
    have Nv:Hid (ag J wr 101 #[z.1,z.2.1,z.2.2]):=by rw[U];exact ag.new _ _ _
    have e1:¬z.1<1:=aa;have e2:¬2<z.1:=aa;have e3:¬z.2.2<0:=aa;have e4:¬(4294967295:Int)<z.2.2:=aa;have b5:Hid ((q.cases.take (j+1)).all (λk=>(bP h k.2.1).isSome)=(b && (bP h z.2.1).isSome)):=by unfold Hid;rw[List.take_add_one,hz,List.all_append, <-o.Y];simp
    have ZL:=ae U;clear dm hcell hz U;go_upto_region 7 with fail
    rw[<-ZL.Y];obtain⟨n,-,s⟩:=ag.aF Nv;clear c0 c1 Y;go_upto_region 9 with fail
    clear n;have zH:=ae (λa (f:Ext J a)=>sU a h.ak A1 m1 h.chans rfl ((oo.more (ah T f.Y)).xv) (.slice A2 h.waits.length m2) (.slice A3 h.done.length m3) h.waits h.done z.2.1);have K:=λa (f:Ext J a) i=>ag.cell (dx.blk (oo.more (ah T f.Y))) i;have n:=λa (f:Ext J a) i=>ag.cell (Nv.ah f.Y) i;have L:=(oo.more T).blk.lt;obtain⟨fo,Ez⟩:=aw (bP h z.2.1);have e9:bP ⟨h.ak,h.chans,h.waits,h.done⟩ z.2.1=fo:=Ez.symm;rw[e9]at zH;rw[<-Ez]at b5;clear e9 Ez e1 e2 e3 e4;go_region_held3(Ext J) (with_reducible(first|assumption|exact Ext.start _)) (((with_reducible go_fit (zH.Y _ aN));rintro e w1 ⟨rfl,m⟩;have l:=Ext.to aN m));have nj:=ae (ah T l.Y);clear l m K n zH L s;generalize fo.getD 0=fi at *;generalize fo.isSome=fs at *;cases b
    all_goals
     go_wp2;go_roundw;case rel=>exact⟨j+1,_,aa,by go_num,rfl,nj,b5.symm⟩
     case measure=>simp[intOf];omega
   .have o:Hid (b=q.cases.all λk=>(bP h k.2.1).isSome):=by
     have:=o.Y;rw[List.take_of_length_le (by have:=HN.Y;omega)]at this;exact this
    obtain⟨nj,gD,lX,eZ⟩:=bh (ah bJ X) (gC.ah X) (oo.more X) (eW.ah X)
    have HC:Hid (ed h q.cases=if b=true then 0 else 8):=by unfold Hid;rw[vp H0.Y H3.Y HM.Y,o.Y,all_some];cases(q.cases.any λk=>(bP h k.2.1).isNone)<;>rfl
    clear X
    cases b
    .have o:Hid (cQ h t sq q=(h,bg 8)):=by unfold Hid cQ;rw[HC.Y];rfl
     go_wp2_with fail;go_fit (ei wr 8);rintro e w2 ⟨rfl,c⟩;obtain⟨bN,P,cu⟩:=ag.aF (gD.ah c);have A:=ae (ah nj c);go_wp2;exact(show bodyPost _ _ _ _ _ (ax w2 (w+1) 0 [oZ,oZ,.int .i64 8,oZ])from dx.fin E (E.more A) (bM _) (gD.ah c) rfl (A.mono R) (gu.ext A) (bg 8) o _ 8 gG rfl rfl)
    .have HE:Hid (ed h q.cases=0):=HC.Y;generalize wr=w0 at nj gD lX eZ ⊢;clear HC o;obtain⟨n,-,s⟩:=ag.aF eZ;go_wp2_with fail;clear n s;go_loopw[78] (λi wr=>∃j:Nat,j<=u/\i=j/\Hid (Below w w wr)/\Hid (ag wr (w+1) 64 #[oZ,oZ,oZ,oZ])/\Hid (Dd wr base g h A1 A2 A3 m1 m2 m3)/\Hid (ag wr w 38 #[q.kind,q.arg,q.value,q.dflt,.slice D u qd])/\Hid (Es h q.cases j)) (λi _=>u-(intOf i).toNat);case atStart=>exact⟨0,aZ _,rfl,nj,gD,lX,eZ,λi z h=>absurd h (Nat.not_lt_zero _)⟩
     case round =>
      clear nj gD lX eZ;obtain⟨j,hj,rfl,A,gO,sN,iH,KS⟩:=hrel;by_cases bE:j<u
      .obtain⟨ad,z,hA,hz,hcell⟩:=cN.at_ cM af (HR.below A) (i:=j) (by rw[<-HN.Y];exact bE);have qc:z.1=1\/z.1=2:=(jH.1 (HM z (bo hz))).1;have c0:=hcell 0 _ rfl;have c1:=hcell 1 _ rfl;have Y:=hcell 2 _ rfl;simp only[add_zero]at c0;rw[add_lit _ _ af]at c1 Y;subst hA;obtain⟨i,bz⟩:=Bi HE (bo hz);obtain⟨x,f,hu,cz⟩:=lg bz;clear cz;have cy:fO h i=x:=by unfold fO;rw[ew,f];rfl
       obtain⟨HZ,HD,V,X,Mi⟩:=bQ hz qc bz f cy;obtain⟨J,U⟩:=aw (wr.alloc (.cells #[z.1,z.2.1,z.2.2] 101));have T:Hid (Below wr wr J):=by rw[U];exact aj (ai _) _
       have Nv:Hid (ag J wr 101 #[z.1,z.2.1,z.2.2]):=by rw[U];exact ag.new _ _ _
       have ZL:=ae U;have uv:i<h.chans.length:=bT f;have BS:x.buf.length<=90000:=lR.buf x (bo f);clear hcell hz qc bz cy f U;go_upto_region 17 with fail
       rw[<-ZL.Y];obtain⟨S,iG,lM,mq⟩:=bh (ah A T) (gO.ah T) (sN.more T) (iH.ah T);have zH:=ae (λa (f:Ext J a)=>sU a h.ak A1 m1 h.chans rfl ((lM.more f.Y).xv) (.slice A2 h.waits.length m2) (.slice A3 h.done.length m3) h.waits h.done z.2.1);have e9:bP ⟨h.ak,h.chans,h.waits,h.done⟩ z.2.1=some i:=V.Y;rw[e9]at zH;have K:=λa (f:Ext J a) i=>ag.cell (dx.blk (lM.more f.Y)) i;have n:=λa (f:Ext J a) i=>ag.cell (Nv.ah f.Y) i;have L:=lM.blk.lt;have s:=Nv.lt;clear e9 c0 c1 Y A gO sN iH ZL T;go_region_held3(Ext J) (with_reducible(first|assumption|exact Ext.start _)) (((with_reducible go_fit (zH.Y _ aN));rintro e F ⟨rfl,m⟩;have l:=Ext.to aN m));obtain⟨Bo,ku,sO,rG,X5⟩:=bQ (ah S l.Y) (iG.ah l.Y) (lM.more l.Y) (Nv.ah l.Y) (mq.ah l.Y);clear l m K n zH S iG lM Nv mq L s;obtain⟨cv,B,d,hA,_,kB,c0,c1,Y,c3,c4⟩:=lV.row sO.xv X;subst hA;obtain⟨bl,aq⟩:=aw x.buf.length;obtain⟨UC,LH⟩:=av (λa (C:Ext F a)=>wJ a x B bl d aq hu A2 m2 h.waits rfl (bm lR.waits af) (sO.more C.Y).GP (λy C=>bm (lR.cases y C) af) z.2.1 z.1 HD) (λa (C:Ext F a)=>QN a x B bl d aq aa (kB.below C.Y) A2 m2 h.waits rfl (bm lR.waits af) (sO.more C.Y).GP lR.cases z.2.1 z.1 z.2.2 hu HD);rw[<-aq]at c4;rw[hu]at Y UC LH;have i1:(0:Int)<=(i:Int):=aa;have i2:(i:Int)<(h.chans.length:Int):=aa;clear aq kB hu;go_wp2_with fail;have K:=λa (f:Ext F a) i=>ag.cell (dx.blk (sO.more f.Y)) i;have n:=λa (f:Ext F a) i=>ag.cell (rG.ah f.Y) i;have d0:=λa (f:Ext F a)=>f.cell c0;have d1:=λa (f:Ext F a)=>f.cell c1;have d2:=λa (f:Ext F a)=>f.cell Y;have d3:=λa (f:Ext F a)=>f.cell c3;have d4:=λa (f:Ext F a)=>f.cell c4;have L:=sO.blk.lt;have s:=rG.lt;clear c0 c1 Y c3 c4;go_region_held3(Ext F) (with_reducible(first|assumption|exact Ext.start _)) (((with_reducible go_fit (UC.Y _ aN));rintro e Q ⟨rfl,m⟩;have l:=Ext.to aN m));obtain⟨nD,lz,nu,qT,b6⟩:=bQ (ah Bo l.Y) (ku.ah l.Y) (sO.more l.Y) (rG.ah l.Y) (X5.ah l.Y);rcases kB:cX x z.2.1 h.waits z.1 with _|_
       .have jC:Hid (cX (fO h ((bP h z.2.1).getD 0)) z.2.1 h.waits z.1=false):=by unfold Hid;rw[V.Y];dsimp only[Option.getD_some];rw[Mi.Y];exact kB
        clear kB l m K n d0 d1 d2 d3 d4 L s;go_wp2;go_roundw;case rel=>exact⟨j+1,aa,by go_num,nD,lz,nu,b6,KS.next HZ jC⟩
        case measure=>simp[intOf];omega
       .have o:Hid (cQ h t sq q=wO h j z):=yL HE KS HZ (by rw[V.Y];dsimp only[Option.getD_some];rw[Mi.Y];exact kB);have He:=ae (WE x z.2.1 h.waits z.1 z.2.2);have cD:Hid (wO h j z=({h with chans:=h.chans.set i (nz x z.2.1 h.waits z.1 z.2.2).c,waits:=(nz x z.2.1 h.waits z.1 z.2.2).l,done:=fN h.done (nz x z.2.1 h.waits z.1 z.2.2).told},{(nz x z.2.1 h.waits z.1 z.2.2).r with cs:=j})):=by unfold Hid wO;rw[V.Y];dsimp only[Option.getD_some];rw[Mi.Y]
        generalize nz x z.2.1 h.waits z.1 z.2.2=G at *;have C6:Hid (ag (Q.alloc Xe).drew Q 159 #[oZ,oZ,false,false,oN,oN,oZ,oZ,oZ,oZ,oN]):=ag.new _ _ _;have hL:w.heap.size<=Q.heap.size:=nD.Y.size;have tz:Hid (Q.heap.size<(Q.alloc Xe).drew.heap.size):=C6.Y.lt;have uD:=lz.Y.lt;have Sv:Ext F Q.drew:=Below.drew (Ext.Y l);have dg:Ext F (Q.alloc Xe).drew:=Below.drew (aj (Ext.Y l) _);have cO:F<=Q.heap.size:=l.Y.size;clear kB m l;go_upto_region 19 with fail
        go_cut[18] (λdw a=>pX w base g (w.heap.size+1) h (some cv) A2 A3 m1 m2 m3 G dw a);case first =>
         go_region_held3(Ext F) (with_reducible(repeat(first|assumption|refine Ext.alloc ?_ _|refine Ext.set ?_ (by simp;try omega)))) (((with_reducible refine(LH.Y _ (by assumption)).mono ?_);rintro e w4 ⟨B4,d4,A4,c4,D4,df,rfl,hP,Z⟩;unfold jh;have xd:=Ext.to (by assumption) Z;have HP:=ae hP;(try(have rI:=ae (C6.Y.ah Z);have fy:=λi=>ag.cell rI.Y i;have Ji:=λi=>ag.free rI.Y i;have EP:=ag.lt rI.Y));clear hP))
         .go_wp2;go_meet;have M:=ah (ai Q).drew Z;exact pX.call (ah nD M) (nu.more M) (lz.ah M) HP hL
         .go_wp2;go_meet;have M:=ah (aj (ai Q) Xe).drew Z;exact(show pX _ _ _ _ _ _ _ _ _ _ _ _ _ (ax w4 Q 0 (jh G h.waits.length B4 G.c.buf.length d4 A4 c4 D4 G.told.length df))from pX.pre (ah nD M) (nu.more M) (lz.ah M) HP (bm hL (Nat.le_of_lt tz)) uD (bM _) rI)
        case rest =>
         obtain⟨p,B5,d5,A5,c5,D5,dy,rfl,hp,hK,hV,hQ,hP,hB⟩:=hcut;have JV:=ae (Bp wc hV uv hP R He.len.symm (by have:=He.told;have:=lR.waits;omega) (λy C=>by rw[jf.Y];exact He.th y C));obtain⟨a6,O,nJ⟩:=aS hK hQ hB;clear K n L s d0 d1 d2 d3 d4 uD C6 hL tz LH UC Sv dg cO hK hV hQ hP hB nD lz nu qT b6 Bo ku sO rG X5;obtain⟨fy,-,EP⟩:=ag.aF a6;unfold jh at fy;go_wp2_with fail;unfold jh at JV;go_fit JV.Y;rintro e w5 ⟨rfl,WK,JU,Ir⟩;obtain⟨a8,b7,N,zE,vE⟩:=bQ WK (E.keep (bM _) O Ir) (E.keep aa a6 Ir) ((nJ.mono R).trans JU) ((gu.ext (v1:=.slice (some cv) h.chans.length m1) (v3:=.slice A3 h.done.length m3) nJ).trans nJ.size Ir.len);clear fy EP WK JU Ir O a6 nJ JV;obtain⟨fy,Ji,EP⟩:=ag.aF N;unfold jh at fy;obtain⟨cF,b8,a7,GI,ZM⟩:=bQ (dx.yJ a8 N af af af af af (λb M e=>ba a8.done N af (by rw[<-e];exact M.symm)) 7 [j]) (aX b7 (Nat.ne_of_lt hp) [j] 7) (N.bp 7 j) (show Below base w (ax w5 p 7 [j])from az aa _ _ _ zE) (vE.new (q:=p) aa 7 [j]);go_upto_region 22 with fail
         change Code.wp _ _ _ _ (ax w5 p 7 [j]);have a7:Hid (ag (ax w5 p 7 [j]) p 159 _):=a7.Y;clear fy Ji EP a8 b7 N zE vE;generalize ax w5 p 7 [j]=w6 at *;obtain⟨fy,-,EP⟩:=ag.aF a7;unfold jh at fy;obtain⟨bN,P,cu⟩:=ag.aF b8;go_wp2;exact(show bodyPost _ _ _ _ _ (ax w6 (w+1) 0 [G.r.seq,j,G.r.code,G.r.value])from dx.fin E cF (bM _) b8 rfl GI ZM ⟨G.r.seq,j,G.r.code,G.r.value⟩ (by rw[o.Y,cD.Y]) _ 8 gG rfl rfl)
      .have uY:j=q.cases.length:=by have:=HN.Y;omega
       have HC:=ae (wm (t:=t) (seq:=sq) HE (by rw[<-uY];exact KS.Y));clear uY;obtain⟨n,-,s⟩:=ag.aF iH;obtain⟨K,-,L⟩:=ag.aF sN.blk;clear KS;rcases r:q.dflt with _|_
       .rw[r]at n;by_cases I:4294967295<=h.ak
        .have d1:decide (4294967295<=h.ak)=true:=cg I;have o:Hid (cQ h t sq q=(h,bg 7)):=by unfold Hid;rw[HC.Y,au (by rw[r];decide),ay I]
         clear r I;go_wp2_with fail;go_fit (ei wr 7);rintro e w2 ⟨rfl,c⟩;obtain⟨bN,P,cu⟩:=ag.aF (gO.ah c);have S:=ae (ah A c);clear n s K L;go_wp2;exact(show bodyPost _ _ _ _ _ (ax w2 (w+1) 0 [oZ,oZ,.int .i64 7,oZ])from dx.fin E (E.more S) (bM _) (gO.ah c) rfl (S.mono R) (gu.ext S) (bg 7) o _ 8 gG rfl rfl)
        .have d1:decide (4294967295<=h.ak)=false:=bF I;obtain⟨y,C⟩:∃y,h.waits[t]?=some y:=⟨_,cq HT⟩
         obtain⟨HY,JV⟩:=av C (λa (f:Ext wr a)=>MI a A2 m2 h.waits rfl (bm lR.waits af) (sN.more f.Y).GP (λy C=>bm (lR.cases y C) af) C h.ak sq q.cases D u qd HN aa (HR.below (ah A f.Y)));have np:Hid (cQ h t sq q=if y.on=true then(h,bg 13)else({h with waits:=h.waits.set t ⟨true,h.ak,sq,q.cases⟩,ak:=h.ak+1},bg 14)):=by unfold Hid;rw[HC.Y,au (by rw[r];decide),au I];unfold zR;rw[au aa,fR,C];dsimp only;cases y.on<;>rfl
         have cR:=λa (f:Ext wr a) i=>ag.cell (dx.blk (sN.more f.Y)) i;have dc:=λa (f:Ext wr a) i=>ag.cell (iH.ah f.Y) i;clear r I C HC;go_upto_region 28 with fail
         clear n K;go_region_held3(Ext wr) (with_reducible(first|assumption|exact Ext.start _)) (((with_reducible go_fit (JV.Y _ aN));rintro e w5 ⟨v,rfl,A5,m5,rfl,cw,m⟩;have l:=Ext.to aN m;have T9:=ae cw;clear cw));obtain⟨nD,lz,nu⟩:=aS (ah A l.Y) (gO.ah l.Y) (sN.more l.Y);clear l m cR dc JV s L;rcases jq:y.on with _|_
         .rw[jq]at np T9;have e5:IntKind.i64.wrap (h.ak+1)=h.ak+1:=bH _ aa;have FC:(h.waits.set t ⟨true,h.ak,sq,q.cases⟩).length=h.waits.length:=dN;have Wx:=ae (T9.bL (base':=base) (bm R A.size));rw[au af, <-FC]at Wx;obtain⟨ct,O,nJ,C7⟩:=bh (nu.WJ Wx (h.ak+1)) ((aX lz (b:=w+1) (g:=g) aa [.slice A5 h.waits.length m5] 2).b9 (p:=⟨g,0,none⟩) (by show w+1≠g;omega) (.int .i64 (h.ak+1))) ((az nu.low [.slice A5 h.waits.length m5] _ 2 (nD.mono R)).setCell (p:=⟨g,0,none⟩) nu.low (.int .i64 (h.ak+1))) (((gu.ext (v1:=.slice A1 h.chans.length m1) (v3:=.slice A3 h.done.length m3) (g:=g) nD).Co 2 [.slice A5 h.waits.length m5]).Co 0 [.int .i64 (h.ak+1)]);rw[FC]at ct;obtain⟨K,dh,L⟩:=ag.aF nu.blk;go_upto_region 33 with fail
          clear K dh L;change Code.wp _ _ _ _ ((ax w5 g 2 [.slice A5 h.waits.length m5]).setCell ⟨g,0,none⟩ (.int .i64 (h.ak+1)));have C7:Hid (gu w g (.slice A1 h.chans.length m1) (.slice A3 h.done.length m3) ((ax w5 g 2 [.slice A5 h.waits.length m5]).setCell ⟨g,0,none⟩ (.int .i64 (h.ak+1)))):=C7.Y;generalize(ax w5 g 2 [.slice A5 h.waits.length m5]).setCell ⟨g,0,none⟩ (.int .i64 (h.ak+1))=w6 at *;go_wp2_with fail;go_fit (ei w6 14);rintro e w7 ⟨rfl,qU⟩;obtain⟨bN,P,cu⟩:=ag.aF (O.ah qU);go_wp2;exact(show bodyPost _ _ _ _ _ (ax w7 (w+1) 0 [oZ,oZ,.int .i64 14,oZ])from dx.fin E (ct.more qU) (bM _) (O.ah qU) rfl (nJ.trans (qU.mono (bm R nJ.size))) (C7.more nJ.size qU) (bg 14) np _ 8 gG rfl rfl)
         .rw[jq]at np;have o:Hid (cQ h t sq q=(h,bg 13)):=np.Y;go_wp2_with fail;go_fit (ei w5 13);rintro e w2 ⟨rfl,c⟩;obtain⟨bN,P,cu⟩:=ag.aF (lz.ah c);have Fz:=ae (ah nD c);go_wp2;exact(show bodyPost _ _ _ _ _ (ax w2 (w+1) 0 [oZ,oZ,.int .i64 13,oZ])from dx.fin E (E.more Fz) (bM _) (lz.ah c) rfl (Fz.mono R) (gu.ext Fz) (bg 13) o _ 8 gG rfl rfl)
       .rw[r]at n;have o:Hid (cQ h t sq q=(h,bg 10)):=by unfold Hid;rw[HC.Y,ay r]
        clear r;go_wp2_with fail;go_fit (ei wr 10);rintro e w2 ⟨rfl,c⟩;obtain⟨bN,P,cu⟩:=ag.aF (gO.ah c);have S:=ae (ah A c);clear n s K L;go_wp2;exact(show bodyPost _ _ _ _ _ (ax w2 (w+1) 0 [oZ,oZ,.int .i64 10,oZ])from dx.fin E (E.more S) (bM _) (gO.ah c) rfl (S.mono R) (gu.ext S) (bg 10) o _ 8 gG rfl rfl)
theorem MO(h:aV c=true)(e:c.kind=3):1<=c.chans:=by unfold aV nI at h;rw[au (by omega),ay e]at h;simp only[eT]at h;exact(NI h.2.1.1.1.1).1
theorem yZ{o:Nat}{t:TypeId}{u:Array Value}(l:ag w g t u)(h:w.cell? ⟨g,o,none⟩=some v):w.setCell ⟨g,o,none⟩ v=w:=by
 have e:(w.setCell ⟨g,o,none⟩ v).heap=w.heap:=by
  apply Array.ext_getElem?;intro b;by_cases c:b=g
  .subst c;have a:=l.bp o v;rw[l.cell]at h;unfold ag at l a;rw[a,l];congr 2;obtain⟨d,e⟩:=Array.getElem?_eq_some_iff.1 h;rw[<-e];apply Array.ext_getElem?;intro i;rw[Array.getElem?_setIfInBounds];split
   .rename_i e;subst e;simp[d]
   .rfl
  .exact dE _ _ _ _ c
 unfold World.setCell at e ⊢;cases w
 dsimp only at e ⊢;rw[e]
theorem QQ{o:Nat}{t:TypeId}{z:Array Value}(u:ag w g t z)(e:w.cell? ⟨g,o+3,none⟩=some v3)(l:w.cell? ⟨g,o+4,none⟩=some v4)(a b c:Value):ax w g o [a,b,c,v3,v4]=ax w g o [a,b,c]:=by have d:ag (ax w g o [a,b,c]) g t _:=((u.bp o a).bp (o+1) b).bp (o+2) c;rw[u.cell]at e l;show((ax w g o [a,b,c]).setCell ⟨g,o+3,none⟩ v3).setCell ⟨g,o+4,none⟩ v4=_;rw[yZ d (by rw[d.cell];simp[Array.getElem?_setIfInBounds,e]),yZ d (by rw[d.cell];simp[Array.getElem?_setIfInBounds,l])]
theorem ES(w:World)(hc:aV c=true)(hk:c.kind=3)(hn:n=c.start.length)(hr:bD w .i64 A c.start) :
 Calls prog 24 #[.agg #[c.kind,c.threads,c.chans,c.cap,c.nodes,c.aP,c.aB,c.tags,c.bw,c.bn,.slice A n k]] w (Nx (eb c) w):=by
 have C:=Mo.aO hc
 have hs:(c.start.length:Int)<=c.chans:=by exact WL
 have b1:0<=c.chans:=C.2.2.2.2.2.2.2.1
 have b2:c.chans<=8:=C.2.2.2.2.2.2.2.2
 have b3:1<=c.threads:=C.1.1
 have b4:c.threads<=64:=C.1.2
 have a0:1<=c.chans:=MO hc hk
 have a1:¬8<c.chans:=aa
 have a2:(0:Int)<c.chans:=aa
 have a3:¬64<c.threads:=aa
 have a4:(0:Int)<c.threads:=aa
 obtain⟨I,HS,X⟩:=aS hn hs hr
 clear C hs hn hr hc hk
 have Y:Hid (Below w w ((w.alloc (dB c A n k)).alloc sj)):=aj (aj (ai w) _) _
 have P:Hid (ag ((w.alloc (dB c A n k)).alloc sj) w 24 #[c.kind,c.threads,c.chans,c.cap,c.nodes,c.aP,c.aB,c.tags,c.bw,c.bn,.slice A n k]):=(ag.new _ _ _).alloc _
 have V:Hid (ag ((w.alloc (dB c A n k)).alloc sj) (w.heap.size+1) 45 #[oZ,oN,oN,oN]):=(ag.newAt _ _ _ aA)
 have oJ:((w.alloc (dB c A n k)).alloc sj).heap.size=w.heap.size+1+1:=aA
 obtain⟨U,s⟩:=aw ((w.alloc (dB c A n k)).alloc sj)
 go_enter func24,ntmps24
 go_wp2_with fail
 rw[<-s]at Y P V oJ ⊢
 have Zf:=ae s
 clear s
 obtain⟨F,-,fE⟩:=ag.aF P
 go_quiet(fail)
 generalize hw:World.drewN U _=w1
 have nj:Hid (Ext U w1):=by rw[<-hw];exact bZ (ai U) _
 clear hw F fE
 go_wp2
 go_cut[5] (λs5 wx=>StC w w1 c s5 wx)
 case first=>exact WM
 case rest =>
  obtain⟨g1,g2,g3,p,rfl,L,nA,a6,a7,C,a8,La,BQ,Mp,hX⟩:=hcut;have J:=ae (nj.to hX.Y);have t:=ae (ah Y J.Y);have hO:qZ wc (w.heap.size+2) ⟨0,C8 c c.chans.toNat 0,List.replicate c.threads.toNat fU,List.replicate c.threads.toNat cE⟩ g1 g2 g3 c.chans.toNat c.threads.toNat c.threads.toNat c.chans.toNat c.threads.toNat c.threads.toNat:=by exact WN
  obtain⟨a,E,l,f⟩:=bh hO L (V.ah J.Y) (P.ah J.Y);clear hO L La BQ Mp hX nj V P;have H0:=ae (show(c.start.length:Int)<=c.chans from HS.Y);go_wp2_with fail;go_loopw[6] (λi wr=>∃j:Nat,j<=n/\i=j/\Hid (qZ wr (w.heap.size+2) ⟨0,C8 c c.chans.toNat j,List.replicate c.threads.toNat fU,List.replicate c.threads.toNat cE⟩ (some ⟨g1,0,none⟩) (some ⟨g2,0,none⟩) (some ⟨g3,0,none⟩) c.chans.toNat c.threads.toNat c.threads.toNat c.chans.toNat c.threads.toNat c.threads.toNat)/\Hid (ag wr p 45 #[oZ,.slice (some ⟨g1,0,none⟩) c.chans.toNat c.chans.toNat,.slice (some ⟨g2,0,none⟩) c.threads.toNat c.threads.toNat,.slice (some ⟨g3,0,none⟩) c.threads.toNat c.threads.toNat])/\Hid (ag wr w 24 #[c.kind,c.threads,c.chans,c.cap,c.nodes,c.aP,c.aB,c.tags,c.bw,c.bn,.slice A n k])/\Hid (ag wr (w.heap.size+1) 45 #[oZ,oN,oN,oN])/\Hid (Below w w wr)) (λi _=>n-(intOf i).toNat);case atStart=>exact⟨0,aZ _,rfl,a,E,f,l,t⟩
  case round =>
   clear a E l f t J;obtain⟨j,hj,rfl,a,E,W,H,t⟩:=hrel;obtain⟨aC,-,bb⟩:=ag.aF E;obtain⟨F,-,fE⟩:=ag.aF W;by_cases G:j<n
   .obtain⟨ad,z,hA,hz,Z⟩:=bD.at_ (X.below t) (i:=j) (by rw[<-I.Y];exact G);subst hA;have K:j<c.chans.toNat:=by have:=H0.Y;have:=I.Y;omega
    have i2:(j:Int)<c.chans:=aa;have i3:(j:Int)<n:=aa;obtain⟨y,M⟩:∃y,(C8 c c.chans.toNat j)[j]?=some y:=⟨_,cq (by rw[rM];exact K)⟩
    obtain⟨r,L,iX,hcell⟩:=a.ch.at_ M;obtain⟨D,dd,rfl,S,pS⟩:=L;have c0:=hcell 0 _ rfl;rw[Nat.add_zero]at c0;have c1:=hcell 1 _ rfl;have c2:=hcell 2 _ rfl;have c3:=hcell 3 _ rfl;have c4:=hcell 4 _ rfl;have f0:=a.ch.bq (j*5);have f1:=a.ch.bq (j*5+1);have f2:=a.ch.bq (j*5+2);have HZ:=ae hz;have fy:(wr.setCell ⟨g1,j*5,none⟩ (.int .i64 1)).cell? (ad.add j)=some (.int .i64 z):=by
     have R:(ad.add j).block≠g1:=by
      obtain⟨aq,_,m,_,Q⟩:=bD.at_ X.Y (i:=j) (by rw[<-I.Y];exact G);injection m with m
      subst m;have:=bc Q;intro e;rw[e]at this;omega
     have e:(wr.setCell ⟨g1,j*5,none⟩ (.int .i64 1)).heap[(ad.add j).block]?=wr.heap[(ad.add j).block]?:=dE _ _ _ _ R;unfold World.cell? at Z ⊢;rw[e];exact Z
    clear hcell iX S pS hz;go_wp2_with fail;go_region;go_wp2_with fail;have T:y=Dg:=by unfold C8 at M;rw[List.getElem?_map,List.getElem?_range K]at M;simpa using M.symm
    subst T;have nA:=a.Y.ch.ty.choose_spec.1;have e1:=QQ (o:=j*5) nA c3 c4 (.int .i64 1) (.int .i64 z) (.bool true);have O:=a.abw (i:=j) (by rw[rM];exact K) ⟨1,z,true,false,[]⟩ (B:=D) (d:=dd) (aZ _) (λi u h=>by cases h) (λb _ R=>absurd rfl R);dsimp only at O;rw[<-Eu HZ.Y K]at O;have e2:ax wr g1 (j*5) [.int .i64 1,.int .i64 z,.bool true,.bool false,.slice D ([]:List Int).length dd]=ax wr g1 (j*5) [.int .i64 1,.int .i64 z,.bool true]:=e1;rw[e2]at O;have N:=(ai (ax wr g1 (j*5) [.int .i64 1,.int .i64 z,.bool true])).drew;obtain⟨eN,xy,jm,iH,iY⟩:=bQ (O.more N) ((aX E (b:=p) (g:=g1) aa [.int .i64 1,.int .i64 z,.bool true] (j*5)).ah N) ((aX W (b:=w.heap.size) (g:=g1) aa [.int .i64 1,.int .i64 z,.bool true] (j*5)).ah N) ((aX H (b:=w.heap.size+1) (g:=g1) aa [.int .i64 1,.int .i64 z,.bool true] (j*5)).ah N) (Below.drew (az (B:=w.heap.size) (g:=g1) aa [.int .i64 1,.int .i64 z,.bool true] _ (j*5) t));go_roundw;case rel=>exact⟨j+1,aa,by go_num,eN,xy,jm,iH,iY⟩
    case measure=>simp[intOf];omega
   .have AW:j=c.start.length:=by have:=I.Y;omega
    subst AW;have i3:decide ((c.start.length:Int)<n)=false:=bF aa;by_cases i9:(c.start.length:Int)<c.chans;all_goals
     obtain⟨bN,cj,cu⟩:=ag.aF H;go_wp2_with fail;have iB:=aY (vs:=[oZ,.slice g1 c.chans.toNat c.chans.toNat,.slice g2 c.threads.toNat c.threads.toNat,.slice g3 c.threads.toNat c.threads.toNat]) H rfl;have vY:=a.b9 (q:=w.heap.size+1) aa H af af 0 [oZ,.slice g1 c.chans.toNat c.chans.toNat,.slice g2 c.threads.toNat c.threads.toNat,.slice g3 c.threads.toNat c.threads.toNat];have kN:=az (B:=w.heap.size) (g:=w.heap.size+1) aa [oZ,.slice g1 c.chans.toNat c.chans.toNat,.slice g2 c.threads.toNat c.threads.toNat,.slice g3 c.threads.toNat c.threads.toNat] _ 0 t;change bodyPost _ _ _ _ _ (ax wr (w.heap.size+1) 0 [oZ,.slice g1 c.chans.toNat c.chans.toNat,.slice g2 c.threads.toNat c.threads.toNat,.slice g3 c.threads.toNat c.threads.toNat]);clear bN cj cu aC bb;generalize ax wr (w.heap.size+1) 0 [oZ,.slice g1 c.chans.toNat c.chans.toNat,.slice g2 c.threads.toNat c.threads.toNat,.slice g3 c.threads.toNat c.threads.toNat]=wz at *;have fy:=λi=>ag.cell iB i;have hst:eb c=⟨0,C8 c c.chans.toNat c.start.length,List.replicate c.threads.toNat fU,List.replicate c.threads.toNat cE⟩:=by rw[JW];rfl
     have kL:Nx (eb c) w (.returned (.agg #[oZ,.slice g1 c.chans.toNat c.chans.toNat,.slice g2 c.threads.toNat c.threads.toNat,.slice g3 c.threads.toNat c.threads.toNat])) wz:=by exact WQ
     refine bodyPost_ret (v:=.agg #[oZ,.slice g1 c.chans.toNat c.chans.toNat,.slice g2 c.threads.toNat c.threads.toNat,.slice g3 c.threads.toNat c.threads.toNat]) ?_ rfl kL;simp[results,results24,go_sem,fy]
theorem uH.Nr{gh:Nat}{zs:List Rs}(F:Below w w wz)(H:iQ wz b2 v2 ys)(z:w<=b2)(o:aH wz b3 64 4 fD v3 zs)(C:w<=b3)(l:ag wz gh 45 #[oZ,oN,oN,oN])(u:w<=gh)(tk:Int):uH w (ax wz gh 0 [tk,oN,v2,v3]) tk oN v2 v3 [] ys zs gh:=by have c:¬eP wz gh:=eP.not l af af;have W:=iQ.o H;refine⟨aY l rfl,aD.nil _ _ _ _ _ _,?_,eV (λb a e=>ba o l af (by rw[<-e];exact a.symm)) _ _ _ _ (o.bL C),az u _ _ _ F,u⟩;exact(aD.move aI (W.bL z) (λb a=>aM (λe=>by subst e;exact c a) _ _) (λb a=>aM (aD.other W l af b a) _ _)).mono aI (λb a=>fB _ _ _ a)
theorem uH.Ma{zs:List Rs}(e:Below w w wz)(z:iQ wz b2 v2 ys)(l:w<=b2)(u:aH wz b3 64 4 fD v3 zs)(o:w<=b3)(tk:Int):uH w (wz.alloc (.cells #[tk,oN,v2,v3] 45)) tk oN v2 v3 [] ys zs wz :=
 have a:=aj (ai wz) (.cells #[tk,oN,v2,v3] 45)
 ⟨ag.new _ _ _,aD.nil _ _ _ _ _ _,aD.gK aI ((iQ.o z).bL l) a,(u.bL o).ah a,ah e a,e.size⟩
theorem U3{o:Oper}{K:Act->World->Prop}{l:World}(C:o.guard=none)(s x:Operand)(I:o.op=.call {callee:=.builtin .append,args:=#[s,x],argTypes:=#[43,43]})(k:Nat)(J:a.eval s=.slice k 0 0)(H:ag l k 64 #[]){c:Nat}(z:List Rs)(M:a.eval x=.slice A n c)(e:n=z.length/\n<=19/\cN W fD A z)(u:Ext W l)(F:W<=k)(h:∀f w',Hid (aH w' W 64 4 fD f z)->(∀g t ys,64≠t->ag l g t ys->ag w' g t ys)->(∀b v xs,iQ l b v xs->iQ w' b v xs)->Ext W w'->K (a.put o.dst f) w'):if Region.wanted o (yielded ops a.tmps)=true then Oper.wp prog o a l K Q else E:=by
 have d:aH l W 64 4 fD (.slice k 0 0) []:=rL (n:=0) dC af cE (aZ _) (by rw[Array.eq_empty_of_size_eq_zero (size_madeCells _ _)];exact H) F
 exact gf C s x _ I W 64 4 32 (.agg #[oZ,oZ,oZ,oZ]) fD dC qH underlying43 ry rfl af _ [] J d A n c z M e.1.symm (Rd.below e.2.2 u.Y) (by have:=e.1;have:=e.2.1;simp;omega) (by have:=e.1;have:=e.2.1;simp;omega) u.Y.size λf w' m i _=>h f w' m (λg t ys p j=>j.grown i (ba d j p)) (λb v xs q=>q.grown d i af af) (d.aW u.Y i u.Y.size (aR _))
theorem Iu(w:World)(h:Hl)(T O R:Option Addr)(z u C m1 m2 m3:Nat)(mI:z=h.chans.length)(pG:u=h.waits.length)(sH:C=h.done.length)(o:GN h)(H:wu w h T O R) :
 Calls prog 55 #[.agg (rZ h.ak T z m1 O u m2 R C m3)] w (Nx h w):=by
 obtain⟨W,Z⟩:=aw ((w.alloc (.cells (rZ h.ak T z m1 O u m2 R C m3) 45)).alloc sj)
 have dO:Below w w W:=by rw[Z];exact aj (aj (ai w) _) _
 have Q:Hid (ag W w 45 #[h.ak,.slice T z m1,.slice O u m2,.slice R C m3]):=by rw[Z];exact(ag.new _ _ _).alloc _
 have gC:Hid (ag W (w.heap.size+1) 45 #[oZ,oN,oN,oN]):=by rw[Z];exact ag.newAt _ _ _ aA
 have l2:u<=19:=by rw[pG];exact o.waits
 have l3:C<=19:=by rw[sH];exact o.done
 have l1:z<=8:=by rw[mI];exact o.chans
 obtain⟨lC,HW,N,HH,lR⟩:=bQ (λa (f:Below w w a)=>nv a O m2 h.waits pG aa ((H.ext f).wt) (λx f=>bm (o.cases x f) af)) Z dO H o
 obtain⟨vU,b5,Jw⟩:=aS mI pG sH
 clear mI pG sH o H Z dO
 have Sr:=ae (λa (f:Ext W a)=>lC a (ah N f.Y))
 have cU:=λa (f:Ext W a) i=>ag.cell (Q.ah f.Y) i
 have eB:=Q.lt
 have WI:=gC.lt
 unfold rZ at *
 obtain⟨V3,Wy⟩:=aw (Value.slice R C m3)
 rw[<-Wy]at cU HW Q ⊢
 have lM:=ae Wy
 clear Wy
 go_enter func55,ntmps55
 go_upto_region 1 with fail
 rw[<-HW.Y]
 go_cut[3] (λs3 a=>∃(q:Nat) (L M:Value),s3=.pointer (some ⟨q,0,none⟩)/\uH w a h.ak oN L M [] h.waits h.done q/\ag a w 45 #[h.ak,.slice T z m1,.slice O u m2,V3]/\ag a (w.heap.size+1) 45 #[oZ,oN,oN,oN]/\w.heap.size+1<q)
 case first =>
  have G:w.heap.size<=W.heap.size:=N.size;have Nu:Hid (C=h.done.length/\C<=19/\cN W fD R h.done):=⟨Jw,l3,Rd.below HH.dn N⟩
  go_region_held3(Ext W) (with_reducible(repeat(first|assumption|exact Ext.start _|exact Ext.iD _ _|exact Ext.vo _ _ _|refine Ext.alloc ?_ _|refine Ext.set ?_ (by simp;try omega)))) (first
   |((with_reducible go_fit (Sr.Y _ aN));rintro e w4 ⟨v4,rfl,S,Y,rfl,Ho,c⟩;have xd:=Ext.to aN c;have V8:W.heap.size<=w4.heap.size:=(Ext.Y xd).size;have j7:=ae (aD.bL Ho (base':=w.heap.size) (bm G (Ext.Y aN).size));clear Ho;(try(first|(have J:Hid (ag w4 (W.heap.size) 45 #[oZ,oN,oN,oN]):=ag.ah ?_ c;rotate_left;(repeat(with_reducible first|(focus ((refine ag.newAt _ _ _ ?_);simp;done))|refine ag.dr ?_|refine ag.alloc ?_ _|refine ag.ah ?_ c));have E:=λi=>ag.cell J.Y i;have X:=λi=>ag.free J.Y i;have V:=ag.lt J.Y)|(have J:Hid (ag w4 (W.heap.size+1) 45 #[oZ,oN,oN,oN]):=ag.ah ?_ c;rotate_left;(repeat(with_reducible first|(focus ((refine ag.newAt _ _ _ ?_);simp;done))|refine ag.dr ?_|refine ag.alloc ?_ _|refine ag.ah ?_ c));have E:=λi=>ag.cell J.Y i;have X:=λi=>ag.free J.Y i;have V:=ag.lt J.Y))))
   |(refine U3 (W:=W) rfl _ _ rfl _ rfl ?_ h.done lM.Y Nu.Y ?_ ?_ ?_;(repeat(with_reducible first|assumption|(focus ((refine ag.newAt _ _ _ ?_);simp;done))|refine ag.dr ?_|refine ag.alloc ?_ _|refine ag.ah ?_ c));(try first|omega|(simp;done)|(simp;omega));intro v9 w9 V9 Qv ER D;obtain⟨B9,d9,zZ⟩:=aH.shape V9.Y;subst zZ;(try(first|(have g:Hid (ag w9 (w4.heap.size) 45 #[oZ,oN,oN,oN]):=Qv _ _ _ af ?_;rotate_left;(repeat(with_reducible first|(focus ((refine ag.newAt _ _ _ ?_);simp;done))|refine ag.dr ?_|refine ag.alloc ?_ _|refine ag.ah ?_ c));have E:=λi=>ag.cell g.Y i;have X:=λi=>ag.free g.Y i;have V:=ag.lt g.Y)|(have g:Hid (ag w9 (w4.heap.size+1) 45 #[oZ,oN,oN,oN]):=Qv _ _ _ af ?_;rotate_left;(repeat(with_reducible first|(focus ((refine ag.newAt _ _ _ ?_);simp;done))|refine ag.dr ?_|refine ag.alloc ?_ _|refine ag.ah ?_ c));have E:=λi=>ag.cell g.Y i;have X:=λi=>ag.free g.Y i;have V:=ag.lt g.Y)|(have g:Hid (ag w9 (W.heap.size) 45 #[oZ,oN,oN,oN]):=Qv _ _ _ af ?_;rotate_left;(repeat(with_reducible first|(focus ((refine ag.newAt _ _ _ ?_);simp;done))|refine ag.dr ?_|refine ag.alloc ?_ _|refine ag.ah ?_ c));have E:=λi=>ag.cell g.Y i;have X:=λi=>ag.free g.Y i;have V:=ag.lt g.Y)|(have g:Hid (ag w9 (W.heap.size+1) 45 #[oZ,oN,oN,oN]):=Qv _ _ _ af ?_;rotate_left;(repeat(with_reducible first|(focus ((refine ag.newAt _ _ _ ?_);simp;done))|refine ag.dr ?_|refine ag.alloc ?_ _|refine ag.ah ?_ c));have E:=λi=>ag.cell g.Y i;have X:=λi=>ag.free g.Y i;have V:=ag.lt g.Y)))))
  all_goals
   go_wp2;go_meet;have b7:=(Ext.Y D).size;have ZL:iQ w9 w (.slice S u Y) h.waits:=by refine ER _ _ _ ?_;repeat(with_reducible first|exact j7.Y|refine iQ.ext ?_ (aj (ai _) _))
   first
    |exact⟨_,.slice S u Y,.slice B9 h.done.length d9,rfl,uH.Ma (ah N D) ZL (aR _) V9 G h.ak,Q.ah (Ext.alloc D _),gC.ah (Ext.alloc D _),aa⟩
    |exact⟨_,.slice S u Y,.slice B9 h.done.length d9,rfl,(show uH _ (ax _ _ 0 [_,_,_,_]) _ _ _ _ _ _ _ _ from uH.Nr (ah N D) ZL (aR _) V9 G g aa h.ak),aX (Q.ah D) aa [h.ak,oN,.slice S u Y,.slice B9 h.done.length d9] 0,aX (gC.ah D) aa [h.ak,oN,.slice S u Y,.slice B9 h.done.length d9] 0,aa⟩
 case rest =>
  obtain⟨q,L,M,rfl,hR,k,hQ,hg⟩:=hcut;obtain⟨m,A⟩:=av hR hQ;obtain⟨aC,-,bb⟩:=ag.aF k;clear cU eB lC Sr hR hQ k Q gC N WI;go_wp2_with fail;clear aC bb;go_loopw[19] (λi wr=>∃(j:Nat) (v1:Value),j<=z/\i=j/\Hid (uH w wr h.ak v1 L M (h.chans.take j) h.waits h.done q)/\Hid (ag wr (w.heap.size+1) 45 #[oZ,oN,oN,oN])) (λi _=>z-(intOf i).toNat);case atStart=>exact⟨0,_,aZ _,rfl,m,A⟩
  case round =>
   clear m A;obtain⟨j,v1,hj,rfl,m,A⟩:=hrel;by_cases a8:j<z
   .obtain⟨x,f⟩:∃x,h.chans[j]?=some x:=⟨_,cq (by rw[<-vU.Y];exact a8)⟩
    obtain⟨ad,B,d,hA,_,o,e0,e1,e2,e3,e4⟩:=(HH.ext m.ext).ch.row f;subst hA;obtain⟨xs,sQ⟩:=aw (h.chans.take j);have yO:xs.length=j:=by rw[sQ,fK, <-vU.Y];omega
    have HX:=ae (eM f);rw[<-sQ]at m HX;obtain⟨l,d1,oq⟩:=aD.shape m.ch;rw[yO]at oq;subst oq;obtain⟨w3,p⟩:=aw (wr.alloc (oW x B x.buf.length d));have bU:=ae (aj (ai wr) (oW x B x.buf.length d));rw[<-p]at bU;have K5:Hid (ag w3 wr 50 #[x.gen,x.cap,x.used,x.closed,.slice B x.buf.length d]):=by rw[p];exact ag.new _ _ _
    obtain⟨P,n⟩:=aw x.buf.length;obtain⟨kc,GH⟩:=aw wr.heap.size;have LA:P<=90000:=by rw[n];exact lR.buf x (bo f)
    rw[<-n]at p e4 K5;rw[<-GH]at K5;obtain⟨oL,gN,iG,n9,fW⟩:=bQ p (m.more bU) (A.ah bU) (λa (f:Below w3 w3 a)=>rh a x B P d n aa ((o.below bU).below f)) n;have HN:Hid (xs.length=j):=yO;have qj:Hid (∀b,(Value.slice l j d1).ownBlock=some b->b<kc):=λb o=>by rw[GH];exact(aD.lt m.ch o).2
    clear f sQ o p n m A;go_upto_region 5 with fail
    rw[<-oL.Y, <-GH];clear e0 e1 e2 e3 e4 GH yO;have aT:=λa (f:Below w w a/\ag a q 45 #[h.ak,.slice l j d1,L,M]/\ag a kc 50 #[x.gen,x.cap,x.used,x.closed,.slice B P d]) i=>ag.cell f.2.1 i;have cU:=λa (f:Below w w a/\ag a q 45 #[h.ak,.slice l j d1,L,M]/\ag a kc 50 #[x.gen,x.cap,x.used,x.closed,.slice B P d]) i=>ag.cell f.2.2 i;refine gm 6 (λa=>Below w w a/\ag a q 45 #[h.ak,.slice l j d1,L,M]/\ag a kc 50 #[x.gen,x.cap,x.used,x.closed,.slice B P d]) gG ⟨gN.ext.drew,gN.kh,K5⟩ (λhHeld=>?_);refine jg 0 hHeld ?_;refine jg 1 hHeld ?_;refine jg 2 hHeld ?_;(try simp only[aL]);refine vA 3 (λK k=>?_);go_simp;go_fit (n9 _ (ai w3).drew);rintro e w5 ⟨v,rfl,U,d5,rfl,lh,dJ⟩;have EL:=ah (ai w3).drew dJ;obtain⟨r,lz,qT,pR⟩:=bh (gN.more EL) (iG.ah EL) (K5.ah EL) lh;clear hHeld dJ EL lh;rw[<-fW.Y]at pR ⊢;go_wp2_with fail;refine k.Y _ _ ⟨r.ext,r.kh,qT⟩ (λhHeld=>?_);clear k K;(try simp only[aL]);refine vA 4 (λK k=>?_);go_simp;refine k.Y _ _ ⟨aj r.ext _,r.kh.alloc _,qT.alloc _⟩ (λhHeld=>?_);clear k K;(try simp only[aL]);obtain⟨rows,r1,r2,r3⟩:=r.ch;obtain⟨R1,R2,R3⟩:=aS r1 r2 r3;have iX:rows.length=j:=r1.trans HN;have ZA:=ae (aK.cap pR).2;have Le:Hid (dL w5 (eP w5) .i64 U x.buf):=⟨pR.pw.2,λad ha b6=>by subst ha;exact .inl (pI pR)⟩
    have lW:Hid (cN (w5.alloc (.cells #[x.gen,x.cap,x.used,x.closed,.slice U P d5] 50)) dF w5 [Ss x U d5]):=by unfold Hid;rw[fW.Y];exact Rd.lit w5 (Ss x U d5).val _
    clear r1 r2 r3;refine vA 5 (λK k=>?_);refine gf rfl _ _ 41 rfl w 50 5 48 (.agg #[oZ,oZ,false,false,oN]) dF bY eU underlying41 m8 rfl af _ rows rfl (aH.alloc R2 _) _ 1 1 [Ss x U d5] rfl rfl lW ui ui (by have:=r.ext.size;simp;omega) ?_;intro v6 w6 Ah xe _;obtain⟨hA,hS,F⟩:=r.UG R1 R2 R3 (d:=d5) (by rw[<-fW.Y];exact ZA.Y) Le Ah xe;refine k.Y _ _ ⟨aH.aW (aH.alloc R2 _) (aj r.ext _) xe (by have:=r.ext.size;simp;omega) (aR _),F,?_⟩ (λhHeld=>?_)
    .exact(qT.alloc _).grown xe (λe=>Nat.lt_irrefl _ (qj _ e.symm))
    clear k K hHeld;(try simp only[aL]);obtain⟨B6,d6,aq⟩:=Ah.shape;rw[fM,iw,iX]at aq;subst aq;obtain⟨HA,a6⟩:=av hA (hS _ _ _ af aa lz);obtain⟨I,a7,rX⟩:=ag.aF F;clear hA hS F Ah xe aT cU;refine wpAnyS.late ?_;have hHeld:(λ_:World=>True) w6:=trivial;refine aU 6 hHeld ?_;(try simp only[aL]);refine eQ 7 (λK k=>?_);go_simp;refine k.Y _ _ trivial (λhHeld=>?_);clear k K hHeld;(try simp only[aL]);refine nT ?_;clear I a7 rX;generalize w6.setCell ⟨q,1,none⟩ (.slice B6 (j+1) d6)=w7 at *;rw[<-HX.Y]at HA;go_wp2;go_roundw;case rel=>exact⟨j+1,_,aa,by go_num,HA,a6⟩
    case measure=>simp[intOf];omega
   .have AW:j=h.chans.length:=by have:=vU.Y;omega
    have s:Hid (uH w wr h.ak v1 L M h.chans h.waits h.done q):=by have:=m.Y;rw[List.take_of_length_le aa]at this;exact this
    clear m AW;obtain⟨l,d1,oq⟩:=aD.shape s.ch;obtain⟨t,d2,bz⟩:=aD.shape s.wt;obtain⟨y,d3,bE⟩:=aH.shape s.dn;subst oq bz bE;obtain⟨I,-,rX⟩:=ag.aF s.kh;obtain⟨bN,cj,cu⟩:=ag.aF A;go_wp2_with fail;clear I rX bN cj cu;obtain⟨TW,hz⟩:=o7.one (v1:=[h.ak,.slice l h.chans.length d1,.slice t h.waits.length d2,.slice y h.done.length d3]) A rfl;have kL:Nx h w (.returned (.agg #[h.ak,.slice l h.chans.length d1,.slice t h.waits.length d2,.slice y h.done.length d3])) (ax wr (w.heap.size+1) 0 [h.ak,.slice l h.chans.length d1,.slice t h.waits.length d2,.slice y h.done.length d3]):=⟨l,t,y,d1,d2,d3,rfl,⟨TW.qR cd s.ch af af af af,TW.qR aI s.wt af af af af,TW.own s.dn af af⟩,az (bM _) _ _ _ s.ext⟩
    change bodyPost _ _ _ _ _ (ax wr (w.heap.size+1) 0 [h.ak,.slice l h.chans.length d1,.slice t h.waits.length d2,.slice y h.done.length d3]);generalize ax wr (w.heap.size+1) 0 [h.ak,.slice l h.chans.length d1,.slice t h.waits.length d2,.slice y h.done.length d3]=wz at *;have E:=λi=>ag.cell hz i;refine bodyPost_ret (v:=.agg #[h.ak,.slice l h.chans.length d1,.slice t h.waits.length d2,.slice y h.done.length d3]) ?_ rfl kL;simp[results,results55,go_sem,E]
end Go.Proofs.YtpfbfhfcbdbglaaGreat
