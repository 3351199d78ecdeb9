/- Walks and plain facts. No condition. -/
import Derived.Test.YtjcjjiieblineaaGreatPv
namespace Go.Proofs.YtjcjjiieblineaaGreat
open Go.RowKit Go.Proofs.Tryz Mo
set_option maxHeartbeats 8000000
set_option maxRecDepth 100000
set_option linter.all false
variable {w:World}{v:Value}{a:Act}{fuel:Nat}{listed:Array Bool}
variable[OW]
section
variable{w:World} {x0:Nat} {A:Option Addr} {n k q:Nat} {x:Mo.Mc} {s:Sx}
theorem zQ.ahead{d:World}{b:Nat}{e:Mc}{c:World}(h:zQ x0 A n k b e d s c)(g:Below w w d):zQ x0 A n k b e w s c:=by obtain⟨i,a,f⟩:=h;exact⟨i,a,gw.trans (gw.ext g _) f⟩
def DoB(N:Int)(n q:Nat)(x:Mc)(e:Ev):Prop:=0<=e.th->e.th<x.T.length->PkB N x e.th.toNat/\PkY N n q (eL {x with time:=x.time+1} e.th.toNat) e.th.toNat
theorem YK(H:MS w x0 A n k q x s)(e:Ev)(z o:Sl){N:Int}(B:DoB N n q x e)(P:dG w (s.I w x0) bC z.A e.aN.cases)(V:e.aN.cases.length<=9223372036854775807)(O:bJ w .i64 o.A e.outs)(J:e.outs.length<=9223372036854775807)(U:e.outs.length<=o.c) :
 Calls prog 17 #[.pointer x0,.agg (Sb e z o).toArray] w fun r m=>r=.returned (.int .i64 (sM x e).2)/\MsQ x0 A n k q (sM x e).1 w s m:=by
 obtain⟨g,C⟩:∃g,g=w.alloc (.cells (Sb e z o).toArray 57):=⟨_,rfl⟩
 have br:Hid (Below w w g):=by rw[C];exact ak (aj w) _
 have X:Hid (af g w 57 (Sb e z o).toArray):=by rw[C];exact af.new _ _ _
 have p:=H.more br.Y
 obtain⟨D,E,G⟩:=aZ p (rz p) (Bx p e.th)
 have Y:Hid (dG g (s.I g x0) bC z.A e.aN.cases):=(P.same (fun b v=>br.Y.block b v.1)).mono fun b v=>⟨bL v.1 br.Y.size,v.2⟩
 have Z:=ae (O.below br.Y)
 have S:Hid (∀m,g=m->(sM x e)=(x,15)->Ending.returned (.int .i64 15)=.returned (.int .i64 (sM x e).2)/\MsQ x0 A n k q (sM x e).1 w s m):=fun m c d=>by
  rw[d, <-c]
  exact⟨rfl,q,cj q,s,D.Y,gw.ext br.Y _⟩
 obtain⟨L,K⟩:=av B C
 obtain⟨Q,-,W⟩:=af.aM X.Y
 unfold Sb at Q K ⊢
 clear H B P O p C
 go_enter func17,ntmps17
 go_upto_region 1 with fail
 rw[<-K.Y]
 clear K
 go_wp2_with fail
 go_fit E.Y
 rintro r R ⟨rfl,rfl⟩
 go_wp2_with fail
 go_fit G.Y
 rintro r R ⟨rfl,rfl⟩
 by_cases f:0<=e.th/\e.th<x.T.length
 rotate_left
 ·have d1:decide (0<=e.th/\e.th<x.T.length)=false:=bU f;have u:=ae f;clear f;go_wp2;go_ret;exact S.Y _ rfl (by unfold sM;rw[au (by have:=u.Y;omega)])
 have d1:decide (0<=e.th/\e.th<x.T.length)=true:=eE f
 have a:=ae (L.Y f.1 f.2)
 have j:Hid (∀y,(if e.kind=1 then(iO x e.th.toNat,0)else if e.kind=2 then iB x e.th.toNat e.aN else if e.kind=3 then iZ x e.th.toNat e.fp e.outs else(x,(15:Int)))=y->sM x e=y):=fun y h=>by unfold sM;rw[ah (by omega)];exact h
 obtain⟨t,I⟩:∃t:Nat,e.th=(t:Int):=⟨e.th.toNat,by omega⟩
 have l:e.th.toNat=t:=by omega
 rw[l]at a j
 have u:Hid (e.th=(t:Int)):=I
 rw[I]at Q
 clear f l I L
 by_cases c:e.kind=1
 ·have d2:(e.kind==1)=true:=by simpa using c
  obtain⟨HD1,HC⟩:=av (j.Y _ (au c)) (Wo D.Y t a.Y.1 a.Y.2);clear c;go_wp2_with fail;go_fit HC.Y;rintro r R ⟨rfl,q',T,M⟩;obtain⟨HE,F⟩:=av M T;clear M T;go_wp2;go_ret;rw[HD1.Y];exact⟨rfl,q',F.Y,HE.Y.ahead br.Y⟩
 have d2:(e.kind==1)=false:=by simpa using c
 by_cases d:e.kind=2
 ·have d3:(e.kind==2)=true:=by simpa using d
  obtain⟨HD1,HC⟩:=av (j.Y _ ((ah c).trans (au d))) (Wk D.Y t a.Y.1.T (by rw[a.Y.1.P]) (by rw[a.Y.1.S]) e.aN z Y.Y V a.Y.1.seq.1 a.Y.1.seq.2 a.Y.1.N a.Y.1.tm);unfold mW at HC;clear c d;exact YL
 have d3:(e.kind==2)=false:=by simpa using d
 by_cases i:e.kind=3
 ·have d4:(e.kind==3)=true:=by simpa using i
  obtain⟨HD1,HC⟩:=av (j.Y _ ((ah c).trans ((ah d).trans (au i)))) (Wm D.Y e z o t u.Y a.Y.1.T (by rw[a.Y.1.P]) Z.Y J U a.Y.1.tm);unfold Sb at HC;rw[u.Y]at HC;clear c d i;exact YL
 have d4:(e.kind==3)=false:=by simpa using i
 have HD1:=ae (j.Y _ ((ah c).trans ((ah d).trans (ah i))))
 clear c d i
 go_wp2
 go_ret
 exact S.Y _ rfl HD1.Y
end
variable[OW]
structure Fg (i:Nat) (x:Mo.Mc):Prop where
 B:Mo.MB (64+i) i (2*i) i x
 C:Mo.MC 80000 x
 I:Mo.MI (Mo.cN x.c) x.c.tags x
 th:x.c.threads<=4
 C9:Mo.bB x.c<=1048576
section
variable{x:Mo.Mc} {i:Nat}
theorem Sf(e:Ev):(sM x e).1.c=x.c:=by
 have a:∀(y:Mc) t q,(cS y t q).1.c=y.c:=fun y t q=>by unfold cS;dsimp only;split<;>rfl
 unfold sM;split
 ·rfl
 split
 ·unfold iO;dsimp only;have b:(eL {x with time:=x.time+1} e.th.toNat).c=x.c:=qJ.2;repeat' split
  all_goals exact b
 split
 ·unfold iB;dsimp only;repeat' split
  all_goals first|rfl|exact a _ _ _
 split
 ·unfold iZ;repeat' split
  all_goals rfl
 ·rfl
theorem Fg.next(h:Fg i x)(d:i<=70000)(e:Ev):Fg (i+1) (sM x e).1:=by
 have a:=Sf (x:=x) e;refine⟨?_,acx h.C h.B (by omega) (by omega) e,?_,by rw[a];exact h.th,by rw[a];exact h.C9⟩
 ·have:=acv h.B (by omega) (by omega) e;rw[show(64+(i:Int)+1)=64+((i+1:Nat):Int)by omega,show 2*i+2=2*(i+1)by omega]at this;exact this
 ·rw[a];exact abH e (DW h.B.eN) h.I
theorem Fg.new{c:bA}(h:aU c=true)(r:c.threads<=4)(l:bB c<=1048576):Fg 0 (iA c):=⟨aan h,aaq,Pz h,r,l⟩
theorem Fg.Wp(h:Fg i x)(M:i<=25000){n q:Nat}(u:n=x.c.start.length)(O:q<=i)(e:Ev):DoB (65+i) n q x e:=by
 intro L r;obtain⟨t,o⟩:∃t:Nat,e.th=(t:Int):=⟨e.th.toNat,by omega⟩
 rw[o]at r ⊢;have f:t<x.T.length:=by omega
 show PkB _ x t/\PkY _ n q (eL {x with time:=x.time+1} t) t;have b:=h.B;have N:=Mo.aK b.eN;have z:=b.T;have A:=b.P;have B:=b.S;have C:=b.M;have D:=b.N;have E:=b.time;have P:=(b.at_ f).a.seq;have a:=Cz b.tick (by omega) f;have p:(eL {x with time:=x.time+1} t).T.length=x.T.length:=qJ.1;have c:(eL {x with time:=x.time+1} t).c=x.c:=qJ.2;have j:=J7 (x:={x with time:=x.time+1}) ⟨h.C.T,h.C.N,h.C.V⟩ t;have k:=(JH (x:={x with time:=x.time+1}) (t:=t) (h.I.same rfl rfl rfl rfl) f).1;generalize eL {x with time:=x.time+1} t=y at a p c j k ⊢;have g:t<y.T.length:=by omega
 have F:=a.T;have G:=a.P;have H:=a.S;have I:=a.M;have J:=a.N;have K:=a.V;have m:=a.mono (n':=65+(i:Int)) (a':=i+1) (b':=2*i+1) (d':=i) (by omega) (aS _) (aS _) (aS _);have l:=k.all _ (dB (om g));refine⟨⟨f,by omega,by omega,by omega,b.QZ t,by omega,by omega,by omega⟩,⟨by omega,by omega,by omega,fun v w=>by have:=a.sb v w;omega,⟨m.rb g,(m.at_ g).b,fun Q R=>?_,a.L,⟨a.eN,by rw[c];exact u,by rw[c];exact h.th,by rw[c];exact h.C9,by omega,by omega⟩,by omega,by omega⟩,by omega,by omega,a.QZ t,by have:=j.at_ t;omega⟩⟩;have s:=l.mid (by omega) (by omega);rcases l.aA.own with d|d
 ·exact absurd d s.1
 ·rw[c];exact⟨d.1,d.2.1⟩
end
section
variable{P:Program} {ops:Array Oper} {Q:Exit->Act->World->Prop} {md:Region.Mode} {S:World->Prop} {n:Nat}
def wpAnyS(n:Nat)(P:Program)(c:Region.Mode)(b:Array Oper)(Q:Exit->Act->World->Prop)(S:World->Prop):Nat->Array Bool->Act->World->Prop
 |0,listed,a,w=>Region.ready c b listed=[]/\Q .normal a w
 |fuel+1,listed,a,w=>(Region.ready c b listed=[]->Q .normal a w)/\∀i∈Region.ready c b listed,wpOp P b Q i (fun e d=>(i<n->S d)/\wpAnyS n P c b Q S fuel (listed.setIfInBounds i true) e d) a w
theorem wpAnyS.any:∀(fuel:Nat) (listed:Array Bool) (a:Act) (w:World),wpAnyS n P md ops Q S fuel listed a w->wpAny P md ops Q fuel listed a w
 |0,_,_,_,h=>h
 |fuel+1,_,_,_,h=>⟨h.1,fun i c=>wpOp_mono (fun _ _ b=>wpAnyS.any fuel _ _ _ b.2) (h.2 i c)⟩
theorem wpAnyS.YM:∀(fuel:Nat) (listed:Array Bool) (a:Act) (w:World),(∀i,i<n->listed.getD i true=true)->wpAnyH P md ops Q (fun _=>True) fuel listed a w->wpAnyS n P md ops Q S fuel listed a w
 |0,_,_,_,_,h=>h
 |fuel+1,listed,_,_,hl,h=>⟨h.1,fun i b=>by
  have c:=(mem_ready.1 b).1
  have g:¬i<n:=fun e=>by rw[hl i e]at c;cases c
  exact wpOp_mono (fun _ _ d=>⟨fun e=>absurd e g,wpAnyS.YM fuel _ _ _ (fun j f=>by rw[getD_set_ne true aa];exact hl j f) d.2⟩) (h.2 i b)⟩
theorem wpAnyS.late(h:wpAnyH P md ops Q (fun _=>True) fuel listed a w)(c:((List.range n).all fun i=>listed.getD i true)=true:=by kernel_rfl):wpAnyS n P md ops Q S fuel listed a w:=wpAnyS.YM fuel listed a w (fun i b=>List.all_eq_true.1 c i (List.mem_range.2 b)) h
def I1(n i:Nat)(c:Region.Mode)(b:Array Oper):Bool:=decide (i<n) && ((List.range b.size).all fun j=>decide (j<n) || match b[j]? with|some o=>o.after.any fun e=>Region.binds c e && e.on==i|none=>true)
theorem wpAnyS.first{i:Nat}{r:Oper}(J:ops[i]?=some r)(s:∀(j:Nat) (o:Oper) q b,ops[j]?=some o->o.op≠.select q b)(C:I1 n i md ops=true)(V:∀c a w,Q (.panic c) (a.put r.dst v) w->Q (.panic c) a w) :
 ∀(fuel:Nat) (listed:Array Bool) (a:Act) (w:World),
  (∀j p,ops[j]?=some p->j≠i->listed.getD j true=false->(∀e∈p.after,Region.binds md e=true->e.on≠i)->r.apart ops p=true) ->
  i∈Region.ready md ops listed->YieldsIf P ops S r v a->S w ->
  wpAnyS n P md ops Q S fuel (listed.setIfInBounds i true) (a.put r.dst v) w->wpAnyS n P md ops Q S (fuel+1) listed a w:=by
 intro fuel
 induction fuel with
 |zero =>
  intro listed a w _ m D t H;refine⟨fun h=>(by rw[h]at m;cases m),fun j B=>?_⟩;by_cases f:j=i
  ·subst f;exact D.wpOp J t ⟨fun _=>t,H⟩
  ·have:=ready_mono B f;rw[H.1]at this;cases this
 |succ fuel X =>
  intro listed a w N m D t H;refine⟨fun h=>(by rw[h]at m;cases m),fun j B=>?_⟩;by_cases f:j=i
  ·subst f;exact D.wpOp J t ⟨fun _=>t,H⟩
  ·have l:=H.2 j (ready_mono B f);obtain⟨g,p,d,hall⟩:=mem_ready.1 B;have O:∀e∈p.after,Region.binds md e=true->e.on≠i:=fun e G u I=>by
    have l:=hall e G u
    have R:=(mem_ready.1 m).1
    rw[I]at l
    rcases Nat.lt_or_ge i listed.size with F|F
    ·simp[F]at R l;rw[R]at l;cases l
    ·simp[Array.getElem?_eq_none F]at l
   have M:j<n:=by
    simp only[I1,cA,List.all_eq_true,List.mem_range,Bool.or_eq_true,bP]at C;rcases C.2 j (Array.getElem?_eq_some_iff.1 d).1 with h|h
    ·exact h
    ·rw[d]at h;obtain⟨e,G,u⟩:=Array.any_eq_true'.1 h;simp only[cA,beq_iff_eq]at u;exact absurd u.2 (O e G u.1)
   have U:=wpOp_putIf d (N j p d f g O) (fun q b=>s i r q b J) (fun q b=>s j p q b d) V D l;have E:∀k z,ops[k]?=some z->k≠i->(listed.setIfInBounds j true).getD k true=false ->
    (∀e∈z.after,Region.binds md e=true->e.on≠i)->r.apart ops z=true:=fun k z W K y L=>by
    refine N k z W K ?_ L
    by_cases x:j=k
    ·subst x;exact g
    ·rw[getD_set_ne true x]at y;exact y
   refine wpOp_mono (fun T Y A=>⟨fun _=>A.2.1 M,X (listed.setIfInBounds j true) T Y E (ready_mono m (Ne.symm f)) A.1 (A.2.1 M) ?_⟩) U;rw[Array.setIfInBounds_comm _ _ f];exact A.2.2
theorem FL(i:Nat){d:Tmp}{f j l m o}(t:S w)(h:wpAnyS n P md ops Q S fuel (listed.setIfInBounds i true) (a.put (some d) v) w)(r:ops[i]?=some ⟨some d,f,j,l,m,o⟩:=by rfl)(b:(Region.noSelect ops && (Region.free md ops listed i && ((Region.ready md ops listed).contains i && I1 n i md ops)))=true:=by kernel_rfl)(u:Region.wanted ⟨some d,f,j,l,m,o⟩ (yielded ops a.tmps)=true:=by rfl)(s:∀c a w,Q (.panic c) (a.put (some d) v) w->Q (.panic c) a w:=by exact fun _ _ _ h=>h)(x:∀w,S w->(execOp a.eval ⟨some d,f,j,l,m,o⟩).run P w=.ok (.value v) w:=by intro w e;(try dsimp only at e);first|(go_simp;done)|(go_simp;with_reducible rfl)):wpAnyS n P md ops Q S (fuel+1) listed a w:=by
 simp only[cA]at b
 exact wpAnyS.first r (Region.noSelect_spec b.1) b.2.2.2 s fuel listed a w (Region.free_spec r b.2.1) (by simpa using b.2.2.1) (Or.inl ⟨u,x⟩) t h
theorem rdS(i:Nat){d:Option Tmp}{c e f l m}(h:∀b:Act->World->Prop,Shut (∀a w,S w->(S w->wpAnyS n P md ops Q S fuel (listed.setIfInBounds i true) a w)->b a w)->if Region.wanted ⟨d,c,e,f,l,m⟩ (yielded ops a.tmps)=true then Oper.wp P ⟨d,c,e,f,l,m⟩ a w b Q else b (a.put d undef) w)(s:ops[i]?=some ⟨d,c,e,f,l,m⟩:=by rfl)(r:Region.ready md ops listed=[i]:=by kernel_rfl):wpAnyS n P md ops Q S (fuel+1) listed a w:=by
 refine⟨fun g=>(by rw[r]at g;cases g),fun j o=>?_⟩
 rw[r]at o
 obtain rfl:=List.mem_singleton.1 o
 exact wpOp_step s (fun b p=>h b (fun a w k q=>p a w ⟨fun _=>k,q k⟩))
theorem wF(n:Nat)(S:World->Prop){id:Nat}(c:P.follows .mixedOrders=true)(b:S w.drew)(h:S w.drew->wpAnyS n P .any ops Q S ops.size (Array.replicate ops.size false) a w.drew):(Code.region id ops true).wp P Q a w:=wp_region_any c (wpAnyS.any _ _ _ _ (h b))
end
end Go.Proofs.YtjcjjiieblineaaGreat
