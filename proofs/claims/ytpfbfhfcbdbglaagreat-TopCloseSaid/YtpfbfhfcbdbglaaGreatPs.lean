/- TopClose: for every input the law returns true, and its arguments read as before. No condition. -/
import Derived.Test.YtpfbfhfcbdbglaaGreatPr
namespace Go.Proofs.YtpfbfhfcbdbglaaGreat.lawTopClose
open Go.ChangeShapes Go.WideShapes Go.ChangeAt Go.RowKit Go.Proofs.Tryz Mo
set_option maxHeartbeats 8000000
set_option maxRecDepth 100000
set_option linter.all false
theorem lifted(o:Os)(a:o.Started)(H:Type)(enc:TypeId×Value->H) :
 ReturnsInHanded {} Tryz.checked o 3 .any (Rows.topCloseSpec.pre6 enc Tryz.prog Tryz.f3 Rows.topCloseRow.domain false) (Rows.topCloseSpec.post enc Tryz.prog Tryz.f3 false true false false):=by
 refine returnsInHanded_of_change_sized (C:=Tryz.checked) Tryz.own a (by kernel_rfl) Tryz.func3
  (ChangeSpec.witness6 (enc:=enc) (C:=Tryz.checked) false ⟨#[],#[.agg #[oZ,oZ,oZ,oZ,oZ,oZ,oZ,oZ,oZ,oZ,oN],oN],[]⟩ 8 (by kernel_rfl) (by kernel_rfl) (by kernel_rfl) (by kernel_rfl)) ?_
 intro W base args f i before h e _ n _
 have g:(DataW.weightsEach Tryz.prog (Tryz.f3.params.toList++Rows.topCloseSpec.plain.varTypes Tryz.prog) (f++i)).all (·<=reachBytes)=true:=n
 have hval:∀(j:Nat) t v,Tryz.f3.params[j]?=some t->args[j]?=some v->Value.okWide Tryz.prog W .any base t v:=h
 have d:DataW.Whole enc Tryz.prog Tryz.f3.params.toList Rows.topCloseSpec.vars false W args.toList f i before:=e
 clear n h e
 have e:=d
 obtain⟨p,q,b,u,rfl,_,_⟩:=e
 have l:DataW.TrodAll enc Tryz.prog W 0 (λ_=>true) true Tryz.f3.params.toList args.toList f p:=b
 clear b
 rw[Tryz.params3]at l hval g
 obtain⟨y,z,d0,d1,G,I,rfl,rfl,rfl,r,s⟩:=trodAll_two l
 obtain⟨rfl,rfl⟩:=trodVars_none u
 refine CP (P:=Tryz.prog) (k:=3) (fn:=Tryz.f3) Tryz.laidOut rfl Tryz.underlying4 rfl (by rw[Tryz.params3];intro t m;simp at m;rcases m with rfl|rfl<;>exact⟨by kernel_rfl,of_decide_eq_true (by kernel_rfl)⟩) ⟨rfl,rfl,rfl⟩ d ?_
 obtain⟨c,A,k,rfl,x⟩:=aaa (hval 0 24 y rfl rfl) r
 obtain⟨B,F,D,rfl⟩:=okWide_slice Tryz.underlying25 (hval 1 25 z rfl rfl)
 obtain⟨E,rfl,w⟩:=Nf s
 exact Ni x rfl w
theorem over:Rows.topCloseRow.holds Tryz.pinned (OpenSpec.ofChange Rows.topCloseSpec) :=
 OpenClaim.holds_of_wide 3 Tryz.f3 rfl rfl rfl rfl rfl rfl rfl ⟨rfl,rfl,rfl,rfl,rfl⟩ rfl rfl rfl rfl rfl (by kernel_rfl) Tryz.func3 (by kernel_rfl)
  (of_decide_eq_true (by kernel_rfl)) (by unfold Func.isWrapper;first|(rw[ay (by decide+kernel)];kernel_rfl)|(rw[au (by decide+kernel)];exact⟨rfl,rfl⟩))
  (λc a H b _=>lifted c a H b)
theorem proved:Rows.TopCloseSaid:=over
end Go.Proofs.YtpfbfhfcbdbglaaGreat.lawTopClose
