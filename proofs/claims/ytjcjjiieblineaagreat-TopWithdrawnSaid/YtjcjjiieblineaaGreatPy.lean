/- TopWithdrawn: for every input the law returns true, and its arguments read as before. No condition. -/
import Derived.Test.YtjcjjiieblineaaGreatPx
namespace Go.Proofs.YtjcjjiieblineaaGreat.lawTopWithdrawn
open Go.ChangeShapes Go.WideShapes Go.ChangeAt Go.RowKit Go.Proofs.Tryz
set_option maxHeartbeats 8000000
set_option maxRecDepth 100000
set_option linter.all false
theorem lifted(os:Os)(started:os.Started)(H:Type)(enc:TypeId×Value->H) :
 ReturnsInHanded {} Tryz.checked os 3 .any (Rows.topWithdrawnSpec.pre6 enc Tryz.prog Tryz.f3 Rows.topWithdrawnRow.domain false) (Rows.topWithdrawnSpec.post enc Tryz.prog Tryz.f3 false true false false):=by
 refine returnsInHanded_of_change_sized (C:=Tryz.checked) Tryz.own started (by kernel_rfl) Tryz.func3
  (ChangeSpec.witness6 (enc:=enc) (C:=Tryz.checked) false ⟨#[],#[.agg #[oZ,oZ,oZ,oZ,oZ,oZ,oZ,oZ,oZ,oZ,oN],oN],[]⟩ 8 (by kernel_rfl) (by kernel_rfl) (by kernel_rfl) (by kernel_rfl)) ?_
 intro W base args ds gs before Vz hW _ lR _
 have hsz:(DataW.weightsEach Tryz.prog (Tryz.f3.params.toList++Rows.topWithdrawnSpec.plain.varTypes Tryz.prog) (ds++gs)).all (·<=reachBytes)=true:=lR
 have hval:∀(j:Nat) t v,Tryz.f3.params[j]?=some t->args[j]?=some v->Value.okWide Tryz.prog W .any base t v:=Vz
 have hW0:DataW.Whole enc Tryz.prog Tryz.f3.params.toList Rows.topWithdrawnSpec.vars false W args.toList ds gs before:=hW
 clear lR Vz hW
 have hW:=hW0
 obtain⟨p,q,hA0,hV,rfl,_,_⟩:=hW
 have hA:DataW.TrodAll enc Tryz.prog W 0 (fun _=>true) true Tryz.f3.params.toList args.toList ds p:=hA0
 clear hA0
 rw[Tryz.params3]at hA hval hsz
 obtain⟨v0,v1,d0,d1,p0,p1,rfl,rfl,rfl,h0,h1⟩:=trodAll_two hA
 obtain⟨rfl,rfl⟩:=trodVars_none hV
 refine AD (P:=Tryz.prog) (k:=3) (fn:=Tryz.f3) Tryz.laidOut rfl Tryz.underlying4 rfl (by rw[Tryz.params3];intro t ht;simp at ht;rcases ht with rfl|rfl<;>exact⟨by kernel_rfl,of_decide_eq_true (by kernel_rfl)⟩) ⟨rfl,rfl,rfl⟩ hW0 ?_
 obtain⟨c,A,k,rfl,hr⟩:=Yz (hval 0 24 v0 rfl rfl) h0
 obtain⟨A1,n1,c1,rfl⟩:=okWide_slice Tryz.underlying25 (hval 1 25 v1 rfl rfl)
 obtain⟨ks,rfl,hl⟩:=Kw h1
 exact ym hr rfl hl
theorem over:Rows.topWithdrawnRow.holds Tryz.pinned (OpenSpec.ofChange Rows.topWithdrawnSpec) :=
 OpenClaim.holds_of_wide 3 Tryz.f3 rfl rfl rfl rfl rfl rfl rfl ⟨rfl,rfl,rfl,rfl,rfl⟩ rfl rfl rfl rfl rfl (by kernel_rfl) Tryz.func3 (by kernel_rfl)
  (of_decide_eq_true (by kernel_rfl)) (by unfold Func.isWrapper;first|(rw[au (by decide+kernel)];kernel_rfl)|(rw[ai (by decide+kernel)];exact⟨rfl,rfl⟩))
  (fun os started H enc _=>lifted os started H enc)
theorem proved:Rows.TopWithdrawnSaid:=over
end Go.Proofs.YtjcjjiieblineaaGreat.lawTopWithdrawn
