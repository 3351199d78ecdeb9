/- PackCalls: for every input the law returns true, and its arguments read as before. No condition. -/
import Derived.Test.YtmgjicenaanelaaPackL
import Derived.Test.YtmgjicenaanelaaReq
namespace Go.Proofs.Ytmgjicenaanelaa.lawPackCalls
open Go.ChangeShapes Go.WideShapes Go.ChangeAt Go.RowKit

set_option maxRecDepth 100000 in
theorem lifted (os : Os) (started : os.Started) (H : Type) (enc : TypeId × Value → H) :
    ReturnsInHanded {} Try.checked os 9 .any (Rows.packCallsSpec.pre6 enc Try.prog Try.f9 Rows.packCallsRow.domain false) (Rows.packCallsSpec.post enc Try.prog Try.f9 false true false false) := by
  refine returnsInHanded_of_change_sized (C := Try.checked) Try.own started (by kernel_rfl) Try.func9
    (ChangeSpec.witness6 (enc := enc) (C := Try.checked) false ⟨#[], #[.agg #[.int .i64 0, .int .i64 0, .int .i64 0, .bool false, .slice none 0 0], .int .i64 0, .slice none 0 0], []⟩ 8 (by kernel_rfl) (by kernel_rfl) (by kernel_rfl) (by kernel_rfl)) ?_
  intro W base args ds gs before hval0 hW _ hsz0 _
  have hsz : (DataW.weightsEach Try.prog (Try.f9.params.toList ++ Rows.packCallsSpec.plain.varTypes Try.prog) (ds ++ gs)).all (· ≤ reachBytes) = true := hsz0
  have hval : ∀ (j : Nat) t v, Try.f9.params[j]? = some t → args[j]? = some v → Value.okWide Try.prog W .any base t v := hval0
  have hW0 : DataW.Whole enc Try.prog Try.f9.params.toList Rows.packCallsSpec.vars false W args.toList ds gs before := hW
  clear hsz0 hval0 hW
  have hW := hW0
  obtain ⟨p, q, hA0, hV, rfl, _, _⟩ := hW
  have hA : DataW.TrodAll enc Try.prog W 0 (fun _ => true) true Try.f9.params.toList args.toList ds p := hA0
  clear hA0
  rw [Try.params9] at hA hval hsz
  obtain ⟨v0, v1, v2, d0, d1, d2, p0, p1, p2, rfl, rfl, rfl, h0, h1, h2⟩ := trodAll_three hA
  obtain ⟨rfl, rfl⟩ := trodVars_none hV
  refine law_contract (P := Try.prog) (k := 9) (fn := Try.f9) Try.laidOut rfl Try.underlying4 rfl (by rw [Try.params9]; intro t ht; simp at ht; rcases ht with rfl | rfl | rfl <;> exact ⟨by kernel_rfl, of_decide_eq_true (by kernel_rfl)⟩) ⟨rfl, rfl, rfl⟩ hW0 ?_
  obtain ⟨ki0, ar0, va0, df0, A0, c0, cs0, rfl, hr0, hl0⟩ := arg_req (hval 0 50 v0 rfl rfl) h0
  obtain ⟨x1, rfl, rfl, rfl, w1⟩ := open_int Try.underlying3 (hval 1 3 v1 rfl rfl) h1
  obtain ⟨A2, n2, c2, rfl⟩ := okWide_slice Try.underlying22 (hval 2 22 v2 rfl rfl)
  obtain ⟨z2, rfl, hr2, hw2, hl2⟩ := arg_ints (j := 2) Try.underlying22 Try.underlying27 (by kernel_rfl) (by kernel_rfl) hsz rfl rfl h2
  have hc2 := arg_cap Try.underlying22 Try.underlying27 (by kernel_rfl) h2
  exact calls_law W ki0 ar0 va0 df0 A0 c0 cs0 x1 A2 c2 z2 hl0 hr0 (by omega) hc2 (fun z hz => wf_u64 (hw2 z hz)) hr2

theorem over : Rows.packCallsRow.holds Try.pinned (OpenSpec.ofChange Rows.packCallsSpec) :=
  OpenClaim.holds_of_wide 9 Try.f9 rfl rfl rfl rfl rfl rfl rfl ⟨rfl, rfl, rfl, rfl, rfl⟩ rfl rfl rfl rfl rfl (by kernel_rfl) Try.func9 (by kernel_rfl)
    (of_decide_eq_true (by kernel_rfl)) (by unfold Func.isWrapper; first | (rw [if_pos (by decide +kernel)]; kernel_rfl) | (rw [if_neg (by decide +kernel)]; exact ⟨rfl, rfl⟩))
    (fun os started H enc _ => lifted os started H enc)

theorem proved : Rows.PackCallsSaid := over
end Go.Proofs.Ytmgjicenaanelaa.lawPackCalls
