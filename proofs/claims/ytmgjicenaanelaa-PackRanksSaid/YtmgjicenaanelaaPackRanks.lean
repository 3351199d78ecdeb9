/- PackRanks: for every input the law returns true, and its arguments read as before. No condition. -/
import Derived.Test.YtmgjicenaanelaaPackP
import Derived.Test.YtmgjicenaanelaaLaw
namespace Go.Proofs.Ytmgjicenaanelaa.lawPackRanks
open Go.ChangeShapes Go.WideShapes Go.ChangeAt Go.RowKit Go.Joins

set_option maxRecDepth 100000 in
theorem lifted (os : Os) (started : os.Started) (H : Type) (enc : TypeId × Value → H) :
    ReturnsInHanded {} Try.checked os 11 .any (Rows.packRanksSpec.pre6 enc Try.prog Try.f11 Rows.packRanksRow.domain false) (Rows.packRanksSpec.post enc Try.prog Try.f11 false true false false) := by
  refine returnsInHanded_of_change_sized (C := Try.checked) Try.own started (by kernel_rfl) Try.func11
    (ChangeSpec.witness6 (enc := enc) (C := Try.checked) false ⟨#[], #[.agg #[.int .i64 0, .int .i64 0, .int .i64 0, .int .i64 0], .int .u64 0, .int .u64 0], []⟩ 8 (by kernel_rfl) (by kernel_rfl) (by kernel_rfl) (by kernel_rfl)) ?_
  intro W base args ds gs before hval0 hW _ hsz0 _
  have hsz : (DataW.weightsEach Try.prog (Try.f11.params.toList ++ Rows.packRanksSpec.plain.varTypes Try.prog) (ds ++ gs)).all (· ≤ reachBytes) = true := hsz0
  have hval : ∀ (j : Nat) t v, Try.f11.params[j]? = some t → args[j]? = some v → Value.okWide Try.prog W .any base t v := hval0
  have hW0 : DataW.Whole enc Try.prog Try.f11.params.toList Rows.packRanksSpec.vars false W args.toList ds gs before := hW
  clear hsz0 hval0 hW
  have hW := hW0
  obtain ⟨p, q, hA0, hV, rfl, _, _⟩ := hW
  have hA : DataW.TrodAll enc Try.prog W 0 (fun _ => true) true Try.f11.params.toList args.toList ds p := hA0
  clear hA0
  rw [Try.params11] at hA hval hsz
  obtain ⟨v0, v1, v2, d0, d1, d2, p0, p1, p2, rfl, rfl, rfl, h0, h1, h2⟩ := trodAll_three hA
  obtain ⟨rfl, rfl⟩ := trodVars_none hV
  refine law_contract (P := Try.prog) (k := 11) (fn := Try.f11) Try.laidOut rfl Try.underlying4 rfl (by rw [Try.params11]; intro t ht; simp at ht; rcases ht with rfl | rfl <;> exact ⟨by kernel_rfl, of_decide_eq_true (by kernel_rfl)⟩) ⟨rfl, rfl, rfl⟩ hW0 ?_
  obtain ⟨a0, b0, e0, f0, ya0, yb0, ye0, yf0, m0, rfl, rfl, rfl, ha0, hb0, he0, hf0⟩ := open_agg4 Try.underlying42 (by kernel_rfl) (by kernel_rfl) (hval 0 42 v0 rfl rfl) h0
  obtain ⟨s0, ea0, rfl, _⟩ := DataW.trod_int Try.underlying3 ha0
  obtain ⟨k0, eb0, rfl, _⟩ := DataW.trod_int Try.underlying3 hb0
  obtain ⟨o0, ee0, rfl, _⟩ := DataW.trod_int Try.underlying40 he0
  obtain ⟨u0, ef0, rfl, _⟩ := DataW.trod_int Try.underlying3 hf0
  simp at ea0 eb0 ee0 ef0
  subst ea0 eb0 ee0 ef0
  obtain ⟨x1, rfl, rfl, rfl, w1⟩ := open_int Try.underlying27 (hval 1 27 v1 rfl rfl) h1
  obtain ⟨x2, rfl, rfl, rfl, w2⟩ := open_int Try.underlying27 (hval 2 27 v2 rfl rfl) h2
  exact ranks_law W s0 k0 o0 u0 x1 x2 (wf_u64 w1).1 (wf_u64 w1).2 (wf_u64 w2).1 (wf_u64 w2).2

theorem over : Rows.packRanksRow.holds Try.pinned (OpenSpec.ofChange Rows.packRanksSpec) :=
  OpenClaim.holds_of_wide 11 Try.f11 rfl rfl rfl rfl rfl rfl rfl ⟨rfl, rfl, rfl, rfl, rfl⟩ rfl rfl rfl rfl rfl (by kernel_rfl) Try.func11 (by kernel_rfl)
    (of_decide_eq_true (by kernel_rfl)) (by unfold Func.isWrapper; first | (rw [if_pos (by decide +kernel)]; kernel_rfl) | (rw [if_neg (by decide +kernel)]; exact ⟨rfl, rfl⟩))
    (fun os started H enc _ => lifted os started H enc)

theorem proved : Rows.PackRanksSaid := over
end Go.Proofs.Ytmgjicenaanelaa.lawPackRanks
