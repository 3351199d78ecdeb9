/- GhostsOwn: for every input the law returns true, and its arguments read as before. No condition. -/
import Derived.Test.YtdgnejapofkadaaGrI
import Derived.Test.YtdgnejapofkadaaActs
import Derived.Test.YtdgnejapofkadaaLaw
namespace Go.Proofs.Ytdgnejapofkadaa.lawGhostsOwn
open Go.ChangeShapes Go.WideShapes Go.ChangeAt Go.RowKit Go.Joins

set_option maxRecDepth 100000 in
theorem lifted (os : Os) (started : os.Started) (H : Type) (enc : TypeId × Value → H) :
    ReturnsInHanded {} Try.checked os 6 .any (Rows.ghostsOwnSpec.pre6 enc Try.prog Try.f6 Rows.ghostsOwnRow.domain false) (Rows.ghostsOwnSpec.post enc Try.prog Try.f6 false true false false) := by
  refine returnsInHanded_of_change_sized (C := Try.checked) Try.own started (by kernel_rfl) Try.func6
    (ChangeSpec.witness6 (enc := enc) (C := Try.checked) false ⟨#[], #[.int .i64 0, .slice none 0 0, .agg #[.int .i64 0, .int .i64 0]], []⟩ 8 (by kernel_rfl) (by kernel_rfl) (by kernel_rfl) (by kernel_rfl)) ?_
  intro W base args ds gs before hval0 hW _ hsz0 _
  have hsz : (DataW.weightsEach Try.prog (Try.f6.params.toList ++ Rows.ghostsOwnSpec.plain.varTypes Try.prog) (ds ++ gs)).all (· ≤ reachBytes) = true := hsz0
  have hval : ∀ (j : Nat) t v, Try.f6.params[j]? = some t → args[j]? = some v → Value.okWide Try.prog W .any base t v := hval0
  have hW0 : DataW.Whole enc Try.prog Try.f6.params.toList Rows.ghostsOwnSpec.vars false W args.toList ds gs before := hW
  clear hsz0 hval0 hW
  have hW := hW0
  obtain ⟨p, q, hA0, hV, rfl, _, _⟩ := hW
  have hA : DataW.TrodAll enc Try.prog W 0 (fun _ => true) true Try.f6.params.toList args.toList ds p := hA0
  clear hA0
  rw [Try.params6] at hA hval hsz
  obtain ⟨v0, v1, v2, d0, d1, d2, p0, p1, p2, rfl, rfl, rfl, h0, h1, h2⟩ := trodAll_three hA
  obtain ⟨rfl, rfl⟩ := trodVars_none hV
  refine law_contract (P := Try.prog) (k := 6) (fn := Try.f6) Try.laidOut rfl Try.underlying4 rfl (by rw [Try.params6]; intro t ht; simp at ht; rcases ht with rfl | rfl | rfl <;> exact ⟨by kernel_rfl, of_decide_eq_true (by kernel_rfl)⟩) ⟨rfl, rfl, rfl⟩ hW0 ?_
  obtain ⟨x0, rfl, rfl, rfl, w0⟩ := open_int Try.underlying3 (hval 0 3 v0 rfl rfl) h0
  obtain ⟨A1, n1, c1, rfl⟩ := okWide_slice Try.underlying22 (hval 1 22 v1 rfl rfl)
  obtain ⟨l1, rfl, hr1, hl1⟩ := arg_acts h1
  obtain ⟨a2, b2, ya2, yb2, m2, rfl, rfl, rfl, ha2, hb2⟩ := open_agg2 Try.underlying27 (by kernel_rfl) (by kernel_rfl) (hval 2 27 v2 rfl rfl) h2
  obtain ⟨s2, ea2, rfl, _⟩ := DataW.trod_int Try.underlying3 ha2
  obtain ⟨k2, eb2, rfl, _⟩ := DataW.trod_int Try.underlying3 hb2
  simp at ea2 eb2
  subst ea2 eb2
  exact own_law W x0 s2 k2 A1 c1 l1 hr1 hl1

theorem over : Rows.ghostsOwnRow.holds Try.pinned (OpenSpec.ofChange Rows.ghostsOwnSpec) :=
  OpenClaim.holds_of_wide 6 Try.f6 rfl rfl rfl rfl rfl rfl rfl ⟨rfl, rfl, rfl, rfl, rfl⟩ rfl rfl rfl rfl rfl (by kernel_rfl) Try.func6 (by kernel_rfl)
    (of_decide_eq_true (by kernel_rfl)) (by unfold Func.isWrapper; first | (rw [if_pos (by decide +kernel)]; kernel_rfl) | (rw [if_neg (by decide +kernel)]; exact ⟨rfl, rfl⟩))
    (fun os started H enc _ => lifted os started H enc)

theorem proved : Rows.GhostsOwnSaid := over
end Go.Proofs.Ytdgnejapofkadaa.lawGhostsOwn
