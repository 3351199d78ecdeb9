/- An argument that is a request, opened: its numbers, and its cases. -/
import Derived.Test.YtmgjicenaanelaaStruct
import Derived.Test.YtmgjicenaanelaaPackV
namespace Go.Proofs.Ytmgjicenaanelaa
open Go.ChangeShapes Go.WideShapes Go.Deep Go.Joins Go.RowKit

section
variable {H : Type} {enc : TypeId × Value → H} {w : World}
theorem case_ints {f0 f1 f2 : Field} {j : Nat} {f : Field} (hj : #[f0, f1, f2][j]? = some f) (h0 : Try.prog.underlying f0.type = some (.int .i64) := by exact Try.underlying3) (h1 : Try.prog.underlying f1.type = some (.int .i64) := by exact Try.underlying3)
    (h2 : Try.prog.underlying f2.type = some (.int .i64) := by exact Try.underlying3) : Try.prog.underlying f.type = some (.int .i64) := by
  match j, hj with
  | 0, hj => simp at hj; subst hj; exact h0
  | 1, hj => simp at hj; subst hj; exact h1
  | 2, hj => simp at hj; subst hj; exact h2
  | j + 3, hj => simp at hj
theorem arg_req {v : Value} {d : DataW H} {p : List MemPlace} {r : Reach} {b : Nat} (hv : Value.okWide Try.prog w r b 50 v) (h : DataW.Trod enc Try.prog w 0 (fun _ => true) true 50 v d p) :
    ∃ (ki ar va : Int) (df : Bool) (A : Option Addr) (c : Nat) (cs : List (Int × Int × Int)), v = .agg #[.int .i64 ki, .int .i64 ar, .int .i64 va, .bool df, .slice A cs.length c] ∧ RdF w caseC A cs ∧ cs.length ≤ 9223372036854775807 := by
  obtain ⟨a0, b0, e0, f0, g0, ya, yb, ye, yf, yg, m, rfl, _, _, ha, hb, he, hf, hg⟩ := open_agg5 Try.underlying50 (by kernel_rfl) (by kernel_rfl) hv h
  obtain ⟨ki, e1, _, _⟩ := DataW.trod_int Try.underlying3 ha
  obtain ⟨ar, e2, _, _⟩ := DataW.trod_int Try.underlying3 hb
  obtain ⟨va, e3, _, _⟩ := DataW.trod_int Try.underlying3 he
  obtain ⟨df, e4, _⟩ := DataW.trod_bool Try.underlying4 hf
  simp at e1 e2 e3 e4
  subst e1 e2 e3 e4
  rcases arg_int_rows Try.underlying48 Try.underlying64 (by kernel_rfl) (by kernel_rfl) (fun j f hj => case_ints hj) hg with h1 | ⟨a, len, cap, F, h1, hl, hm, hc⟩
  · simp at h1
    subst h1
    exact ⟨ki, ar, va, df, none, 0, [], rfl, RdF.nil _ _ _, by simp⟩
  · simp at h1
    subst h1
    have hlen : ((List.range len).map fun i => (F i 0, F i 1, F i 2)).length = len := by simp
    refine ⟨ki, ar, va, df, some a, cap, (List.range len).map fun i => (F i 0, F i 1, F i 2), by rw [hlen], RdF.of_cells caseC_len ?_, by rw [hlen]; unfold maxLen at hm; omega⟩
    intro i c hi r u hu
    have hil : i < len := by have := (List.getElem?_eq_some_iff.1 hi).1; simpa using this
    simp [hil] at hi
    subst hi
    have hr : r < 3 := by have := (List.getElem?_eq_some_iff.1 hu).1; simpa [caseC] using this
    have h3 : w.cell? (a.add (i * 3 + r)) = some (.int .i64 (F i r)) := hc i hil r hr
    rw [h3]
    obtain rfl | rfl | rfl : r = 0 ∨ r = 1 ∨ r = 2 := by omega
    all_goals (simp [caseC] at hu; rw [hu])
end
end Go.Proofs.Ytmgjicenaanelaa
