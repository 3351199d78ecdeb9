/- Arguments that are acts: a slice of them, one by value. -/
import Derived.Test.YtdgnejapofkadaaStruct
import Derived.Test.YtdgnejapofkadaaGhR
namespace Go.Proofs.Ytdgnejapofkadaa
open Go.ChangeShapes Go.WideShapes Go.Deep Go.Joins Go.RowKit

theorem act_ints {fs : Array Field} (h : Try.prog.underlying 27 = some (.struct fs)) : ∀ (j : Nat) (f : Field), fs[j]? = some f → Try.prog.underlying f.type = some (.int .i64) := by
  have e := h.symm.trans Try.underlying27
  injection e with e
  injection e with e
  subst e
  intro j f hj
  match j, hj with
  | 0, hj => simp at hj; subst hj; exact Try.underlying3
  | 1, hj => simp at hj; subst hj; exact Try.underlying3
  | j + 2, hj => simp at hj
section
variable {H : Type} {enc : TypeId × Value → H} {w : World}
theorem arg_acts {p : List MemPlace} {A : Option Addr} {len cap : Nat} {d : DataW H} (h : DataW.Trod enc Try.prog w 0 (fun _ => true) true 22 (.slice A len cap) d p) :
    ∃ l : List (Int × Int), l.length = len ∧ RdF w actC A l ∧ len ≤ 9223372036854775807 := by
  obtain ⟨fuel, hf⟩ := h
  rcases arg_int_rows (k := .i64) Try.underlying22 Try.underlying27 (by kernel_rfl) (by kernel_rfl) (act_ints Try.underlying27) hf with h1 | ⟨a, l, c, F, h1, hl, hm, hc⟩
  · simp [Value.cells] at h1
    obtain ⟨rfl, rfl, rfl⟩ := h1
    exact ⟨[], rfl, RdF.nil _ _ _, by simp⟩
  · simp [Value.cells] at h1
    obtain ⟨rfl, rfl, rfl⟩ := h1
    refine ⟨(List.range len).map fun i => (F i 0, F i 1), by simp, RdF.of_cells actC_len ?_, Nat.le_trans hl hm⟩
    intro i x hx r u hu
    have hil : i < len := by have := (List.getElem?_eq_some_iff.1 hx).1; simpa using this
    simp [hil] at hx
    subst hx
    match r, hu with
    | 0, hu => simp [actC] at hu; subst hu; exact hc i hil 0 (by decide)
    | 1, hu => simp [actC] at hu; subst hu; exact hc i hil 1 (by decide)
    | r + 2, hu => simp [actC] at hu
end
end Go.Proofs.Ytdgnejapofkadaa
