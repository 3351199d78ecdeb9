/- Arguments that are acts of tickets: a slice of three ints each. What New answers to sizes that are not allowed. -/
import Derived.Test.YthghghoikaincaaTkR
import Derived.Test.YthghghoikaincaaStruct
import Derived.Test.YthghghoikaincaaLaw
namespace Go.Proofs.Ythghghoikaincaa
open Go.ChangeShapes Go.WideShapes Go.Deep Go.Joins Go.RowKit

structure AcT where
  (kind th x : Int)
def acC (a : AcT) : List Value := [.int .i64 a.kind, .int .i64 a.th, .int .i64 a.x]
theorem acC_len (a : AcT) : (acC a).length = 3 := rfl
theorem ac_ints {fs : Array Field} (h : Try.prog.underlying 30 = some (.struct fs)) : ∀ (j : Nat) (f : Field), fs[j]? = some f → Try.prog.underlying f.type = some (.int .i64) := by
  have e := h.symm.trans Try.underlying30
  injection e with e
  injection e with e
  subst e
  intro j f hj
  match j, hj with
  | 0, hj => simp at hj; subst hj; exact Try.underlying3
  | 1, hj => simp at hj; subst hj; exact Try.underlying3
  | 2, hj => simp at hj; subst hj; exact Try.underlying3
  | j + 3, hj => simp at hj
section
variable {H : Type} {enc : TypeId × Value → H} {w : World}
theorem arg_acs {p : List MemPlace} {A : Option Addr} {len cap : Nat} {d : DataW H} (h : DataW.Trod enc Try.prog w 0 (fun _ => true) true 22 (.slice A len cap) d p) :
    ∃ l : List AcT, l.length = len ∧ RdF w acC A l ∧ len ≤ 9223372036854775807 := by
  obtain ⟨fuel, hf⟩ := h
  rcases arg_int_rows (k := .i64) Try.underlying22 Try.underlying30 (by kernel_rfl) (by kernel_rfl) (ac_ints Try.underlying30) hf with h1 | ⟨a, l, c, F, h1, hl, hm, hc⟩
  · simp [Value.cells] at h1
    obtain ⟨rfl, rfl, rfl⟩ := h1
    exact ⟨[], rfl, RdF.nil _ _ _, by simp⟩
  · simp [Value.cells] at h1
    obtain ⟨rfl, rfl, rfl⟩ := h1
    refine ⟨(List.range len).map fun i => ⟨F i 0, F i 1, F i 2⟩, by simp, RdF.of_cells acC_len ?_, Nat.le_trans hl hm⟩
    intro i x hx r u hu
    have hil : i < len := by have := (List.getElem?_eq_some_iff.1 hx).1; simpa using this
    simp [hil] at hx
    subst hx
    match r, hu with
    | 0, hu => simp [acC] at hu; subst hu; exact hc i hil 0 (by decide)
    | 1, hu => simp [acC] at hu; subst hu; exact hc i hil 1 (by decide)
    | 2, hu => simp [acC] at hu; subst hu; exact hc i hil 2 (by decide)
    | r + 3, hu => simp [acC] at hu
end
section
variable (w : World)
/-- sizes that New allows -/
def newOk (s n k : Int) : Prop := 1 ≤ s ∧ s ≤ 4096 ∧ 1 ≤ n ∧ n ≤ 64 ∧ 1 ≤ k ∧ k ≤ 64
set_option maxHeartbeats 1000000 in
theorem tnew_bad (s n k : Int) (h : ¬ newOk s n k) :
    Calls Try.prog 6 #[.int .i64 s, .int .i64 n, .int .i64 k] w fun e w' => e = .returned (.tuple #[.pointer none, .int .i64 1]) ∧ w = w' := by
  have bad : ∀ (a1 a2 a3 a4 a5 a6 : Bool), decide (s < 1) = a1 → decide (4096 < s) = a2 → decide (n < 1) = a3 → decide (64 < n) = a4 → decide (k < 1) = a5 → decide (64 < k) = a6 → (a1 || a2 || a3 || a4 || a5 || a6) = true → Calls Try.prog 6 #[.int .i64 s, .int .i64 n, .int .i64 k] w fun e w' => e = .returned (.tuple #[.pointer none, .int .i64 1]) ∧ w = w' := by
    clear h
    intro a1 a2 a3 a4 a5 a6 e1 e2 e3 e4 e5 e6 ha
    rcases a1 with _ | _ <;> rcases a2 with _ | _ <;> rcases a3 with _ | _ <;> rcases a4 with _ | _ <;> rcases a5 with _ | _ <;> rcases a6 with _ | _ <;> first
      | exact absurd ha (by decide)
      | (clear ha
         go_enter Try.func6, Try.ntmps6
         go_wp2_with fail
         go_ret2
         exact ⟨rfl, rfl⟩)
  refine bad _ _ _ _ _ _ rfl rfl rfl rfl rfl rfl ?_
  unfold newOk at h
  simp only [Bool.or_eq_true, decide_eq_true_eq]
  omega
end
end Go.Proofs.Ythghghoikaincaa
