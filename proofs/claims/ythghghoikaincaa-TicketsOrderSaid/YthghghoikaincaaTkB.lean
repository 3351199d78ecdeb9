/- The walks of tickets' made, New, Thread, Limit. -/
import Derived.Test.YthghghoikaincaaTkA
import Derived.RegionTactic
import Derived.Deep.RegionLaw
import Derived.Laws.OwnMore
namespace Go.Proofs.Ythghghoikaincaa
open Go.RowKit

/-- the cells of n threads that do nothing -/
theorem cells_cm (n : Nat) : (madeCells #[.int .i64 0, .int .i64 0, .int .i64 0, .int .i64 0, .int .i64 0] (n * 5)).toList = (List.replicate n (⟨0, 0, 0, 0, 0⟩ : CmT)).flatMap cmC := by
  apply List.ext_getElem?
  intro i
  have hlen : ((List.replicate n (⟨0, 0, 0, 0, 0⟩ : CmT)).flatMap cmC).length = n * 5 := by rw [flat_len cmC_len, List.length_replicate]
  by_cases hi : i < n * 5
  · have h1 : i / 5 < n := by omega
    have h2 : i % 5 < 5 := Nat.mod_lt _ (by decide)
    have h3 := flat_get cmC_len (List.replicate n (⟨0, 0, 0, 0, 0⟩ : CmT)) (i / 5) ⟨0, 0, 0, 0, 0⟩ (i % 5) (by simp [h1]) h2
    rw [show i / 5 * 5 + i % 5 = i by omega] at h3
    rw [h3]
    rw [Array.getElem?_toList]
    have hz : (madeCells #[.int .i64 0, .int .i64 0, .int .i64 0, .int .i64 0, .int .i64 0] (n * 5))[i]? = some (.int .i64 0) := by
      unfold madeCells
      rw [Array.getElem?_map]
      rw [Array.getElem?_range]
      simp only [hi, if_true, Option.map_some]
      have h4 : i % 5 = 0 ∨ i % 5 = 1 ∨ i % 5 = 2 ∨ i % 5 = 3 ∨ i % 5 = 4 := by omega
      rcases h4 with h4 | h4 | h4 | h4 | h4 <;> simp [h4]
    rw [hz]
    have h4 : i % 5 = 0 ∨ i % 5 = 1 ∨ i % 5 = 2 ∨ i % 5 = 3 ∨ i % 5 = 4 := by omega
    rcases h4 with h4 | h4 | h4 | h4 | h4 <;> rw [h4] <;> rfl
  · rw [List.getElem?_eq_none (by rw [Array.length_toList, size_madeCells]; omega), List.getElem?_eq_none (by rw [hlen]; omega)]

section
variable (w : World)
set_option maxHeartbeats 400000 in
theorem tmade_any {base gq gm : Nat} {vw vg vc vt vn : Value} {q : QT} {C : List Int} (t : Int) (h : QV w base gq gm vw vg vc vt vn q C) :
    Calls Try.prog 20 #[.pointer (some ⟨gq, 0, none⟩), .int .i64 t] w fun e w' => e = .returned (.int .i64 (if t < 0 ∨ (q.T.length : Int) ≤ t then 1 else 0)) ∧ w = w' := by
  obtain ⟨A, c, rfl⟩ := h.men.shape
  have hcs := fun i => Blk.cell h.blk i
  have hgs := h.blk.lt
  obtain ⟨n, hn⟩ : ∃ n, n = q.T.length := ⟨_, rfl⟩
  rw [← hn] at hcs ⊢
  clear h hn
  by_cases h0 : t < 0
  · rw [if_pos (.inl h0)]
    go_enter Try.func20, Try.ntmps20
    go_wp2_with fail
    go_ret
    exact ⟨rfl, rfl⟩
  · by_cases h1 : (n : Int) ≤ t
    · have hd0 : decide (t < 0) = false := decide_eq_false h0
      rw [if_pos (.inr h1)]
      go_enter Try.func20, Try.ntmps20
      go_wp2_with fail
      go_ret
      exact ⟨rfl, rfl⟩
    · have hd0 : decide (t < 0) = false := decide_eq_false h0
      have hd1 : decide ((n : Int) ≤ t) = false := decide_eq_false h1
      rw [if_neg (by omega)]
      go_enter Try.func20, Try.ntmps20
      go_wp2_with fail
      go_ret
      exact ⟨rfl, rfl⟩
end
end Go.Proofs.Ythghghoikaincaa
