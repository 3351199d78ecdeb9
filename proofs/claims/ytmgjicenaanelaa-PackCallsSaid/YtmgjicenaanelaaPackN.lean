/- The walk of stopgateref02.ReadCall. -/
import Derived.Test.YtmgjicenaanelaaPackS
namespace Go.Proofs.Ytmgjicenaanelaa
open Go.RowKit

/-- a case's word at place i, of a call of n cases -/
def condC (n i : Nat) (x : Int) : Prop := if i < n then oneB x = true else x = 0
theorem oneB_dec {x : Int} (h : oneB x = true) (h0 : 0 ≤ x) (h1 : x < 18446744073709551616) : mayC (decC x) = true ∧ caseW (decC x) = x := by
  have e1 : x / 256 / 65536 = x / 16777216 := by omega
  have e2 : x / 16777216 / 256 = x / 4294967296 := by omega
  simp only [oneB, Bool.and_eq_true, Bool.or_eq_true, beq_iff_eq] at h
  have hv : 0 ≤ x / 4294967296 ∧ x / 4294967296 < 4294967296 := by omega
  have hh : 0 ≤ x / 256 % 65536 ∧ x / 256 % 65536 < 65536 := by omega
  constructor
  · unfold mayC mayB decC fitsB
    simp [h.1, hv, hh]
  · unfold caseW decC
    simp only
    omega
theorem oneB_not {x : Int} (h : mayC (decC x) = true) (hc : caseW (decC x) = x) : oneB x = true := by
  have e1 : x / 256 / 65536 = x / 16777216 := by omega
  have e2 : x / 16777216 / 256 = x / 4294967296 := by omega
  unfold mayC mayB decC at h
  simp only [Bool.and_eq_true, Bool.or_eq_true, beq_iff_eq] at h
  unfold caseW decC at hc
  simp only at hc
  simp only [oneB, Bool.and_eq_true, Bool.or_eq_true, beq_iff_eq]
  exact ⟨h.1.1, by omega⟩
/-- what makes five words a call's -/
def isCall (l0 l1 l2 l3 l4 : Int) (n : Nat) : Prop :=
  l4 ≤ 4294967295 ∧ 1 ≤ l0 % 256 ∧ l0 % 256 ≤ 9 ∧ n ≤ 3 ∧ l0 / 4096 % 16 ≤ 1 ∧ ∀ (i : Nat) (x : Int), i < 3 → [l1, l2, l3, l4][i]? = some x → condC n i x
theorem head_same {l0 : Int} {n : Nat} (hn : l0 / 256 % 16 = (n : Int)) :
    headW (l0 % 256) (l0 / 65536 % 65536) (l0 / 4294967296) (l0 / 4096 % 2 == 1) n = l0 ↔ l0 / 4096 % 16 ≤ 1 := by
  have e1 : l0 / 256 / 16 = l0 / 4096 := by omega
  have e2 : l0 / 4096 / 16 = l0 / 65536 := by omega
  have e3 : l0 / 65536 / 65536 = l0 / 4294967296 := by omega
  unfold headW
  by_cases hb : l0 / 4096 % 2 = 1
  · rw [if_pos (by simpa using hb)]; omega
  · rw [if_neg (by simpa using hb)]; omega
theorem isCall_read {l0 l1 l2 l3 l4 : Int} {n : Nat} (hz : ∀ z ∈ [l0, l1, l2, l3, l4], 0 ≤ z ∧ z < 18446744073709551616) (hn : l0 / 256 % 16 = (n : Int)) :
    readB [l0, l1, l2, l3, l4] = true ↔ isCall l0 l1 l2 l3 l4 n := by
  have b0 := hz l0 (by simp); have b1 := hz l1 (by simp); have b2 := hz l2 (by simp); have b3 := hz l3 (by simp); have b4 := hz l4 (by simp)
  have hr : rdN [l0, l1, l2, l3, l4] = (n : Int) := hn
  have hh := head_same hn
  by_cases hn3 : n ≤ 3
  · have hcs : rdCs [l0, l1, l2, l3, l4] = ([l1, l2, l3, l4].take n).map decC := by
      unfold rdCs; rw [hr]; rfl
    have hlen : (([l1, l2, l3, l4].take n).map decC).length = n := by simp; omega
    unfold readB isCall
    rw [hr, hcs]
    simp only [List.length_cons, List.length_nil, List.getD_cons_zero, List.getD_cons_succ]
    have hv : 0 ≤ l0 / 4294967296 ∧ l0 / 4294967296 < 4294967296 := by omega
    have hh' : 0 ≤ l0 / 65536 % 65536 ∧ l0 / 65536 % 65536 < 65536 := by omega
    have hif : (fitsQ (l0 % 256) (l0 / 65536 % 65536) (l0 / 4294967296) (([l1, l2, l3, l4].take n).map decC) = true ∧ fitsB l4 4294967296 = true) ↔ ((1 ≤ l0 % 256 ∧ l0 % 256 ≤ 9 ∧ (([l1, l2, l3, l4].take n).map decC).all mayC = true) ∧ l4 ≤ 4294967295) := by
      unfold fitsQ fitsB
      rw [hlen, decide_eq_true (p := 0 ≤ l0 / 65536 % 65536 ∧ l0 / 65536 % 65536 < 65536) hh', decide_eq_true (p := 0 ≤ l0 / 4294967296 ∧ l0 / 4294967296 < 4294967296) hv, decide_eq_true (p := n ≤ 3) hn3]
      simp only [Bool.and_true, Bool.and_eq_true, decide_eq_true_eq]
      constructor
      · intro ⟨⟨a, b⟩, c⟩; exact ⟨⟨a.1, a.2, b⟩, by omega⟩
      · intro ⟨⟨a, b, c⟩, d⟩; exact ⟨⟨⟨a, b⟩, c⟩, by omega⟩
    unfold callL
    rw [hlen]
    simp only [hif]
    obtain rfl | rfl | rfl | rfl : n = 0 ∨ n = 1 ∨ n = 2 ∨ n = 3 := by omega
    all_goals
      simp only [Bool.and_eq_true, decide_eq_true_eq, beq_iff_eq]
      constructor
      · intro ⟨⟨⟨_, _⟩, h4⟩, hc⟩
        split at hc
        · rename_i hif
          simp at hc
          obtain ⟨⟨g1, g2, g3⟩, g4⟩ := hif
          simp at g3
          refine ⟨h4, g1, g2, by omega, hh.1 hc.1, fun i x hi hx => ?_⟩
          obtain rfl | rfl | rfl : i = 0 ∨ i = 1 ∨ i = 2 := by omega
          all_goals
            simp at hx
            subst hx
            simp [condC]
            first
              | (simp_all; done)
              | (exact oneB_not (by simp_all) (by simp_all))
              | omega
        · simp at hc
      · intro ⟨h4, h1, h2, _, h5, hall⟩
        have c0 := hall 0 l1 (by omega) rfl
        have c1 := hall 1 l2 (by omega) rfl
        have c2 := hall 2 l3 (by omega) rfl
        simp only [condC] at c0 c1 c2
        have hhd := hh.2 h5
        refine ⟨⟨⟨trivial, by omega⟩, h4⟩, ?_⟩
        first
          | (simp at c0 c1 c2; rw [if_pos ⟨⟨h1, h2, by simp⟩, h4⟩]; simp; exact ⟨hhd, by omega, by omega, by omega⟩)
          | (simp at c0 c1 c2; have d0 := oneB_dec c0 b1.1 b1.2; rw [if_pos ⟨⟨h1, h2, by simp [d0.1]⟩, h4⟩]; simp [d0.2]; exact ⟨hhd, by omega, by omega⟩)
          | (simp at c0 c1 c2; have d0 := oneB_dec c0 b1.1 b1.2; have d1 := oneB_dec c1 b2.1 b2.2; rw [if_pos ⟨⟨h1, h2, by simp [d0.1, d1.1]⟩, h4⟩]; simp [d0.2, d1.2]; exact ⟨hhd, by omega⟩)
          | (simp at c0 c1 c2; have d0 := oneB_dec c0 b1.1 b1.2; have d1 := oneB_dec c1 b2.1 b2.2; have d2 := oneB_dec c2 b3.1 b3.2; rw [if_pos ⟨⟨h1, h2, by simp [d0.1, d1.1, d2.1]⟩, h4⟩]; simp [d0.2, d1.2, d2.2]; exact hhd)
  · constructor
    · intro h
      rw [readB_many (by rw [hr]; omega)] at h; cases h
    · intro h; exact absurd h.2.2.2.1 hn3
end Go.Proofs.Ytmgjicenaanelaa
