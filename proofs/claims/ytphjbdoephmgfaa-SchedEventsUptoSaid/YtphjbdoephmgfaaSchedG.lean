/- How far picks are from fair, in plain words; the walks of sched.Fair, sched.Least. -/
import Derived.Test.YtphjbdoephmgfaaSchedF
namespace Go.Proofs.Ytphjbdoephmgfaa
open Go.RowKit

/-- how many stand behind the last t -/
def gapL (zs : List Int) (t : Int) : Nat := zs.foldl (fun g x => if x = t then 0 else g + 1) 0
theorem gapL_snoc {zs : List Int} {k : Nat} {z : Int} (h : zs[k]? = some z) (t : Int) : gapL (zs.take (k + 1)) t = if z = t then 0 else gapL (zs.take k) t + 1 := by
  unfold gapL
  rw [take_of h, List.foldl_append]
  rfl
theorem gapL_le (zs : List Int) (t : Int) : ∀ k, k ≤ zs.length → gapL (zs.take k) t ≤ k := by
  intro k
  induction k with
  | zero => intro _; simp [gapL]
  | succ k ih =>
    intro hk
    have h : zs[k]? = some zs[k] := List.getElem?_eq_getElem (by omega)
    rw [gapL_snoc h]
    have := ih (by omega)
    split <;> omega
theorem gapL_ge {zs : List Int} {t : Int} : ∀ k, k ≤ zs.length → ∀ g, g ≤ gapL (zs.take k) t ↔ g ≤ k ∧ ∀ (j : Nat) (z : Int), k - g ≤ j → j < k → zs[j]? = some z → z ≠ t := by
  intro k
  induction k with
  | zero =>
    intro _ g
    simp only [gapL, List.take_zero, List.foldl_nil]
    constructor
    · intro h; exact ⟨h, fun j z _ hj => by omega⟩
    · intro h; exact h.1
  | succ k ih =>
    intro hk g
    have h : zs[k]? = some zs[k] := List.getElem?_eq_getElem (by omega)
    rw [gapL_snoc h]
    by_cases hz : zs[k] = t
    · rw [if_pos hz]
      constructor
      · intro hg; exact ⟨by omega, fun j z h1 h2 _ => by omega⟩
      · intro ⟨hg, hall⟩
        rcases Nat.eq_zero_or_pos g with h0 | h0
        · omega
        · exact absurd hz (hall k _ (by omega) (by omega) h)
    · rw [if_neg hz]
      rcases g with _ | g
      · constructor
        · intro _; exact ⟨by omega, fun j z h1 h2 _ => by omega⟩
        · intro _; omega
      · rw [Nat.add_le_add_iff_right, ih (by omega) g]
        constructor
        · intro ⟨h1, h2⟩
          refine ⟨by omega, fun j z hj1 hj2 hj => ?_⟩
          by_cases hjk : j = k
          · subst hjk
            rw [h] at hj; injection hj with hj; rw [← hj]; exact hz
          · exact h2 j z (by omega) (by omega) hj
        · intro ⟨h1, h2⟩
          exact ⟨by omega, fun j z hj1 hj2 hj => h2 j z (by omega) (by omega) hj⟩

/-- the greatest gap of t within the first k; of all threads below T -/
def mgT (zs : List Int) (t : Int) : Nat → Nat
  | 0 => 0
  | k + 1 => max (mgT zs t k) (gapL (zs.take (k + 1)) t)
def mg (zs : List Int) : Nat → Nat
  | 0 => 0
  | T + 1 => max (mg zs T) (mgT zs T zs.length)
theorem mgT_lt {zs : List Int} {t : Int} {w : Nat} (hw : 0 < w) : ∀ k, mgT zs t k < w ↔ ∀ j, j ≤ k → gapL (zs.take j) t < w := by
  intro k
  induction k with
  | zero =>
    simp only [mgT]
    constructor
    · intro h j hj; have : j = 0 := by omega
      subst this; simpa [gapL] using hw
    · intro _; exact hw
  | succ k ih =>
    simp only [mgT]
    rw [Nat.max_lt, ih]
    constructor
    · intro ⟨h1, h2⟩ j hj
      by_cases hjk : j = k + 1
      · subst hjk; exact h2
      · exact h1 j (by omega)
    · intro h
      exact ⟨fun j hj => h j (by omega), h _ (Nat.le_refl _)⟩
theorem mg_lt {zs : List Int} {w : Nat} (hw : 0 < w) : ∀ T, mg zs T < w ↔ ∀ t : Nat, t < T → ∀ k, k ≤ zs.length → gapL (zs.take k) t < w := by
  intro T
  induction T with
  | zero => simp only [mg]; exact ⟨fun _ t ht => by omega, fun _ => hw⟩
  | succ T ih =>
    simp only [mg]
    rw [Nat.max_lt, ih, mgT_lt hw]
    constructor
    · intro ⟨h1, h2⟩ t ht
      by_cases htT : t = T
      · subst htT; exact h2
      · exact h1 t (by omega)
    · intro h
      exact ⟨fun t ht => h t (by omega), h T (by omega)⟩
theorem mgT_le (zs : List Int) (t : Int) : ∀ k, k ≤ zs.length → mgT zs t k ≤ k := by
  intro k hk
  have := (mgT_lt (zs := zs) (t := t) (w := k + 1) (by omega) k).2 (fun j hj => by have := gapL_le zs t j (by omega); omega)
  omega
theorem mg_le (zs : List Int) (T : Nat) : mg zs T ≤ zs.length := by
  have := (mg_lt (zs := zs) (w := zs.length + 1) (by omega) T).2 (fun t _ k hk => by have := gapL_le zs t k hk; omega)
  omega
/-- picks are fair by a window -/
def fairB (zs : List Int) (T : Nat) (w : Int) : Bool := decide ((mg zs T : Int) < w)
theorem fairB_no {zs : List Int} {T : Nat} {w : Int} {t k : Nat} (ht : t < T) (hk : k ≤ zs.length) (h : w ≤ gapL (zs.take k) t) : fairB zs T w = false := by
  unfold fairB
  rw [decide_eq_false_iff_not]
  intro hm
  obtain ⟨W, rfl⟩ := Int.eq_ofNat_of_zero_le (show 0 ≤ w by omega)
  have := (mg_lt (zs := zs) (w := W) (by omega) T).1 (by omega) t ht k hk
  omega
theorem fairB_yes {zs : List Int} {T : Nat} {w : Int} (hw : 1 ≤ w) (h : ∀ t : Nat, t < T → ∀ k, k ≤ zs.length → (gapL (zs.take k) t : Int) < w) : fairB zs T w = true := by
  unfold fairB
  rw [decide_eq_true_iff]
  obtain ⟨W, rfl⟩ := Int.eq_ofNat_of_zero_le (show 0 ≤ w by omega)
  have := (mg_lt (zs := zs) (w := W) (by omega) T).2 (fun t ht k hk => by have := h t ht k hk; omega)
  omega
theorem fairB_low {zs : List Int} {T : Nat} {w : Int} (hw : w < 1) : fairB zs T w = false := by
  unfold fairB; rw [decide_eq_false_iff_not]; omega

/-- where each thread stood last; -1: nowhere -/
def lastL (zs : List Int) (T : Nat) : List Int := (List.range T).map fun t : Nat => (zs.length : Int) - 1 - gapL zs t
theorem lastL_nil (T : Nat) : lastL [] T = List.replicate T (-1) := by
  apply List.ext_getElem
  · simp [lastL]
  · intro i h2 h3
    simp [lastL, gapL]
theorem lastL_len (zs : List Int) (T : Nat) : (lastL zs T).length = T := by simp [lastL]
theorem lastL_in {zs : List Int} {T k : Nat} {z : Int} (h : zs[k]? = some z) (h0 : 0 ≤ z) : lastL (zs.take (k + 1)) T = (lastL (zs.take k) T).set z.toNat k := by
  have hk := len_of h
  have e1 : (zs.take (k + 1)).length = k + 1 := by rw [List.length_take]; omega
  have e2 : (zs.take k).length = k := by rw [List.length_take]; omega
  apply List.ext_getElem
  · simp [lastL]
  · intro i h2 h3
    simp only [lastL, List.getElem_map, List.getElem_range, List.getElem_set, e1, e2]
    rw [gapL_snoc h]
    by_cases hz : z.toNat = i
    · rw [if_pos hz, if_pos (by omega)]; omega
    · rw [if_neg hz, if_neg (by omega)]; omega
theorem lastL_out {zs : List Int} {T k : Nat} {z : Int} (h : zs[k]? = some z) (h0 : z < 0 ∨ (T : Int) ≤ z) : lastL (zs.take (k + 1)) T = lastL (zs.take k) T := by
  have hk := len_of h
  have e1 : (zs.take (k + 1)).length = k + 1 := by rw [List.length_take]; omega
  have e2 : (zs.take k).length = k := by rw [List.length_take]; omega
  apply List.ext_getElem
  · simp [lastL]
  · intro i h2 h3
    simp only [lastL, List.getElem_map, List.getElem_range, e1, e2]
    have : i < T := by simpa [lastL] using h2
    rw [gapL_snoc h, if_neg (by omega)]; omega
theorem lastL_any {zs : List Int} {T k : Nat} (hk : k + 1 ≤ zs.length) (v : Int) :
    ((lastL (zs.take (k + 1)) T).any fun x => decide (x ≤ (k : Int) - v)) = true ↔ ∃ t : Nat, t < T ∧ v ≤ gapL (zs.take (k + 1)) t := by
  have e1 : (zs.take (k + 1)).length = k + 1 := by rw [List.length_take]; omega
  rw [List.any_eq_true]
  constructor
  · rintro ⟨x, hx, hxv⟩
    simp only [lastL, List.mem_map, List.mem_range, e1] at hx
    obtain ⟨t, ht, rfl⟩ := hx
    rw [decide_eq_true_iff] at hxv
    exact ⟨t, ht, by omega⟩
  · rintro ⟨t, ht, hv⟩
    refine ⟨_, List.mem_map.2 ⟨t, List.mem_range.2 ht, rfl⟩, ?_⟩
    rw [decide_eq_true_iff, e1]; omega
theorem wrap_sub (k : Nat) (v : Int) (hk : k ≤ 17592186044416) (h1 : 1 ≤ v) (h2 : v ≤ 9223372036854775807) : wrap64 ((k : Int) - v) = (k : Int) - v := by unfold wrap64; omega
end Go.Proofs.Ytphjbdoephmgfaa
