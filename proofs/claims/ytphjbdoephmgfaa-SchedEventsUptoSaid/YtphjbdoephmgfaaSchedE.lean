/- The walk of sched.After. -/
import Derived.Test.YtphjbdoephmgfaaSchedD
import Derived.Deep.RegionLaw
namespace Go.Proofs.Ytphjbdoephmgfaa
open Go.RowKit

theorem after_cut {zs : List Int} {t p : Int} {m : Nat} (h : m = p.toNat ∨ zs.length ≤ m ∧ zs.length ≤ p.toNat) : afterL zs t m = afterL zs t p.toNat := by
  rcases h with rfl | ⟨h1, h2⟩
  · rfl
  · exact afterL_big h1 h2

section
variable (w : World)
set_option maxHeartbeats 1000000 in
theorem after_any (A : Option Addr) (c : Nat) (zs : List Int) (t p : Int) (hl : zs.length ≤ 17592186043904) (hcap : zs.length ≤ c) (hr : RdI w .i64 A zs) :
    Calls Try.prog 11 #[.slice A zs.length c, .int .i64 t, .int .i64 p] w fun e w' => RetI .i64 (afterL zs t p.toNat) w e w' := by
  obtain ⟨m, X, hX, hmn, hcut, hwalk⟩ : ∃ (m : Nat) (X : Int), X = (m : Int) ∧ m ≤ zs.length ∧ afterL zs t m = afterL zs t p.toNat ∧ (p < 0 ∧ X = 0 ∨ 0 ≤ p ∧ p ≤ zs.length ∧ X = p ∨ (zs.length : Int) < p ∧ X = zs.length) := by
    by_cases h1 : p < 0
    · exact ⟨0, 0, rfl, by omega, after_cut (.inl (by omega)), .inl ⟨h1, rfl⟩⟩
    · by_cases h2 : p ≤ zs.length
      · exact ⟨p.toNat, p, by omega, by omega, rfl, .inr (.inl ⟨by omega, h2, rfl⟩)⟩
      · exact ⟨zs.length, zs.length, rfl, by omega, after_cut (.inr ⟨by omega, by omega⟩), .inr (.inr ⟨by omega, rfl⟩)⟩
  have s1 := run_sliceTo (P := Try.prog) 22 3 Try.underlying22 info_int A zs.length c m X hX (by omega)
  have s2 := run_sliceFrom (P := Try.prog) 22 3 Try.underlying22 info_int A zs.length c m X hX hmn
  have hr1 : RdI w .i64 A (zs.take m) := hr.take m
  have hr2 := hr.from hcap m
  have e1 : (zs.take m).length = m := by rw [List.length_take]; omega
  have e2 : (zs.drop m).length = zs.length - m := List.length_drop
  have HC := hide (fun w1 (h : Below w.heap.size w w1) => clone_any w1 A c (zs.take m) (by omega) (hr1.below h))
  have HW := hide (fun w1 (h : Below w.heap.size w w1) => without_any w1 (dropA A c m) (c - m) (zs.drop m) t (by omega) (hr2.below h))
  rw [e1] at HC
  rw [e2] at HW
  rw [← hcut]
  have hfl : ((zs.drop m).filter fun x => !(x == t)).length ≤ zs.length - m := by rw [← e2]; exact List.length_filter_le _ _
  have HFL := hide hfl; have E1 := hide e1
  clear hr hr1 hr2 e1 e2 hcut hX hfl
  have hl2 : (zs.length : Int) ≤ 17592186043904 := by omega
  rcases hwalk with ⟨h, rfl⟩ | ⟨h, h', rfl⟩ | ⟨h, rfl⟩
  all_goals
    go_enter Try.func11, Try.ntmps11
    go_wp2_with fail
    have hB0 : Below w.heap.size w w.drew := below_drewN (n := 1) (selfW w)
    go_region_law (first
      | (refine step_appI rfl _ _ 22 rfl w.heap.size 3 .i64 Try.underlying22 info_int v (zs.take m) rfl (ho.extW hb2) B _ d _ rfl rfl hr ?_ ?_ ?_; (have := HFL.out; have := E1.out; omega); (have := (extW hB1 hb2).size; omega); intro v3 w3 ho3 hg3 _)
      | (go_simp; go_at_call 30; refine (HC.out _ hB0).mono ?_; rintro e w1 ⟨v, rfl, ho, hb1⟩; have hB1 := extW hB0 hb1; go_wp2_with fail)
      | (go_simp; go_at_call 9; refine (HW.out _ hB1).mono ?_; rintro e w2 ⟨⟨B, d, rfl, hr⟩, hb2⟩; go_wp2_with fail))
    go_wp2_with fail
    go_ret
    exact ho3.ret ((ho.extW hb2).below_step (extW hB1 hb2) hg3 (by have := (extW hB1 hb2).size; omega) (Nat.le_refl _))
end
end Go.Proofs.Ytphjbdoephmgfaa
