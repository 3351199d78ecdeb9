/- The walk of stopgateplain.Ints. -/
import Derived.Test.YtdgnejapofkadaaLists
namespace Go.Proofs.Ytdgnejapofkadaa
open Go.RowKit

section
variable (A B : Option Addr) (c d : Nat) (xs ys : List Int) (w : World)
set_option maxHeartbeats 400000 in
theorem ints_any (hl : xs.length ≤ 17592186044416) (hl' : ys.length ≤ 17592186044416) (ha : RdI w .i64 A xs) (hb : RdI w .i64 B ys) :
    Calls Try.prog 17 #[.slice A xs.length c, .slice B ys.length d] w fun e w' => e = .returned (.bool (xs == ys)) ∧ Drew w w' := by
  obtain ⟨n, hn⟩ : ∃ n, n = xs.length := ⟨_, rfl⟩
  obtain ⟨m, hm⟩ : ∃ m, m = ys.length := ⟨_, rfl⟩
  rw [← hn] at hl ⊢
  rw [← hm] at hl' ⊢
  by_cases hnm : n = m
  · subst hnm
    have HN := hide hn; clear hn
    have HM := hide hm; clear hm
    have HA := hide ha; clear ha
    have HB := hide hb; clear hb
    go_enter Try.func17, Try.ntmps17
    go_wp2
    go_loopw [13] (fun i wr => ∃ k : Nat, k ≤ n ∧ i = .int .i64 k ∧ Hid (Drew w wr) ∧ Hid (∀ j x y, j < k → xs[j]? = some x → ys[j]? = some y → x = y)) (fun i _ => n - (intOf i).toNat)
    case atStart => exact ⟨0, Nat.zero_le _, rfl, Drew.refl _, fun j x y hj => by omega⟩
    case round =>
      obtain ⟨k, hk, rfl, HD, HS⟩ := hrel
      by_cases hlt : k < n
      · obtain ⟨ad, x, hA, hx, hc⟩ := RdI.at_ (HA.out.drew HD.out) (by rw [← HN.out]; exact hlt)
        obtain ⟨bd, y, hB, hy, hd⟩ := RdI.at_ (HB.out.drew HD.out) (by rw [← HM.out]; exact hlt)
        subst hA; subst hB
        have HX := hide hx; clear hx
        have HY := hide hy; clear hy
        by_cases hxy : x = y
        · subst hxy
          go_wp2
          go_quiet (fail)
          go_wp2
          go_roundw
          case rel =>
            refine ⟨k + 1, by omega, by go_num, HD.out.more _, fun j x' y' hj hx' hy' => ?_⟩
            by_cases hjk : j = k
            · subst hjk
              have h1 := HX.out.symm.trans hx'
              have h2 := HY.out.symm.trans hy'
              simp only [Option.some.injEq] at h1 h2
              rw [← h1, ← h2]
            · exact HS.out j x' y' (by omega) hx' hy'
          case measure => simp [intOf]; omega
        · have hxy' : (x != y) = true := by simpa using hxy
          have HXY := hide hxy; clear hxy
          go_wp2
          go_quiet (fail)
          go_wp2
          go_ret
          refine ⟨ret_bool ?_, HD.out.more _⟩
          symm
          rw [beq_eq_false_iff_ne]
          rintro rfl
          have := HX.out.symm.trans HY.out
          simp only [Option.some.injEq] at this
          exact HXY.out this
      · go_wp2
        go_ret
        refine ⟨ret_bool ?_, HD.out⟩
        symm
        rw [beq_iff_eq]
        exact same_all HN.out HM.out hlt HS.out
  · have hne : ((n : Int) != (m : Int)) = true := by simp; omega
    go_enter Try.func17, Try.ntmps17
    go_wp2
    go_ret
    refine ⟨ret_bool ?_, Drew.refl _⟩
    symm
    rw [beq_eq_false_iff_ne]
    rintro rfl
    omega
end
end Go.Proofs.Ytdgnejapofkadaa
