/- The walks of stopgateplain.Words, Ints, stopgateref07.All, epoch.In, stopgateref07.In. -/
import Derived.Test.YtmgjicenaanelaaEpochW
namespace Go.Proofs.Ytmgjicenaanelaa
open Go.RowKit

theorem len_of {α : Type} {zs : List α} {k : Nat} {z : α} (h : zs[k]? = some z) : k < zs.length := (List.getElem?_eq_some_iff.1 h).1
theorem take_of {α : Type} {zs : List α} {k : Nat} {z : α} (h : zs[k]? = some z) : zs.take (k + 1) = zs.take k ++ [z] := by
  rw [List.take_succ_eq_append_getElem (len_of h)]
  congr 2
  exact (List.getElem?_eq_some_iff.1 h).2
theorem take_all {α : Type} {zs : List α} {k n : Nat} (hn : n = zs.length) (h : n ≤ k) : zs.take k = zs := List.take_of_length_le (by omega)

/-- two lists, the same so far -/
theorem same_all {α : Type} {xs ys : List α} {n k : Nat} (hx : n = xs.length) (hy : n = ys.length) (hk : ¬ k < n) (h : ∀ (j : Nat) (x y : α), j < k → xs[j]? = some x → ys[j]? = some y → x = y) : xs = ys := by
  apply List.ext_getElem (by omega)
  intro i h1 h2
  exact h i _ _ (by omega) (List.getElem?_eq_getElem h1) (List.getElem?_eq_getElem h2)

section
variable (A B : Option Addr) (c d : Nat) (xs ys : List Int) (w : World)

set_option maxHeartbeats 400000 in
theorem words_any (hl : xs.length ≤ 17592186044416) (hl' : ys.length ≤ 17592186044416) (ha : RdI w .u64 A xs) (hb : RdI w .u64 B ys) :
    Calls Try.prog 15 #[.slice A xs.length c, .slice B ys.length d] w fun e w' => e = .returned (.bool (xs == ys)) ∧ Drew w w' := by
  obtain ⟨n, hn⟩ : ∃ n, n = xs.length := ⟨_, rfl⟩
  obtain ⟨m, hm⟩ : ∃ m, m = ys.length := ⟨_, rfl⟩
  rw [← hn] at hl ⊢
  rw [← hm] at hl' ⊢
  by_cases hnm : n = m
  · subst hnm
    have HN := hide hn; clear hn
    have HM := hide hm; clear hm
    have HA := hide ha; clear ha
    have HB := hide hb; clear hb
    go_enter Try.func15, Try.ntmps15
    go_wp2
    go_loopw [13] (fun i wr => ∃ k : Nat, k ≤ n ∧ i = .int .i64 k ∧ Hid (Drew w wr) ∧ Hid (∀ j x y, j < k → xs[j]? = some x → ys[j]? = some y → x = y)) (fun i _ => n - (intOf i).toNat)
    case atStart => exact ⟨0, Nat.zero_le _, rfl, Drew.refl _, fun j x y hj => by omega⟩
    case round =>
      obtain ⟨k, hk, rfl, HD, HS⟩ := hrel
      by_cases hlt : k < n
      · obtain ⟨ad, x, hA, hx, hc⟩ := RdI.at_ (HA.out.drew HD.out) (by rw [← HN.out]; exact hlt)
        obtain ⟨bd, y, hB, hy, hd⟩ := RdI.at_ (HB.out.drew HD.out) (by rw [← HM.out]; exact hlt)
        subst hA; subst hB
        have HX := hide hx; clear hx
        have HY := hide hy; clear hy
        by_cases hxy : x = y
        · subst hxy
          go_wp2
          go_quiet (fail)
          go_wp2
          go_roundw
          case rel =>
            refine ⟨k + 1, by omega, by go_num, HD.out.more _, fun j x' y' hj hx' hy' => ?_⟩
            by_cases hjk : j = k
            · subst hjk
              have h1 := HX.out.symm.trans hx'
              have h2 := HY.out.symm.trans hy'
              simp only [Option.some.injEq] at h1 h2
              rw [← h1, ← h2]
            · exact HS.out j x' y' (by omega) hx' hy'
          case measure => simp [intOf]; omega
        · have hxy' : (x != y) = true := by simpa using hxy
          have HXY := hide hxy; clear hxy
          go_wp2
          go_quiet (fail)
          go_wp2
          go_ret
          refine ⟨ret_bool ?_, HD.out.more _⟩
          symm
          rw [beq_eq_false_iff_ne]
          rintro rfl
          have := HX.out.symm.trans HY.out
          simp only [Option.some.injEq] at this
          exact HXY.out this
      · go_wp2
        go_ret
        refine ⟨ret_bool ?_, HD.out⟩
        symm
        rw [beq_iff_eq]
        exact same_all HN.out HM.out hlt HS.out
  · have hne : ((n : Int) != (m : Int)) = true := by simp; omega
    go_enter Try.func15, Try.ntmps15
    go_wp2
    go_ret
    refine ⟨ret_bool ?_, Drew.refl _⟩
    symm
    rw [beq_eq_false_iff_ne]
    rintro rfl
    omega
set_option maxHeartbeats 400000 in
theorem ints_any (hl : xs.length ≤ 17592186044416) (hl' : ys.length ≤ 17592186044416) (ha : RdI w .i64 A xs) (hb : RdI w .i64 B ys) :
    Calls Try.prog 27 #[.slice A xs.length c, .slice B ys.length d] w fun e w' => e = .returned (.bool (xs == ys)) ∧ Drew w w' := by
  obtain ⟨n, hn⟩ : ∃ n, n = xs.length := ⟨_, rfl⟩
  obtain ⟨m, hm⟩ : ∃ m, m = ys.length := ⟨_, rfl⟩
  rw [← hn] at hl ⊢
  rw [← hm] at hl' ⊢
  by_cases hnm : n = m
  · subst hnm
    have HN := hide hn; clear hn
    have HM := hide hm; clear hm
    have HA := hide ha; clear ha
    have HB := hide hb; clear hb
    go_enter Try.func27, Try.ntmps27
    go_wp2
    go_loopw [13] (fun i wr => ∃ k : Nat, k ≤ n ∧ i = .int .i64 k ∧ Hid (Drew w wr) ∧ Hid (∀ j x y, j < k → xs[j]? = some x → ys[j]? = some y → x = y)) (fun i _ => n - (intOf i).toNat)
    case atStart => exact ⟨0, Nat.zero_le _, rfl, Drew.refl _, fun j x y hj => by omega⟩
    case round =>
      obtain ⟨k, hk, rfl, HD, HS⟩ := hrel
      by_cases hlt : k < n
      · obtain ⟨ad, x, hA, hx, hc⟩ := RdI.at_ (HA.out.drew HD.out) (by rw [← HN.out]; exact hlt)
        obtain ⟨bd, y, hB, hy, hd⟩ := RdI.at_ (HB.out.drew HD.out) (by rw [← HM.out]; exact hlt)
        subst hA; subst hB
        have HX := hide hx; clear hx
        have HY := hide hy; clear hy
        by_cases hxy : x = y
        · subst hxy
          go_wp2
          go_quiet (fail)
          go_wp2
          go_roundw
          case rel =>
            refine ⟨k + 1, by omega, by go_num, HD.out.more _, fun j x' y' hj hx' hy' => ?_⟩
            by_cases hjk : j = k
            · subst hjk
              have h1 := HX.out.symm.trans hx'
              have h2 := HY.out.symm.trans hy'
              simp only [Option.some.injEq] at h1 h2
              rw [← h1, ← h2]
            · exact HS.out j x' y' (by omega) hx' hy'
          case measure => simp [intOf]; omega
        · have hxy' : (x != y) = true := by simpa using hxy
          have HXY := hide hxy; clear hxy
          go_wp2
          go_quiet (fail)
          go_wp2
          go_ret
          refine ⟨ret_bool ?_, HD.out.more _⟩
          symm
          rw [beq_eq_false_iff_ne]
          rintro rfl
          have := HX.out.symm.trans HY.out
          simp only [Option.some.injEq] at this
          exact HXY.out this
      · go_wp2
        go_ret
        refine ⟨ret_bool ?_, HD.out⟩
        symm
        rw [beq_iff_eq]
        exact same_all HN.out HM.out hlt HS.out
  · have hne : ((n : Int) != (m : Int)) = true := by simp; omega
    go_enter Try.func27, Try.ntmps27
    go_wp2
    go_ret
    refine ⟨ret_bool ?_, Drew.refl _⟩
    symm
    rw [beq_eq_false_iff_ne]
    rintro rfl
    omega
end

section
variable (A : Option Addr) (c : Nat) (zs : List Int) (w : World)

set_option maxHeartbeats 400000 in
theorem rall_any (me g : Int) (hl : zs.length ≤ 17592186044416) (hr : RdI w .u64 A zs) :
    Calls Try.prog 24 #[.slice A zs.length c, .int .i64 me, .int .i64 g] w fun e w' => e = .returned (.bool (allB zs me g)) ∧ Drew w w' := by
  obtain ⟨n, hn⟩ : ∃ n, n = zs.length := ⟨_, rfl⟩
  rw [← hn] at hl ⊢
  have HN := hide hn; clear hn
  have HR := hide hr; clear hr
  go_enter Try.func24, Try.ntmps24
  go_wp2
  go_loopw [10] (fun i wr => ∃ k : Nat, k ≤ n ∧ i = .int .i64 k ∧ Hid (Drew w wr) ∧ Hid (∀ j z, j < k → zs[j]? = some z → (j : Int) ≠ me → letsB z g = true)) (fun i _ => n - (intOf i).toNat)
  case atStart => exact ⟨0, Nat.zero_le _, rfl, Drew.refl _, fun j z hj => by omega⟩
  case round =>
    obtain ⟨k, hk, rfl, HD, HB⟩ := hrel
    by_cases hlt : k < n
    · obtain ⟨ad, z, hA, hz, hc⟩ := RdI.at_ (HR.out.drew HD.out) (by rw [← HN.out]; exact hlt)
      subst hA
      have HZ := hide hz; clear hz
      by_cases hme : (k : Int) = me
      · subst hme
        go_wp2
        go_quiet (fail)
        go_wp2
        go_roundw
        case rel => exact ⟨k + 1, by omega, by go_num, HD.out.more _, fun j z hj hz hne => HB.out j z (by omega) hz hne⟩
        case measure => simp [intOf]; omega
      · have hne : ((k : Int) != me) = true := by simpa using hme
        have HM := hide hme; clear hme
        have step : letsB z g = true → ∀ (j : Nat) (z' : Int), j < k + 1 → zs[j]? = some z' → (j : Int) ≠ me → letsB z' g = true := by
          intro hb j z' hj hz' hne'
          by_cases hjk : j = k
          · subst hjk
            have := HZ.out.symm.trans hz'
            simp at this; subst this; exact hb
          · exact HB.out j z' (by omega) hz' hne'
        have HST := hide step; clear step
        by_cases h0 : z = 0
        · subst h0
          go_wp2
          go_quiet (fail)
          go_wp2
          go_roundw
          case rel => exact ⟨k + 1, by omega, by go_num, HD.out.more _, HST.out rfl⟩
          case measure => simp [intOf]; omega
        · have h0' : (z != 0) = true := by simpa using h0
          have H0 := hide h0; clear h0
          by_cases hb : z = epW g
          · have hb' : (z != epW g) = false := by simpa using hb
            have H1 := hide hb; clear hb
            go_wp2
            go_quiet ((go_at_call 17; exact same_quiet (repoch_any _ _)))
            go_wp2
            go_roundw
            case rel => exact ⟨k + 1, by omega, by go_num, HD.out.more _, HST.out (by rw [H1.out]; simp [letsB])⟩
            case measure => simp [intOf]; omega
          · have hb' : (z != epW g) = true := by simpa using hb
            have H1 := hide hb; clear hb
            go_wp2
            go_quiet ((go_at_call 17; exact same_quiet (repoch_any _ _)))
            go_wp2
            go_ret
            exact ⟨ret_bool (allB_no HZ.out HM.out (by have := H0.out; have := H1.out; simp [letsB, *])).symm, HD.out.more _⟩
    · go_wp2
      go_ret
      refine ⟨ret_bool ?_, HD.out⟩
      symm
      refine (allB_iff _ _ _).2 fun j z hz hne => ?_
      refine HB.out j z ?_ hz hne
      have := (List.getElem?_eq_some_iff.1 hz).1
      have := HN.out
      omega

/-- how many are not 0 -/
def inN (zs : List Int) : Nat := (zs.filter fun z => z != 0).length
theorem inN_le (zs : List Int) : inN zs ≤ zs.length := List.length_filter_le _ _
theorem inN_zero {zs : List Int} {k : Nat} (h : zs[k]? = some 0) : inN (zs.take (k + 1)) = inN (zs.take k) := by
  rw [take_of h]; simp [inN]
theorem inN_more {zs : List Int} {k : Nat} {z : Int} (h : zs[k]? = some z) (hz : z ≠ 0) : inN (zs.take (k + 1)) = inN (zs.take k) + 1 := by
  rw [take_of h]; simp [inN, hz]

set_option maxHeartbeats 400000 in
theorem in_any (hl : zs.length ≤ 17592186044416) (hr : RdI w .u64 A zs) :
    Calls Try.prog 25 #[.slice A zs.length c] w fun e w' => e = .returned (.int .i64 (inN zs)) ∧ w = w' := by
  obtain ⟨n, hn⟩ : ∃ n, n = zs.length := ⟨_, rfl⟩
  rw [← hn] at hl ⊢
  have HN := hide hn; clear hn
  have HR := hide hr; clear hr
  go_enter Try.func25, Try.ntmps25
  go_wp2
  go_loop [3, 8] (fun x i => ∃ k m : Nat, k ≤ n ∧ m ≤ k ∧ i = .int .i64 k ∧ x = .int .i64 m ∧ Hid (m = inN (zs.take k))) (fun _ i => n - (intOf i).toNat)
  case atStart => exact ⟨0, 0, Nat.zero_le _, Nat.le_refl _, rfl, rfl, by simp [Hid, inN]⟩
  case round =>
    obtain ⟨k, m, hk, hmk, rfl, rfl, HM⟩ := hrel
    by_cases hlt : k < n
    · obtain ⟨ad, z, hA, hz, hc⟩ := RdI.at_ HR.out (by rw [← HN.out]; exact hlt)
      subst hA
      by_cases h0 : z = 0
      · subst h0
        have HZ := hide hz; clear hz
        go_wp2
        go_round
        case rel => exact ⟨k + 1, m, by omega, by omega, by go_num, rfl, by rw [Hid, inN_zero HZ.out]; exact HM.out⟩
        case measure => simp [intOf]; omega
      · have HZ := hide hz; clear hz
        have h0' : (z != 0) = true := by simpa using h0
        go_wp2
        go_round
        case rel => exact ⟨k + 1, m + 1, by omega, by omega, by go_num, by go_num, by rw [Hid, inN_more HZ.out h0, HM.out]⟩
        case measure => simp [intOf]; omega
    · go_wp2
      go_ret
      exact ⟨ret_int (by rw [HM.out, take_all HN.out (by omega)]), rfl⟩

set_option maxHeartbeats 400000 in
theorem rin_any (hl : zs.length ≤ 17592186044416) (hr : RdI w .u64 A zs) :
    Calls Try.prog 26 #[.slice A zs.length c] w fun e w' => e = .returned (.int .i64 (inN zs)) ∧ w = w' := by
  obtain ⟨n, hn⟩ : ∃ n, n = zs.length := ⟨_, rfl⟩
  rw [← hn] at hl ⊢
  have HN := hide hn; clear hn
  have HR := hide hr; clear hr
  go_enter Try.func26, Try.ntmps26
  go_wp2
  go_loop [3, 10] (fun x i => ∃ (k : Nat) (y : Int), k ≤ n ∧ (n : Int) - k ≤ y ∧ y ≤ n ∧ i = .int .i64 k ∧ x = .int .i64 y ∧ Hid (y = n - k + inN (zs.take k))) (fun _ i => n - (intOf i).toNat)
  case atStart => exact ⟨0, n, Nat.zero_le _, by omega, by omega, rfl, rfl, by simp [Hid, inN]⟩
  case round =>
    obtain ⟨k, y, hk, hy1, hy2, rfl, rfl, HM⟩ := hrel
    by_cases hlt : k < n
    · obtain ⟨ad, z, hA, hz, hc⟩ := RdI.at_ HR.out (by rw [← HN.out]; exact hlt)
      subst hA
      by_cases h0 : z = 0
      · subst h0
        have HZ := hide hz; clear hz
        go_wp2
        go_round
        case rel => exact ⟨k + 1, y - 1, by omega, by omega, by omega, by go_num, by go_num, by rw [Hid, inN_zero HZ.out, HM.out]; omega⟩
        case measure => simp [intOf]; omega
      · have HZ := hide hz; clear hz
        have h0' : (z == 0) = false := by simpa using h0
        have hle := inN_le (zs.take k)
        have hle2 : (zs.take k).length ≤ k := List.length_take_le _ _
        have hy3 : y ≤ n := hy2
        go_wp2
        go_round
        case rel => exact ⟨k + 1, y, by omega, by omega, by omega, by go_num, rfl, by rw [Hid, inN_more HZ.out h0, HM.out]; omega⟩
        case measure => simp [intOf]; omega
    · go_wp2
      go_ret
      exact ⟨ret_int (by rw [HM.out, take_all HN.out (by omega)]; omega), rfl⟩
end
end Go.Proofs.Ytmgjicenaanelaa
