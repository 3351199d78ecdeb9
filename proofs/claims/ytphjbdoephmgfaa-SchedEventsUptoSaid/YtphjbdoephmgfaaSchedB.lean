/- The walks of slices.IndexFunc, ContainsFunc, DeleteFunc, sched.Without, stopgateref29.Without. -/
import Derived.Test.YtphjbdoephmgfaaSchedA
namespace Go.Proofs.Ytphjbdoephmgfaa
open Go.RowKit

/-- the first place of what a test tells; -1: none -/
def ixI (p : Int → Bool) (zs : List Int) : Int := match zs.findIdx? p with | some i => (i : Int) | none => -1
theorem ixI_at {p : Int → Bool} {zs : List Int} {k : Nat} {z : Int} (h : ∀ j z, j < k → zs[j]? = some z → p z = false) (hz : zs[k]? = some z) (hp : p z = true) : ixI p zs = k := by
  have hk := len_of hz
  have hzz : zs[k] = z := (List.getElem?_eq_some_iff.1 hz).2
  have : zs.findIdx? p = some k := by
    rw [List.findIdx?_eq_some_iff_getElem]
    refine ⟨hk, by rw [hzz]; exact hp, fun j hj => ?_⟩
    have := h j zs[j] hj (List.getElem?_eq_getElem _)
    simp [this]
  unfold ixI; rw [this]
theorem ixI_no {p : Int → Bool} {zs : List Int} {n k : Nat} (hn : n = zs.length) (hk : ¬ k < n) (h : ∀ j z, j < k → zs[j]? = some z → p z = false) : ixI p zs = -1 := by
  have : zs.findIdx? p = none := by
    rw [List.findIdx?_eq_none_iff]
    intro x hx
    obtain ⟨i, hi⟩ := List.mem_iff_getElem?.1 hx
    exact h i x (by have := len_of hi; omega) hi
  unfold ixI; rw [this]
theorem ixI_form (p : Int → Bool) (zs : List Int) : (∃ i z, ixI p zs = (i : Nat) ∧ zs[i]? = some z ∧ p z = true ∧ ∀ j z, j < i → zs[j]? = some z → p z = false) ∨ ixI p zs = -1 ∧ ∀ z ∈ zs, p z = false := by
  unfold ixI
  rcases h : zs.findIdx? p with _ | i
  · exact .inr ⟨rfl, by simpa [List.findIdx?_eq_none_iff] using h⟩
  · rw [List.findIdx?_eq_some_iff_getElem] at h
    obtain ⟨h1, h2, h3⟩ := h
    refine .inl ⟨i, zs[i], rfl, List.getElem?_eq_getElem h1, h2, fun j z hj hz => ?_⟩
    have := h3 j hj
    have hzz : zs[j] = z := (List.getElem?_eq_some_iff.1 hz).2
    rw [hzz] at this
    simpa using this
theorem ixI_ge (p : Int → Bool) (zs : List Int) : decide (0 ≤ ixI p zs) = zs.any p := by
  rcases ixI_form p zs with ⟨i, z, h1, h2, h3, _⟩ | ⟨h1, h2⟩
  · rw [h1, decide_eq_true (by omega)]
    exact (List.any_eq_true.2 ⟨z, List.mem_of_getElem? h2, h3⟩).symm
  · rw [h1, decide_eq_false (by omega)]
    symm
    rw [List.any_eq_false]
    intro x hx; simp [h2 x hx]

section
variable (w : World)

set_option maxHeartbeats 400000 in
theorem index_isT (A : Option Addr) (c : Nat) (zs : List Int) (t : Int) (b : Nat) (hl : zs.length ≤ 17592186044416) (hr : RdI w .i64 A zs) (hcb : w.cell? ⟨b, 0, none⟩ = some (.int .i64 t)) :
    Calls Try.prog 38 #[.slice A zs.length c, .func (.func 31) #[] #[.pointer (some ⟨b, 0, none⟩)]] w fun e w' => e = .returned (.int .i64 (ixI (fun x => x == t) zs)) ∧ w = w' := by
  obtain ⟨n, hn⟩ : ∃ n, n = zs.length := ⟨_, rfl⟩
  rw [← hn] at hl ⊢
  have HN := hide hn; clear hn
  have HR := hide hr; clear hr
  generalize hp : (fun x : Int => x == t) = p
  have HP := hide hp; clear hp
  go_enter Try.func38, Try.ntmps38
  go_wp2
  go_loop [8] (fun i => ∃ k : Nat, k ≤ n ∧ i = .int .i64 k ∧ Hid (∀ j z, j < k → zs[j]? = some z → p z = false)) (fun i => n - (intOf i).toNat)
  case atStart => exact ⟨0, Nat.zero_le _, rfl, fun j z hj => by omega⟩
  case round =>
    obtain ⟨k, hk, rfl, HB⟩ := hrel
    by_cases hlt : k < n
    · obtain ⟨ad, z, hA, hz, hc⟩ := RdI.at_ HR.out (by rw [← HN.out]; exact hlt)
      subst hA
      have HZ := hide hz; clear hz
      have hpz : p z = (z == t) := by rw [← HP.out]
      rcases hb : p z with _ | _
      · rw [hb] at hpz
        have HPZ := hide hpz; have HBZ := hide hb; clear hpz hb
        go_wp2_with (go_at_call 31; refine (isT_any _ z t b hcb).mono ?_; rw [← HPZ.out]; rintro e w' ⟨rfl, rfl⟩)
        go_round
        case rel =>
          refine ⟨k + 1, by omega, by go_num, fun j z' hj hz' => ?_⟩
          by_cases hjk : j = k
          · subst hjk
            have := HZ.out.symm.trans hz'
            simp at this; subst this; exact HBZ.out
          · exact HB.out j z' (by omega) hz'
        case measure => simp [intOf]; omega
      · rw [hb] at hpz
        have HPZ := hide hpz; have HBZ := hide hb; clear hpz hb
        go_wp2_with (go_at_call 31; refine (isT_any _ z t b hcb).mono ?_; rw [← HPZ.out]; rintro e w' ⟨rfl, rfl⟩)
        go_ret
        exact ⟨ret_int (ixI_at HB.out HZ.out HBZ.out).symm, rfl⟩
    · go_wp2
      go_ret
      exact ⟨ret_int (ixI_no HN.out hlt HB.out).symm, rfl⟩

set_option maxHeartbeats 400000 in
theorem index_old (A : Option Addr) (c : Nat) (zs : List Int) (i0 v : Int) (b d : Nat) (hl : zs.length ≤ 17592186044416) (hr : RdI w .i64 A zs) (hcb : w.cell? ⟨b, 0, none⟩ = some (.int .i64 i0)) (hcd : w.cell? ⟨d, 0, none⟩ = some (.int .i64 v)) :
    Calls Try.prog 38 #[.slice A zs.length c, .func (.func 35) #[] #[.pointer (some ⟨b, 0, none⟩), .pointer (some ⟨d, 0, none⟩)]] w fun e w' => e = .returned (.int .i64 (ixI (fun x => decide (x ≤ wrap64 (i0 - v))) zs)) ∧ w = w' := by
  obtain ⟨n, hn⟩ : ∃ n, n = zs.length := ⟨_, rfl⟩
  rw [← hn] at hl ⊢
  have HN := hide hn; clear hn
  have HR := hide hr; clear hr
  generalize hp : (fun x : Int => decide (x ≤ wrap64 (i0 - v))) = p
  have HP := hide hp; clear hp
  go_enter Try.func38, Try.ntmps38
  go_wp2
  go_loop [8] (fun i => ∃ k : Nat, k ≤ n ∧ i = .int .i64 k ∧ Hid (∀ j z, j < k → zs[j]? = some z → p z = false)) (fun i => n - (intOf i).toNat)
  case atStart => exact ⟨0, Nat.zero_le _, rfl, fun j z hj => by omega⟩
  case round =>
    obtain ⟨k, hk, rfl, HB⟩ := hrel
    by_cases hlt : k < n
    · obtain ⟨ad, z, hA, hz, hc⟩ := RdI.at_ HR.out (by rw [← HN.out]; exact hlt)
      subst hA
      have HZ := hide hz; clear hz
      have hpz : p z = (decide (z ≤ wrap64 (i0 - v))) := by rw [← HP.out]
      rcases hb : p z with _ | _
      · rw [hb] at hpz
        have HPZ := hide hpz; have HBZ := hide hb; clear hpz hb
        go_wp2_with (go_at_call 35; refine (old_any _ z i0 v b d hcb hcd).mono ?_; rw [← HPZ.out]; rintro e w' ⟨rfl, rfl⟩)
        go_round
        case rel =>
          refine ⟨k + 1, by omega, by go_num, fun j z' hj hz' => ?_⟩
          by_cases hjk : j = k
          · subst hjk
            have := HZ.out.symm.trans hz'
            simp at this; subst this; exact HBZ.out
          · exact HB.out j z' (by omega) hz'
        case measure => simp [intOf]; omega
      · rw [hb] at hpz
        have HPZ := hide hpz; have HBZ := hide hb; clear hpz hb
        go_wp2_with (go_at_call 35; refine (old_any _ z i0 v b d hcb hcd).mono ?_; rw [← HPZ.out]; rintro e w' ⟨rfl, rfl⟩)
        go_ret
        exact ⟨ret_int (ixI_at HB.out HZ.out HBZ.out).symm, rfl⟩
    · go_wp2
      go_ret
      exact ⟨ret_int (ixI_no HN.out hlt HB.out).symm, rfl⟩

set_option maxHeartbeats 400000 in
theorem contains_old (A : Option Addr) (c : Nat) (zs : List Int) (i0 v : Int) (b d : Nat) (hl : zs.length ≤ 17592186044416) (hr : RdI w .i64 A zs) (hcb : w.cell? ⟨b, 0, none⟩ = some (.int .i64 i0)) (hcd : w.cell? ⟨d, 0, none⟩ = some (.int .i64 v)) :
    Calls Try.prog 34 #[.slice A zs.length c, .func (.func 35) #[] #[.pointer (some ⟨b, 0, none⟩), .pointer (some ⟨d, 0, none⟩)]] w fun e w' => e = .returned (.bool (zs.any fun x => decide (x ≤ wrap64 (i0 - v)))) ∧ w = w' := by
  have HC := hide (index_old w A c zs i0 v b d hl hr hcb hcd)
  have HG := hide (ixI_ge (fun x => decide (x ≤ wrap64 (i0 - v))) zs)
  obtain ⟨n, hn⟩ : ∃ n, n = zs.length := ⟨_, rfl⟩
  rw [← hn] at hl HC ⊢
  clear hl hr hcb hcd hn
  generalize ixI (fun x => decide (x ≤ wrap64 (i0 - v))) zs = i at HC HG
  go_enter Try.func34, Try.ntmps34
  go_wp2_with fail
  refine HC.out.mono ?_
  rintro e w' ⟨rfl, rfl⟩
  go_wp2_with fail
  go_ret
  exact ⟨ret_bool (by rw [← HG.out]), rfl⟩
end
end Go.Proofs.Ytphjbdoephmgfaa
