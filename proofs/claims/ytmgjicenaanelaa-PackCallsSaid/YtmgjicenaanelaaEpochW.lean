/- The walks of pack.Epoch, pack.Lets, epoch.All and the references' Epoch, Lets. -/
import Derived.Test.YtmgjicenaanelaaMem
namespace Go.Proofs.Ytmgjicenaanelaa
open Go.RowKit

theorem info_int : (Try.prog.info? 3).map (fun i => (i.zero, i.size, i.bytes)) = some (some (.int .i64 0), 1, 8) := by kernel_rfl
theorem info_u64 : (Try.prog.info? 27).map (fun i => (i.zero, i.size, i.bytes)) = some (some (.int .u64 0), 1, 8) := by kernel_rfl

def epW (g : Int) : Int := (g * 2 + 1) % 18446744073709551616
def letsB (x g : Int) : Bool := x == 0 || x == epW g

theorem epW_or (g : Int) : bits BinOp.or IntKind.u64 (IntKind.u64.wrap (IntKind.u64.wrap g * 2)) 1 = epW g := by
  have h1 : IntKind.u64.wrap (IntKind.u64.wrap g * 2) = (g * 2) % 18446744073709551616 := by simp only [IntKind.wrap_u64]; omega
  rw [h1]
  have h0 : 0 ≤ (g * 2) % 18446744073709551616 := by omega
  rw [u64_or _ _ h0 (by omega) (by omega) (by omega)]
  have h2 : ((g * 2) % 18446744073709551616).toNat % 2 ^ 1 = 0 := by omega
  rw [show (1 : Int).toNat = 1 from rfl, nat_join 1 _ _ h2 (by omega)]
  unfold epW; omega
theorem epW_add (g : Int) : IntKind.u64.wrap (IntKind.u64.wrap (IntKind.u64.wrap g * 2) + 1) = epW g := by
  simp only [IntKind.wrap_u64, epW]; omega

set_option maxHeartbeats 400000 in
theorem epoch_any (g : Int) (w : World) :
    Calls Try.prog 51 #[.int .i64 g] w fun e w' => e = .returned (.int .u64 (epW g)) ∧ w = w' := by
  go_enter Try.func51, Try.ntmps51
  go_wp2
  go_ret
  exact ⟨ret_int (epW_or g), rfl⟩

set_option maxHeartbeats 400000 in
theorem repoch_any (g : Int) (w : World) :
    Calls Try.prog 17 #[.int .i64 g] w fun e w' => e = .returned (.int .u64 (epW g)) ∧ w = w' := by
  go_enter Try.func17, Try.ntmps17
  go_wp2
  go_ret
  exact ⟨ret_int (epW_add g), rfl⟩

set_option maxHeartbeats 400000 in
theorem lets_any (x g : Int) (w : World) :
    Calls Try.prog 52 #[.int .u64 x, .int .i64 g] w fun e w' => e = .returned (.bool (letsB x g)) ∧ w = w' := by
  by_cases h : x = 0
  · subst h
    go_enter Try.func52, Try.ntmps52
    go_wp2
    go_ret
    exact ⟨ret_bool (by simp [letsB]), rfl⟩
  · have h0 : (x == 0) = false := by simpa using h
    clear h
    go_enter Try.func52, Try.ntmps52
    go_wp2_with (go_at_call 51; refine (epoch_any _ _).mono ?_; rintro e w' ⟨rfl, rfl⟩)
    go_ret
    exact ⟨ret_bool (by simp [letsB, h0]), rfl⟩

set_option maxHeartbeats 400000 in
theorem rlets_any (x g : Int) (w : World) :
    Calls Try.prog 53 #[.int .u64 x, .int .i64 g] w fun e w' => e = .returned (.bool (letsB x g)) ∧ w = w' := by
  by_cases h : x = 0
  · subst h
    go_enter Try.func53, Try.ntmps53
    go_wp2
    go_ret
    exact ⟨ret_bool (by simp [letsB]), rfl⟩
  · have h0 : (x == 0) = false := by simpa using h
    clear h
    go_enter Try.func53, Try.ntmps53
    go_wp2_with (go_at_call 17; refine (repoch_any _ _).mono ?_; rintro e w' ⟨rfl, rfl⟩)
    go_ret
    exact ⟨ret_bool (by simp [letsB, h0]), rfl⟩

/-- no word but the one at place me keeps g -/
def allB (zs : List Int) (me g : Int) : Bool := zs.zipIdx.all fun p => ((p.2 : Int) == me) || letsB p.1 g
theorem allB_iff (zs : List Int) (me g : Int) : allB zs me g = true ↔ ∀ (i : Nat) (z : Int), zs[i]? = some z → (i : Int) ≠ me → letsB z g = true := by
  unfold allB
  rw [List.all_eq_true]
  constructor
  · intro h i z hz hne
    have := h (z, i) (List.mem_zipIdx_iff_getElem?.2 hz)
    simpa [hne] using this
  · intro h p hp
    have hz := List.mem_zipIdx_iff_getElem?.1 hp
    by_cases hne : (p.2 : Int) = me
    · simp [hne]
    · simp [h p.2 p.1 hz hne]
theorem allB_no {zs : List Int} {me g : Int} {k : Nat} {z : Int} (hz : zs[k]? = some z) (hne : ¬ (k : Int) = me) (hb : letsB z g = false) : allB zs me g = false := by
  rcases h : allB zs me g with _ | _
  · rfl
  · have := (allB_iff zs me g).1 h k z hz hne
    rw [hb] at this; cases this

set_option maxHeartbeats 400000 in
theorem all_any (A : Option Addr) (c : Nat) (zs : List Int) (me g : Int) (w : World) (hl : zs.length ≤ 17592186044416) (hr : RdI w .u64 A zs) :
    Calls Try.prog 23 #[.slice A zs.length c, .int .i64 me, .int .i64 g] w fun e w' => e = .returned (.bool (allB zs me g)) ∧ w = w' := by
  obtain ⟨n, hn⟩ : ∃ n, n = zs.length := ⟨_, rfl⟩
  rw [← hn] at hl ⊢
  have HN := hide hn; clear hn
  have HR := hide hr; clear hr
  go_enter Try.func23, Try.ntmps23
  go_wp2
  go_loop [11] (fun i => ∃ k : Nat, k ≤ n ∧ i = .int .i64 k ∧ Hid (∀ j z, j < k → zs[j]? = some z → (j : Int) ≠ me → letsB z g = true)) (fun i => n - (intOf i).toNat)
  case atStart => exact ⟨0, Nat.zero_le _, rfl, fun j z hj => by omega⟩
  case round =>
    obtain ⟨k, hk, rfl, HB⟩ := hrel
    by_cases hlt : k < n
    · obtain ⟨ad, z, hA, hz, hc⟩ := RdI.at_ HR.out (by rw [← HN.out]; exact hlt)
      subst hA
      have HZ := hide hz; clear hz
      by_cases hme : (k : Int) = me
      · subst hme
        go_wp2
        go_round
        case rel => exact ⟨k + 1, by omega, by go_num, fun j z hj hz hne => HB.out j z (by omega) hz hne⟩
        case measure => simp [intOf]; omega
      · have hne : ((k : Int) != me) = true := by simpa using hme
        have HM := hide hme; clear hme
        by_cases hb : letsB z g = true
        · go_wp2_with (go_at_call 52; refine (lets_any _ _ _).mono ?_; rintro e w' ⟨rfl, rfl⟩)
          go_round
          case rel =>
            refine ⟨k + 1, by omega, by go_num, fun j z' hj hz' hne' => ?_⟩
            by_cases hjk : j = k
            · subst hjk
              have := HZ.out.symm.trans hz'
              simp at this; subst this; exact hb
            · exact HB.out j z' (by omega) hz' hne'
          case measure => simp [intOf]; omega
        · have hb' : letsB z g = false := by simpa using hb
          clear hb
          go_wp2_with (go_at_call 52; refine (lets_any _ _ _).mono ?_; rintro e w' ⟨rfl, rfl⟩)
          go_ret
          exact ⟨ret_bool (allB_no HZ.out HM.out hb').symm, rfl⟩
    · go_wp2
      go_ret
      refine ⟨ret_bool ?_, rfl⟩
      symm
      refine (allB_iff _ _ _).2 fun j z hz hne => ?_
      refine HB.out j z ?_ hz hne
      have := (List.getElem?_eq_some_iff.1 hz).1
      have := HN.out
      omega

end Go.Proofs.Ytmgjicenaanelaa
