/- The walk of stopgatelaw02.awake, and of the laws PackResults, PackBack, PackRanks, PackEpochs, PackSaid. -/
import Derived.Test.YtmgjicenaanelaaPackS
namespace Go.Proofs.Ytmgjicenaanelaa
open Go.RowKit

theorem RetL.open_ {l : List Int} {w : World} {e : Ending} {w' : World} (h : RetL l w e w') : RetQ (qK l) (qA l) (qV l) (qD l) (qC l) (qP l) (readB l) w e w' := h

set_option maxHeartbeats 4000000 in
theorem awake02 (w : World) : Calls Try.prog 37 #[] w fun e w' => e = .returned (.bool true) ∧ Below w.heap.size w w' := by
  have h1 : resW 1 0 14 0 = 17652315586560 := by decide
  have h2 : rS 17652315586560 = 1 := by decide
  have h3 : rC 17652315586560 = 0 := by decide
  have h4 : rO 17652315586560 = 14 := by decide
  have h5 : rV 17652315586560 = 0 := by decide
  have h6 : finB 14 = false := by decide
  have h7 : rankI 1 14 = 2 := by unfold rankI finB wrap64; decide
  have h8 : callL 3 0 0 false [(1, 8, 5)] 3 = [259, 21474838529, 0, 0, 3] := by decide
  have hr : readB [259, 21474838529, 0, 0, 3] = true := by decide
  have k1 : qK [259, 21474838529, 0, 0, 3] = 3 := by unfold qK; rw [hr]; decide
  have k2 : qA [259, 21474838529, 0, 0, 3] = 0 := by unfold qA; rw [hr]; decide
  have k3 : qV [259, 21474838529, 0, 0, 3] = 0 := by unfold qV; rw [hr]; decide
  have k4 : qD [259, 21474838529, 0, 0, 3] = false := by unfold qD; rw [hr]; decide
  have k5 : qC [259, 21474838529, 0, 0, 3] = [(1, 8, 5)] := by unfold qC; rw [hr]; decide
  have k6 : qP [259, 21474838529, 0, 0, 3] = 3 := by unfold qP; rw [hr]; decide
  have H1 := hide h1; have H2 := hide h2; have H3 := hide h3; have H4 := hide h4; have H5 := hide h5; have H6 := hide h6; have H7 := hide h7; have H8 := hide h8
  have HR := hide hr; have K1 := hide k1; have K2 := hide k2; have K3 := hide k3; have K4 := hide k4; have K5 := hide k5; have K6 := hide k6
  clear h1 h2 h3 h4 h5 h6 h7 h8 hr k1 k2 k3 k4 k5 k6
  go_enter Try.func37, Try.ntmps37
  go_wp2_with fail
  refine (result_any w 1 0 14 0).mono ?_
  rw [H1.out]
  rintro e w1 ⟨rfl, hb1⟩
  go_wp2_with fail
  refine (read_any w1 17652315586560 (by omega) (by omega)).mono ?_
  rw [H2.out, H3.out, H4.out, H5.out]
  rintro e w2 ⟨rfl, hb2⟩
  have hbb2 := extW hb1 hb2
  go_wp2_with fail
  have hrc0 : RdF (((w2.alloc (.cells #[.int .i64 1, .int .i64 0, .int .i64 14, .int .i64 0] 42)).alloc (.cells #[.int .i64 1, .int .i64 8, .int .i64 5] 64)).alloc
      (.cells #[.int .i64 3, .int .i64 0, .int .i64 0, .bool false, .slice (some ⟨w2.heap.size + 1, 0, none⟩) 1 1] 50)) caseC (some ⟨w2.heap.size + 1, 0, none⟩) [(1, 8, 5)] :=
    Rd.alloc (Rd.litAt _ [.int .i64 1, .int .i64 8, .int .i64 5] _ (by simp)) _
  refine (call_any _ 3 0 0 false (some ⟨w2.heap.size + 1, 0, none⟩) 1 [(1, 8, 5)] 3 (by decide) hrc0).mono ?_
  rw [H8.out]
  rintro e w3 ⟨⟨B, d, rfl, hd, hrd3⟩, hb3⟩
  have HRD3 := hide hrd3
  have HRC3 := hide (hrc0.below hb3)
  have HA3 : Hid (Blk w3 w2.heap.size 42 #[.int .i64 1, .int .i64 0, .int .i64 14, .int .i64 0]) := Blk.extW (((Blk.new w2 _ _).alloc _).alloc _) hb3
  have HB3 : Hid (Blk w3 (w2.heap.size + 1 + 1) 50 #[.int .i64 3, .int .i64 0, .int .i64 0, .bool false, .slice (some ⟨w2.heap.size + 1, 0, none⟩) 1 1]) := Blk.extW (Blk.newAt _ _ _ (by simp)) hb3
  have hbb3 := extW (moreW (moreW (moreW hbb2 _) _) _) hb3
  clear hrc0 hrd3
  go_wp2_with fail
  refine (readcall_any w3 B d [259, 21474838529, 0, 0, 3] (by decide) hd (by decide) HRD3.out).mono ?_
  intro e w4 hq
  have hq := hq.open_
  rw [HR.out, K1.out, K2.out, K3.out, K4.out, K5.out, K6.out] at hq
  obtain ⟨⟨C, f, rfl, hrc4⟩, hb4⟩ := hq
  have HRC4 := hide hrc4
  have HA4 := hide (HA3.out.extW hb4); have HB4 := hide (HB3.out.extW hb4); have HRD4 := hide (HRD3.out.below hb4); have HRQ4 := hide (HRC3.out.below hb4)
  have hbb4 := extW hbb3 hb4
  obtain ⟨ad, hB, hc⟩ := HRD4.out 1 (.int .u64 21474838529) rfl
  subst hB
  rw [add_lit _ _ (by decide)] at hc
  have hlt := cell_lt hc
  have hltA := HA4.out.lt
  have hltB := HB4.out.lt
  have hcA := fun i => HA4.out.cell i
  have hcB := fun i => HB4.out.cell i
  clear hrc4 HA3 HB3 HRD3 HRC3
  go_wp2_with fail
  refine (final_any _ 1 0 14 0).mono ?_
  rw [H6.out]
  rintro e w5 ⟨rfl, hb5⟩
  have hbe5 := extW (moreW (selfW w4) _) hb5
  have HA5 := hide (HA4.out.extW hbe5); have HB5 := hide (HB4.out.extW hbe5); have HRD5 := hide (HRD4.out.below hbe5); have HRQ5 := hide (HRQ4.out.below hbe5); have HRC5 := hide (HRC4.out.below hbe5)
  have HC5 := hide ((Blk.new w4 50 #[.int .i64 3, .int .i64 0, .int .i64 0, .bool false, .slice C 1 f]).extW hb5)
  have hbb5 := extW hbb4 hbe5
  have hcA5 := fun i => HA5.out.cell i
  clear hcA hcB hc
  go_wp2_with fail
  refine (rank_any _ 1 0 14 0).mono ?_
  rw [H7.out]
  rintro e w6 ⟨rfl, hb6⟩
  have HB6 := hide (HB5.out.extW hb6); have HRD6 := hide (HRD5.out.below hb6); have HRQ6 := hide (HRQ5.out.below hb6); have HRC6 := hide (HRC5.out.below hb6); have HC6 := hide (HC5.out.extW hb6)
  have hbb6 := extW hbb5 hb6
  obtain ⟨_, hB, hc6⟩ := HRD6.out 1 (.int .u64 21474838529) rfl
  injection hB with hB; subst hB
  rw [add_lit _ _ (by decide)] at hc6
  have hcB6 := fun i => HB6.out.cell i
  have hcC6 := fun i => HC6.out.cell i
  clear hcA5
  go_wp2_with fail
  refine (req_any w6 C (some ⟨w2.heap.size + 1, 0, none⟩) f 1 3 0 0 false [(1, 8, 5)] 3 0 0 false [(1, 8, 5)] (by decide) (by decide) HRC6.out HRQ6.out).mono ?_
  rw [show reqB 3 0 0 false [(1, 8, 5)] 3 0 0 false [(1, 8, 5)] = true by decide]
  rintro e w7 ⟨rfl, hb7⟩
  go_wp2_with fail
  go_ret
  exact ⟨rfl, extW hbb6 hb7⟩

section
variable (w : World)

set_option maxHeartbeats 1000000 in
theorem epochs_law (g x : Int) :
    Calls Try.prog 12 #[.int .i64 g, .int .u64 x] w fun e w' => e = .returned (.bool true) ∧ Below w.heap.size w w' := by
  go_enter Try.func12, Try.ntmps12
  go_wp2_with fail
  refine (epoch_any _ _).mono ?_; rintro e w' ⟨rfl, rfl⟩
  go_wp2_with fail
  refine (repoch_any _ _).mono ?_; rintro e w' ⟨rfl, rfl⟩
  go_wp2_with fail
  refine (lets_any _ _ _).mono ?_; rintro e w' ⟨rfl, rfl⟩
  go_wp2_with fail
  refine (rlets_any _ _ _).mono ?_; rintro e w' ⟨rfl, rfl⟩
  go_wp2_with fail
  refine (lets_any _ _ _).mono ?_; rw [show letsB 0 g = true by simp [letsB]]; rintro e w' ⟨rfl, rfl⟩
  go_wp2_with fail
  refine (epoch_any _ _).mono ?_; rintro e w' ⟨rfl, rfl⟩
  go_wp2_with fail
  refine (lets_any _ _ _).mono ?_; rw [show letsB (epW g) g = true by simp [letsB]]; rintro e w' ⟨rfl, rfl⟩
  go_wp2_with fail
  refine (awake02 _).mono ?_
  rintro e w2 ⟨rfl, hb2⟩
  go_wp2_with fail
  go_ret
  exact ⟨rfl, hb2⟩
end
end Go.Proofs.Ytmgjicenaanelaa
