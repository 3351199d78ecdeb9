/- The walk of stopgatelaw38.awake. -/
import Derived.Test.YtdgnejapofkadaaGhT
import Derived.Test.YtdgnejapofkadaaInts
namespace Go.Proofs.Ytdgnejapofkadaa
open Go.RowKit

def awk0 : List (Int × Int) := [(0, 1), (0, 2), (0, 3), (0, 4), (1, 1), (1, 2), (1, 3), (1, 4)]
def awk1 : List (Int × Int) := awk0 ++ [(1, 5), (1, 6), (1, 10)]
theorem awk_step : ∀ T, T < 2 → ∀ K, K < 4 → awk0.take (4 * T + (K + 1)) = awk0.take (4 * T + K) ++ [((T : Int), ((K + 1 : Nat) : Int))] := by
  intro T hT K hK
  match T, hT with
  | 0, _ => match K, hK with
    | 0, _ => rfl
    | 1, _ => rfl
    | 2, _ => rfl
    | 3, _ => rfl
  | 1, _ => match K, hK with
    | 0, _ => rfl
    | 1, _ => rfl
    | 2, _ => rfl
    | 3, _ => rfl
def awkW : WT := ⟨1, 2, 2, [⟨0, 1, 1, 1, []⟩, ⟨0, 1, 0, 0, [⟨1, 1⟩]⟩], []⟩
def awkX : WT := ⟨1, 2, 2, [⟨0, 1, 0, 0, []⟩, ⟨0, 1, 0, 0, []⟩], [1]⟩
theorem awk_w : playW (cntT 2) awk1 = awkW := by rfl
theorem awk_x : doW (doW awkW 0 6) 1 10 = awkX := by rfl
theorem awk_sw : Sane awkW 11 := by
  have := playN_sane 2 awk1 11 (by decide)
  rwa [show playN (cntT 2) awk1 11 = awkW from rfl] at this
theorem awk_sx : Sane awkX 13 := by
  have := (awk_sw.doW 0 6).doW 1 10
  rwa [awk_x] at this
theorem awk_pw : SafeP awkW := ⟨by decide, by decide, by simp [awkW], by simp [awkW], by simp [awkW]⟩
theorem awk_px : SafeP awkX := ⟨by decide, by decide, by simp [awkX], by simp [awkX], by simp [awkX]⟩

section
variable (w : World)
set_option maxHeartbeats 2000000 in
theorem awake38 : Calls Try.prog 7 #[] w (Says true w) := by
  go_enter Try.func7, Try.ntmps7
  go_wp2_with fail
  go_loopw [1, 2] (fun v i wr => ∃ T : Nat, T ≤ 2 ∧ i = .int .i64 T ∧ Hid (OwnF wr w.heap.size 27 2 actC v (awk0.take (4 * T))) ∧ Hid (Below w.heap.size w wr)) (fun _ i _ => 2 - (intOf i).toNat)
  case atStart => exact ⟨0, by decide, rfl, OwnF.nil _ _ _ _ _, Below.refl _ _⟩
  case round =>
    obtain ⟨T, hT, rfl, HO, HB⟩ := hrel
    by_cases hlt : T < 2
    · have hd : decide ((T : Int) < 2) = true := decide_eq_true (by omega)
      go_wp2_with fail
      obtain ⟨wo, rfl⟩ : ∃ wo : World, wo = wr := ⟨_, rfl⟩
      go_loopw [1, 3] (fun v i wr => ∃ K : Nat, K ≤ 4 ∧ i = .int .i64 ((K : Int) + 1) ∧ Hid (OwnF wr w.heap.size 27 2 actC v (awk0.take (4 * T + K))) ∧ Hid (Below w.heap.size w wr)) (fun _ i _ => 5 - (intOf i).toNat)
      case atStart => exact ⟨0, by decide, rfl, HO.out, HB.out⟩
      case round =>
        obtain ⟨K, hK, rfl, HO2, HB2⟩ := hrel
        have hsz := HB2.out.size
        by_cases hltk : K < 4
        · have hll : (awk0.take (4 * T + K)).length ≤ 8 := by rw [List.length_take]; exact Nat.min_le_right _ _
          have HST := hide (awk_step T hlt K hltk)
          go_wp2_with (at_builtin; refine wpList_appF _ rfl _ _ 22 rfl w.heap.size 27 2 16 (.agg #[.int .i64 0, .int .i64 0]) actC actC_len actC_one Try.underlying22 info_act rfl (by decide) _ (awk0.take (4 * T + K)) rfl (HO2.out.alloc _) (some ⟨wr.heap.size, 0, none⟩) 1 1 [((T : Int), (K : Int) + 1)] rfl rfl ?c4 ?c5 ?c6 ?c7 ?_)
          case c4 => exact Rd.lit wr (actC ((T : Int), (K : Int) + 1)) _
          case c5 => show ((awk0.take (4 * T + K)).length + 1) * 16 ≤ _; omega
          case c6 => show (awk0.take (4 * T + K)).length + 1 ≤ _; omega
          case c7 => simp; omega
          intro v4 w4 hown4 hgrow4 _
          have hb4 := (HO2.out.alloc _).below_step (HB2.out.alloc HB2.out.size _) hgrow4 (by simp; omega) (Nat.le_refl _)
          have HO4 := hide hown4; have HB4 := hide hb4
          clear hown4 hgrow4 hb4
          go_wp2_with fail
          go_roundw
          case rel => exact ⟨K + 1, by omega, by go_num, by rw [HST.out]; exact HO4.out, HB4.out⟩
          case measure => simp [intOf]; omega
        · have hk4 : K = 4 := by omega
          subst hk4
          go_wp2_with fail
          go_roundw
          case rel => exact ⟨T + 1, by omega, by go_num, by rw [show 4 * (T + 1) = 4 * T + 4 by omega]; exact HO2.out, HB2.out⟩
          case measure => simp [intOf]; omega
    · have hT2 : T = 2 := by omega
      subst hT2
      have hsz := HB.out.size
      go_wp2_with (at_builtin; refine wpList_appF _ rfl _ _ 22 rfl w.heap.size 27 2 16 (.agg #[.int .i64 0, .int .i64 0]) actC actC_len actC_one Try.underlying22 info_act rfl (by decide) _ awk0 rfl (HO.out.alloc _) (some ⟨wr.heap.size, 0, none⟩) 3 3 [(1, 5), (1, 6), (1, 10)] rfl rfl ?c4 ?c5 ?c6 ?c7 ?_)
      case c4 => exact Rd.lit wr [.int .i64 1, .int .i64 5, .int .i64 1, .int .i64 6, .int .i64 1, .int .i64 10] _
      case c5 => decide
      case c6 => decide
      case c7 => simp; omega
      intro v4 w4 hown4 hgrow4 _
      have hb4 := (HO.out.alloc _).below_step (HB.out.alloc HB.out.size _) hgrow4 (by simp; omega) (Nat.le_refl _)
      obtain ⟨A4, c4, hv4, hr4⟩ := hown4.rd
      subst hv4
      have HPL : Hid (Calls Try.prog 10 #[.int .i64 2, .slice A4 11 c4] w4 (GivesR awkW w4)) := by
        have := gplay_any w4 2 A4 c4 awk1 hr4 (by decide)
        rw [awk_w] at this
        exact this
      have HB4 := hide hb4
      clear hown4 hgrow4 hb4 hr4
      go_wp2_with fail
      refine HPL.out.mono ?_
      rintro e w5 ⟨v5, rfl, ⟨vr5, vf5, xs, rfl, hO5⟩, hb5⟩
      obtain ⟨A5, c5, B5, d5, rfl, rfl⟩ := hO5.shape
      have HW1 := hide hO5
      have hxl : xs.length = 2 := by have := congrArg List.length hO5.rds; rw [List.length_map] at this; exact this
      have HXL := hide hxl
      have HB5 := hide (extW HB4.out hb5)
      obtain ⟨g, hg⟩ : ∃ g, g = w5.heap.size := ⟨_, rfl⟩
      have HG := hide hg
      have hD1 := gdo_any (w5.alloc (.cells #[.int .i64 awkW.epoch, .int .i64 awkW.root, .int .i64 awkW.last, .slice A5 xs.length c5, .slice B5 awkW.freed.length d5] 38)) awkW A5 B5 c5 d5 xs 0 6 11 ((hO5.ext (moreW (selfW _) _)).wv) awk_sw (by decide)
      have HD1 := hide hD1
      clear hO5 hb5 hxl hD1 HPL HB4
      go_wp2_with fail
      refine HD1.out.mono ?_
      rintro e w6 ⟨v6, rfl, ⟨vr6, vf6, ys, rfl, hO6⟩, hb6⟩
      obtain ⟨A6, c6, B6, d6, rfl, rfl⟩ := hO6.shape
      have HD2 := hide (gdo_any w6 (doW awkW 0 6) A6 B6 c6 d6 ys 1 10 12 hO6.wv (awk_sw.doW 0 6) (by decide))
      have HVB := hide ((Blk.new w5 38 #[.int .i64 awkW.epoch, .int .i64 awkW.root, .int .i64 awkW.last, .slice A5 xs.length c5, .slice B5 awkW.freed.length d5]).extW hb6)
      have HW6 := hide ((HW1.out.ext (moreW (selfW _) _)).ext hb6)
      have HB6 := hide (extW (moreW HB5.out _) hb6)
      clear hO6 hb6 HW1 HD1 HB5
      go_wp2_with fail
      refine HD2.out.mono ?_
      rw [awk_x]
      rintro e w7 ⟨v7, rfl, ⟨vr7, vf7, zs, rfl, hO7⟩, hb7⟩
      obtain ⟨A7, c7, B7, d7, rfl, rfl⟩ := hO7.shape
      have hzl : zs.length = 2 := by have := congrArg List.length hO7.rds; rw [List.length_map] at this; exact this
      have hv7 : Blk w7 w5.heap.size 38 #[.int .i64 1, .int .i64 2, .int .i64 2, .slice A5 2 c5, .slice B5 0 d5] := by
        have := HVB.out.extW hb7
        rw [HXL.out] at this
        exact this
      have hcv := fun i => Blk.cell hv7 i
      have hzv := hv7.lt
      have HW7 := hide (HW6.out.ext hb7)
      have HX7 := hide hO7
      have HB7 := hide (extW HB6.out hb7)
      have HZL := hide hzl
      have hx7 : RdI (w7.alloc (.cells #[.int .i64 1, .int .i64 2, .int .i64 2, .slice A7 2 c7, .slice B7 1 d7] 38)) .i64 B7 [1] := (hO7.ext (moreW (selfW _) _)).wv.freed
      have HAW : Hid (∀ wx, Below w7.heap.size w7 wx → Calls Try.prog 12 #[.agg #[.int .i64 1, .int .i64 2, .int .i64 2, .slice A5 2 c5, .slice B5 0 d5]] wx fun e w' => e = .returned (.int .i64 1) ∧ Below wx.heap.size wx w') := by
        intro wx hx
        have := away_any wx awkW A5 B5 c5 d5 xs 11 ((HW7.out.ext hx).wv) awk_sw (by decide)
        rw [HXL.out] at this
        exact this
      have HSW : Hid (∀ wx, Below w7.heap.size w7 wx → Calls Try.prog 15 #[.agg #[.int .i64 1, .int .i64 2, .int .i64 2, .slice A5 2 c5, .slice B5 0 d5]] wx (Says true wx)) := by
        intro wx hx
        have := safe_any wx awkW A5 B5 c5 d5 xs 11 ((HW7.out.ext hx).wv) awk_sw (by decide) awk_pw
        rw [HXL.out] at this
        exact this
      have HSX : Hid (∀ wx, Below w7.heap.size w7 wx → Calls Try.prog 15 #[.agg #[.int .i64 1, .int .i64 2, .int .i64 2, .slice A7 2 c7, .slice B7 1 d7]] wx (Says true wx)) := by
        intro wx hx
        have := safe_any wx awkX A7 B7 c7 d7 zs 13 ((HX7.out.ext hx).wv) awk_sx (by decide) awk_px
        rw [HZL.out] at this
        exact this
      rw [HZL.out]
      have HX8 := hide hx7
      have HV7 := hide hv7
      have HBX := hide (Blk.new w7 38 #[.int .i64 1, .int .i64 2, .int .i64 2, .slice A7 2 c7, .slice B7 1 d7])
      have HW8 := hide (moreW (selfW w7) (.cells #[.int .i64 1, .int .i64 2, .int .i64 2, .slice A7 2 c7, .slice B7 1 d7] 38))
      clear hO7 hb7 HVB HW6 HB6 HD2 hv7 hzl hx7 HX7 HW7
      dsimp only [awkX]
      go_wp2_with fail
      refine (HAW.out _ HW8.out).mono ?_
      rintro e w8 ⟨rfl, hb8⟩
      have HD8 := hide (extW HW8.out hb8)
      have HX9 := hide (HX8.out.below hb8)
      have HBX8 := hide (HBX.out.extW hb8)
      have hcv8 := fun i => Blk.cell (HV7.out.extW HD8.out) i
      have hzv8 := (HV7.out.extW HD8.out).lt
      have hcx8 := fun i => Blk.cell HBX8.out i
      have hzx8 := HBX8.out.lt
      clear hcv hzv hb8
      go_wp2_with fail
      refine (HSW.out _ HD8.out).mono ?_
      rintro e w9 ⟨rfl, hb9⟩
      have HD9 := hide (extW HD8.out hb9)
      have HX10 := hide (HX9.out.below hb9)
      have HBX9 := hide (HBX8.out.extW hb9)
      have hcx9 := fun i => Blk.cell HBX9.out i
      have hzx9 := HBX9.out.lt
      have HIN : Hid (Calls Try.prog 17 #[.slice B7 1 d7, .slice (some ⟨w9.heap.size, 0, none⟩) 1 1] (w9.alloc (.cells #[.int .i64 1] 3)) fun e w' => e = .returned (.bool true) ∧ Drew (w9.alloc (.cells #[.int .i64 1] 3)) w') := by
        have := ints_any B7 (some ⟨w9.heap.size, 0, none⟩) d7 1 [1] [1] (w9.alloc (.cells #[.int .i64 1] 3)) (by decide) (by decide) (HX10.out.alloc _) (RdI.one _ .i64 1 _)
        exact this
      clear hcv8 hzv8 hcx8 hzx8 hb9
      go_wp2_with fail
      refine HIN.out.mono ?_
      rintro e w10 ⟨rfl, hd10⟩
      have hb10 := extW (moreW (selfW w9) (.cells #[.int .i64 1] 3)) hd10.extW
      have HD10 := hide (extW HD9.out hb10)
      have hcx10 := fun i => Blk.cell (HBX9.out.extW hb10) i
      have hzx10 := (HBX9.out.extW hb10).lt
      clear hcx9 hzx9 hb10 hd10
      go_wp2_with fail
      refine (HSX.out _ HD10.out).mono ?_
      rintro e w11 ⟨rfl, hb11⟩
      go_wp2_with fail
      go_ret
      exact ⟨rfl, extW (extW HB7.out HD10.out) hb11⟩
end
end Go.Proofs.Ytdgnejapofkadaa
