/- The walk of ghosts.New. -/
import Derived.Test.YtdgnejapofkadaaGhB
namespace Go.Proofs.Ytdgnejapofkadaa
open Go.RowKit

theorem rep_snoc {α : Type} (n : Nat) (x : α) : List.replicate n x ++ [x] = List.replicate (n + 1) x := by rw [← List.replicate_succ']
section
variable (w : World)
set_option maxHeartbeats 1000000 in
theorem gnew_lo (n : Int) (hn : n < 0) : Calls Try.prog 13 #[.int .i64 n] w fun e w' => (∃ v, e = .returned v ∧ RdW w' v (newW 0)) ∧ Below w.heap.size w w' := by
  go_enter Try.func13, Try.ntmps13
  go_wp2_with fail
  go_loopw [8] (fun i wr => ∃ (k : Nat) (vr : Value), k ≤ 0 ∧ i = .int .i64 k ∧ Hid (OwnF wr w.heap.size 48 5 rdC vr (List.replicate k newX)) ∧ Hid (Blk wr (w.heap.size + 1) 38 #[.int .i64 1, .int .i64 1, .int .i64 1, vr, .slice none 0 0]) ∧ Hid (Blk wr w.heap.size 38 #[.int .i64 0, .int .i64 0, .int .i64 0, .slice none 0 0, .slice none 0 0]) ∧ Hid (Below w.heap.size w wr)) (fun i _ => 0 - (intOf i).toNat)
  case atStart => exact ⟨0, _, Nat.zero_le _, rfl, OwnF.nil _ _ _ _ _, Blk.newAt _ _ _ (by simp), (Blk.new _ _ _).alloc _, (moreW (moreW (selfW w) _) _)⟩
  case round =>
    obtain ⟨k, vr, hk, rfl, HO, HG, HR, HB⟩ := hrel
    have hsz := HB.out.size
    have hgs := HG.out.lt
    have hcg := fun i => Blk.cell HG.out i
    have hfg := fun i => Blk.free HG.out i
    by_cases hlt : k < 0
    · omega
    · have hkn : 0 = k := by omega
      subst hkn
      obtain ⟨A, c, hv, hrd⟩ := HO.out.rd
      have hcr := fun i => Blk.cell HR.out i
      have hfr := fun i => Blk.free HR.out i
      have hll : (List.replicate 0 newX).length = 0 := List.length_replicate
      rw [hll] at hv
      subst hv
      have HRD := hide hrd; have HLL := hide hll
      clear hrd hll
      go_wp2_with fail
      refine bodyPost_ret (v := wval (newW 0) A 0 c none 0 0) ?_ rfl ?_
      · obtain ⟨k0, k1, k2, k3, k4⟩ := set5_cells HR.out (.int .i64 1) (.int .i64 1) (.int .i64 1) (.slice A 0 c) (.slice none 0 0)
        unfold set5 at k4
        simp [results, Try.results13, go_sem, k0, k1, k2, k3, k4, wval, newW]
      · exact ⟨⟨_, rfl, .slice A 0 c, .slice none 0 0, List.replicate 0 newX, rfl, newX_map _, OwnF.weak (by exact set5_own HO.out HR.out (by decide) _ _ _ _ _) (Nat.zero_le _), newX_own _ _, newX_apart _, OwnI.nil _ _ _ _⟩, set5_below HB.out (Nat.le_refl _) (.int .i64 1) (.int .i64 1) (.int .i64 1) (.slice A 0 c) (.slice none 0 0)⟩
set_option maxHeartbeats 1000000 in
theorem gnew_mid (m : Nat) (hn : m ≤ 64) : Calls Try.prog 13 #[.int .i64 m] w fun e w' => (∃ v, e = .returned v ∧ RdW w' v (newW m)) ∧ Below w.heap.size w w' := by
  go_enter Try.func13, Try.ntmps13
  go_wp2_with fail
  go_loopw [8] (fun i wr => ∃ (k : Nat) (vr : Value), k ≤ m ∧ i = .int .i64 k ∧ Hid (OwnF wr w.heap.size 48 5 rdC vr (List.replicate k newX)) ∧ Hid (Blk wr (w.heap.size + 1) 38 #[.int .i64 1, .int .i64 1, .int .i64 1, vr, .slice none 0 0]) ∧ Hid (Blk wr w.heap.size 38 #[.int .i64 0, .int .i64 0, .int .i64 0, .slice none 0 0, .slice none 0 0]) ∧ Hid (Below w.heap.size w wr)) (fun i _ => m - (intOf i).toNat)
  case atStart => exact ⟨0, _, Nat.zero_le _, rfl, OwnF.nil _ _ _ _ _, Blk.newAt _ _ _ (by simp), (Blk.new _ _ _).alloc _, (moreW (moreW (selfW w) _) _)⟩
  case round =>
    obtain ⟨k, vr, hk, rfl, HO, HG, HR, HB⟩ := hrel
    have hsz := HB.out.size
    have hgs := HG.out.lt
    have hcg := fun i => Blk.cell HG.out i
    have hfg := fun i => Blk.free HG.out i
    by_cases hlt : k < m
    · have HOA := hide (HO.out.alloc (.cells #[.int .i64 0, .int .i64 (-1), .int .i64 0, .int .i64 0, .slice none 0 0] 48))
      have HGA := hide (HG.out.alloc (.cells #[.int .i64 0, .int .i64 (-1), .int .i64 0, .int .i64 0, .slice none 0 0] 48))
      have HRA := hide (HR.out.alloc (.cells #[.int .i64 0, .int .i64 (-1), .int .i64 0, .int .i64 0, .slice none 0 0] 48))
      go_wp2_with (at_builtin; refine wpList_appF _ rfl _ _ 36 rfl w.heap.size 48 5 56 (.agg #[.int .i64 0, .int .i64 0, .int .i64 0, .int .i64 0, .slice none 0 0]) rdC rdC_len rdC_one Try.underlying36 info_rd rfl (by decide) _ (List.replicate k newX) rfl HOA.out (some ⟨wr.heap.size, 0, none⟩) 1 1 [newX] rfl rfl ?c4 ?c5 ?c6 ?c7 ?_)
      case c4 => exact Rd.lit wr (rdC newX) _
      case c5 => simp; omega
      case c6 => simp; omega
      case c7 => simp; omega
      intro v' w1 hown' hgrow _
      have hG1 : Blk w1 (w.heap.size + 1) 38 _ := Blk.grown HGA.out hgrow (own_other HOA.out HGA.out (by decide))
      have hR1 : Blk w1 w.heap.size 38 _ := Blk.grown HRA.out hgrow (own_other HOA.out HRA.out (by decide))
      have hB1 := (show OwnF _ _ _ _ _ _ _ from HOA.out).below_step (HB.out.alloc (by omega) _) hgrow (by simp; omega) (Nat.le_refl _)
      rw [rep_snoc] at hown'
      obtain ⟨A2, c2, hv2⟩ := OwnF.shape hown'
      rw [List.length_replicate] at hv2
      subst hv2
      have HO2 := hide (own_far hown' hG1 (by decide) 3 (.slice A2 (k + 1) c2))
      have HG2 : Hid (Blk _ _ _ _) := hide (Blk.set_ hG1 3 (.slice A2 (k + 1) c2))
      have HR2 : Hid (Blk _ _ _ _) := hide (Blk.far hR1 (p := ⟨w.heap.size + 1, 3, none⟩) (by simp) (.slice A2 (k + 1) c2))
      have HB2 := hide (hB1.setCell (p := ⟨w.heap.size + 1, 3, none⟩) (by simp) (.slice A2 (k + 1) c2))
      have hcg1 := fun i => Blk.cell hG1 i
      have hfg1 := fun i => Blk.free hG1 i
      have hgs1 := hG1.lt
      clear hown' hgrow hG1 hR1 hB1 hcg hfg
      go_wp2_with fail
      go_roundw
      case rel => exact ⟨k + 1, _, by omega, by go_num, HO2.out, HG2.out, HR2.out, HB2.out⟩
      case measure => simp [intOf]; omega
    · have hkn : m = k := by omega
      subst hkn
      obtain ⟨A, c, hv, hrd⟩ := HO.out.rd
      have hcr := fun i => Blk.cell HR.out i
      have hfr := fun i => Blk.free HR.out i
      have hll : (List.replicate m newX).length = m := List.length_replicate
      rw [hll] at hv
      subst hv
      have HRD := hide hrd; have HLL := hide hll
      clear hrd hll
      go_wp2_with fail
      refine bodyPost_ret (v := wval (newW m) A m c none 0 0) ?_ rfl ?_
      · obtain ⟨k0, k1, k2, k3, k4⟩ := set5_cells HR.out (.int .i64 1) (.int .i64 1) (.int .i64 1) (.slice A m c) (.slice none 0 0)
        unfold set5 at k4
        simp [results, Try.results13, go_sem, k0, k1, k2, k3, k4, wval, newW]
      · exact ⟨⟨_, rfl, .slice A m c, .slice none 0 0, List.replicate m newX, rfl, newX_map _, OwnF.weak (by exact set5_own HO.out HR.out (by decide) _ _ _ _ _) (Nat.zero_le _), newX_own _ _, newX_apart _, OwnI.nil _ _ _ _⟩, set5_below HB.out (Nat.le_refl _) (.int .i64 1) (.int .i64 1) (.int .i64 1) (.slice A m c) (.slice none 0 0)⟩
set_option maxHeartbeats 1000000 in
theorem gnew_hi (n : Int) (hn : 64 < n) : Calls Try.prog 13 #[.int .i64 n] w fun e w' => (∃ v, e = .returned v ∧ RdW w' v (newW 64)) ∧ Below w.heap.size w w' := by
  go_enter Try.func13, Try.ntmps13
  go_wp2_with fail
  go_loopw [8] (fun i wr => ∃ (k : Nat) (vr : Value), k ≤ 64 ∧ i = .int .i64 k ∧ Hid (OwnF wr w.heap.size 48 5 rdC vr (List.replicate k newX)) ∧ Hid (Blk wr (w.heap.size + 1) 38 #[.int .i64 1, .int .i64 1, .int .i64 1, vr, .slice none 0 0]) ∧ Hid (Blk wr w.heap.size 38 #[.int .i64 0, .int .i64 0, .int .i64 0, .slice none 0 0, .slice none 0 0]) ∧ Hid (Below w.heap.size w wr)) (fun i _ => 64 - (intOf i).toNat)
  case atStart => exact ⟨0, _, Nat.zero_le _, rfl, OwnF.nil _ _ _ _ _, Blk.newAt _ _ _ (by simp), (Blk.new _ _ _).alloc _, (moreW (moreW (selfW w) _) _)⟩
  case round =>
    obtain ⟨k, vr, hk, rfl, HO, HG, HR, HB⟩ := hrel
    have hsz := HB.out.size
    have hgs := HG.out.lt
    have hcg := fun i => Blk.cell HG.out i
    have hfg := fun i => Blk.free HG.out i
    by_cases hlt : k < 64
    · have HOA := hide (HO.out.alloc (.cells #[.int .i64 0, .int .i64 (-1), .int .i64 0, .int .i64 0, .slice none 0 0] 48))
      have HGA := hide (HG.out.alloc (.cells #[.int .i64 0, .int .i64 (-1), .int .i64 0, .int .i64 0, .slice none 0 0] 48))
      have HRA := hide (HR.out.alloc (.cells #[.int .i64 0, .int .i64 (-1), .int .i64 0, .int .i64 0, .slice none 0 0] 48))
      go_wp2_with (at_builtin; refine wpList_appF _ rfl _ _ 36 rfl w.heap.size 48 5 56 (.agg #[.int .i64 0, .int .i64 0, .int .i64 0, .int .i64 0, .slice none 0 0]) rdC rdC_len rdC_one Try.underlying36 info_rd rfl (by decide) _ (List.replicate k newX) rfl HOA.out (some ⟨wr.heap.size, 0, none⟩) 1 1 [newX] rfl rfl ?c4 ?c5 ?c6 ?c7 ?_)
      case c4 => exact Rd.lit wr (rdC newX) _
      case c5 => simp; omega
      case c6 => simp; omega
      case c7 => simp; omega
      intro v' w1 hown' hgrow _
      have hG1 : Blk w1 (w.heap.size + 1) 38 _ := Blk.grown HGA.out hgrow (own_other HOA.out HGA.out (by decide))
      have hR1 : Blk w1 w.heap.size 38 _ := Blk.grown HRA.out hgrow (own_other HOA.out HRA.out (by decide))
      have hB1 := (show OwnF _ _ _ _ _ _ _ from HOA.out).below_step (HB.out.alloc (by omega) _) hgrow (by simp; omega) (Nat.le_refl _)
      rw [rep_snoc] at hown'
      obtain ⟨A2, c2, hv2⟩ := OwnF.shape hown'
      rw [List.length_replicate] at hv2
      subst hv2
      have HO2 := hide (own_far hown' hG1 (by decide) 3 (.slice A2 (k + 1) c2))
      have HG2 : Hid (Blk _ _ _ _) := hide (Blk.set_ hG1 3 (.slice A2 (k + 1) c2))
      have HR2 : Hid (Blk _ _ _ _) := hide (Blk.far hR1 (p := ⟨w.heap.size + 1, 3, none⟩) (by simp) (.slice A2 (k + 1) c2))
      have HB2 := hide (hB1.setCell (p := ⟨w.heap.size + 1, 3, none⟩) (by simp) (.slice A2 (k + 1) c2))
      have hcg1 := fun i => Blk.cell hG1 i
      have hfg1 := fun i => Blk.free hG1 i
      have hgs1 := hG1.lt
      clear hown' hgrow hG1 hR1 hB1 hcg hfg
      go_wp2_with fail
      go_roundw
      case rel => exact ⟨k + 1, _, by omega, by go_num, HO2.out, HG2.out, HR2.out, HB2.out⟩
      case measure => simp [intOf]; omega
    · have hkn : 64 = k := by omega
      subst hkn
      obtain ⟨A, c, hv, hrd⟩ := HO.out.rd
      have hcr := fun i => Blk.cell HR.out i
      have hfr := fun i => Blk.free HR.out i
      have hll : (List.replicate 64 newX).length = 64 := List.length_replicate
      rw [hll] at hv
      subst hv
      have HRD := hide hrd; have HLL := hide hll
      clear hrd hll
      go_wp2_with fail
      refine bodyPost_ret (v := wval (newW 64) A 64 c none 0 0) ?_ rfl ?_
      · obtain ⟨k0, k1, k2, k3, k4⟩ := set5_cells HR.out (.int .i64 1) (.int .i64 1) (.int .i64 1) (.slice A 64 c) (.slice none 0 0)
        unfold set5 at k4
        simp [results, Try.results13, go_sem, k0, k1, k2, k3, k4, wval, newW]
      · exact ⟨⟨_, rfl, .slice A 64 c, .slice none 0 0, List.replicate 64 newX, rfl, newX_map _, OwnF.weak (by exact set5_own HO.out HR.out (by decide) _ _ _ _ _) (Nat.zero_le _), newX_own _ _, newX_apart _, OwnI.nil _ _ _ _⟩, set5_below HB.out (Nat.le_refl _) (.int .i64 1) (.int .i64 1) (.int .i64 1) (.slice A 64 c) (.slice none 0 0)⟩
theorem gnew_any (n : Int) : Calls Try.prog 13 #[.int .i64 n] w fun e w' => (∃ v, e = .returned v ∧ RdW w' v (newW (cntT n))) ∧ Below w.heap.size w w' := by
  rcases Int.lt_or_le n 0 with h | h
  · rw [show cntT n = 0 by unfold cntT; omega]; exact gnew_lo w n h
  rcases Int.lt_or_le 64 n with h1 | h1
  · rw [show cntT n = 64 by unfold cntT; omega]; exact gnew_hi w n h1
  · obtain ⟨m, rfl⟩ := Int.eq_ofNat_of_zero_le h
    rw [show cntT (m : Int) = m by unfold cntT; omega]; exact gnew_mid w m (by omega)
end
end Go.Proofs.Ytdgnejapofkadaa
