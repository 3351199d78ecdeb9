/- The walks of sched.Fair, sched.Least. -/
import Derived.Test.YtphjbdoephmgfaaSchedG
namespace Go.Proofs.Ytphjbdoephmgfaa
open Go.RowKit

theorem set_rep {T k : Nat} (L : List Int) (hl : L.length = T) (hk : k < T) (h : L.take k = List.replicate k (-1)) : (L.set k (-1)).take (k + 1) = List.replicate (k + 1) (-1) := by
  have h1 : (L.set k (-1))[k]? = some (-1) := by rw [List.getElem?_set_self (by omega)]
  rw [take_of h1, List.take_set_of_le (Nat.le_refl _), h, List.replicate_succ']

theorem fair_more {zs : List Int} {T j : Nat} {v : Int} (h : ∀ t : Nat, t < T → ∀ x, x ≤ j → (gapL (zs.take x) t : Int) < v) (h1 : ∀ t : Nat, t < T → (gapL (zs.take (j + 1)) t : Int) < v) :
    ∀ t : Nat, t < T → ∀ x, x ≤ j + 1 → (gapL (zs.take x) t : Int) < v := by
  intro t ht x hx
  by_cases hxj : x = j + 1
  · subst hxj; exact h1 t ht
  · exact h t ht x (by omega)

section
variable (w : World)
set_option maxHeartbeats 2000000 in
theorem fair_any (A : Option Addr) (c : Nat) (zs : List Int) (m v : Int) (hl : zs.length ≤ 17592186044416) (hv : v ≤ 9223372036854775807) (hr : RdI w .i64 A zs) :
    Calls Try.prog 16 #[.slice A zs.length c, .int .i64 m, .int .i64 v] w fun e w' => e = .returned (.bool (fairB zs (cutN 64 m) v)) ∧ Below w.heap.size w w' := by
  obtain ⟨n, hn⟩ : ∃ n, n = zs.length := ⟨_, rfl⟩
  rw [← hn] at hl ⊢
  have HN := hide hn; clear hn
  have HR := hide hr; clear hr
  have hT := cutN_le 64 m
  have HTH := hide (fun w => threads_any w m)
  generalize cutN 64 m = T at hT HTH ⊢
  have hmf := make_func
  generalize hq : fairB zs T v = q
  have HQ := hide hq; clear hq
  have HV := hide hv; clear hv
  have hlow : decide (v < 1) = true ∨ decide (v < 1) = false := by cases decide (v < 1) <;> simp
  rcases hlow with hv1 | hv1
  all_goals
    go_enter Try.func16, Try.ntmps16
    go_wp2_with fail
    refine (HTH.out _).mono ?_
    rintro e w' ⟨rfl, rfl⟩
    go_wp2_with (at_make; refine wpList_makeI _ rfl _ _ 22 rfl (w.heap.size + 1) 3 .i64 Try.underlying22 info_int _ _ _ _ T rfl rfl rfl rfl (by omega) (by simp) ?_)
    intro w1 ho hb1
    have HB1 := hide ((moreW (selfW w) (.cells #[.int .i64 v] 3)).trans (hb1.mono (by omega)))
    have HCV := hide ((hb1.cell (p := ⟨w.heap.size, 0, none⟩) (by simp)).trans (show _ = some (Value.int .i64 v) by simp))
    have HO1 := hide ho
    clear ho hb1
    go_wp2_with fail
    go_loopw [16] (fun i wr => ∃ (k : Nat) (L : List Int), k ≤ T ∧ i = .int .i64 k ∧ Hid (OwnI wr (w.heap.size + 1) 3 .i64 (.slice (some ⟨w.heap.size + 1, 0, none⟩) T T) L) ∧ Hid (L.take k = List.replicate k (-1)) ∧ Hid (L.length = T) ∧
        Hid (wr.cell? ⟨w.heap.size, 0, none⟩ = some (.int .i64 v)) ∧ Hid (Below w.heap.size w wr)) (fun i _ => T - (intOf i).toNat)
    case atStart => exact ⟨0, _, Nat.zero_le _, rfl, HO1.out, rfl, List.length_replicate, HCV.out, HB1.out⟩
    case round =>
      obtain ⟨k, L, hk, rfl, HO, HL, HLL, HC, HB⟩ := hrel
      by_cases hlt : k < T
      · obtain ⟨z, hz⟩ : ∃ z, L[k]? = some z := ⟨_, List.getElem?_eq_getElem (by have := HLL.out; omega)⟩
        have hc1 := HO.out.cell hz
        have hf1 := HO.out.frozen k
        clear hz
        go_wp2
        go_roundw
        case rel =>
          exact ⟨k + 1, _, by omega, by go_num, HO.out.stored k (-1), set_rep L HLL.out hlt HL.out, by rw [Hid, List.length_set]; exact HLL.out,
            (World.cell?_setCell_other _ _ _ _ (by simp)).trans HC.out, HB.out.setCell (p := ⟨w.heap.size + 1, k, none⟩) (by simp) _⟩
        case measure => simp [intOf]; omega
      · obtain rfl : T = k := by omega
        have hL : L = lastL [] T := by rw [lastL_nil]; have := HL.out; rwa [List.take_of_length_le (by have := HLL.out; omega)] at this
        have hcv := HC.out
        have HL0 : Hid (L = lastL (zs.take 0) T) := hL
        clear hL hcv
        first
        | (have hv2 : v < 1 := by simpa using hv1
           have hcv := HC.out
           go_wp2_with fail
           go_ret
           exact ⟨ret_bool (by rw [← HQ.out]; exact (fairB_low hv2).symm), HB.out⟩)
        | (have hv2 : 1 ≤ v := by have : ¬ v < 1 := by simpa using hv1
                                  omega
           have hcv := HC.out
           go_wp2_with fail
           clear hcv
           go_loopw [27] (fun i wr => ∃ (j : Nat) (L2 : List Int), j ≤ n ∧ i = .int .i64 j ∧ Hid (OwnI wr (w.heap.size + 1) 3 .i64 (.slice (some ⟨w.heap.size + 1, 0, none⟩) T T) L2) ∧ Hid (L2 = lastL (zs.take j) T) ∧
              Hid (wr.cell? ⟨w.heap.size, 0, none⟩ = some (.int .i64 v)) ∧ Hid (Below w.heap.size w wr) ∧ Hid (∀ t : Nat, t < T → ∀ x, x ≤ j → (gapL (zs.take x) t : Int) < v)) (fun i _ => n - (intOf i).toNat)
           case atStart =>
             refine ⟨0, L, Nat.zero_le _, rfl, HO.out, HL0.out, HC.out, HB.out, fun t _ x hx => ?_⟩
             have : x = 0 := by omega
             subst this
             simp [gapL]; omega
           case round =>
            obtain ⟨j, L2, hj, rfl, HO2, HL2, HC2, HB2, HG2⟩ := hrel
            by_cases hlt2 : j < n
            · obtain ⟨ad, z, hA, hz, hc⟩ := RdI.at_ (HR.out.below HB2.out) (by rw [← HN.out]; exact hlt2)
              subst hA
              have HZ := hide hz; clear hz
              have hbs : w.heap.size < wr.heap.size := cell_lt HC2.out
              by_cases hz0 : z < 0
              · have hz : z < 0 ∨ (T : Int) ≤ z := .inl hz0
                have hz1 : decide (0 ≤ z) = false := decide_eq_false (by omega)
                have HO3 := hide (HO2.out.alloc (.cells #[.int .i64 j] 3))
                have HL3 : Hid (L2 = lastL (zs.take (j + 1)) T) := by show _ = _; rw [HL2.out, lastL_out HZ.out hz]
                have HB3 := hide (moreW HB2.out (.cells #[.int .i64 j] 3))
                have hci : (wr.alloc (.cells #[.int .i64 j] 3)).cell? ⟨wr.heap.size, 0, none⟩ = some (.int .i64 j) := by simp
                have hcw : (wr.alloc (.cells #[.int .i64 j] 3)).cell? ⟨w.heap.size, 0, none⟩ = some (.int .i64 v) := by rw [World.cell?_alloc_lt _ _ _ hbs]; exact HC2.out
                have HCI := hide hci; have HCW := hide hcw
                have hrd : RdI (wr.alloc (.cells #[.int .i64 j] 3)) .i64 (some ⟨w.heap.size + 1, 0, none⟩) L2 := by
                  obtain ⟨A', c', hv', hr'⟩ := HO3.out.rd
                  injection hv' with hv'; subst hv'; exact hr'
                have hl3 : L2.length = T := HO3.out.cap.1.symm
                have CON := contains_old (wr.alloc (.cells #[.int .i64 j] 3)) (some ⟨w.heap.size + 1, 0, none⟩) T L2 j v wr.heap.size w.heap.size (by rw [hl3]; omega) hrd hci hcw
                rw [hl3, wrap_sub j v (by omega) (by omega) HV.out] at CON
                have HANY : Hid ((L2.any fun x => decide (x ≤ (j : Int) - v)) = true ↔ ∃ t : Nat, t < T ∧ v ≤ gapL (zs.take (j + 1)) t) := by rw [HL3.out]; exact lastL_any (by have := HN.out; omega) v
                have HL3' : Hid (L2.length = T) := hl3
                clear hrd hl3
                have hvo := HV.out
                by_cases hge : v - 1 ≤ (j : Int)
                · rcases hany : (L2.any fun x => decide (x ≤ (j : Int) - v)) with _ | _
                  · rw [hany] at CON HANY
                    have HCON := hide CON; clear CON hany
                    go_wp2_with (go_at_call 34; refine HCON.out.mono ?_; rintro e w' ⟨rfl, rfl⟩)
                    go_roundw
                    case rel =>
                      refine ⟨j + 1, L2, by omega, by go_num, HO3.out, HL3.out, HCW.out, HB3.out, fair_more HG2.out fun t ht => ?_⟩
                      have := HANY.out
                      rcases Int.lt_or_le (gapL (zs.take (j + 1)) t : Int) v with h | h
                      · exact h
                      · have := this.2 ⟨t, ht, h⟩; cases this
                    case measure => simp [intOf]; omega
                  · rw [hany] at CON HANY
                    have HCON := hide CON; clear CON hany
                    go_wp2_with (go_at_call 34; refine HCON.out.mono ?_; rintro e w' ⟨rfl, rfl⟩)
                    go_ret
                    refine ⟨ret_bool ?_, HB3.out⟩
                    rw [← HQ.out]
                    obtain ⟨t, ht, h⟩ := HANY.out.1 (by first | rfl | trivial)
                    exact (fairB_no ht (by have := HN.out; omega) h).symm
                · have hge' : decide (v ≤ (j : Int) + 1) = false := decide_eq_false (by omega)
                  have hge'' : decide (v - 1 ≤ (j : Int)) = false := decide_eq_false (by omega)
                  clear CON
                  go_wp2_with fail
                  go_roundw
                  case rel =>
                    refine ⟨j + 1, L2, by omega, by go_num, HO3.out, HL3.out, HCW.out, HB3.out, fair_more HG2.out fun t ht => ?_⟩
                    have := gapL_le zs t (j + 1) (by have := HN.out; omega)
                    omega
                  case measure => simp [intOf]; omega
              by_cases hz2 : (T : Int) ≤ z
              · have hz : z < 0 ∨ (T : Int) ≤ z := .inr hz2
                have hz1 : decide (z < (T : Int)) = false := decide_eq_false (by omega)
                have HO3 := hide (HO2.out.alloc (.cells #[.int .i64 j] 3))
                have HL3 : Hid (L2 = lastL (zs.take (j + 1)) T) := by show _ = _; rw [HL2.out, lastL_out HZ.out hz]
                have HB3 := hide (moreW HB2.out (.cells #[.int .i64 j] 3))
                have hci : (wr.alloc (.cells #[.int .i64 j] 3)).cell? ⟨wr.heap.size, 0, none⟩ = some (.int .i64 j) := by simp
                have hcw : (wr.alloc (.cells #[.int .i64 j] 3)).cell? ⟨w.heap.size, 0, none⟩ = some (.int .i64 v) := by rw [World.cell?_alloc_lt _ _ _ hbs]; exact HC2.out
                have HCI := hide hci; have HCW := hide hcw
                have hrd : RdI (wr.alloc (.cells #[.int .i64 j] 3)) .i64 (some ⟨w.heap.size + 1, 0, none⟩) L2 := by
                  obtain ⟨A', c', hv', hr'⟩ := HO3.out.rd
                  injection hv' with hv'; subst hv'; exact hr'
                have hl3 : L2.length = T := HO3.out.cap.1.symm
                have CON := contains_old (wr.alloc (.cells #[.int .i64 j] 3)) (some ⟨w.heap.size + 1, 0, none⟩) T L2 j v wr.heap.size w.heap.size (by rw [hl3]; omega) hrd hci hcw
                rw [hl3, wrap_sub j v (by omega) (by omega) HV.out] at CON
                have HANY : Hid ((L2.any fun x => decide (x ≤ (j : Int) - v)) = true ↔ ∃ t : Nat, t < T ∧ v ≤ gapL (zs.take (j + 1)) t) := by rw [HL3.out]; exact lastL_any (by have := HN.out; omega) v
                have HL3' : Hid (L2.length = T) := hl3
                clear hrd hl3
                have hvo := HV.out
                by_cases hge : v - 1 ≤ (j : Int)
                · rcases hany : (L2.any fun x => decide (x ≤ (j : Int) - v)) with _ | _
                  · rw [hany] at CON HANY
                    have HCON := hide CON; clear CON hany
                    go_wp2_with (go_at_call 34; refine HCON.out.mono ?_; rintro e w' ⟨rfl, rfl⟩)
                    go_roundw
                    case rel =>
                      refine ⟨j + 1, L2, by omega, by go_num, HO3.out, HL3.out, HCW.out, HB3.out, fair_more HG2.out fun t ht => ?_⟩
                      have := HANY.out
                      rcases Int.lt_or_le (gapL (zs.take (j + 1)) t : Int) v with h | h
                      · exact h
                      · have := this.2 ⟨t, ht, h⟩; cases this
                    case measure => simp [intOf]; omega
                  · rw [hany] at CON HANY
                    have HCON := hide CON; clear CON hany
                    go_wp2_with (go_at_call 34; refine HCON.out.mono ?_; rintro e w' ⟨rfl, rfl⟩)
                    go_ret
                    refine ⟨ret_bool ?_, HB3.out⟩
                    rw [← HQ.out]
                    obtain ⟨t, ht, h⟩ := HANY.out.1 (by first | rfl | trivial)
                    exact (fairB_no ht (by have := HN.out; omega) h).symm
                · have hge' : decide (v ≤ (j : Int) + 1) = false := decide_eq_false (by omega)
                  have hge'' : decide (v - 1 ≤ (j : Int)) = false := decide_eq_false (by omega)
                  clear CON
                  go_wp2_with fail
                  go_roundw
                  case rel =>
                    refine ⟨j + 1, L2, by omega, by go_num, HO3.out, HL3.out, HCW.out, HB3.out, fair_more HG2.out fun t ht => ?_⟩
                    have := gapL_le zs t (j + 1) (by have := HN.out; omega)
                    omega
                  case measure => simp [intOf]; omega
              · obtain ⟨q', rfl⟩ := Int.eq_ofNat_of_zero_le (show 0 ≤ z by omega)
                have hqT : q' < T := by omega
                obtain ⟨old, hold⟩ : ∃ old, L2[q']? = some old := ⟨_, List.getElem?_eq_getElem (by rw [← HO2.out.cap.1]; exact hqT)⟩
                have hc1 := HO2.out.cell hold
                have hf1 := HO2.out.frozen q'
                have hbs2 : w.heap.size + 1 < wr.heap.size := cell_lt hc1
                clear hold
                have HO3 := hide ((HO2.out.stored q' j).alloc (.cells #[.int .i64 j] 3))
                have HL3 : Hid ((L2.set q' j) = lastL (zs.take (j + 1)) T) := by show _ = _; rw [HL2.out, lastL_in HZ.out (by omega)]; rfl
                have HB3 := hide (moreW (HB2.out.setCell (p := ⟨w.heap.size + 1, q', none⟩) (by simp) (.int .i64 j)) (.cells #[.int .i64 j] 3))
                have hci : ((wr.setCell ⟨w.heap.size + 1, q', none⟩ (.int .i64 j)).alloc (.cells #[.int .i64 j] 3)).cell? ⟨wr.heap.size, 0, none⟩ = some (.int .i64 j) := Blk.cell (Blk.newAt (wr.setCell ⟨w.heap.size + 1, q', none⟩ (.int .i64 j)) 3 #[.int .i64 j] (g := wr.heap.size) (by simp)) 0
                have hcw : ((wr.setCell ⟨w.heap.size + 1, q', none⟩ (.int .i64 j)).alloc (.cells #[.int .i64 j] 3)).cell? ⟨w.heap.size, 0, none⟩ = some (.int .i64 v) := by exact (World.cell?_alloc_lt _ _ _ (by simp; omega)).trans ((World.cell?_setCell_other _ _ _ _ (by simp)).trans HC2.out)
                have HCI := hide hci; have HCW := hide hcw
                have hrd : RdI ((wr.setCell ⟨w.heap.size + 1, q', none⟩ (.int .i64 j)).alloc (.cells #[.int .i64 j] 3)) .i64 (some ⟨w.heap.size + 1, 0, none⟩) (L2.set q' j) := by
                  obtain ⟨A', c', hv', hr'⟩ := HO3.out.rd
                  injection hv' with hv'; subst hv'; exact hr'
                have hl3 : (L2.set q' j).length = T := HO3.out.cap.1.symm
                have CON := contains_old ((wr.setCell ⟨w.heap.size + 1, q', none⟩ (.int .i64 j)).alloc (.cells #[.int .i64 j] 3)) (some ⟨w.heap.size + 1, 0, none⟩) T (L2.set q' j) j v wr.heap.size w.heap.size (by rw [hl3]; omega) hrd hci hcw
                rw [hl3, wrap_sub j v (by omega) (by omega) HV.out] at CON
                have HANY : Hid (((L2.set q' j).any fun x => decide (x ≤ (j : Int) - v)) = true ↔ ∃ t : Nat, t < T ∧ v ≤ gapL (zs.take (j + 1)) t) := by rw [HL3.out]; exact lastL_any (by have := HN.out; omega) v
                have HL3' : Hid ((L2.set q' j).length = T) := hl3
                clear hrd hl3
                have hvo := HV.out
                by_cases hge : v - 1 ≤ (j : Int)
                · rcases hany : ((L2.set q' j).any fun x => decide (x ≤ (j : Int) - v)) with _ | _
                  · rw [hany] at CON HANY
                    have HCON := hide CON; clear CON hany
                    go_wp2_with (go_at_call 34; refine HCON.out.mono ?_; rintro e w' ⟨rfl, rfl⟩)
                    go_roundw
                    case rel =>
                      refine ⟨j + 1, (L2.set q' j), by omega, by go_num, HO3.out, HL3.out, HCW.out, HB3.out, fair_more HG2.out fun t ht => ?_⟩
                      have := HANY.out
                      rcases Int.lt_or_le (gapL (zs.take (j + 1)) t : Int) v with h | h
                      · exact h
                      · have := this.2 ⟨t, ht, h⟩; cases this
                    case measure => simp [intOf]; omega
                  · rw [hany] at CON HANY
                    have HCON := hide CON; clear CON hany
                    go_wp2_with (go_at_call 34; refine HCON.out.mono ?_; rintro e w' ⟨rfl, rfl⟩)
                    go_ret
                    refine ⟨ret_bool ?_, HB3.out⟩
                    rw [← HQ.out]
                    obtain ⟨t, ht, h⟩ := HANY.out.1 (by first | rfl | trivial)
                    exact (fairB_no ht (by have := HN.out; omega) h).symm
                · have hge' : decide (v ≤ (j : Int) + 1) = false := decide_eq_false (by omega)
                  have hge'' : decide (v - 1 ≤ (j : Int)) = false := decide_eq_false (by omega)
                  clear CON
                  go_wp2_with fail
                  go_roundw
                  case rel =>
                    refine ⟨j + 1, (L2.set q' j), by omega, by go_num, HO3.out, HL3.out, HCW.out, HB3.out, fair_more HG2.out fun t ht => ?_⟩
                    have := gapL_le zs t (j + 1) (by have := HN.out; omega)
                    omega
                  case measure => simp [intOf]; omega
            · go_wp2_with fail
              go_ret
              refine ⟨ret_bool ?_, HB2.out⟩
              rw [← HQ.out]
              exact (fairB_yes hv2 fun t ht x hx => HG2.out t ht x (by have := HN.out; omega)).symm)
end
end Go.Proofs.Ytphjbdoephmgfaa
