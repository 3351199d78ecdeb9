/- The walk of the law MemNobody. -/
import Derived.Test.YthjigennjocdjaaMemH
namespace Go.Proofs.Ythjigennjocdjaa
open Go.RowKit

section
variable (w : World)
set_option maxRecDepth 100000 in
set_option maxHeartbeats 2000000 in
theorem nobody_law (n t ad x : Int) :
    Calls Try.prog 5 #[.int .i64 n, .int .i64 t, .int .i64 ad, .int .u64 x] w fun e w' => e = .returned (.bool true) ∧ Below w.heap.size w w' := by
  obtain ⟨Z, hZ⟩ : ∃ Z : Obj, Z = .cells #[.slice none 0 0, .slice none 0 0, .slice none 0 0, .bool false] 39 := ⟨_, rfl⟩
  have hz0 : (w.alloc Z).cell? ⟨w.heap.size, 0, none⟩ = some (.slice none 0 0) := by subst hZ; simp
  have HZ := hide hz0
  subst hZ
  clear hz0
  have hn : n < 1 ∨ (¬ n < 1 ∧ 1048576 < n) ∨ (¬ n < 1 ∧ ¬ 1048576 < n) := by omega
  rcases hn with hn | ⟨hn1, hn2⟩ | ⟨hn1, hn2⟩
  · have hd1 : decide (n < 1) = true := decide_eq_true hn
    go_enter Try.func5, Try.ntmps5
    go_wp2_with fail
    refine (new_not _ n (.inl hn)).mono ?_
    rintro e w1 ⟨rfl, hw1⟩
    have hb1 : Below (w.alloc (.cells #[.slice none 0 0, .slice none 0 0, .slice none 0 0, .bool false] 39)).heap.size (w.alloc (.cells #[.slice none 0 0, .slice none 0 0, .slice none 0 0, .bool false] 39)) w1 := by rw [← hw1]; exact Below.refl _ _
    have HB1 := hide hb1
    clear hb1 hw1
    have HZ1 := hide ((HB1.out.cell (by simp)).trans HZ.out)
    have hl0 : (w1.alloc (.cells #[.pointer none, .pointer (some ⟨w.heap.size, 0, none⟩)] 23)).cell? ⟨w1.heap.size, 0, none⟩ = some (.pointer none) := by simp
    have hl1 : (w1.alloc (.cells #[.pointer none, .pointer (some ⟨w.heap.size, 0, none⟩)] 23)).cell? ⟨w1.heap.size, 1, none⟩ = some (.pointer (some ⟨w.heap.size, 0, none⟩)) := by simp
    have HL0 := hide hl0; have HL1 := hide hl1
    clear hl0 hl1
    go_wp2_with fail
    go_loopw [10, 31] (fun o i wr => ∃ k : Nat, k ≤ 2 ∧ o = .bool true ∧ i = .int .i64 k ∧ Hid (Below (w1.heap.size + 1) (w1.alloc (.cells #[.pointer none, .pointer (some ⟨w.heap.size, 0, none⟩)] 23)) wr)) (fun _ i _ => 2 - (intOf i).toNat)
    case atStart => exact ⟨0, by omega, rfl, rfl, Below.refl _ _⟩
    case round =>
      obtain ⟨k, hk, rfl, rfl, HB⟩ := hrel
      by_cases hlt : k < 2
      · have hm : ∃ m, wr.cell? ⟨w1.heap.size, k, none⟩ = some m ∧ Nul wr m := by
          have h0 := cell_lt HZ1.out
          have h0' : w.heap.size < w1.heap.size := h0
          rcases (show k = 0 ∨ k = 1 by omega) with rfl | rfl
          · exact ⟨_, (HB.out.cell (by simp)).trans HL0.out, .inl rfl⟩
          · exact ⟨_, (HB.out.cell (by simp)).trans HL1.out, .inr ⟨_, rfl, (HB.out.cell (by simp; omega)).trans ((World.cell?_alloc_lt _ _ _ h0).trans HZ1.out)⟩⟩
        obtain ⟨m, hcm, hnul⟩ := hm
        have HU := hide hnul
        clear hnul hk
        go_wp2_with fail
        refine (load_nul wr m t ad HU.out).mono ?_
        rintro e w2 ⟨rfl, hb2⟩
        have HB2 := hide hb2
        clear hb2
        go_wp2_with fail
        refine (swap_nul w2 m t ad x x (HU.out.ext HB2.out)).mono ?_
        rintro e w3 ⟨rfl, hb3⟩
        have HB3 := hide (extW HB2.out hb3)
        clear hb3 HB2
        go_wp2_with fail
        refine (add_nul w3 m t ad x (HU.out.ext HB3.out)).mono ?_
        rintro e w4 ⟨rfl, hb4⟩
        have HB4 := hide (extW HB3.out hb4)
        clear hb4 HB3
        go_wp2_with fail
        refine (keep_nul w4 m true (HU.out.ext HB4.out)).mono ?_
        rintro e w' ⟨rfl, rfl⟩
        go_wp2_with fail
        refine (store_nul w4 m t ad x (HU.out.ext HB4.out)).mono ?_
        rintro e w5 ⟨rfl, hb5⟩
        have HB5 := hide (extW HB4.out hb5)
        clear hb5 HB4
        go_wp2_with fail
        refine (poke_nul _ m ad _ (HU.out.ext (moreW HB5.out _))).mono ?_
        rintro e w' ⟨rfl, rfl⟩
        go_wp2_with fail
        refine (size_nul _ m (HU.out.ext (moreW HB5.out _))).mono ?_
        rintro e w' ⟨rfl, rfl⟩
        go_wp2_with fail
        refine (all_nul _ m (HU.out.ext (moreW HB5.out _))).mono ?_
        rintro e w' ⟨rfl, rfl⟩
        go_wp2_with fail
        refine (log_nul _ m (HU.out.ext (moreW HB5.out _))).mono ?_
        rintro e w' ⟨rfl, rfl⟩
        go_wp2_with fail
        refine (cnt_nul _ m t (HU.out.ext (moreW HB5.out _))).mono ?_
        rintro e w' ⟨rfl, rfl⟩
        go_wp2_with fail
        refine (peek_nul _ m ad (HU.out.ext (moreW HB5.out _))).mono ?_
        rintro e w' ⟨rfl, rfl⟩
        go_wp2_with fail
        refine (copy_nul _ m (HU.out.ext (moreW HB5.out _))).mono ?_
        rintro e w' ⟨rfl, rfl⟩
        go_wp2_with fail
        go_roundw
        case rel => exact ⟨k + 1, by omega, rfl, by go_num, HB.out.trans ((moreW HB5.out _).mono (by have := HB.out.size; simp at this; omega))⟩
        case measure => simp [intOf]; omega
      · have hk2 : k = 2 := by omega
        subst hk2
        clear hk hlt
        go_wp2_with fail
        refine (awake03 _).mono ?_
        rintro e w5 ⟨rfl, hb5⟩
        have HB6 := hide hb5
        clear hb5
        go_wp2_with fail
        go_ret
        refine ⟨rfl, ?_⟩
        have q1 := extW (moreW (selfW w) _) HB1.out
        have q2 := extW (moreW q1 (.cells #[.pointer none, .pointer (some ⟨w.heap.size, 0, none⟩)] 23)) (HB.out.mono (by simp))
        exact extW q2 HB6.out
  · have hd1 : decide (n < 1) = false := decide_eq_false hn1
    have hd2 : decide (1048576 < n) = true := decide_eq_true hn2
    go_enter Try.func5, Try.ntmps5
    go_wp2_with fail
    refine (new_not _ n (.inr hn2)).mono ?_
    rintro e w1 ⟨rfl, hw1⟩
    have hb1 : Below (w.alloc (.cells #[.slice none 0 0, .slice none 0 0, .slice none 0 0, .bool false] 39)).heap.size (w.alloc (.cells #[.slice none 0 0, .slice none 0 0, .slice none 0 0, .bool false] 39)) w1 := by rw [← hw1]; exact Below.refl _ _
    have HB1 := hide hb1
    clear hb1 hw1
    have HZ1 := hide ((HB1.out.cell (by simp)).trans HZ.out)
    have hl0 : (w1.alloc (.cells #[.pointer none, .pointer (some ⟨w.heap.size, 0, none⟩)] 23)).cell? ⟨w1.heap.size, 0, none⟩ = some (.pointer none) := by simp
    have hl1 : (w1.alloc (.cells #[.pointer none, .pointer (some ⟨w.heap.size, 0, none⟩)] 23)).cell? ⟨w1.heap.size, 1, none⟩ = some (.pointer (some ⟨w.heap.size, 0, none⟩)) := by simp
    have HL0 := hide hl0; have HL1 := hide hl1
    clear hl0 hl1
    go_wp2_with fail
    go_loopw [10, 31] (fun o i wr => ∃ k : Nat, k ≤ 2 ∧ o = .bool true ∧ i = .int .i64 k ∧ Hid (Below (w1.heap.size + 1) (w1.alloc (.cells #[.pointer none, .pointer (some ⟨w.heap.size, 0, none⟩)] 23)) wr)) (fun _ i _ => 2 - (intOf i).toNat)
    case atStart => exact ⟨0, by omega, rfl, rfl, Below.refl _ _⟩
    case round =>
      obtain ⟨k, hk, rfl, rfl, HB⟩ := hrel
      by_cases hlt : k < 2
      · have hm : ∃ m, wr.cell? ⟨w1.heap.size, k, none⟩ = some m ∧ Nul wr m := by
          have h0 := cell_lt HZ1.out
          have h0' : w.heap.size < w1.heap.size := h0
          rcases (show k = 0 ∨ k = 1 by omega) with rfl | rfl
          · exact ⟨_, (HB.out.cell (by simp)).trans HL0.out, .inl rfl⟩
          · exact ⟨_, (HB.out.cell (by simp)).trans HL1.out, .inr ⟨_, rfl, (HB.out.cell (by simp; omega)).trans ((World.cell?_alloc_lt _ _ _ h0).trans HZ1.out)⟩⟩
        obtain ⟨m, hcm, hnul⟩ := hm
        have HU := hide hnul
        clear hnul hk
        go_wp2_with fail
        refine (load_nul wr m t ad HU.out).mono ?_
        rintro e w2 ⟨rfl, hb2⟩
        have HB2 := hide hb2
        clear hb2
        go_wp2_with fail
        refine (swap_nul w2 m t ad x x (HU.out.ext HB2.out)).mono ?_
        rintro e w3 ⟨rfl, hb3⟩
        have HB3 := hide (extW HB2.out hb3)
        clear hb3 HB2
        go_wp2_with fail
        refine (add_nul w3 m t ad x (HU.out.ext HB3.out)).mono ?_
        rintro e w4 ⟨rfl, hb4⟩
        have HB4 := hide (extW HB3.out hb4)
        clear hb4 HB3
        go_wp2_with fail
        refine (keep_nul w4 m true (HU.out.ext HB4.out)).mono ?_
        rintro e w' ⟨rfl, rfl⟩
        go_wp2_with fail
        refine (store_nul w4 m t ad x (HU.out.ext HB4.out)).mono ?_
        rintro e w5 ⟨rfl, hb5⟩
        have HB5 := hide (extW HB4.out hb5)
        clear hb5 HB4
        go_wp2_with fail
        refine (poke_nul _ m ad _ (HU.out.ext (moreW HB5.out _))).mono ?_
        rintro e w' ⟨rfl, rfl⟩
        go_wp2_with fail
        refine (size_nul _ m (HU.out.ext (moreW HB5.out _))).mono ?_
        rintro e w' ⟨rfl, rfl⟩
        go_wp2_with fail
        refine (all_nul _ m (HU.out.ext (moreW HB5.out _))).mono ?_
        rintro e w' ⟨rfl, rfl⟩
        go_wp2_with fail
        refine (log_nul _ m (HU.out.ext (moreW HB5.out _))).mono ?_
        rintro e w' ⟨rfl, rfl⟩
        go_wp2_with fail
        refine (cnt_nul _ m t (HU.out.ext (moreW HB5.out _))).mono ?_
        rintro e w' ⟨rfl, rfl⟩
        go_wp2_with fail
        refine (peek_nul _ m ad (HU.out.ext (moreW HB5.out _))).mono ?_
        rintro e w' ⟨rfl, rfl⟩
        go_wp2_with fail
        refine (copy_nul _ m (HU.out.ext (moreW HB5.out _))).mono ?_
        rintro e w' ⟨rfl, rfl⟩
        go_wp2_with fail
        go_roundw
        case rel => exact ⟨k + 1, by omega, rfl, by go_num, HB.out.trans ((moreW HB5.out _).mono (by have := HB.out.size; simp at this; omega))⟩
        case measure => simp [intOf]; omega
      · have hk2 : k = 2 := by omega
        subst hk2
        clear hk hlt
        go_wp2_with fail
        refine (awake03 _).mono ?_
        rintro e w5 ⟨rfl, hb5⟩
        have HB6 := hide hb5
        clear hb5
        go_wp2_with fail
        go_ret
        refine ⟨rfl, ?_⟩
        have q1 := extW (moreW (selfW w) _) HB1.out
        have q2 := extW (moreW q1 (.cells #[.pointer none, .pointer (some ⟨w.heap.size, 0, none⟩)] 23)) (HB.out.mono (by simp))
        exact extW q2 HB6.out
  · have hd1 : decide (n < 1) = false := decide_eq_false hn1
    have hd2 : decide (1048576 < n) = false := decide_eq_false hn2
    go_enter Try.func5, Try.ntmps5
    go_wp2_with fail
    refine (new_any _ n (by omega) (by omega)).mono ?_
    rintro e w1 ⟨⟨gm, rfl, _⟩, hb1⟩
    have HB1 := hide hb1
    clear hb1
    have HZ1 := hide ((HB1.out.cell (by simp)).trans HZ.out)
    have hl0 : (w1.alloc (.cells #[.pointer none, .pointer (some ⟨w.heap.size, 0, none⟩)] 23)).cell? ⟨w1.heap.size, 0, none⟩ = some (.pointer none) := by simp
    have hl1 : (w1.alloc (.cells #[.pointer none, .pointer (some ⟨w.heap.size, 0, none⟩)] 23)).cell? ⟨w1.heap.size, 1, none⟩ = some (.pointer (some ⟨w.heap.size, 0, none⟩)) := by simp
    have HL0 := hide hl0; have HL1 := hide hl1
    clear hl0 hl1
    go_wp2_with fail
    go_loopw [10, 31] (fun o i wr => ∃ k : Nat, k ≤ 2 ∧ o = .bool true ∧ i = .int .i64 k ∧ Hid (Below (w1.heap.size + 1) (w1.alloc (.cells #[.pointer none, .pointer (some ⟨w.heap.size, 0, none⟩)] 23)) wr)) (fun _ i _ => 2 - (intOf i).toNat)
    case atStart => exact ⟨0, by omega, rfl, rfl, Below.refl _ _⟩
    case round =>
      obtain ⟨k, hk, rfl, rfl, HB⟩ := hrel
      by_cases hlt : k < 2
      · have hm : ∃ m, wr.cell? ⟨w1.heap.size, k, none⟩ = some m ∧ Nul wr m := by
          have h0 := cell_lt HZ1.out
          have h0' : w.heap.size < w1.heap.size := h0
          rcases (show k = 0 ∨ k = 1 by omega) with rfl | rfl
          · exact ⟨_, (HB.out.cell (by simp)).trans HL0.out, .inl rfl⟩
          · exact ⟨_, (HB.out.cell (by simp)).trans HL1.out, .inr ⟨_, rfl, (HB.out.cell (by simp; omega)).trans ((World.cell?_alloc_lt _ _ _ h0).trans HZ1.out)⟩⟩
        obtain ⟨m, hcm, hnul⟩ := hm
        have HU := hide hnul
        clear hnul hk
        go_wp2_with fail
        refine (load_nul wr m t ad HU.out).mono ?_
        rintro e w2 ⟨rfl, hb2⟩
        have HB2 := hide hb2
        clear hb2
        go_wp2_with fail
        refine (swap_nul w2 m t ad x x (HU.out.ext HB2.out)).mono ?_
        rintro e w3 ⟨rfl, hb3⟩
        have HB3 := hide (extW HB2.out hb3)
        clear hb3 HB2
        go_wp2_with fail
        refine (add_nul w3 m t ad x (HU.out.ext HB3.out)).mono ?_
        rintro e w4 ⟨rfl, hb4⟩
        have HB4 := hide (extW HB3.out hb4)
        clear hb4 HB3
        go_wp2_with fail
        refine (keep_nul w4 m true (HU.out.ext HB4.out)).mono ?_
        rintro e w' ⟨rfl, rfl⟩
        go_wp2_with fail
        refine (store_nul w4 m t ad x (HU.out.ext HB4.out)).mono ?_
        rintro e w5 ⟨rfl, hb5⟩
        have HB5 := hide (extW HB4.out hb5)
        clear hb5 HB4
        go_wp2_with fail
        refine (poke_nul _ m ad _ (HU.out.ext (moreW HB5.out _))).mono ?_
        rintro e w' ⟨rfl, rfl⟩
        go_wp2_with fail
        refine (size_nul _ m (HU.out.ext (moreW HB5.out _))).mono ?_
        rintro e w' ⟨rfl, rfl⟩
        go_wp2_with fail
        refine (all_nul _ m (HU.out.ext (moreW HB5.out _))).mono ?_
        rintro e w' ⟨rfl, rfl⟩
        go_wp2_with fail
        refine (log_nul _ m (HU.out.ext (moreW HB5.out _))).mono ?_
        rintro e w' ⟨rfl, rfl⟩
        go_wp2_with fail
        refine (cnt_nul _ m t (HU.out.ext (moreW HB5.out _))).mono ?_
        rintro e w' ⟨rfl, rfl⟩
        go_wp2_with fail
        refine (peek_nul _ m ad (HU.out.ext (moreW HB5.out _))).mono ?_
        rintro e w' ⟨rfl, rfl⟩
        go_wp2_with fail
        refine (copy_nul _ m (HU.out.ext (moreW HB5.out _))).mono ?_
        rintro e w' ⟨rfl, rfl⟩
        go_wp2_with fail
        go_roundw
        case rel => exact ⟨k + 1, by omega, rfl, by go_num, HB.out.trans ((moreW HB5.out _).mono (by have := HB.out.size; simp at this; omega))⟩
        case measure => simp [intOf]; omega
      · have hk2 : k = 2 := by omega
        subst hk2
        clear hk hlt
        go_wp2_with fail
        refine (awake03 _).mono ?_
        rintro e w5 ⟨rfl, hb5⟩
        have HB6 := hide hb5
        clear hb5
        go_wp2_with fail
        go_ret
        refine ⟨rfl, ?_⟩
        have q1 := extW (moreW (selfW w) _) HB1.out
        have q2 := extW (moreW q1 (.cells #[.pointer none, .pointer (some ⟨w.heap.size, 0, none⟩)] 23)) (HB.out.mono (by simp))
        exact extW q2 HB6.out
end
end Go.Proofs.Ythjigennjocdjaa
