/- An access out of range; the walk of stopgatelaw03.awake and of the law MemSwaps. -/
import Derived.Test.YthjigennjocdjaaMemE
namespace Go.Proofs.Ythjigennjocdjaa
open Go.RowKit

section
variable (w : World) (base g : Nat) (vl vg vc : Value) (L : List Int) (G : List Acc) (C : List Int) (kp : Bool)
set_option maxHeartbeats 400000 in
theorem load_out (th ad : Int) (h : MemV w base g vl vg vc L G C kp) (hne : L ≠ []) (ha : ad < 0 ∨ (L.length : Int) ≤ ad) :
    Calls Try.prog 12 #[.pointer (some ⟨g, 0, none⟩), .int .i64 th, .int .i64 ad] w fun e w' => e = .returned (.tuple #[.int .u64 0, .int .i64 5]) ∧ Below w.heap.size w w' := by
  have HD := hide fun f => do_out w base g vl vg vc L G C kp th 1 ad 0 0 0 false f h hne ha
  have hmf : ∀ (fn : Fn) (first cap : Array Value) (w : World), (Instr.makeFunc fn first cap).run Try.prog w = .ok (.func fn first cap) w := fun _ _ _ _ => rfl
  clear h hne ha
  go_enter Try.func12, Try.ntmps12
  go_wp2_with fail
  refine (HD.out _).mono ?_
  rintro e w1 ⟨rfl, hb⟩
  have HB := hide hb; clear hb
  go_wp2_with fail
  go_ret2
  exact ⟨rfl, HB.out.alloc HB.out.size _⟩
end

theorem cnt_ex1 : cntAdd [] 1 = [0, 1] := by unfold cntAdd wrap64; decide
theorem cnt_ex2 : cntAdd [0, 1] 2 = [0, 1, 1] := by unfold cntAdd wrap64; decide
theorem cnt_ex3 : cntAdd [0, 1, 1] 1 = [0, 2, 1] := by unfold cntAdd wrap64; decide
theorem wrap_ex : IntKind.u64.wrap (9 + 1) = 10 := by decide

section
variable (w : World)
set_option maxHeartbeats 1000000 in
theorem awake03 : Calls Try.prog 10 #[] w fun e w' => e = .returned (.bool true) ∧ Below w.heap.size w w' := by
  go_enter Try.func10, Try.ntmps10
  go_wp2_with fail
  refine (new_any w 2 (by decide) (by decide)).mono ?_
  rintro e w1 ⟨⟨g, rfl, h1⟩, hb1⟩
  have H1 : Hid (MemAt w1 w.heap.size g [0, 0] [] [] false) := hide h1
  have HB1 := hide hb1
  clear h1 hb1
  go_wp2_with fail
  obtain ⟨vl1, vg1, vc1, hm1⟩ := H1.out
  refine (keep_any w1 _ g vl1 vg1 vc1 [0, 0] [] [] false true hm1 (by simp)).mono ?_
  rintro e w2 ⟨rfl, h2, _, hb2⟩
  have H2 := hide h2; have HB2 := hide (HB1.out.trans hb2)
  clear hm1 h2 hb2 H1 HB1
  go_wp2_with fail
  obtain ⟨vl2, vg2, vc2, hm2⟩ := H2.out
  refine (store_any w2 _ g vl2 vg2 vc2 [0, 0] [] [] true 1 0 0 7 hm2 (by simp) (by simp) (by simp) rfl).mono ?_
  rintro e w3 ⟨rfl, h3, _, hb3⟩
  rw [cnt_ex1] at h3
  have h3 : MemAt w3 w.heap.size g [7, 0] [⟨1, 2, 0, 0, 0, 7, true⟩] [0, 1] true := h3
  have H3 := hide h3; have HB3 := hide (HB2.out.trans hb3)
  clear hm2 h3 hb3 H2 HB2
  go_wp2_with fail
  obtain ⟨vl3, vg3, vc3, hm3⟩ := H3.out
  refine (swap_any w3 _ g vl3 vg3 vc3 [7, 0] [⟨1, 2, 0, 0, 0, 7, true⟩] [0, 1] true 2 0 7 7 9 9 true hm3 (by simp) (by simp) (by simp) rfl (hide ⟨by simp, by simp⟩)).mono ?_
  rintro e w4 ⟨rfl, h4, _, hb4⟩
  rw [cnt_ex2] at h4
  have h4 : MemAt w4 w.heap.size g [9, 0] [⟨1, 2, 0, 0, 0, 7, true⟩, ⟨2, 3, 0, 7, 7, 9, true⟩] [0, 1, 1] true := h4
  have H4 := hide h4; have HB4 := hide (HB3.out.trans hb4)
  clear hm3 h4 hb4 H3 HB3
  go_wp2_with fail
  obtain ⟨vl4, vg4, vc4, hm4⟩ := H4.out
  refine (add_any w4 _ g vl4 vg4 vc4 [9, 0] [⟨1, 2, 0, 0, 0, 7, true⟩, ⟨2, 3, 0, 7, 7, 9, true⟩] [0, 1, 1] true 1 0 9 1 hm4 (by simp) (by simp) (by simp) rfl).mono ?_
  rintro e w5 ⟨rfl, h5, _, hb5⟩
  rw [cnt_ex3, wrap_ex] at h5
  have h5 : MemAt w5 w.heap.size g [10, 0] [⟨1, 2, 0, 0, 0, 7, true⟩, ⟨2, 3, 0, 7, 7, 9, true⟩, ⟨1, 4, 0, 0, 9, 10, true⟩] [0, 2, 1] true := h5
  have H5 := hide h5; have HB5 := hide (HB4.out.trans hb5)
  clear hm4 h5 hb5 H4 HB4
  go_wp2_with fail
  obtain ⟨vl5, vg5, vc5, hm5⟩ := H5.out
  refine (load_out w5 _ g vl5 vg5 vc5 [10, 0] _ [0, 2, 1] true 1 2 hm5 (by simp) (.inr (by simp))).mono ?_
  rintro e w6 ⟨rfl, hb6⟩
  have H6 := hide (hm5.extW hb6); have HB6 := hide (HB5.out.trans (hb6.mono HB5.out.size))
  clear hm5 hb6 H5 HB5
  go_wp2_with fail
  refine (peek_any w6 _ g vl5 vg5 vc5 [10, 0] _ [0, 2, 1] true 0 10 H6.out (by simp) rfl).mono ?_
  rintro e w' ⟨rfl, rfl⟩
  go_wp2_with fail
  refine (cnt_any w6 _ g vl5 vg5 vc5 [10, 0] _ [0, 2, 1] true 1 2 H6.out (by simp) (by simp) rfl).mono ?_
  rintro e w' ⟨rfl, rfl⟩
  go_wp2_with fail
  refine (log_any w6 _ g vl5 vg5 vc5 [10, 0] _ [0, 2, 1] true H6.out (by simp) (by simp)).mono ?_
  rintro e w7 ⟨⟨B, d, rfl, _⟩, hb7⟩
  have HB7 := hide (HB6.out.trans (hb7.mono HB6.out.size))
  clear hb7 H6 HB6
  go_wp2_with fail
  go_ret
  exact ⟨rfl, HB7.out⟩

set_option maxHeartbeats 1000000 in
theorem swaps_law (fr a b t u : Int) :
    Calls Try.prog 3 #[.int .u64 fr, .int .u64 a, .int .u64 b, .int .i64 t, .int .i64 u] w fun e w' => e = .returned (.bool true) ∧ Below w.heap.size w w' := by
  go_enter Try.func3, Try.ntmps3
  go_wp2_with fail
  refine (new_any w 1 (by decide) (by decide)).mono ?_
  rintro e w1 ⟨⟨g, rfl, h1⟩, hb1⟩
  have H1 : Hid (MemAt w1 w.heap.size g [0] [] [] false) := hide h1
  have HB1 := hide hb1
  clear h1 hb1
  go_wp2_with fail
  obtain ⟨vl1, vg1, vc1, hm1⟩ := H1.out.extW (moreW (selfW _) (.cells #[.int .u64 fr] 22))
  refine (poke1_any _ _ g vl1 vg1 vc1 [0] [] [] false 0 0 fr _ 1 hm1 (by simp) rfl (RdI.one _ .u64 _ _)).mono ?_
  rintro e w2 ⟨rfl, h2, _, hb2⟩
  have h2 : MemAt w2 w.heap.size g [fr] [] [] false := h2
  have H2 := hide h2; have HB2 := hide ((HB1.out.alloc HB1.out.size _).trans hb2)
  clear hm1 h2 hb2 H1 HB1
  go_wp2_with fail
  obtain ⟨vl2, vg2, vc2, hm2⟩ := H2.out
  refine (swap_any w2 _ g vl2 vg2 vc2 [fr] [] [] false t 0 fr fr a a true hm2 (by simp) (by simp) (by simp) rfl (hide ⟨by simp, by simp⟩)).mono ?_
  rintro e w3 ⟨rfl, h3, _, hb3⟩
  have h3 : MemAt w3 w.heap.size g [a] [] (cntAdd [] t) false := h3
  have H3 := hide h3; have HB3 := hide (HB2.out.trans hb3)
  have hcl := cntAdd_len (C := []) t (by simp)
  clear hm2 h3 hb3 H2 HB2
  by_cases hab : a = fr
  · subst hab
    go_wp2_with fail
    obtain ⟨vl3, vg3, vc3, hm3⟩ := H3.out
    refine (swap_any w3 _ g vl3 vg3 vc3 [a] [] _ false u 0 a a b b true hm3 hcl (by simp) (by simp) rfl (hide ⟨by simp, by simp⟩)).mono ?_
    rintro e w4 ⟨rfl, h4, _, hb4⟩
    have h4 : MemAt w4 w.heap.size g [b] [] (cntAdd (cntAdd [] t) u) false := h4
    have H4 := hide h4; have HB4 := hide (HB3.out.trans hb4)
    clear hm3 h4 hb4 H3 HB3
    go_wp2_with fail
    obtain ⟨vl4, vg4, vc4, hm4⟩ := H4.out
    refine (peek_any w4 _ g vl4 vg4 vc4 [b] _ _ false 0 b hm4 (by simp) rfl).mono ?_
    rintro e w' ⟨rfl, rfl⟩
    go_wp2_with fail
    refine (awake03 w4).mono ?_
    rintro e w5 ⟨rfl, hb5⟩
    have HB5 := hide (HB4.out.trans (hb5.mono HB4.out.size))
    clear hm4 hb5 H4 HB4
    go_wp2_with fail
    go_ret
    exact ⟨rfl, HB5.out⟩
  · have hbe : (a == fr) = false := by simpa using hab
    have HAB := hide hab; clear hab
    go_wp2_with fail
    obtain ⟨vl3, vg3, vc3, hm3⟩ := H3.out
    refine (swap_any w3 _ g vl3 vg3 vc3 [a] [] _ false u 0 a fr b a false hm3 hcl (by simp) (by simp) rfl (hide ⟨by rw [if_neg HAB.out], by simpa using HAB.out⟩)).mono ?_
    rintro e w4 ⟨rfl, h4, _, hb4⟩
    have h4 : MemAt w4 w.heap.size g [a] [] (cntAdd (cntAdd [] t) u) false := h4
    have H4 := hide h4; have HB4 := hide (HB3.out.trans hb4)
    clear hm3 h4 hb4 H3 HB3
    go_wp2_with fail
    obtain ⟨vl4, vg4, vc4, hm4⟩ := H4.out
    refine (peek_any w4 _ g vl4 vg4 vc4 [a] _ _ false 0 a hm4 (by simp) rfl).mono ?_
    rintro e w' ⟨rfl, rfl⟩
    go_wp2_with fail
    refine (awake03 w4).mono ?_
    rintro e w5 ⟨rfl, hb5⟩
    have HB5 := hide (HB4.out.trans (hb5.mono HB4.out.size))
    clear hm4 hb5 H4 HB4
    go_wp2_with fail
    go_ret
    exact ⟨rfl, HB5.out⟩
end
end Go.Proofs.Ythjigennjocdjaa
