/- The walk of the law MemAdds. -/
import Derived.Test.YthjigennjocdjaaMemF
namespace Go.Proofs.Ythjigennjocdjaa
open Go.RowKit

theorem wrap_small {k : Nat} (h : k ≤ 200) : IntKind.u64.wrap (k : Int) = k := by
  simp [IntKind.wrap, IntKind.signed, IntKind.bits]
  omega
theorem wrap_step (fr : Int) (k : Nat) : IntKind.u64.wrap (IntKind.u64.wrap (fr + k) + 1) = IntKind.u64.wrap (fr + ((k + 1 : Nat) : Int)) := by
  simp [IntKind.wrap, IntKind.signed, IntKind.bits]
  congr 1
  omega
theorem wrap_zero {fr : Int} (h0 : 0 ≤ fr) (h1 : fr < 18446744073709551616) : IntKind.u64.wrap (fr + ((0 : Nat) : Int)) = fr := by
  simp [IntKind.wrap, IntKind.signed, IntKind.bits]
  omega

section
variable (A : Option Addr) (c : Nat) (zs : List Int) (w : World)
set_option maxHeartbeats 1000000 in
theorem adds_law (fr : Int) (hl : zs.length ≤ 17592186044415) (h0 : 0 ≤ fr) (h1 : fr < 18446744073709551616) (hr : RdI w .i64 A zs) :
    Calls Try.prog 4 #[.int .u64 fr, .slice A zs.length c] w fun e w' => e = .returned (.bool true) ∧ Below w.heap.size w w' := by
  have HR := hide hr; clear hr
  have HW0 := hide (wrap_zero h0 h1); clear h0 h1
  obtain ⟨n, hn⟩ : ∃ n, n = zs.length := ⟨_, rfl⟩
  rw [← hn] at hl ⊢
  have HN := hide hn; clear hn
  by_cases h200 : 200 < n
  · have hd : decide (200 < (n : Int)) = true := decide_eq_true (by omega)
    have hd2 : decide (200 < n) = true := decide_eq_true (by omega)
    have HL := hide hl; clear hl
    go_enter Try.func4, Try.ntmps4
    go_wp2_with fail
    refine (awake03 w).mono ?_
    rintro e w1 ⟨rfl, hb⟩
    go_wp2_with fail
    go_ret
    exact ⟨rfl, hb⟩
  have hd : decide (200 < (n : Int)) = false := decide_eq_false (by omega)
  have hd2 : decide (200 < n) = false := decide_eq_false (by omega)
  have hl2 : n ≤ 200 := by omega
  clear hl h200
  go_enter Try.func4, Try.ntmps4
  go_wp2_with fail
  refine (new_any w 1 (by decide) (by decide)).mono ?_
  rintro e w1 ⟨⟨g, rfl, h1⟩, hb1⟩
  have H1 : Hid (MemAt w1 w.heap.size g [0] [] [] false) := hide h1
  have HB1 := hide hb1
  clear h1 hb1
  go_wp2_with fail
  obtain ⟨vl1, vg1, vc1, hm1⟩ := H1.out.extW (moreW (selfW _) (.cells #[.int .u64 fr] 22))
  refine (poke1_any _ _ g vl1 vg1 vc1 [0] [] [] false 0 0 fr _ 1 hm1 (by simp) rfl (RdI.one _ .u64 _ _)).mono ?_
  rintro e w2 ⟨rfl, h2, _, hb2⟩
  have h2 : MemAt w2 w.heap.size g [fr] [] [] false := h2
  have H2 := hide h2; have HB2 := hide ((HB1.out.alloc HB1.out.size _).trans hb2)
  clear hm1 h2 hb2 H1 HB1
  go_wp2_with fail
  go_loopw [21] (fun i wr => ∃ (k : Nat) (y : Int) (C : List Int), k ≤ n ∧ i = .int .i64 k ∧ Hid (y = IntKind.u64.wrap (fr + (k : Int))) ∧ C.length ≤ 64 ∧ Hid (MemAt wr w.heap.size g [y] [] C false) ∧ Hid (Below w.heap.size w wr)) (fun i _ => n - (intOf i).toNat)
  case atStart => exact ⟨0, fr, [], Nat.zero_le _, rfl, HW0.out.symm, by simp, H2.out, HB2.out⟩
  case round =>
    obtain ⟨k, y, C, hk, rfl, HY, hC, HM, HB⟩ := hrel
    have hks := wrap_small (Nat.le_trans hk hl2)
    have hyy : IntKind.u64.wrap (fr + IntKind.u64.wrap (k : Int)) = y := by rw [hks]; exact HY.out.symm
    by_cases hlt : k < n
    · have hd3 : decide ((k : Int) < (n : Int)) = true := decide_eq_true (by omega)
      obtain ⟨ad, z, hA, hz, hcz⟩ := (HR.out.below HB.out).at_ (i := k) (by have := HN.out; omega)
      subst hA
      clear hk
      have HZ := hide hz; clear hz
      have HYY := hide (show IntKind.u64.wrap (y + 1) = IntKind.u64.wrap (fr + ((k + 1 : Nat) : Int)) by rw [HY.out]; exact wrap_step fr k)
      go_wp2_with fail
      obtain ⟨vl3, vg3, vc3, hm3⟩ := HM.out
      refine (add_any wr _ g vl3 vg3 vc3 [y] [] C false z 0 y 1 hm3 hC (by simp) (by simp) rfl).mono ?_
      rintro e w3 ⟨rfl, h3, _, hb3⟩
      have h3 : MemAt w3 w.heap.size g [IntKind.u64.wrap (y + 1)] [] (cntAdd C z) false := h3
      have H3 := hide h3; have HB3 := hide (HB.out.trans hb3)
      have hcl := cntAdd_len z hC
      clear hm3 h3 hb3
      go_wp2_with fail
      go_roundw
      case rel => exact ⟨k + 1, _, _, by omega, by go_num, HYY.out, hcl, H3.out, HB3.out⟩
      case measure => simp [intOf]; omega
    · have hkn : k = n := by omega
      subst hkn
      have hd3 : decide ((k : Int) < (k : Int)) = false := decide_eq_false (by omega)
      clear hk hlt
      go_wp2_with fail
      obtain ⟨vl4, vg4, vc4, hm4⟩ := HM.out
      refine (peek_any wr _ g vl4 vg4 vc4 [y] _ _ false 0 y hm4 (by simp) rfl).mono ?_
      rintro e w' ⟨rfl, rfl⟩
      go_wp2_with fail
      refine (awake03 _).mono ?_
      rintro e w5 ⟨rfl, hb5⟩
      have HB5 := hide (HB.out.trans (hb5.mono HB.out.size))
      clear hm4 hb5
      go_wp2_with fail
      go_ret
      exact ⟨rfl, HB5.out⟩
end
end Go.Proofs.Ythjigennjocdjaa
