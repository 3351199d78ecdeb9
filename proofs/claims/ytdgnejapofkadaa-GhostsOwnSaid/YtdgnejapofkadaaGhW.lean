/- The walk of the law GhostsSafe. -/
import Derived.Test.YtdgnejapofkadaaGhV
import Derived.RegionTactic
import Derived.Deep.RegionHeld3
namespace Go.Proofs.Ytdgnejapofkadaa
open Go.RowKit

theorem held_step2 {w0 a b : World} {g : Nat} {xs : Array Value} {u0 : Value} (h : Below w0.heap.size w0 a ∧ (∀ i, a.cell? ⟨g, i, none⟩ = xs[i]?)) (h0 : xs[0]? = some u0) (hb : Below a.heap.size a b) :
    Below w0.heap.size w0 b ∧ (∀ i, b.cell? ⟨g, i, none⟩ = xs[i]?) := by
  obtain ⟨k0, k1⟩ := h
  have hg : g < a.heap.size := cell_lt ((k1 0).trans h0)
  exact ⟨extW k0 hb, fun i => (hb.cell hg).trans (k1 i)⟩
section
variable (w : World)
set_option maxHeartbeats 2000000 in
theorem safe_law (nt : Int) (A : Option Addr) (c : Nat) (l : List (Int × Int)) (hr : RdF w actC A l) (hl : l.length ≤ 9223372036854775807) :
    Calls Try.prog 4 #[.int .i64 nt, .slice A l.length c] w (Says true w) := by
  obtain ⟨n, hn⟩ : ∃ n, n = l.length := ⟨_, rfl⟩
  rw [← hn] at hl ⊢
  have HN := hide hn; have HR := hide hr
  clear hn hr
  by_cases h400 : 400 < n
  · have hd : decide (400 < (n : Int)) = true := decide_eq_true (by omega)
    have hd2 : decide (400 < n) = true := decide_eq_true (by omega)
    have HL := hide hl; clear hl
    go_enter Try.func4, Try.ntmps4
    go_wp2_with fail
    refine (awake38 w).mono ?_
    rintro e w1 ⟨rfl, hb⟩
    go_wp2_with fail
    go_ret
    exact ⟨rfl, hb⟩
  have hd : decide (400 < (n : Int)) = false := decide_eq_false (by omega)
  have hd2 : decide (400 < n) = false := decide_eq_false (by omega)
  have hl2 : n ≤ 400 := by omega
  clear hl h400
  have HNW := hide (fun wx => gnew_any wx nt)
  obtain ⟨N, hN⟩ : ∃ N, N = cntT nt := ⟨_, rfl⟩
  have HCN := hide hN
  rw [← hN] at HNW
  clear hN
  go_enter Try.func4, Try.ntmps4
  go_wp2_with fail
  refine (HNW.out _).mono ?_
  rintro e w1 ⟨⟨v, rfl, vr, vf, xs, rfl, hO⟩, hb1⟩
  obtain ⟨A1, c1, B1, d1, rfl, rfl⟩ := hO.shape
  have HB1 := hide hb1
  have HO := hide hO
  obtain ⟨g, hg⟩ : ∃ g, g = w1.heap.size := ⟨_, rfl⟩
  have hgr : w.heap.size ≤ g := by rw [hg]; exact hb1.size
  have HG := hide hg
  clear hO hb1 HNW
  go_wp2_with fail
  rw [← hg]
  clear hg
  go_loopw [17] (fun i wr => ∃ k : Nat, k ≤ n ∧ i = .int .i64 k ∧ Hid (VarW wr g (playN N l k)) ∧ Hid (Below w.heap.size w wr)) (fun i _ => n - (intOf i).toNat)
  case atStart =>
    exact ⟨0, Nat.zero_le _, rfl, ⟨A1, _, c1, B1, _, d1, xs, rfl, rfl, Blk.newAt _ _ _ HG.out, HO.out.ext (moreW (selfW _) _)⟩, moreW HB1.out _⟩
  case round =>
    obtain ⟨k, hk, rfl, HV, HB⟩ := hrel
    by_cases hlt : k < n
    · obtain ⟨ad, ⟨th, ki⟩, hA, ha, ca, cb⟩ := RdF.act (HR.out.below HB.out) (i := k) (by rw [← HN.out]; exact hlt)
      subst hA
      rw [add_lit _ _ (by decide)] at cb
      have HS1 : Hid (playN N l (k + 1) = doW (playN N l k) th ki) := playN_succ N ha
      have HSA : Hid (Sane (playN N l k) k) := by have := playN_sane nt l k (by rw [← HN.out]; exact hk); rw [← HCN.out] at this; exact this
      have HIN : Hid (InvW (playN N l k)) := by have := playN_inv nt l k (by rw [← HN.out]; exact hk); rw [← HCN.out] at this; exact this
      generalize playN N l k = W at HV HS1 HSA HIN
      obtain ⟨A2, n2, c2, B2, m2, d2, ys, h1, h2, h3, h4⟩ := HV.out
      subst h1; subst h2
      have hcv := fun i => Blk.cell h3 i
      have hzv := h3.lt
      have HDO := hide (gdo_any ((wr.alloc (.cells #[.int .i64 th, .int .i64 ki] 27)).alloc (.cells #[.int .i64 W.epoch, .int .i64 W.root, .int .i64 W.last, .slice A2 ys.length c2, .slice B2 W.freed.length d2] 38)) W A2 B2 c2 d2 ys th ki k (((h4.ext (moreW (selfW _) _)).ext (moreW (selfW _) _)).wv) HSA.out (by omega))
      have HV3 := hide h3
      clear h3 h4 ha
      go_wp2_with fail
      refine HDO.out.mono ?_
      rintro e w2 ⟨v, rfl, ⟨vr, vf, zs, rfl, hO2⟩, hb2⟩
      obtain ⟨A3, c3, B3, d3, rfl, rfl⟩ := hO2.shape
      have hb3 := extW (moreW (moreW (selfW wr) (.cells #[.int .i64 th, .int .i64 ki] 27)) (.cells #[.int .i64 W.epoch, .int .i64 W.root, .int .i64 W.last, .slice A2 ys.length c2, .slice B2 W.freed.length d2] 38)) hb2
      have hwas : Blk w2 (wr.heap.size + 1) 38 #[.int .i64 W.epoch, .int .i64 W.root, .int .i64 W.last, .slice A2 ys.length c2, .slice B2 W.freed.length d2] := (Blk.newAt _ _ _ (by simp)).extW hb2
      have hv2 := HV3.out.extW hb3
      have hcv2 := fun i => Blk.cell hv2 i
      have hfv2 := fun i => Blk.free hv2 i
      have hzv2 := hv2.lt
      have HV2 := hide (VarW.set hv2 hO2 rfl rfl)
      have HB2 := hide (set5_below (extW HB.out hb3) hgr (.int .i64 (doW W th ki).epoch) (.int .i64 (doW W th ki).root) (.int .i64 (doW W th ki).last) (.slice A3 zs.length c3) (.slice B3 (doW W th ki).freed.length d3))
      have HES := hide (epoch_step W th ki)
      have HSA2 := hide (HSA.out.doW th ki)
      have HSF := hide ((HIN.out.doW HSA.out th ki).safe HSA2.out (by omega))
      have hE0 := HSA.out.e1
      have hE1 := HSA.out.e2
      have hgne : wr.heap.size + 1 ≠ g := by omega
      have HWAS := hide (set5_far hwas hgne (.int .i64 (doW W th ki).epoch) (.int .i64 (doW W th ki).root) (.int .i64 (doW W th ki).last) (.slice A3 zs.length c3) (.slice B3 (doW W th ki).freed.length d3))
      have hws := set5_set hv2 (.int .i64 (doW W th ki).epoch) (.int .i64 (doW W th ki).root) (.int .i64 (doW W th ki).last) (.slice A3 zs.length c3) (.slice B3 (doW W th ki).freed.length d3)
      have HSV := hide hws
      have HO3 := hide (hO2.set5 hv2 (.int .i64 (doW W th ki).epoch) (.int .i64 (doW W th ki).root) (.int .i64 (doW W th ki).last) (.slice A3 zs.length c3) (.slice B3 (doW W th ki).freed.length d3))
      have hle1 : W.epoch ≤ (doW W th ki).epoch := by have := HES.out; omega
      have hle2 : (doW W th ki).epoch ≤ W.epoch + 1 := by have := HES.out; omega
      generalize doW W th ki = W3 at *
      clear hO2 hb2 hb3 HDO hwas hws
      go_wp2_with fail
      refine (safe_any _ W3 A3 B3 c3 d3 zs (k + 1) HO3.out.wv HSA2.out (by omega) HSF.out).mono ?_
      rintro e w4 ⟨rfl, hb4⟩
      have HB4 := hide (extW HB2.out hb4)
      have hv4 := HSV.out.extW hb4
      have hw4 := HWAS.out.extW hb4
      have hcv4 := fun i => Blk.cell hv4 i
      have hcw4 := fun i => Blk.cell hw4 i
      have hzv4 := hv4.lt
      have hzw4 := hw4.lt
      have HV4 := hide (HV2.out.ext hb4)
      have hq1 : decide (W3.epoch < W.epoch) = false := decide_eq_false (by omega)
      have hq2 : decide (W.epoch + 1 < W3.epoch) = false := decide_eq_false (by omega)
      clear hb4 hv4 hw4 hcv2 hfv2 hzv2 hcv hzv ca cb hle1 hle2 HES
      go_wp2_with fail
      go_roundw
      case rel => exact ⟨k + 1, by omega, by go_num, (by rw [HS1.out]; exact HV4.out), HB4.out⟩
      case measure => simp [intOf]; omega
    · have hkn : n = k := by omega
      subst hkn
      have HSA : Hid (Sane (playN N l n) n) := by have := playN_sane nt l n (by rw [← HN.out]; exact Nat.le_refl _); rw [← HCN.out] at this; exact this
      generalize playN N l n = W at HV HSA
      obtain ⟨A2, n2, c2, B2, m2, d2, ys, h1, h2, h3, h4⟩ := HV.out
      subst h1; subst h2
      have hcv := fun i => Blk.cell h3 i
      have hzv := h3.lt
      have hcnt := HSA.out.cnt
      have hl1 : 0 ≤ W.last := by have := HSA.out.rl; have := HSA.out.r1; omega
      have hl2 := HSA.out.l2
      have HAW := hide (fun wx (hx : Below wr.heap.size wr wx) => away_any wx W A2 B2 c2 d2 ys n ((h4.ext hx).wv) HSA.out (by omega))
      have hae : ((awayN W : Int) + (W.freed.length : Int) == W.last - 1) = true := by simp; omega
      have haw : awayN W ≤ 1000 := by have := HSA.out.lens; omega
      have hfw : W.freed.length ≤ 1000 := by have := HSA.out.lens; omega
      have HV3 := hide h3
      have HCT := hide hcnt
      have s1 : IntKind.i64.wrap ((awayN W : Int) + (W.freed.length : Int)) = (awayN W : Int) + (W.freed.length : Int) := IntWalk.i64_in _ (by omega)
      have s2 : IntKind.i64.wrap (W.last - 1) = W.last - 1 := IntWalk.i64_in _ (by omega)
      clear h4 hcnt
      go_wp2_with fail
      have hS0 := held_step2 (w0 := wr) (g := g) ⟨below_drewN (n := 1) (selfW wr), fun i => Blk.cell (h3.drewN 1) i⟩ rfl (selfW _)
      clear h3
      go_region_held3 (fun w' => Below wr.heap.size wr w' ∧ (∀ i, w'.cell? ⟨g, i, none⟩ = #[.int .i64 W.epoch, .int .i64 W.root, .int .i64 W.last, .slice A2 ys.length c2, .slice B2 W.freed.length d2][i]?))
        (first | assumption | exact hS0)
        (first
          | (go_at_call 12; refine (HAW.out _ (And.left (by assumption))).mono ?_; rintro e w' ⟨rfl, hb⟩; have hS := held_step2 (by assumption) rfl hb; clear hb)
          | (go_at_call 7; refine (awake38 _).mono ?_; rintro e w' ⟨rfl, hb⟩; have hS := held_step2 (by assumption) rfl hb; clear hb))
      go_wp2_with fail
      go_ret
      exact ⟨rfl, extW HB.out (And.left (by assumption))⟩
end
end Go.Proofs.Ytdgnejapofkadaa
