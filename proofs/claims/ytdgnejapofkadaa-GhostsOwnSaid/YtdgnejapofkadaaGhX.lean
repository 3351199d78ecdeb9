/- The walk of the law GhostsBehind. -/
import Derived.Test.YtdgnejapofkadaaGhW
import Derived.RegionTactic
import Derived.Deep.RegionHeld3
namespace Go.Proofs.Ytdgnejapofkadaa
open Go.RowKit

section
variable (w : World)
set_option maxHeartbeats 2000000 in
theorem behind_law (nt : Int) (A : Option Addr) (c : Nat) (l : List (Int × Int)) (hr : RdF w actC A l) (hl : l.length ≤ 9223372036854775807) :
    Calls Try.prog 5 #[.int .i64 nt, .slice A l.length c] w (Says true w) := by
  obtain ⟨n, hn⟩ : ∃ n, n = l.length := ⟨_, rfl⟩
  rw [← hn] at hl ⊢
  have HN := hide hn; have HR := hide hr
  clear hn hr
  by_cases h400 : 400 < n
  · have hd : decide (400 < (n : Int)) = true := decide_eq_true (by omega)
    have hd2 : decide (400 < n) = true := decide_eq_true (by omega)
    have HL := hide hl; clear hl
    go_enter Try.func5, Try.ntmps5
    go_wp2_with fail
    refine (awake38 w).mono ?_
    rintro e w1 ⟨rfl, hb⟩
    go_wp2_with fail
    go_ret
    exact ⟨rfl, hb⟩
  have hd : decide (400 < (n : Int)) = false := decide_eq_false (by omega)
  have hd2 : decide (400 < n) = false := decide_eq_false (by omega)
  have hl2 : n ≤ 400 := by omega
  clear hl h400
  have HNW := hide (fun wx => gnew_any wx nt)
  obtain ⟨N, hN⟩ : ∃ N, N = cntT nt := ⟨_, rfl⟩
  have HCN := hide hN
  rw [← hN] at HNW
  clear hN
  go_enter Try.func5, Try.ntmps5
  go_wp2_with fail
  refine (HNW.out _).mono ?_
  rintro e w1 ⟨⟨v, rfl, vr, vf, xs, rfl, hO⟩, hb1⟩
  obtain ⟨A1, c1, B1, d1, rfl, rfl⟩ := hO.shape
  have HB1 := hide hb1
  have HO := hide hO
  obtain ⟨g, hg⟩ : ∃ g, g = w1.heap.size := ⟨_, rfl⟩
  have hgr : w.heap.size ≤ g := by rw [hg]; exact hb1.size
  have HG := hide hg
  clear hO hb1 HNW
  go_wp2_with fail
  rw [← hg]
  clear hg
  go_loopw [22] (fun i wr => ∃ k : Nat, k ≤ n ∧ i = .int .i64 k ∧ Hid (VarW wr g (playN N l k)) ∧ Hid (Below w.heap.size w wr)) (fun i _ => n - (intOf i).toNat)
  case atStart =>
    exact ⟨0, Nat.zero_le _, rfl, ⟨A1, _, c1, B1, _, d1, xs, rfl, rfl, Blk.newAt _ _ _ HG.out, HO.out.ext (moreW (selfW _) _)⟩, moreW HB1.out _⟩
  case round =>
    obtain ⟨k, hk, rfl, HV, HB⟩ := hrel
    by_cases hlt : k < n
    · obtain ⟨ad, ⟨th, ki⟩, hA, ha, ca, cb⟩ := RdF.act (HR.out.below HB.out) (i := k) (by rw [← HN.out]; exact hlt)
      subst hA
      rw [add_lit _ _ (by decide)] at cb
      have HS1 : Hid (playN N l (k + 1) = doW (playN N l k) th ki) := playN_succ N ha
      have HSA : Hid (Sane (playN N l k) k) := by have := playN_sane nt l k (by rw [← HN.out]; exact hk); rw [← HCN.out] at this; exact this
      have HIN : Hid (InvW (playN N l k)) := by have := playN_inv nt l k (by rw [← HN.out]; exact hk); rw [← HCN.out] at this; exact this
      generalize playN N l k = W at HV HS1 HSA HIN
      obtain ⟨A2, n2, c2, B2, m2, d2, ys, h1, h2, h3, h4⟩ := HV.out
      subst h1; subst h2
      have hcv := fun i => Blk.cell h3 i
      have hzv := h3.lt
      have HDO := hide (gdo_any (wr.alloc (.cells #[.int .i64 th, .int .i64 ki] 27)) W A2 B2 c2 d2 ys th ki k ((h4.ext (moreW (selfW _) _)).wv) HSA.out (by omega))
      have HV3 := hide h3
      clear h3 h4 ha
      go_wp2_with fail
      refine HDO.out.mono ?_
      rintro e w2 ⟨v, rfl, ⟨vr, vf, zs, rfl, hO2⟩, hb2⟩
      obtain ⟨A3, c3, B3, d3, rfl, rfl⟩ := hO2.shape
      have hb3 := extW (moreW (selfW wr) (.cells #[.int .i64 th, .int .i64 ki] 27)) hb2
      have hv2 := HV3.out.extW hb3
      have hcv2 := fun i => Blk.cell hv2 i
      have hfv2 := fun i => Blk.free hv2 i
      have hzv2 := hv2.lt
      have HV2 := hide (VarW.set hv2 hO2 rfl rfl)
      have HB2 := hide (set5_below (extW HB.out hb3) hgr (.int .i64 (doW W th ki).epoch) (.int .i64 (doW W th ki).root) (.int .i64 (doW W th ki).last) (.slice A3 zs.length c3) (.slice B3 (doW W th ki).freed.length d3))
      have HSA2 := hide (HSA.out.doW th ki)
      have HIN2 := hide (HIN.out.doW HSA.out th ki)
      have hws := set5_set hv2 (.int .i64 (doW W th ki).epoch) (.int .i64 (doW W th ki).root) (.int .i64 (doW W th ki).last) (.slice A3 zs.length c3) (.slice B3 (doW W th ki).freed.length d3)
      have HSV := hide hws
      have HO3 := hide (hO2.set5 hv2 (.int .i64 (doW W th ki).epoch) (.int .i64 (doW W th ki).root) (.int .i64 (doW W th ki).last) (.slice A3 zs.length c3) (.slice B3 (doW W th ki).freed.length d3))
      have hE0 := HSA2.out.e1
      have hE1 := HSA2.out.e2
      have hzl : zs.length ≤ 64 := by have := HSA2.out.few; rw [← hO2.rds, List.length_map] at this; exact this
      generalize doW W th ki = W3 at *
      generalize hw3 : set5 w2 g (.int .i64 W3.epoch) (.int .i64 W3.root) (.int .i64 W3.last) (.slice A3 zs.length c3) (.slice B3 W3.freed.length d3) = w3 at *
      have hcv3 := fun i => Blk.cell HSV.out i
      have hzv3 := HSV.out.lt
      have HW3 := hide hw3
      clear hO2 hb2 hb3 HDO hws
      go_wp2_with fail
      unfold set5 at hw3
      rw [hw3]
      clear hw3 hcv2 hfv2 hzv2 hcv hzv ca cb
      go_loopw [32] (fun i wq => ∃ j : Nat, j ≤ zs.length ∧ i = .int .i64 j ∧ Hid (Below w3.heap.size w3 wq)) (fun i _ => zs.length - (intOf i).toNat)
      case atStart => exact ⟨0, Nat.zero_le _, rfl, Below.refl _ _⟩
      case round =>
        obtain ⟨wq, rfl⟩ : ∃ wq : World, wq = wr := ⟨_, rfl⟩
        obtain ⟨j, hj, rfl, HQ⟩ := hrel
        by_cases hltj : j < zs.length
        · obtain ⟨ad1, x, hA1, hx, c0, c1', c2', c3', c4'⟩ := RdF.rd (HO3.out.wv.row.below HQ.out) (i := j) hltj
          rw [hA1]
          rw [add_lit _ _ (by decide)] at c1' c2' c3' c4'
          have HX := hide hx; have HA1 := hide hA1
          have hcg := fun i => Blk.cell (HSV.out.extW HQ.out) i
          have hzg := (HSV.out.extW HQ.out).lt
          clear hx hA1
          rw [HA1.out] at hcg
          go_wp2_with fail
          go_loopw [39] (fun i ws => ∃ j2 : Nat, j2 ≤ zs.length ∧ i = .int .i64 j2 ∧ Hid (Below (wq.alloc (.cells #[.int .i64 x.r.saw, .int .i64 x.r.inn, .int .i64 x.r.guard, .int .i64 x.r.holds, .slice x.A x.r.away.length x.c] 48)).heap.size (wq.alloc (.cells #[.int .i64 x.r.saw, .int .i64 x.r.inn, .int .i64 x.r.guard, .int .i64 x.r.holds, .slice x.A x.r.away.length x.c] 48)) ws)) (fun i _ => zs.length - (intOf i).toNat)
          case atStart => exact ⟨0, Nat.zero_le _, rfl, Below.refl _ _⟩
          case round =>
            obtain ⟨ws, rfl⟩ : ∃ ws : World, ws = wr := ⟨_, rfl⟩
            obtain ⟨j2, hj2, rfl, HS⟩ := hrel
            have HBX := hide ((Blk.new wq 48 #[.int .i64 x.r.saw, .int .i64 x.r.inn, .int .i64 x.r.guard, .int .i64 x.r.holds, .slice x.A x.r.away.length x.c]).extW HS.out)
            have HQS := hide (extW (moreW HQ.out _) HS.out)
            by_cases hltj2 : j2 < zs.length
            · obtain ⟨ad2, y, hA2, hy, e0, e1, e2, e3, e4⟩ := RdF.rd (HO3.out.wv.row.below HQS.out) (i := j2) hltj2
              obtain ⟨yr, yA, yc⟩ := y
              dsimp only at e0 e1 e2 e3 e4
              have HY := hide hy
              have had : ad1 = ad2 := by have := HA1.out.symm.trans hA2; injection this
              subst had
              rw [add_lit _ _ (by decide)] at e1 e2 e3 e4
              clear hy hA2 c0 c1' c2' c3' c4' hcg hzg
              go_wp2_with fail
              go_loopw [46] (fun i wt => ∃ j3 : Nat, j3 ≤ yr.away.length ∧ i = .int .i64 j3 ∧ Hid (Below (ws.alloc (.cells #[.int .i64 yr.saw, .int .i64 yr.inn, .int .i64 yr.guard, .int .i64 yr.holds, .slice yA yr.away.length yc] 48)).heap.size (ws.alloc (.cells #[.int .i64 yr.saw, .int .i64 yr.inn, .int .i64 yr.guard, .int .i64 yr.holds, .slice yA yr.away.length yc] 48)) wt)) (fun i _ => yr.away.length - (intOf i).toNat)
              case atStart => exact ⟨0, Nat.zero_le _, rfl, Below.refl _ _⟩
              case round =>
                obtain ⟨wt, rfl⟩ : ∃ wt : World, wt = wr := ⟨_, rfl⟩
                obtain ⟨j3, hj3, rfl, HT⟩ := hrel
                have HQT := hide (extW (moreW HQS.out (.cells #[.int .i64 yr.saw, .int .i64 yr.inn, .int .i64 yr.guard, .int .i64 yr.holds, .slice yA yr.away.length yc] 48)) HT.out)
                have hyl : yr.away.length ≤ 402 := by
                  have := HSA2.out.away (r := yr) (by rw [← HO3.out.rds]; exact List.mem_map.2 ⟨⟨yr, yA, yc⟩, mem_of_get HY.out, rfl⟩)
                  exact Nat.le_trans this (by omega)
                by_cases hltj3 : j3 < yr.away.length
                · obtain ⟨ad3, o, hA3, ho, f0, f1, f2⟩ := RdF.old ((HO3.out.wv.away ⟨yr, yA, yc⟩ (mem_of_get HY.out)).below HQT.out) (i := j3) hltj3
                  dsimp only at hA3
                  subst hA3
                  rw [add_lit _ _ (by decide)] at f1 f2
                  have HO := hide ho
                  have hbx2 := fun i => Blk.cell (HBX.out.extW (extW (moreW (selfW ws) _) HT.out)) i
                  have hzx2 := (HBX.out.extW (extW (moreW (selfW ws) _) HT.out)).lt
                  have hcg2 := fun i => Blk.cell (HSV.out.extW HQT.out) i
                  have hzg2 := (HSV.out.extW HQT.out).lt
                  rw [HA1.out] at hcg2
                  have hxm : x.r ∈ W3.rds := by rw [← HO3.out.rds]; exact List.mem_map.2 ⟨x, mem_of_get HX.out, rfl⟩
                  have hym : yr ∈ W3.rds := by rw [← HO3.out.rds]; exact List.mem_map.2 ⟨⟨yr, _, yc⟩, mem_of_get HY.out, rfl⟩
                  have HST := hide (HIN2.out.stamp yr hym o (mem_of_get ho))
                  have HYG := hide (fun h0 hn => HIN2.out.young x.r hxm h0 yr hym o (mem_of_get ho) hn)
                  clear ho e0 e1 e2 e3 e4 hxm hym
                  by_cases h0 : x.r.holds = 0
                  · have hd1 : (x.r.holds != 0) = false := by simpa using h0
                    have H0 := hide h0; clear h0
                    go_wp2_with fail
                    go_roundw
                    case rel => exact ⟨j3 + 1, by omega, by go_num, moreW HT.out _⟩
                    case measure => simp [intOf]; omega
                  · have hd1 : (x.r.holds != 0) = true := by simpa using h0
                    by_cases h1 : o.node = x.r.holds
                    · have hd2 : (o.node == x.r.holds) = true := by simpa using h1
                      have hyg := HYG.out h0 h1
                      unfold Young at hyg
                      have hst := HST.out
                      have hs1 : W3.epoch - o.stamp ≤ 1 := by omega
                      have hs2 : 0 ≤ W3.epoch - o.stamp := by omega
                      have hd3 : decide (1 < W3.epoch - o.stamp) = false := decide_eq_false (by omega)
                      have H0 := hide h0; have H1 := hide h1
                      clear h0 h1 hyg hst
                      go_wp2_with fail
                      go_roundw
                      case rel => exact ⟨j3 + 1, by omega, by go_num, moreW HT.out _⟩
                      case measure => simp [intOf]; omega
                    · have hd2 : (o.node == x.r.holds) = false := by simpa using h1
                      have H0 := hide h0; have H1 := hide h1
                      clear h0 h1
                      go_wp2_with fail
                      go_roundw
                      case rel => exact ⟨j3 + 1, by omega, by go_num, moreW HT.out _⟩
                      case measure => simp [intOf]; omega
                · go_wp2_with fail
                  go_roundw
                  case rel => exact ⟨j2 + 1, by omega, by go_num, extW (moreW HS.out (.cells #[.int .i64 yr.saw, .int .i64 yr.inn, .int .i64 yr.guard, .int .i64 yr.holds, .slice yA yr.away.length yc] 48)) HT.out⟩
                  case measure => simp [intOf]; omega
            · go_wp2_with fail
              go_roundw
              case rel => exact ⟨j + 1, by omega, by go_num, HQS.out⟩
              case measure => simp [intOf]; omega
        · go_wp2_with fail
          go_roundw
          case rel => exact ⟨k + 1, by omega, by go_num, (by rw [HS1.out]; exact HV2.out.ext HQ.out), extW HB2.out HQ.out⟩
          case measure => simp [intOf]; omega
    · have hkn : n = k := by omega
      subst hkn
      have HSA : Hid (Sane (playN N l n) n) := by have := playN_sane nt l n (by rw [← HN.out]; exact Nat.le_refl _); rw [← HCN.out] at this; exact this
      generalize playN N l n = W at HV HSA
      go_wp2_with fail
      refine (awake38 _).mono ?_
      rintro e w4 ⟨rfl, hb4⟩
      go_wp2_with fail
      go_ret
      exact ⟨rfl, extW HB.out hb4⟩
end
end Go.Proofs.Ytdgnejapofkadaa
