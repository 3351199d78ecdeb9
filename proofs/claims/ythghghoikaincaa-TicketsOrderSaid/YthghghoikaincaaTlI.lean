/- The walk of TicketsOrder. -/
import Derived.Test.YthghghoikaincaaTlH
namespace Go.Proofs.Ythghghoikaincaa
open Go.RowKit

section
variable (w : World)
set_option maxRecDepth 100000 in
set_option maxHeartbeats 4000000 in
theorem order_walk (s n k : Int) (A : Option Addr) (c : Nat) (l : List AcT) (hr : RdF w acC A l) (hl : l.length ≤ 9223372036854775807) :
    Calls Try.prog 5 #[.int .i64 s, .int .i64 n, .int .i64 k, .slice A l.length c] w fun e w' => e = .returned (.bool true) ∧ Below w.heap.size w w' := by
  obtain ⟨m, hm⟩ : ∃ m, m = l.length := ⟨_, rfl⟩
  rw [← hm] at hl ⊢
  have HM := hide hm; have HR := hide hr
  clear hm hr
  by_cases hok : newOk s n k
  case neg =>
    have HN := hide (tnew_bad w s n k hok)
    have HL := hide hl
    clear hl hok
    go_enter Try.func5, Try.ntmps5
    go_wp2_with fail
    refine HN.out.mono ?_
    rintro e w1 ⟨rfl, rfl⟩
    go_wp2_with fail
    refine (awake41 w).mono ?_
    rintro e w1 ⟨rfl, hb⟩
    have HB := hide hb
    clear hb
    go_wp2_with fail
    go_ret
    exact ⟨rfl, HB.out⟩
  obtain ⟨s1, s2, n1, n2, k1, k2⟩ := hok
  obtain ⟨s, rfl⟩ : ∃ z : Nat, s = z := ⟨s.toNat, by omega⟩
  obtain ⟨n, rfl⟩ : ∃ z : Nat, n = z := ⟨n.toNat, by omega⟩
  obtain ⟨k, rfl⟩ : ∃ z : Nat, k = z := ⟨k.toNat, by omega⟩
  have HNW := hide (tnew_any w s n k (by omega) (by omega) (by omega) (by omega) (by omega) (by omega))
  by_cases h600 : 400 < m
  · have hd : decide (400 < (m : Int)) = true := decide_eq_true (by omega)
    have hd2 : decide (400 < m) = true := decide_eq_true (by omega)
    have HL := hide hl
    clear hl s1 s2 n1 n2 k1 k2 h600
    go_enter Try.func5, Try.ntmps5
    go_wp2_with fail
    refine HNW.out.mono ?_
    rintro e w1 ⟨gq, rfl, hq1, hb1⟩
    have HB1 := hide hb1
    clear hq1 hb1 HNW
    go_wp2_with fail
    refine (awake41 w1).mono ?_
    rintro e w2 ⟨rfl, hb⟩
    have HB := hide (extW HB1.out hb)
    clear hb
    go_wp2_with fail
    go_ret
    exact ⟨rfl, HB.out⟩
  have hd : decide (400 < (m : Int)) = false := decide_eq_false (by omega)
  have hd2 : decide (400 < m) = false := decide_eq_false (by omega)
  have hl2 : m ≤ 400 := by omega
  by_cases h6 : 6 < n
  · have he : decide (6 < (n : Int)) = true := decide_eq_true (by omega)
    clear hl s1 s2 n1 n2 k1 k2 h600 h6 hl2
    go_enter Try.func5, Try.ntmps5
    go_wp2_with fail
    refine HNW.out.mono ?_
    rintro e w1 ⟨gq, rfl, hq1, hb1⟩
    have HB1 := hide hb1
    clear hq1 hb1 HNW
    go_wp2_with fail
    refine (awake41 w1).mono ?_
    rintro e w2 ⟨rfl, hb⟩
    have HB := hide (extW HB1.out hb)
    clear hb
    go_wp2_with fail
    go_ret
    exact ⟨rfl, HB.out⟩
  have he : decide (6 < (n : Int)) = false := decide_eq_false (by omega)
  by_cases h8 : 8 < k
  · have hf : decide (8 < (k : Int)) = true := decide_eq_true (by omega)
    clear hl s1 s2 n1 n2 k1 k2 h600 h6 h8 hl2
    go_enter Try.func5, Try.ntmps5
    go_wp2_with fail
    refine HNW.out.mono ?_
    rintro e w1 ⟨gq, rfl, hq1, hb1⟩
    have HB1 := hide hb1
    clear hq1 hb1 HNW
    go_wp2_with fail
    refine (awake41 w1).mono ?_
    rintro e w2 ⟨rfl, hb⟩
    have HB := hide (extW HB1.out hb)
    clear hb
    go_wp2_with fail
    go_ret
    exact ⟨rfl, HB.out⟩
  have hf : decide (8 < (k : Int)) = false := decide_eq_false (by omega)
  have hn6 : n ≤ 6 := by omega
  have hk8 : k ≤ 8 := by omega
  have HI0 := hide (Play.new s n k (by omega) (by omega) (by omega) (by omega))
  clear hl s1 s2 k2 n2 h600 h6 h8
  go_enter Try.func5, Try.ntmps5
  go_wp2_with fail
  refine HNW.out.mono ?_
  rintro e w1 ⟨gq, rfl, hq1, hb1⟩
  have HQ1 := hide hq1.any
  have HB1 := hide hb1
  clear hq1 hb1 HNW
  go_wp2_with fail
  go_loopw [11, 12, 13, 73] (fun _ _ _ i wr => ∃ j : Nat, j ≤ m ∧ i = .int .i64 j ∧ ∃ q, Hid (QAny wr w.heap.size gq q) ∧ Hid (Play q n k j j) ∧ Hid (Below w.heap.size w wr)) (fun _ _ _ i _ => m - (intOf i).toNat)
  case atStart => exact ⟨0, Nat.zero_le _, rfl, _, HQ1, HI0, HB1⟩
  case round =>
    obtain ⟨j, hj, rfl, q, HQ, HI, HB⟩ := hrel
    by_cases hlt : j < m
    · obtain ⟨ad, a, hA, ha, ca, cb, cc⟩ := RdF.ac (HR.out.below HB.out) (i := j) (by rw [← HM.out]; exact hlt)
      subst hA
      rw [add_lit _ _ (by decide)] at cb cc
      clear ha
      obtain ⟨ki, th, xx⟩ := a
      dsimp only at ca cb cc
      have hbx := moreW (selfW wr) (.cells #[.int .i64 ki, .int .i64 th, .int .i64 xx] 30)
      have HBX := hide hbx
      clear hbx
      by_cases e0 : (IntKind.u64.wrap ki).tmod 8 = 0
      · have d3 : ((IntKind.u64.wrap ki).tmod 8 == 0) = true := by simpa using e0
        clear e0
        have HP := hide (put_at HI.out.inv (by omega) th j (HQ.out.ext HBX.out))
        go_wp2_with fail
        refine HP.out.mono ?_
        rintro e w3 ⟨rfl, hq3, _, hb3⟩
        have HQ3 := hide hq3.any
        have HB3 := hide ((extW HB.out HBX.out).trans hb3)
        clear hq3 hb3 HP
        go_wp2_with fail
        go_roundw
        case rel => exact ⟨j + 1, by omega, by go_num, _, HQ3, HI.out.put th, HB3⟩
        case measure => simp [intOf]; omega
      have d3 : ((IntKind.u64.wrap ki).tmod 8 == 0) = false := by simpa using e0
      by_cases e1 : (IntKind.u64.wrap ki).tmod 8 = 1
      · have d4 : ((IntKind.u64.wrap ki).tmod 8 == 1) = true := by simpa using e1
        clear e0 e1
        have HP := hide (take_at HI.out.inv (by omega) th (HQ.out.ext HBX.out))
        go_wp2_with fail
        refine HP.out.mono ?_
        rintro e w3 ⟨rfl, hq3, _, hb3⟩
        have HQ3 := hide hq3.any
        have HB3 := hide ((extW HB.out HBX.out).trans hb3)
        clear hq3 hb3 HP
        go_wp2_with fail
        go_roundw
        case rel => exact ⟨j + 1, by omega, by go_num, _, HQ3, HI.out.take th, HB3⟩
        case measure => simp [intOf]; omega
      have d4 : ((IntKind.u64.wrap ki).tmod 8 == 1) = false := by simpa using e1
      clear e0 e1
      have HP := hide (pick_at HI.out.inv (by omega) th (HQ.out.ext HBX.out))
      go_wp2_with fail
      refine HP.out.mono ?_
      rintro e w3 ⟨rfl, hq3, _, hb3⟩
      have HQ3 := hide hq3.any
      have HB3 := hide ((extW HB.out HBX.out).trans hb3)
      clear hq3 hb3 HP
      go_wp2_with fail
      go_roundw
      case rel => exact ⟨j + 1, by omega, by go_num, _, HQ3, (HI.out.pick th).up (by omega) (by omega), HB3⟩
      case measure => simp [intOf]; omega
    · have hjm : j = m := by omega
      subst hjm
      clear hlt
      go_wp2_with fail
      obtain ⟨wo, rfl⟩ : ∃ wo : World, wo = wr := ⟨_, rfl⟩
      go_loopw [14, 15] (fun i _ wr => ∃ t : Nat, t ≤ n ∧ i = .int .i64 t ∧ ∃ q, Hid (QAny wr w.heap.size gq q) ∧ Hid (Play q n k (j + 25 * t) j) ∧ Hid (Below w.heap.size w wr)) (fun i _ _ => n - (intOf i).toNat)
      case atStart => exact ⟨0, Nat.zero_le _, rfl, q, HQ, HI.out.up (by omega) (by omega), HB⟩
      case round =>
        clear HQ HI HB
        obtain ⟨t, ht, rfl, q2, HQ, HI, HB⟩ := hrel
        by_cases hlt : t < n
        · go_wp2_with fail
          obtain ⟨wo2, rfl⟩ : ∃ wo : World, wo = wr := ⟨_, rfl⟩
          go_loopw [15] (fun i wr => ∃ s : Nat, s ≤ 3 * k + 1 ∧ i = .int .i64 s ∧ ∃ q, Hid (QAny wr w.heap.size gq q) ∧ Hid (Play q n k (j + 25 * t + s) j) ∧ Hid (Below w.heap.size w wr)) (fun i _ => 3 * k + 1 - (intOf i).toNat)
          case atStart => exact ⟨0, Nat.zero_le _, rfl, q2, HQ, HI.out.up (by omega) (by omega), HB⟩
          case round =>
            clear HQ HI HB
            obtain ⟨s', hs', rfl, q3, HQ, HI, HB⟩ := hrel
            have HL := hide (limit_at HQ.out HI.out (by omega))
            by_cases hls : s' ≤ 3 * k
            · have hds : decide ((s' : Int) ≤ 3 * (k : Int)) = true := decide_eq_true (by omega)
              have HP := hide (pick_at HI.out.inv (by omega) t HQ.out)
              go_wp2_with fail
              refine HL.out.mono ?_
              rintro e w2 ⟨rfl, rfl⟩
              go_wp2_with fail
              refine HP.out.mono ?_
              rintro e w3 ⟨rfl, hq3, _, hb3⟩
              have HQ3 := hide hq3.any
              have HB3 := hide (HB.out.trans hb3)
              clear hq3 hb3 HP
              go_wp2_with fail
              go_roundw
              case rel => exact ⟨s' + 1, by omega, by go_num, _, HQ3, (HI.out.pick t).up (by omega) (by omega), HB3⟩
              case measure => simp [intOf]; omega
            · have hds : decide ((s' : Int) ≤ 3 * (k : Int)) = false := decide_eq_false (by omega)
              go_wp2_with fail
              refine HL.out.mono ?_
              rintro e w2 ⟨rfl, rfl⟩
              go_wp2_with fail
              go_roundw
              case rel => exact ⟨t + 1, by omega, by go_num, q3, HQ, HI.out.up (by omega) (by omega), HB⟩
              case measure => simp [intOf]; omega
        · have htn : t = n := by omega
          subst htn
          clear hlt
          have HON := hide (fun (a b y : SpT) (ha : a ∈ spL q2.N 8) (hb : b ∈ spL q2.N 8) (hab : a.e < b.b) (hy : y ∈ spL q2.N 9) (hyv : y.v = b.v) => order_law HI.out.oinv HI.out.inv ha hb hab hy hyv)
          have hnl := HI.out.inv.nl
          have HL8 := spTo_len q2.N 8 q2.N.length
          have HL9 := spTo_len q2.N 9 q2.N.length
          have HLL := leftTo_len q2 q2.L.length
          have hq4 : q2.L.length ≤ 4098 := by have := HI.out.inv.len; have := HI.out.inv.s1; have := HI.out.inv.s0; omega
          change (spL q2.N 8).length ≤ _ at HL8
          change (spL q2.N 9).length ≤ _ at HL9
          have HNO := hide (notes_at HI.out.inv (by omega) HQ.out)
          obtain ⟨N, hN⟩ : ∃ N, N = q2.N := ⟨_, rfl⟩
          rw [← hN] at HON hnl HL8 HL9 HNO
          have HNN := hide hN
          clear hN
          go_wp2_with fail
          refine HNO.out.mono ?_
          rintro e w5 ⟨B5, d5, rfl, ho5, hb5⟩
          have HT5 := hide (spans_any w5 B5 d5 N 8 ho5.rdF.2 (by omega) ho5.cap.2)
          have HB5 := hide (extW HB.out hb5)
          have HQ5 := hide (HQ.out.ext hb5)
          clear ho5 hb5 HNO
          go_wp2_with fail
          refine HT5.out.mono ?_
          rintro e w6 ⟨B6, d6, rfl, hr6, hb6⟩
          have HR6 := hide hr6
          have HB6 := hide (extW HB5.out hb6)
          have HQ6 := hide (HQ5.out.ext hb6)
          clear hr6 hb6 HT5
          have HNO := hide (notes_at HI.out.inv (by omega) HQ6.out)
          rw [← HNN.out] at HNO
          go_wp2_with fail
          refine HNO.out.mono ?_
          rintro e w7 ⟨B7, d7, rfl, ho7, hb7⟩
          have HT7 := hide (spans_any w7 B7 d7 N 9 ho7.rdF.2 (by omega) ho7.cap.2)
          have HB7 := hide (extW HB6.out hb7)
          have HQ7 := hide (HQ6.out.ext hb7)
          have HR7 := hide (HR6.out.below hb7)
          clear ho7 hb7 HNO
          go_wp2_with fail
          refine HT7.out.mono ?_
          rintro e w8 ⟨B8, d8, rfl, hr8, hb8⟩
          have HG8 := hide hr8
          have HB8 := hide (extW HB7.out hb8)
          have HQ8 := hide (HQ7.out.ext hb8)
          have HR8 := hide (HR7.out.below hb8)
          clear hr8 hb8 HT7
          have HLF := hide (left_at HQ8.out HI.out (by omega) (by omega))
          obtain ⟨tk, htk⟩ : ∃ tk, tk = spL N 9 := ⟨_, rfl⟩
          obtain ⟨pt, hpt⟩ : ∃ pt, pt = spL N 8 := ⟨_, rfl⟩
          obtain ⟨lft, hlft⟩ : ∃ lft, lft = leftTo q2 q2.L.length := ⟨_, rfl⟩
          rw [← htk] at HON HL9 HG8 ⊢
          rw [← hpt] at HON HL8 HR8 ⊢
          rw [← hlft] at HON HLL HLF
          clear htk hpt hlft
          obtain ⟨lp, hlp⟩ : ∃ lp, lp = pt.length := ⟨_, rfl⟩
          obtain ⟨lt, hlt⟩ : ∃ lt, lt = tk.length := ⟨_, rfl⟩
          obtain ⟨ll, hll⟩ : ∃ ll, ll = lft.length := ⟨_, rfl⟩
          rw [← hlp] at HL8 ⊢
          rw [← hlt] at HL9 ⊢
          rw [← hll] at HLL
          have HLP := hide hlp; have HLT := hide hlt; have HLN := hide hll
          clear hlp hlt hll
          go_wp2_with fail
          refine HLF.out.mono ?_
          rintro e w10 ⟨⟨B10, d10, rfl, hr10⟩, hb10⟩
          rw [← HLN.out]
          have HB10 := hide (extW HB8.out hb10)
          have HR10 := hide (HR8.out.below hb10)
          have HG10 := hide (HG8.out.below hb10)
          have HHS := hide (fun (v : Int) (w' : World) (hb : Below w10.heap.size w10 w') => has_any w' B10 d10 lft v (hr10.below hb) (by rw [← HLN.out]; omega))
          have HFD := hide (fun (v : Int) (w' : World) (hb : Below w10.heap.size w10 w') => find_any w' B8 d8 tk v (HG10.out.below hb) (by rw [← HLT.out]; omega))
          rw [← HLN.out] at HHS
          rw [← HLT.out] at HFD
          clear hr10 hb10 HLF HR8 HG8
          go_wp2_with fail
          obtain ⟨wo3, rfl⟩ : ∃ wo : World, wo = w10 := ⟨_, rfl⟩
          go_loopw [20, 22, 23, 24, 25, 26, 123] (fun _ _ _ _ _ _ i wr => ∃ h : Nat, h ≤ lp ∧ i = .int .i64 h ∧ Hid (Below wo3.heap.size wo3 wr)) (fun _ _ _ _ _ _ i _ => lp - (intOf i).toNat)
          case atStart => exact ⟨0, Nat.zero_le _, rfl, selfW _⟩
          case round =>
            obtain ⟨h, hh, rfl, HZ⟩ := hrel
            by_cases hlh : h < lp
            · obtain ⟨ad, a, hA, ha, c0, c1, c2⟩ := RdF.sp (HR10.out.below HZ.out) (i := h) (by rw [← HLP.out]; exact hlh)
              subst hA
              rw [add_lit _ _ (by decide)] at c1 c2
              have HAM := hide (List.mem_of_getElem? ha)
              obtain ⟨ab, ae, av⟩ := a
              dsimp only at c0 c1 c2
              clear ha
              go_wp2_with fail
              obtain ⟨wo4, rfl⟩ : ∃ wo : World, wo = wr := ⟨_, rfl⟩
              obtain ⟨g0, hg0⟩ : ∃ g, g = wo4.heap.size := ⟨_, rfl⟩
              rw [← hg0]
              have HG0 := hide hg0
              clear hg0
              go_loopw [22, 23, 24, 25, 26, 129] (fun _ _ _ _ _ i wr => ∃ h : Nat, h ≤ lp ∧ i = .int .i64 h ∧ Hid (Below wo4.heap.size wo4 wr) ∧ Hid (Blk wr g0 47 #[.int .i64 ab, .int .i64 ae, .int .i64 av])) (fun _ _ _ _ _ i _ => lp - (intOf i).toNat)
              case atStart =>
                rw [HG0.out]
                exact ⟨0, Nat.zero_le _, rfl, moreW (selfW wo4) _, Blk.new wo4 _ _⟩
              case round =>
                obtain ⟨h2, hh2, rfl, HZ2, H0⟩ := hrel
                have hc20 := fun i => Blk.cell H0.out i
                have hz20 := H0.out.lt
                by_cases hlh2 : h2 < lp
                · have hn0 : g0 ≠ wr.heap.size := by omega
                  have hn1 : wr.heap.size ≠ g0 := by omega
                  have hn2 : g0 < wr.heap.size + 1 := by omega
                  have HZ3 := hide (extW HZ.out HZ2.out)
                  obtain ⟨ad', b, hA, hb, b0, b1, b2⟩ := RdF.sp (HR10.out.below HZ3.out) (i := h2) (by rw [← HLP.out]; exact hlh2)
                  injection hA with hA
                  subst hA
                  rw [add_lit _ _ (by decide)] at b1 b2
                  have HBM := hide (List.mem_of_getElem? hb)
                  obtain ⟨bb, be, bv⟩ := b
                  dsimp only at b0 b1 b2
                  clear hb c0 c1 c2
                  by_cases hab : bb ≤ ae
                  · have p1 : decide (bb ≤ ae) = true := decide_eq_true hab
                    go_wp2_with fail
                    go_roundw
                    case rel => exact ⟨h2 + 1, by omega, by go_num, moreW HZ2.out _, H0.out.alloc _⟩
                    case measure => simp [intOf]; omega
                  have p1 : decide (bb ≤ ae) = false := decide_eq_false hab
                  have HAB : Hid (ae < bb) := by unfold Hid; omega
                  have HF1 := hide (HFD.out av (wr.alloc (.cells #[.int .i64 bb, .int .i64 be, .int .i64 bv] 47)) (moreW HZ3.out _))
                  obtain ⟨g2, hg2⟩ : ∃ g, g = wr.heap.size := ⟨_, rfl⟩
                  have HG2 := hide hg2
                  clear hab
                  go_wp2_with fail
                  refine HF1.out.mono ?_
                  rintro e w13 ⟨⟨xb, xe, xv⟩, f1, rfl, hx, hb13⟩
                  have HX := hide hx
                  dsimp only at HX ⊢
                  have HBB := hide (Below.trans (moreW (selfW wr) (.cells #[.int .i64 bb, .int .i64 be, .int .i64 bv] 47)) (hb13.mono (by simp)))
                  have HZ13 := hide (extW HZ3.out HBB.out)
                  have HK0 := hide (H0.out.extW HBB.out)
                  have HK2 : Hid (Blk w13 g2 47 #[.int .i64 bb, .int .i64 be, .int .i64 bv]) := by
                    have := (Blk.new wr 47 #[.int .i64 bb, .int .i64 be, .int .i64 bv]).extW hb13
                    rw [← HG2.out] at this
                    exact this
                  have hc0 := fun i => Blk.cell HK0.out i
                  have hc2 := fun i => Blk.cell HK2.out i
                  have hz0 := HK0.out.lt
                  have hz2 := HK2.out.lt
                  rw [← hg2]
                  have HF2 := hide (HFD.out bv (w13.alloc (.cells #[.int .i64 xb, .int .i64 xe, .int .i64 xv] 47)) (moreW HZ13.out _))
                  obtain ⟨g3, hg3⟩ : ∃ g, g = w13.heap.size := ⟨_, rfl⟩
                  have HG3 := hide hg3
                  clear hx hb13 HF1 hc20 hz20 hn0 hn1 hn2 hg2 b0 b1 b2
                  go_wp2_with fail
                  refine HF2.out.mono ?_
                  rintro e w14 ⟨⟨yb, ye, yv⟩, f2, rfl, hy, hb14⟩
                  have HY := hide hy
                  dsimp only at HY ⊢
                  have HBB2 := hide (Below.trans (moreW (selfW w13) (.cells #[.int .i64 xb, .int .i64 xe, .int .i64 xv] 47)) (hb14.mono (by simp)))
                  have HZ14 := hide (extW HZ13.out HBB2.out)
                  have HM0 := hide (HK0.out.extW HBB2.out)
                  have HM3 : Hid (Blk w14 g3 47 #[.int .i64 xb, .int .i64 xe, .int .i64 xv]) := by
                    have := (Blk.new w13 47 #[.int .i64 xb, .int .i64 xe, .int .i64 xv]).extW hb14
                    rw [← HG3.out] at this
                    exact this
                  have HBW := hide (extW HZ2.out (extW HBB.out HBB2.out))
                  rw [← hg3]
                  clear hc0 hc2 hz0 hz2 hy hb14 HF2 hg3 HK2
                  have hc0 := fun i => Blk.cell HM0.out i
                  have hc3 := fun i => Blk.cell HM3.out i
                  have hz0 := HM0.out.lt
                  have hz3 := HM3.out.lt
                  rcases f2 with _ | _
                  · go_wp2_with fail
                    go_roundw
                    case rel => exact ⟨h2 + 1, by omega, by go_num, moreW HBW.out _, HM0.out.alloc _⟩
                    case measure => simp [intOf]; omega
                  · have hlaw := HON.out _ _ _ HAM.out HBM.out HAB.out (HY.out rfl).1 (HY.out rfl).2
                    have HHL := hide (HHS.out av (w14.alloc (.cells #[.int .i64 yb, .int .i64 ye, .int .i64 yv] 47)) (moreW HZ14.out _))
                    dsimp only at hlaw
                    rw [decide_eq_false hlaw.1] at HHL
                    have HLAW := hide hlaw.2
                    clear hlaw
                    rcases f1 with _ | _
                    · go_wp2_with fail
                      refine HHL.out.mono ?_
                      rintro e w15 ⟨rfl, rfl⟩
                      go_wp2_with fail
                      go_roundw
                      case rel => exact ⟨h2 + 1, by omega, by go_num, moreW HBW.out _, HM0.out.alloc _⟩
                      case measure => simp [intOf]; omega
                    · have p2 : decide (ye < xb) = false := decide_eq_false (by have := HLAW.out _ (HX.out rfl).1 (HX.out rfl).2; dsimp only at this; omega)
                      go_wp2_with fail
                      refine HHL.out.mono ?_
                      rintro e w15 ⟨rfl, rfl⟩
                      go_wp2_with fail
                      go_roundw
                      case rel => exact ⟨h2 + 1, by omega, by go_num, moreW HBW.out _, HM0.out.alloc _⟩
                      case measure => simp [intOf]; omega
                · go_wp2_with fail
                  go_roundw
                  case rel => exact ⟨h + 1, by omega, by go_num, extW HZ.out HZ2.out⟩
                  case measure => simp [intOf]; omega
            · have hkn : h = lp := by omega
              subst hkn
              go_wp2_with fail
              refine (awake41 wr).mono ?_
              rintro e w12 ⟨rfl, hb⟩
              have HB12 := hide (extW (extW HB10.out HZ.out) hb)
              clear hb
              go_wp2_with fail
              go_ret
              exact ⟨rfl, HB12.out⟩
end
end Go.Proofs.Ythghghoikaincaa
