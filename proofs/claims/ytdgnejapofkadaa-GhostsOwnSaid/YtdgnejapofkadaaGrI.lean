/- The walk of the law GhostsOwn. -/
import Derived.Test.YtdgnejapofkadaaGrH
namespace Go.Proofs.Ytdgnejapofkadaa
open Go.RowKit

section
variable (w : World)
set_option maxHeartbeats 2000000 in
theorem own_law (nt th0 ki0 : Int) (A : Option Addr) (c : Nat) (l : List (Int × Int)) (hr : RdF w actC A l) (hl : l.length ≤ 9223372036854775807) :
    Calls Try.prog 6 #[.int .i64 nt, .slice A l.length c, .agg #[.int .i64 th0, .int .i64 ki0]] w (Says true w) := by
  obtain ⟨n, hn⟩ : ∃ n, n = l.length := ⟨_, rfl⟩
  rw [← hn] at hl ⊢
  have HN := hide hn; have HR := hide hr
  clear hr
  by_cases h400 : 400 < n
  · have hd : decide (400 < (n : Int)) = true := decide_eq_true (by omega)
    have hd2 : decide (400 < n) = true := decide_eq_true (by omega)
    have HL := hide hl; clear hl hn
    go_enter Try.func6, Try.ntmps6
    go_wp2_with fail
    refine (awake38 _).mono ?_
    rintro e w1 ⟨rfl, hb⟩
    go_wp2_with fail
    go_ret
    exact ⟨rfl, extW (moreW (selfW w) _) hb⟩
  have hd : decide (400 < (n : Int)) = false := decide_eq_false (by omega)
  have hd2 : decide (400 < n) = false := decide_eq_false (by omega)
  have hl2 : n ≤ 400 := by omega
  have HPL := hide (fun wx (hx : RdF wx actC A l) => gplay_any wx nt A c l hx (by omega))
  rw [← hn] at HPL
  clear hl h400 hn
  have HNW := hide (fun wx => Ref.rnew_any wx nt)
  obtain ⟨N, hN⟩ : ∃ N, N = cntT nt := ⟨_, rfl⟩
  have HCN := hide hN
  rw [← hN] at HNW HPL
  clear hN
  go_enter Try.func6, Try.ntmps6
  go_wp2_with fail
  obtain ⟨wa, hwa⟩ : ∃ wa : World, wa = w.alloc (.cells #[.int .i64 th0, .int .i64 ki0] 27) := ⟨_, rfl⟩
  have HBA : Hid (Below w.heap.size w wa) := by unfold Hid; rw [hwa]; exact moreW (selfW w) _
  have HAC : Hid (Blk wa w.heap.size 27 #[.int .i64 th0, .int .i64 ki0]) := by unfold Hid; rw [hwa]; exact Blk.new _ _ _
  have HR1 := hide (HR.out.below HBA.out)
  rw [← hwa]
  clear hwa
  refine (HNW.out _).mono ?_
  rintro e w1 ⟨⟨g, rfl, vr, vf, xs, hO⟩, hb1⟩
  have HB1 := hide hb1
  have HO : Hid (RefW w1 wa.heap.size g (newW N)) := ⟨vr, vf, xs, hO⟩
  clear hO hb1 HNW
  go_wp2_with fail
  go_loopw [23] (fun i wr => ∃ k : Nat, k ≤ n ∧ i = .int .i64 k ∧ Hid (RefW wr wa.heap.size g (playN N l k)) ∧ Hid (Below wa.heap.size wa wr)) (fun i _ => n - (intOf i).toNat)
  case atStart => exact ⟨0, Nat.zero_le _, rfl, HO.out, HB1.out⟩
  case round =>
    obtain ⟨k, hk, rfl, HV, HB⟩ := hrel
    by_cases hlt : k < n
    · obtain ⟨ad, ⟨th, ki⟩, hA, ha, ca, cb⟩ := RdF.act (HR1.out.below HB.out) (i := k) (by rw [← HN.out]; exact hlt)
      subst hA
      rw [add_lit _ _ (by decide)] at cb
      have HS1 : Hid (playN N l (k + 1) = doW (playN N l k) th ki) := playN_succ N ha
      have HSA : Hid (Sane (playN N l k) k) := by have := playN_sane nt l k (by rw [← HN.out]; exact hk); rw [← HCN.out] at this; exact this
      generalize playN N l k = W at HV HS1 HSA
      obtain ⟨vr2, vf2, ys, h4⟩ := HV.out.ext (moreW (selfW wr) (.cells #[.int .i64 th, .int .i64 ki] 27))
      have HDO := hide (Ref.rdo_any th ki k h4 HSA.out (by omega))
      clear h4 ha
      go_wp2_with fail
      refine HDO.out.mono ?_
      rintro e w2 ⟨rfl, h2, _, hb2⟩
      have HV2 : Hid (RefW w2 wa.heap.size g (doW W th ki)) := h2
      have HB2 := hide ((HB.out.alloc HB.out.size (.cells #[.int .i64 th, .int .i64 ki] 27)).trans hb2)
      clear h2 hb2 HDO
      go_wp2_with fail
      go_roundw
      case rel => exact ⟨k + 1, by omega, by go_num, (by rw [HS1.out]; exact HV2.out), HB2.out⟩
      case measure => simp [intOf]; omega
    · have hkn : n = k := by omega
      subst hkn
      have HSA : Hid (Sane (playN N l n) n) := by have := playN_sane nt l n (by rw [← HN.out]; exact Nat.le_refl _); rw [← HCN.out] at this; exact this
      have hpn : playN N l n = playW N l := playN_all N (by rw [← HN.out]; exact Nat.le_refl _)
      rw [hpn] at HV HSA
      generalize hWW : playW N l = W at HV HSA
      rw [hWW] at HPL
      clear hWW hpn
      obtain ⟨wo, hwo⟩ : ∃ wo : World, wo = wr := ⟨_, rfl⟩
      subst hwo
      have HPX := hide (HPL.out wo (HR1.out.below HB.out))
      clear HPL
      go_wp2_with fail
      refine HPX.out.mono ?_
      rintro e w3 ⟨v3, rfl, ⟨vr3, vf3, zs, rfl, hO3⟩, hb3⟩
      obtain ⟨A3, c3, B3, d3, rfl, rfl⟩ := hO3.shape
      have hzl : zs.length ≤ 64 := by have := HSA.out.few; rw [← hO3.rds, List.length_map] at this; exact this
      have hfl : W.freed.length ≤ 400 := by have := HSA.out.lens; omega
      have hal : ∀ x ∈ zs, x.r.away.length ≤ 400 := fun x hx => by have := HSA.out.away (r := x.r) (by rw [← hO3.rds]; exact List.mem_map.2 ⟨x, hx, rfl⟩); omega
      have HZL := hide hzl; have HFL := hide hfl; have HAL := hide hal
      have HBO := hide (extW HB.out hb3)
      have HV3 := hide (HV.out.ext hb3)
      have HO3 := hide hO3
      have HCP := hide (copy_any (w3.alloc (.cells #[.int .i64 W.epoch, .int .i64 W.root, .int .i64 W.last, .slice A3 zs.length c3, .slice B3 W.freed.length d3] 38)) W A3 B3 c3 d3 zs ((hO3.ext (moreW (selfW _) _)).wv) hzl (by omega) (fun x hx => by have := hal x hx; omega))
      clear hzl hfl hal hO3 hb3 HPX
      go_wp2_with fail
      refine HCP.out.mono ?_
      rintro e w4 ⟨vr4, vf4, ks, rfl, hO4, hb4⟩
      obtain ⟨A4, c4, B4, d4, rfl, rfl⟩ := hO4.shape
      have HVW := hide ((Blk.new w3 38 #[.int .i64 W.epoch, .int .i64 W.root, .int .i64 W.last, .slice A3 zs.length c3, .slice B3 W.freed.length d3]).extW hb4)
      have HO34 := hide ((HO3.out.ext (moreW (selfW _) _)).ext hb4)
      have HVA := hide (HV3.out.ext (extW (moreW (selfW w3) _) hb4))
      have HBB := hide (extW (moreW HBO.out (.cells #[.int .i64 W.epoch, .int .i64 W.root, .int .i64 W.last, .slice A3 zs.length c3, .slice B3 W.freed.length d3] 38)) hb4)
      have hkl : ks.length = zs.length := by have h1 := congrArg List.length hO4.rds; have h2 := congrArg List.length HO3.out.rds; rw [List.length_map] at h1 h2; omega
      rw [hkl] at hO4
      obtain ⟨B0, hB0⟩ : ∃ B0, B0 = (w3.alloc (.cells #[.int .i64 W.epoch, .int .i64 W.root, .int .i64 W.last, .slice A3 zs.length c3, .slice B3 W.freed.length d3] 38)).heap.size := ⟨_, rfl⟩
      rw [← hB0] at hO4
      have HB0 := hide hB0
      have hbz : B0 ≤ w4.heap.size := by rw [hB0]; exact hb4.size
      have HKL := hide hkl; have HO4 := hide hO4; have HB34 := hide hb4
      clear hO4 hb4 hkl HCP hB0
      have hcw := fun i => Blk.cell HVW.out i
      have hzw := HVW.out.lt
      have HA4 := hide (HAC.out.extW HBB.out)
      have hca := fun i => Blk.cell HA4.out i
      have hza := HA4.out.lt
      have HDO := hide (gdo_any (w4.alloc (.cells #[.int .i64 W.epoch, .int .i64 W.root, .int .i64 W.last, .slice A4 zs.length c4, .slice B4 W.freed.length d4] 38)) W A3 B3 c3 d3 zs th0 ki0 n ((HO34.out.ext (moreW (selfW _) _)).wv) HSA.out hl2)
      rw [HKL.out]
      go_wp2_with fail
      refine HDO.out.mono ?_
      rintro e w6 ⟨v6, rfl, _, hb6⟩
      have hb46 := extW (moreW (selfW w4) (.cells #[.int .i64 W.epoch, .int .i64 W.root, .int .i64 W.last, .slice A4 zs.length c4, .slice B4 W.freed.length d4] 38)) hb6
      have HVW6 := hide (HVW.out.extW hb46)
      have HO36 := hide (HO34.out.ext hb46)
      have HVA6 := hide (HVA.out.ext hb46)
      have HBB6 := hide (extW HBB.out hb46)
      have HCC : Hid (CopyC w6 B0 w4.heap.size W.epoch W.root W.last A4 zs.length c4 B4 W.freed.length d4 W ks) :=
        ⟨(Blk.new w4 38 _).extW hb6, HO4.out.ext hb46, fun z hz => by
          have := HSA.out.away (r := z.r) (by rw [← HO4.out.rds]; exact List.mem_map.2 ⟨z, hz, rfl⟩)
          omega⟩
      have hbz6 : B0 ≤ w6.heap.size := Nat.le_trans hbz hb46.size
      have hcc6 := fun i => Blk.cell HCC.out.1 i
      have hzc6 := HCC.out.1.lt
      obtain ⟨q, hq⟩ : ∃ q, q = zs.length := ⟨_, rfl⟩
      obtain ⟨m, hm⟩ : ∃ m, m = W.freed.length := ⟨_, rfl⟩
      rw [← hq, ← hm] at HCC hcc6
      have hq64 : q ≤ 64 := by rw [hq]; exact HZL.out
      have hm400 : m ≤ 400 := by rw [hm]; exact HFL.out
      have HQ := hide hq; have HM := hide hm
      obtain ⟨gc, hgc⟩ : ∃ gc, gc = w4.heap.size := ⟨_, rfl⟩
      have HGC := hide hgc
      have HB36 := hide (extW (extW (moreW (selfW w3) (.cells #[.int .i64 W.epoch, .int .i64 W.root, .int .i64 W.last, .slice A3 zs.length c3, .slice B3 W.freed.length d3] 38)) HB34.out) hb46)
      clear hb6 hb46 HDO HO34 HVA HBB hcw hzw hca hza hq hm HB34
      go_wp2_with fail
      rw [← hgc]
      rw [← hgc] at HCC hcc6 hzc6
      clear hgc hcc6 hzc6
      go_loopw [45] (fun i wr => ∃ (k : Nat) (V : WT) (ys : List RdX), k ≤ q ∧ i = .int .i64 k ∧ Hid (CopyC wr B0 gc W.epoch W.root W.last A4 q c4 B4 m d4 V ys) ∧ Hid (Below B0 w6 wr)) (fun i _ => q - (intOf i).toNat)
      case atStart => exact ⟨0, W, ks, Nat.zero_le _, rfl, HCC.out, Below.refl _ _⟩
      case round =>
        obtain ⟨k, V, ys, hk, rfl, HC, HBC⟩ := hrel
        have hyl : q = ys.length := HC.out.2.1.row.rdF.1
        have hcg := fun i => Blk.cell HC.out.1 i
        have hzg := HC.out.1.lt
        by_cases hlt : k < q
        · obtain ⟨y, hy⟩ : ∃ y, ys[k]? = some y := ⟨_, List.getElem?_eq_getElem (by omega)⟩
          have hne : ys ≠ [] := by rintro rfl; simp at hy
          obtain ⟨g1, c9, hv9, hg1, hg2⟩ := HC.out.2.1.row.form hne
          injection hv9 with ea eb ec
          subst ea
          have h3 := HC.out.2.1.row.cells rdC_len hy (j := 3) rfl
          have h4 := HC.out.2.1.row.cells rdC_len hy (j := 4) rfl
          have hf3 := HC.out.2.1.row.frozen (k * 5 + 3)
          have hp500 := HC.out.2.2 y (mem_of_get hy)
          have hput := WO.put HC.out.2.1 hy (y := ⟨{ y.r with holds := 99 }, y.A, y.c⟩) (j := 3) (u := .int .i64 99) (by decide) rfl rfl rfl rfl
          have hngc : gc ≠ g1 := own_ne HC.out.2.1.rowO HC.out.1 (by decide)
          have HC1 : Hid (CopyC (wr.setCell ⟨g1, k * 5 + 3, none⟩ (.int .i64 99)) B0 gc W.epoch W.root W.last (some ⟨g1, 0, none⟩) q c4 B4 m d4 (V.put k { y.r with holds := 99 }) (ys.set k ⟨{ y.r with holds := 99 }, y.A, y.c⟩)) :=
            ⟨own_var HC.out.2.1.rowO HC.out.1 (by decide) _ _, hput, fun z hz => by
              rcases mem_set hz with rfl | hz
              · exact hp500
              · exact HC.out.2.2 z hz⟩
          have HP1 : Hid (∃ z, (ys.set k (⟨{ y.r with holds := 99 }, y.A, y.c⟩ : RdX))[k]? = some z ∧ z.r.away.length = y.r.away.length) := ⟨_, get_set hy, rfl⟩
          have HB1c := hide (HBC.out.setCell (p := ⟨g1, k * 5 + 3, none⟩) hg1 (.int .i64 99))
          obtain ⟨p, hp⟩ : ∃ p, p = y.r.away.length := ⟨_, rfl⟩
          rw [← hp] at h4 hp500 HP1
          clear hy hne hput ec eb hyl hp
          go_wp2_with fail
          clear hcg hzg h3 h4 hf3
          obtain ⟨wb, hwb⟩ : ∃ wb : World, wb = wr := ⟨_, rfl⟩
          subst hwb
          go_loopw [60] (fun i wq => ∃ (j : Nat) (V : WT) (ys : List RdX), j ≤ p ∧ i = .int .i64 j ∧ Hid (CopyC wq B0 gc W.epoch W.root W.last (some ⟨g1, 0, none⟩) q c4 B4 m d4 V ys) ∧ Hid (∃ z, ys[k]? = some z ∧ z.r.away.length = p) ∧ Hid (Below B0 w6 wq)) (fun i _ => p - (intOf i).toNat)
          case atStart => exact ⟨0, _, _, Nat.zero_le _, rfl, HC1.out, HP1.out, HB1c.out⟩
          case round =>
            obtain ⟨j, V2, ys2, hj, rfl, HC2, HP2, HB2⟩ := hrel
            have hcg := fun i => Blk.cell HC2.out.1 i
            have hzg := HC2.out.1.lt
            by_cases hltj : j < p
            · obtain ⟨z, hz, hzp⟩ := HP2.out
              have h4 := HC2.out.2.1.row.cells rdC_len hz (j := 4) rfl
              have hg1z := (own_lt HC2.out.2.1.rowO rfl).2
              have haw := HC2.out.2.1.away z (mem_of_get hz)
              obtain ⟨o, ho⟩ : ∃ o, z.r.away[j]? = some o := ⟨_, List.getElem?_eq_getElem (by omega)⟩
              have hne : z.r.away ≠ [] := by intro e; rw [e] at ho; simp at ho
              obtain ⟨b, c8, hv8, hb1, hb2⟩ := haw.form hne
              injection hv8 with ea eb ec
              rw [ea] at haw h4
              have ho2 := haw.cells oldC_len ho (j := 2) rfl
              have hof := haw.frozen (j * 3 + 2)
              have hst := WO.stamp HC2.out.2.1 hz ea ho 99
              have HC3 : Hid (CopyC (wr.setCell ⟨b, j * 3 + 2, none⟩ (.int .i64 99)) B0 gc W.epoch W.root W.last (some ⟨g1, 0, none⟩) q c4 B4 m d4 _ _) :=
                ⟨own_var (by exact haw) HC2.out.1 (by decide) _ _, hst, fun x hx => by
                  rcases mem_set hx with rfl | hx
                  · show (z.r.away.set j _).length ≤ 500
                    rw [List.length_set]
                    exact HC2.out.2.2 z (mem_of_get hz)
                  · exact HC2.out.2.2 x hx⟩
              have HP3 : Hid (∃ z', (ys2.set k (⟨{ z.r with away := z.r.away.set j ⟨o.node, 99⟩ }, z.A, z.c⟩ : RdX))[k]? = some z' ∧ z'.r.away.length = p) := ⟨_, get_set hz, by rw [List.length_set]; exact hzp⟩
              have HB3 := hide (HB2.out.setCell (p := ⟨b, j * 3 + 2, none⟩) hb1 (.int .i64 99))
              rw [hzp] at h4
              have hjp : (j : Int) < (p : Int) := by omega
              have hkq : (k : Int) < (q : Int) := by omega
              clear hst haw hne hz hzp ho ea eb ec
              go_wp2_with fail
              go_roundw
              case rel => exact ⟨j + 1, _, _, by omega, by go_num, HC3.out, HP3.out, HB3.out⟩
              case measure => simp [intOf]; omega
            · go_wp2_with fail
              go_roundw
              case rel => exact ⟨k + 1, V2, ys2, by omega, by go_num, HC2.out, HB2.out⟩
              case measure => simp [intOf]; omega
        · obtain ⟨wb, hwb⟩ : ∃ wb : World, wb = wr := ⟨_, rfl⟩
          subst hwb
          go_wp2_with fail
          clear hcg hzg hlt
          go_loopw [77] (fun i wr => ∃ (j : Nat) (V : WT) (ys : List RdX), j ≤ m ∧ i = .int .i64 j ∧ Hid (CopyC wr B0 gc W.epoch W.root W.last A4 q c4 B4 m d4 V ys) ∧ Hid (Below B0 w6 wr)) (fun i _ => m - (intOf i).toNat)
          case atStart => exact ⟨0, V, ys, Nat.zero_le _, rfl, HC.out, HBC.out⟩
          case round =>
            obtain ⟨j, V2, ys2, hj, rfl, HC2, HB2⟩ := hrel
            by_cases hltj : j < m
            · have hcg := fun i => Blk.cell HC2.out.1 i
              have hzg := HC2.out.1.lt
              have hml : m = V2.freed.length := HC2.out.2.1.freed.cap.1
              obtain ⟨z, hz⟩ : ∃ z, V2.freed[j]? = some z := ⟨_, List.getElem?_eq_getElem (by omega)⟩
              have hne : V2.freed ≠ [] := by intro e; rw [e] at hz; simp at hz
              obtain ⟨b, c8, hv8, hb1, hb2⟩ := HC2.out.2.1.freed.form hne
              injection hv8 with ea eb ec
              subst ea
              have hcf := HC2.out.2.1.freed.cell hz
              have hff := HC2.out.2.1.freed.frozen j
              have HC3 : Hid (CopyC (wr.setCell ⟨b, j, none⟩ (.int .i64 99)) B0 gc W.epoch W.root W.last A4 q c4 (some ⟨b, 0, none⟩) m d4 _ _) :=
                ⟨own_var HC2.out.2.1.frO HC2.out.1 (by decide) _ _, WO.fr HC2.out.2.1 j 99, HC2.out.2.2⟩
              have HB3 := hide (HB2.out.setCell (p := ⟨b, j, none⟩) hb1 (.int .i64 99))
              have hjm : (j : Int) < (m : Int) := by omega
              clear hne hz eb ec hml
              go_wp2_with fail
              go_roundw
              case rel => exact ⟨j + 1, _, _, by omega, by go_num, HC3.out, HB3.out⟩
              case measure => simp [intOf]; omega
            · have hwB : w3.heap.size < B0 := by have := HB0.out; rw [this]; simp
              have hvw := HVW6.out.below HB2.out hwB
              have hcw := fun i => Blk.cell hvw i
              have hzw := hvw.lt
              have hbw : Below w3.heap.size w3 wr := HB36.out.trans (HB2.out.mono (by omega))
              obtain ⟨vr5, vf5, us, h5⟩ := HV3.out.ext hbw
              have HSM := hide (Ref.same_any wr _ g W A3 B3 c3 d3 _ _ zs us n ((HO3.out.ext hbw).wv) h5 HSA.out hl2)
              have HBF := hide (extW HBO.out hbw)
              clear hvw h5 hbw
              go_wp2_with fail
              refine HSM.out.mono ?_
              rintro e w7 ⟨rfl, hb7⟩
              go_wp2_with fail
              refine (awake38 _).mono ?_
              rintro e w8 ⟨rfl, hb8⟩
              go_wp2_with fail
              go_ret
              exact ⟨rfl, extW HBA.out (extW (extW HBF.out hb7) hb8)⟩
end
end Go.Proofs.Ytdgnejapofkadaa
