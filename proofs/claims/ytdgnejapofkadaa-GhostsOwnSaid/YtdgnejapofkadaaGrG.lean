/- The walk of the law GhostsPlay. -/
import Derived.Test.YtdgnejapofkadaaGrF
import Derived.Test.YtdgnejapofkadaaGhX
namespace Go.Proofs.Ytdgnejapofkadaa
open Go.RowKit

/-- the reference's world, at block g -/
def RefW (w : World) (base g : Nat) (W : WT) : Prop := ∃ vr vf xs, Ref.StV w base g W vr vf xs
theorem RefW.ext {w w' : World} {base g : Nat} {W : WT} (h : RefW w base g W) (hb : Below w.heap.size w w') : RefW w' base g W := by
  obtain ⟨vr, vf, xs, h⟩ := h
  exact ⟨vr, vf, xs, h.ext hb⟩
/-- the reference's world lies above base -/
theorem RefW.below {w w' : World} {base g : Nat} {W : WT} (h : RefW w base g W) (hb : Below w.heap.size w w') : RefW w' base g W := h.ext hb

section
variable (w : World)
set_option maxHeartbeats 2000000 in
theorem play_law (nt : Int) (A : Option Addr) (c : Nat) (l : List (Int × Int)) (hr : RdF w actC A l) (hl : l.length ≤ 9223372036854775807) :
    Calls Try.prog 3 #[.int .i64 nt, .slice A l.length c] w (Says true w) := by
  obtain ⟨n, hn⟩ : ∃ n, n = l.length := ⟨_, rfl⟩
  rw [← hn] at hl ⊢
  have HN := hide hn; have HR := hide hr
  clear hr
  by_cases h400 : 400 < n
  · have hd : decide (400 < (n : Int)) = true := decide_eq_true (by omega)
    have hd2 : decide (400 < n) = true := decide_eq_true (by omega)
    have HL := hide hl; clear hl hn
    go_enter Try.func3, Try.ntmps3
    go_wp2_with fail
    refine (awake38 w).mono ?_
    rintro e w1 ⟨rfl, hb⟩
    go_wp2_with fail
    go_ret
    exact ⟨rfl, hb⟩
  have hd : decide (400 < (n : Int)) = false := decide_eq_false (by omega)
  have hd2 : decide (400 < n) = false := decide_eq_false (by omega)
  have hl2 : n ≤ 400 := by omega
  have HPL := hide (fun wx (hx : RdF wx actC A l) => gplay_any wx nt A c l hx (by omega))
  rw [← hn] at HPL
  clear hl h400 hn
  have HNW := hide (fun wx => Ref.rnew_any wx nt)
  obtain ⟨N, hN⟩ : ∃ N, N = cntT nt := ⟨_, rfl⟩
  have HCN := hide hN
  rw [← hN] at HNW HPL
  clear hN
  go_enter Try.func3, Try.ntmps3
  go_wp2_with fail
  refine (HNW.out _).mono ?_
  rintro e w1 ⟨⟨g, rfl, vr, vf, xs, hO⟩, hb1⟩
  have HB1 := hide hb1
  have HO : Hid (RefW w1 w.heap.size g (newW N)) := ⟨vr, vf, xs, hO⟩
  clear hO hb1 HNW
  go_wp2_with fail
  go_loopw [20] (fun i wr => ∃ k : Nat, k ≤ n ∧ i = .int .i64 k ∧ Hid (RefW wr w.heap.size g (playN N l k)) ∧ Hid (Below w.heap.size w wr)) (fun i _ => n - (intOf i).toNat)
  case atStart => exact ⟨0, Nat.zero_le _, rfl, HO.out, HB1.out⟩
  case round =>
    obtain ⟨k, hk, rfl, HV, HB⟩ := hrel
    by_cases hlt : k < n
    · obtain ⟨ad, ⟨th, ki⟩, hA, ha, ca, cb⟩ := RdF.act (HR.out.below HB.out) (i := k) (by rw [← HN.out]; exact hlt)
      subst hA
      rw [add_lit _ _ (by decide)] at cb
      have HS1 : Hid (playN N l (k + 1) = doW (playN N l k) th ki) := playN_succ N ha
      have HSA : Hid (Sane (playN N l k) k) := by have := playN_sane nt l k (by rw [← HN.out]; exact hk); rw [← HCN.out] at this; exact this
      generalize playN N l k = W at HV HS1 HSA
      obtain ⟨vr2, vf2, ys, h4⟩ := HV.out.ext (moreW (selfW wr) (.cells #[.int .i64 th, .int .i64 ki] 27))
      have HDO := hide (Ref.rdo_any th ki k h4 HSA.out (by omega))
      clear h4 ha
      go_wp2_with fail
      refine HDO.out.mono ?_
      rintro e w2 ⟨rfl, h2, _, hb2⟩
      have HV2 : Hid (RefW w2 w.heap.size g (doW W th ki)) := h2
      have HB2 := hide ((HB.out.alloc HB.out.size (.cells #[.int .i64 th, .int .i64 ki] 27)).trans hb2)
      clear h2 hb2 HDO
      go_wp2_with fail
      go_roundw
      case rel => exact ⟨k + 1, by omega, by go_num, (by rw [HS1.out]; exact HV2.out), HB2.out⟩
      case measure => simp [intOf]; omega
    · have hkn : n = k := by omega
      subst hkn
      have HSA : Hid (Sane (playN N l n) n) := by have := playN_sane nt l n (by rw [← HN.out]; exact Nat.le_refl _); rw [← HCN.out] at this; exact this
      have hpn : playN N l n = playW N l := playN_all N (by rw [← HN.out]; exact Nat.le_refl _)
      rw [hpn] at HV HSA
      generalize hWW : playW N l = W at HV HSA
      rw [hWW] at HPL
      clear hWW hpn
      obtain ⟨wo, hwo⟩ : ∃ wo : World, wo = wr := ⟨_, rfl⟩
      subst hwo
      obtain ⟨vr2, vf2, ys, h4⟩ := HV.out
      obtain ⟨A2, c2, B2, d2, e1, e2, hv2⟩ := h4.own.rd
      subst e1; subst e2
      have hcs := fun i => Blk.cell h4.blk i
      have hgs := h4.blk.lt
      obtain ⟨q, hq⟩ : ∃ q, q = ys.length := ⟨_, rfl⟩
      rw [← hq] at hcs
      have hq64 : q ≤ 64 := by rw [hq, ← List.length_map (f := (·.r)), h4.own.rds]; exact HSA.out.few
      have HQ := hide hq
      have H4 := hide h4; have HV2 := hide hv2
      have haw : Hid (awayN W = (ys.map fun x => x.r.away.length).sum) := by unfold Hid awayN; rw [← h4.own.rds, List.map_map]; rfl
      have hsum : Hid (∀ k, ((ys.take k).map fun x => x.r.away.length).sum ≤ 500) := by
        intro k
        have h1 : ((ys.take k).map fun x => x.r.away.length).sum ≤ (ys.map fun x => x.r.away.length).sum := by
          have := congrArg (fun l => (l.map fun x : RdX => x.r.away.length).sum) (List.take_append_drop k ys)
          simp only [List.map_append, List.sum_append] at this
          omega
        have h2 := haw.out
        have h3 := HSA.out.lens
        omega
      clear h4 hv2 hq hk hlt
      go_wp2_with fail
      clear hcs
      go_loopw [6, 36] (fun s i wr => ∃ (k p : Nat), k ≤ q ∧ i = .int .i64 k ∧ p ≤ 500 ∧ s = .int .i64 p ∧ Hid (p = ((ys.take k).map fun x => x.r.away.length).sum) ∧ Hid (Below wo.heap.size wo wr)) (fun _ i _ => q - (intOf i).toNat)
      case atStart => exact ⟨0, 0, Nat.zero_le _, rfl, by decide, rfl, rfl, selfW _⟩
      case round =>
        obtain ⟨k, p, hk, rfl, hp, rfl, HPS, HBQ⟩ := hrel
        by_cases hlt : k < q
        · obtain ⟨ad, x, hA, hx, c0, c1, c2, c3, c4⟩ := RdF.rd (HV2.out.row.below HBQ.out) (i := k) (by rw [← HQ.out]; exact hlt)
          subst hA
          rw [add_lit _ _ (by decide)] at c1 c2 c3 c4
          have hq2 : p + x.r.away.length = ((ys.take (k + 1)).map fun x => x.r.away.length).sum := by rw [take_of hx, List.map_append, List.sum_append, ← HPS.out]; simp
          have hq3 : p + x.r.away.length ≤ 500 := by rw [hq2]; exact hsum.out _
          have HQ2 := hide hq2
          clear hx hq2
          go_wp2_with fail
          go_roundw
          case rel => exact ⟨k + 1, p + x.r.away.length, by omega, by go_num, hq3, by go_num, HQ2.out, moreW HBQ.out _⟩
          case measure => simp [intOf]; omega
        · have hq2 : p = awayN W := by rw [HPS.out, haw.out, List.take_of_length_le (by have := HQ.out; omega)]
          subst hq2
          have HBW := hide (extW HB.out HBQ.out)
          have HPX := hide (HPL.out wr (HR.out.below HBW.out))
          clear HPL
          go_wp2_with fail
          refine HPX.out.mono ?_
          rintro e w3 ⟨v3, rfl, ⟨vr3, vf3, zs, rfl, hO3⟩, hb3⟩
          obtain ⟨A3, c3, B3, d3, rfl, rfl⟩ := hO3.shape
          have HB3 := hide (extW HBW.out hb3)
          have H43 := hide (H4.out.ext (extW HBQ.out hb3))
          have HO3 := hide hO3
          have HSM := hide (Ref.same_any (w3.alloc (.cells #[.int .i64 W.epoch, .int .i64 W.root, .int .i64 W.last, .slice A3 zs.length c3, .slice B3 W.freed.length d3] 38)) _ g W A3 B3 c3 d3 _ _ zs ys n ((hO3.ext (moreW (selfW _) _)).wv) (H43.out.ext (moreW (selfW _) _)) HSA.out hl2)
          clear hO3 hb3 HPX
          go_wp2_with fail
          refine HSM.out.mono ?_
          rintro e w4 ⟨rfl, hb4⟩
          have hv4 := (Blk.new w3 38 #[.int .i64 W.epoch, .int .i64 W.root, .int .i64 W.last, .slice A3 zs.length c3, .slice B3 W.freed.length d3]).extW hb4
          have hcv4 := fun i => Blk.cell hv4 i
          have hzv4 := hv4.lt
          have hb34 := extW (moreW (selfW w3) (.cells #[.int .i64 W.epoch, .int .i64 W.root, .int .i64 W.last, .slice A3 zs.length c3, .slice B3 W.freed.length d3] 38)) hb4
          have HAW := hide (away_any w4 W A3 B3 c3 d3 zs n ((HO3.out.ext hb34).wv) HSA.out (by omega))
          have HB4 := hide (extW HB3.out hb34)
          clear hv4 hb4 hb34 HSM
          go_wp2_with fail
          refine HAW.out.mono ?_
          rintro e w5 ⟨rfl, hb5⟩
          have HB5 := hide (extW HB4.out hb5)
          clear hb5 hcv4 hzv4
          go_wp2_with fail
          refine (awake38 _).mono ?_
          rintro e w6 ⟨rfl, hb6⟩
          go_wp2_with fail
          go_ret
          exact ⟨rfl, extW HB5.out hb6⟩
end
end Go.Proofs.Ytdgnejapofkadaa
