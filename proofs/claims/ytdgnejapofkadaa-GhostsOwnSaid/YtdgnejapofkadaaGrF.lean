/- The reference's Do, whatever it is asked; the walk of stopgatelaw38.same. -/
import Derived.Test.YtdgnejapofkadaaGrE
import Derived.Test.YtdgnejapofkadaaGhR
import Derived.Test.YtdgnejapofkadaaInts
namespace Go.Proofs.Ytdgnejapofkadaa.Ref
open Go.RowKit

theorem rdo_any {w : World} {base gs : Nat} {W : WT} {vr vf : Value} {xs : List RdX} (th ki : Int) (k0 : Nat) (h : StV w base gs W vr vf xs) (hs : Sane W k0) (hk0 : k0 ≤ 400) :
    Calls Try.prog 9 #[.pointer (some ⟨gs, 0, none⟩), .int .i64 th, .int .i64 ki] w (Acts base gs (doW W th ki) w) := by
  have hxl : xs.length = W.rds.length := by rw [← h.own.rds, List.length_map]
  by_cases h0 : th < 0
  · rw [show doW W th ki = W by unfold doW; rw [if_pos h0]]
    exact rdo_out th ki h (.inl h0)
  · obtain ⟨t, rfl⟩ := Int.eq_ofNat_of_zero_le (show 0 ≤ th by omega)
    have hd : doW W (t : Int) ki = match W.rds[t]? with | none => W | some r => actW W t r ki := by unfold doW; rw [if_neg h0]; rfl
    rcases hr : W.rds[t]? with _ | r
    · rw [hd, hr]
      refine rdo_out _ ki h (.inr ?_)
      have := List.getElem?_eq_none_iff.1 hr
      show _ ≤ (t : Int)
      omega
    · rw [hd, hr]
      show Calls _ _ _ _ (Acts base gs (actW W t r ki) w)
      obtain ⟨x, hx, rfl⟩ := rds_get' h.own.rds hr
      have hne : xs ≠ [] := by rintro rfl; simp at hx
      obtain ⟨g1, c1, hv, _, _⟩ := h.own.row.form hne
      subst hv
      have hm := mem_of_get hr
      have hin := hs.inn
      have haw := hs.away hm
      have hln := hs.lens
      have hfew := hs.few
      have he0 := hs.e1
      have he1 := hs.e2
      have hl2 := hs.l2
      have hrl := hs.rl
      have hr1 := hs.r1
      by_cases k1 : ki = 1
      · subst k1; exact rdo_1 h hx
      by_cases k2 : ki = 2
      · subst k2; exact rdo_2 h hx (hin x.r hm)
      by_cases k3 : ki = 3
      · subst k3; exact rdo_3 h hx (hin x.r hm)
      by_cases k4 : ki = 4
      · subst k4; exact rdo_4 h hx
      by_cases k5 : ki = 5
      · subst k5; exact rdo_5 h hx (by omega) (by omega) (by omega)
      by_cases k6 : ki = 6
      · subst k6; exact rdo_6 h hx
      by_cases k7 : ki = 7
      · subst k7; exact rdo_7 h hx
      by_cases k8 : ki = 8
      · subst k8; exact rdo_8 h hx hin (by omega) (by omega) (by omega)
      by_cases k9 : ki = 9
      · subst k9; exact rdo_9 h hx (by omega) (by omega) (by omega) (by omega) (by omega)
      by_cases k10 : ki = 10
      · subst k10; exact rdo_10 h hx (by omega) (by omega) (by omega)
      · have hn : actW W t x.r ki = noneW W t x.r := by unfold actW; rw [if_neg k1, if_neg k2, if_neg k3, if_neg k4, if_neg k5, if_neg k6, if_neg k7, if_neg k8, if_neg k9, if_neg k10]; rfl
        rw [hn]
        exact rdo_none h hx ki (by omega)

section
variable (w : World)
set_option maxRecDepth 100000 in
set_option maxHeartbeats 2000000 in
theorem same_any (base gs : Nat) (W : WT) (A B : Option Addr) (c d : Nat) (vr vf : Value) (xs ys : List RdX) (k0 : Nat) (hv : Proofs.Ytdgnejapofkadaa.WV w W A B xs) (h : StV w base gs W vr vf ys) (hs : Sane W k0) (hk0 : k0 ≤ 400) :
    Calls Try.prog 11 #[.agg #[.int .i64 W.epoch, .int .i64 W.root, .int .i64 W.last, .slice A xs.length c, .slice B W.freed.length d], .pointer (some ⟨gs, 0, none⟩)] w (Says true w) := by
  obtain ⟨n, hn⟩ : ∃ n, n = W.rds.length := ⟨_, rfl⟩
  have hxn : xs.length = n := by rw [hn, ← hv.rds, List.length_map]
  have hyn : ys.length = n := by rw [hn, ← h.own.rds, List.length_map]
  have hfew : n ≤ 64 := by rw [hn]; exact hs.few
  have hfl : W.freed.length ≤ 500 := by have := hs.lens; omega
  obtain ⟨A2, c2, B2, d2, e1, e2, hv2⟩ := h.own.rd
  subst e1; subst e2
  have hI := fun wx (hx : Below w.heap.size w wx) => ints_any B B2 d d2 W.freed W.freed wx (by omega) (by omega) (hv.freed.below hx) (hv2.freed.below hx)
  simp only [beq_self_eq_true] at hI
  obtain ⟨m, hm⟩ : ∃ m, m = W.freed.length := ⟨_, rfl⟩
  have hb := h.blk
  rw [hyn, ← hm] at hb
  rw [← hm] at hI hfl
  rw [hxn, ← hm]
  have hcs := fun i => Blk.cell hb i
  have hgs := hb.lt
  have HV := hide hv; have HV2 := hide hv2; have HXN := hide hxn; have HYN := hide hyn; have HI := hide hI; have HSA := hide hs; have HB := hide hb
  clear hv h hs hv2 hI hb hm hn hxn hyn
  generalize hE : W.epoch = E at *
  generalize hR : W.root = R at *
  generalize hL : W.last = L at *
  clear hE hR hL
  go_enter Try.func11, Try.ntmps11
  go_wp2_with fail
  go_quiet ((go_at_call 17; exact Drew.quiet (HI.out _ (below_drewN (moreW (selfW w) _) _))))
  go_wp2_with fail
  clear hcs hgs
  go_loopw [61] (fun i wr => ∃ k : Nat, k ≤ n ∧ i = .int .i64 k ∧ Hid (Blk wr w.heap.size 38 #[.int .i64 E, .int .i64 R, .int .i64 L, .slice A n c, .slice B m d]) ∧ Hid (Below w.heap.size w wr)) (fun i _ => n - (intOf i).toNat)
  case atStart => exact ⟨0, Nat.zero_le _, rfl, (Blk.new _ _ _).drewN _, below_drewN (moreW (selfW w) _) _⟩
  case round =>
    obtain ⟨k, hk, rfl, HP, HD⟩ := hrel
    have hcp := fun i => Blk.cell HP.out i
    have hzp := HP.out.lt
    have hcs := fun i => Blk.cell (HB.out.extW HD.out) i
    have hgs := (HB.out.extW HD.out).lt
    by_cases hlt : k < n
    · obtain ⟨ad1, x, hA1, hx, c0, c1, c2, c3, c4⟩ := RdF.rd (HV.out.row.below HD.out) (i := k) (by rw [HXN.out]; exact hlt)
      obtain ⟨ad2, y, hA2, hy, e0, e1, e2, e3, e4⟩ := RdF.rd (HV2.out.row.below HD.out) (i := k) (by rw [HYN.out]; exact hlt)
      obtain ⟨r, xA, xc⟩ := x
      obtain ⟨r2, yA, yc⟩ := y
      have hrr : r = r2 := by
        have h1 := rds_get HV.out.rds hx
        have h2 := rds_get HV2.out.rds hy
        rw [h1] at h2
        injection h2
      subst hrr
      dsimp only at c0 c1 c2 c3 c4 e0 e1 e2 e3 e4
      subst hA1; subst hA2
      rw [add_lit _ _ (by decide)] at c1 c2 c3 c4 e1 e2 e3 e4
      have hzx := cell_lt c0
      have hral : r.away.length ≤ 500 := by have := HSA.out.away (mem_of_get (rds_get HV.out.rds hx)); exact Nat.le_trans this (by omega)
      have HX := hide hx; have HY := hide hy
      clear hx hy
      go_wp2_with fail
      obtain ⟨wo, hwo⟩ : ∃ wo : World, wo = wr := ⟨_, rfl⟩
      subst hwo
      go_loopw [109] (fun i wq => ∃ j : Nat, j ≤ r.away.length ∧ i = .int .i64 j ∧ Hid (Below ((wo.alloc (.cells #[.int .i64 r.saw, .int .i64 r.inn, .int .i64 r.guard, .int .i64 r.holds, .slice yA r.away.length yc] 35)).alloc (.cells #[.int .i64 r.saw, .int .i64 r.inn, .int .i64 r.guard, .int .i64 r.holds, .slice xA r.away.length xc] 48)).heap.size ((wo.alloc (.cells #[.int .i64 r.saw, .int .i64 r.inn, .int .i64 r.guard, .int .i64 r.holds, .slice yA r.away.length yc] 35)).alloc (.cells #[.int .i64 r.saw, .int .i64 r.inn, .int .i64 r.guard, .int .i64 r.holds, .slice xA r.away.length xc] 48)) wq)) (fun i _ => r.away.length - (intOf i).toNat)
      case atStart => exact ⟨0, Nat.zero_le _, rfl, Below.refl _ _⟩
      case round =>
        obtain ⟨j, hj, rfl, HQ⟩ := hrel
        have hb1 := (((Blk.new wo 35 #[.int .i64 r.saw, .int .i64 r.inn, .int .i64 r.guard, .int .i64 r.holds, .slice yA r.away.length yc]).alloc (.cells #[.int .i64 r.saw, .int .i64 r.inn, .int .i64 r.guard, .int .i64 r.holds, .slice xA r.away.length xc] 48))).extW HQ.out
        have hb2 := (Blk.newAt (wo.alloc (.cells #[.int .i64 r.saw, .int .i64 r.inn, .int .i64 r.guard, .int .i64 r.holds, .slice yA r.away.length yc] 35)) 48 #[.int .i64 r.saw, .int .i64 r.inn, .int .i64 r.guard, .int .i64 r.holds, .slice xA r.away.length xc] (g := wo.heap.size + 1) (by simp)).extW HQ.out
        have hcb1 := fun i => Blk.cell hb1 i
        have hcb2 := fun i => Blk.cell hb2 i
        have hzb1 := hb1.lt
        have hzb2 := hb2.lt
        have HDQ := hide (extW (moreW (moreW HD.out _) _) HQ.out)
        clear hb1 hb2 hcp hzp hcs hgs c0 c1 c2 c3 c4 e0 e1 e2 e3 e4 hzx
        by_cases hltj : j < r.away.length
        · obtain ⟨ad3, o, hA3, ho, f0, f1, f2⟩ := Proofs.Ytdgnejapofkadaa.RdF.old ((HV.out.away _ (mem_of_get HX.out)).below HDQ.out) (i := j) hltj
          obtain ⟨ad4, o2, hA4, ho2, g0, g1⟩ := RdF.old ((HV2.out.away _ (mem_of_get HY.out)).below HDQ.out) (i := j) hltj
          have hoo : o = o2 := by
            have := ho.symm.trans ho2
            injection this
          subst hoo
          dsimp only at hA3 hA4
          subst hA3; subst hA4
          rw [add_lit _ _ (by decide)] at f1 f2 g1
          have hz3 := cell_lt f0
          have hz4 := cell_lt g0
          clear ho ho2
          go_wp2_with fail
          go_quiet (fail)
          go_wp2_with fail
          go_roundw
          case rel => exact ⟨j + 1, by omega, by go_num, extW HQ.out (below_drewN (moreW (selfW _) _) _)⟩
          case measure => simp [intOf]; omega
        · go_wp2_with fail
          go_roundw
          case rel => exact ⟨k + 1, by omega, by go_num, HP.out.extW (extW (moreW (moreW (selfW wo) _) _) HQ.out), HDQ.out⟩
          case measure => simp [intOf]; omega
    · go_wp2_with fail
      go_ret
      exact ⟨rfl, HD.out⟩
end
end Go.Proofs.Ytdgnejapofkadaa.Ref
