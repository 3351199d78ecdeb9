/- The walk of ghosts.Play. -/
import Derived.Test.YtdgnejapofkadaaGhS
namespace Go.Proofs.Ytdgnejapofkadaa
open Go.RowKit

section
variable (w : World)
set_option maxHeartbeats 1000000 in
theorem gplay_any (nt : Int) (A : Option Addr) (c : Nat) (l : List (Int × Int)) (hr : RdF w actC A l) (hl : l.length ≤ 400) :
    Calls Try.prog 10 #[.int .i64 nt, .slice A l.length c] w (GivesR (playW (cntT nt) l) w) := by
  obtain ⟨n, hn⟩ : ∃ n, n = l.length := ⟨_, rfl⟩
  rw [← hn] at hl ⊢
  have HN := hide hn; have HR := hide hr
  have HNW := hide (fun wx => gnew_any wx nt)
  obtain ⟨N, hN⟩ : ∃ N, N = cntT nt := ⟨_, rfl⟩
  have HCN := hide hN
  rw [← hN] at HNW ⊢
  clear hn hr hN
  go_enter Try.func10, Try.ntmps10
  go_wp2_with fail
  refine (HNW.out _).mono ?_
  rintro e w1 ⟨⟨v, rfl, vr, vf, xs, rfl, hO⟩, hb1⟩
  obtain ⟨A1, c1, B1, d1, rfl, rfl⟩ := hO.shape
  have hres := (Blk.new w 38 #[.int .i64 0, .int .i64 0, .int .i64 0, .slice none 0 0, .slice none 0 0]).extW hb1
  have HB1 := hide (extW (moreW (selfW w) _) hb1)
  have HO := hide hO; have HRES := hide hres
  obtain ⟨g, hg⟩ : ∃ g, g = w1.heap.size := ⟨_, rfl⟩
  have hgr : w.heap.size < g := by rw [hg]; exact hres.lt
  have HG := hide hg
  clear hO hres hb1 HNW
  go_wp2_with fail
  rw [← hg]
  clear hg
  go_loopw [12] (fun i wr => ∃ k : Nat, k ≤ n ∧ i = .int .i64 k ∧ Hid (VarW wr g (playN N l k)) ∧ Hid (Blk wr w.heap.size 38 #[.int .i64 0, .int .i64 0, .int .i64 0, .slice none 0 0, .slice none 0 0]) ∧ Hid (Below w.heap.size w wr)) (fun i _ => n - (intOf i).toNat)
  case atStart =>
    refine ⟨0, Nat.zero_le _, rfl, ⟨A1, _, c1, B1, _, d1, xs, rfl, rfl, Blk.newAt _ _ _ HG.out, HO.out.ext (moreW (selfW _) _)⟩, HRES.out.alloc _, moreW HB1.out _⟩
  case round =>
    obtain ⟨k, hk, rfl, HV, HQ, HB⟩ := hrel
    by_cases hlt : k < n
    · obtain ⟨ad, ⟨th, ki⟩, hA, ha, ca, cb⟩ := RdF.act (HR.out.below HB.out) (i := k) (by rw [← HN.out]; exact hlt)
      subst hA
      rw [add_lit _ _ (by decide)] at cb
      have HS1 : Hid (playN N l (k + 1) = doW (playN N l k) th ki) := playN_succ N ha
      have HSA : Hid (Sane (playN N l k) k) := by have := playN_sane nt l k (by rw [← HN.out]; exact hk); rw [← HCN.out] at this; exact this
      generalize playN N l k = W at HV HS1 HSA
      obtain ⟨A2, n2, c2, B2, m2, d2, ys, h1, h2, h3, h4⟩ := HV.out
      subst h1; subst h2
      have hcv := fun i => Blk.cell h3 i
      have hzv := h3.lt
      have HDO := hide (gdo_any (wr.alloc (.cells #[.int .i64 th, .int .i64 ki] 27)) W A2 B2 c2 d2 ys th ki k ((h4.ext (moreW (selfW _) _)).wv) HSA.out (by omega))
      have HV3 := hide h3
      clear h3 h4 ha
      go_wp2_with fail
      refine HDO.out.mono ?_
      rintro e w2 ⟨v, rfl, ⟨vr, vf, zs, rfl, hO2⟩, hb2⟩
      obtain ⟨A3, c3, B3, d3, rfl, rfl⟩ := hO2.shape
      have hb3 := extW (moreW (selfW wr) (.cells #[.int .i64 th, .int .i64 ki] 27)) hb2
      have hv2 := HV3.out.extW hb3
      have hcv2 := fun i => Blk.cell hv2 i
      have hfv2 := fun i => Blk.free hv2 i
      have hzv2 := hv2.lt
      have HV2 := hide (VarW.set hv2 hO2 rfl rfl)
      have HQ2 := hide (set5_far (HQ.out.extW hb3) (Nat.ne_of_lt hgr) (.int .i64 (doW W th ki).epoch) (.int .i64 (doW W th ki).root) (.int .i64 (doW W th ki).last) (.slice A3 zs.length c3) (.slice B3 (doW W th ki).freed.length d3))
      have HB2 := hide (set5_below (extW HB.out hb3) (Nat.le_of_lt hgr) (.int .i64 (doW W th ki).epoch) (.int .i64 (doW W th ki).root) (.int .i64 (doW W th ki).last) (.slice A3 zs.length c3) (.slice B3 (doW W th ki).freed.length d3))
      generalize doW W th ki = W3 at *
      clear hO2 hb2 hb3 hv2 HDO
      go_wp2_with fail
      go_roundw
      case rel => exact ⟨k + 1, by omega, by go_num, (by rw [HS1.out]; exact HV2.out), HQ2.out, HB2.out⟩
      case measure => simp [intOf]; omega
    · have hkn : n = k := by omega
      have hp : playN N l k = playW N l := playN_all N (by rw [← HN.out]; omega)
      rw [hp] at HV
      have HP := hide hp
      clear hp
      obtain ⟨A2, n2, c2, B2, m2, d2, ys, h1, h2, h3, h4⟩ := HV.out
      have hcv := fun i => Blk.cell h3 i
      have hzv := h3.lt
      have hcq := fun i => Blk.cell HQ.out i
      have hfq := fun i => Blk.free HQ.out i
      have hzq := HQ.out.lt
      have HV3 := hide h3; have HV4 := hide h4
      obtain ⟨W, hW⟩ : ∃ W, W = playW N l := ⟨_, rfl⟩
      have HWW := hide hW
      rw [← hW] at hcv HV4 HV3
      clear h1 h2 h3 h4 hW
      go_wp2_with fail
      refine bodyPost_ret (v := .agg #[.int .i64 W.epoch, .int .i64 W.root, .int .i64 W.last, .slice A2 n2 c2, .slice B2 m2 d2]) ?_ rfl ?_
      · obtain ⟨k0, k1, k2, k3, k4⟩ := set5_cells HQ.out (.int .i64 W.epoch) (.int .i64 W.root) (.int .i64 W.last) (.slice A2 n2 c2) (.slice B2 m2 d2)
        unfold set5 at k4
        simp [results, Try.results10, go_sem, k0, k1, k2, k3, k4]
      · rw [← HWW.out]
        exact do_end0 HV4.out HQ.out HB.out (Nat.le_refl _)
end
end Go.Proofs.Ytdgnejapofkadaa
