/- The walk of the law SchedEvents, where its lists are short. -/
import Derived.Test.YtphjbdoephmgfaaSchedQ
import Derived.Test.YtphjbdoephmgfaaSchedK
import Derived.RegionTactic
import Derived.Deep.RegionHeld3
namespace Go.Proofs.Ytphjbdoephmgfaa
open Go.RowKit

theorem held_step {w0 a b : World} {g : Nat} {xs : Array Value} {p : Addr} {v u0 : Value} (h : Below w0.heap.size w0 a ∧ (∀ i, a.cell? ⟨g, i, none⟩ = xs[i]?) ∧ a.cell? p = some v) (h0 : xs[0]? = some u0) (hb : Below a.heap.size a b) :
    Below w0.heap.size w0 b ∧ (∀ i, b.cell? ⟨g, i, none⟩ = xs[i]?) ∧ b.cell? p = some v := by
  obtain ⟨k0, k1, k2⟩ := h
  have hg : g < a.heap.size := cell_lt ((k1 0).trans h0)
  exact ⟨extW k0 hb, fun i => (hb.cell hg).trans (k1 i), (hb.cell (cell_lt k2)).trans k2⟩

section
variable (w : World)
set_option maxHeartbeats 2000000 in
theorem evlaw_any (A K : Option Addr) (c d : Nat) (zs : List Int) (ks : List EvT) (hl : zs.length ≤ 1048576) (hk : ks.length ≤ 1048576) (hr : RdI w .i64 A zs) (hq : RdF w evC K ks) :
    Calls Try.prog 6 #[.slice A zs.length c, .slice K ks.length d] w fun e w' => e = .returned (.bool true) ∧ Below w.heap.size w w' := by
  have EV := hide (events_any A c zs w hl hr)
  have PK := hide (fun wx (hb : Below w.heap.size w wx) => picksof_any K d wx ks hk (hq.below hb))
  obtain ⟨n, hn⟩ : ∃ n, n = zs.length := ⟨_, rfl⟩
  obtain ⟨m, hm⟩ : ∃ m, m = ks.length := ⟨_, rfl⟩
  rw [← hn] at hl EV ⊢
  rw [← hm] at hk PK ⊢
  have HN := hide hn; have HM := hide hm; have HR := hide hr; have HQ := hide hq
  clear hn hm hr hq
  go_enter Try.func6, Try.ntmps6
  go_wp2_with fail
  refine EV.out.mono ?_
  rintro e w1 ⟨⟨E, d1, rfl, hr1⟩, hb1⟩
  have P1 := picksof_any E d1 w1 (zs.map pickE) (by have := HN.out; simp; omega) hr1
  rw [List.length_map, ← HN.out, picksE_pick] at P1
  have HP1 := hide P1; have HR1 := hide hr1; have HB1 := hide hb1
  clear P1 hr1 hb1 EV
  go_wp2_with fail
  refine HP1.out.mono ?_
  rintro e w2 ⟨⟨B2, d2, rfl, hr2⟩, hb2⟩
  have I2 := ints_any B2 A d2 c zs zs w2 (by have := HN.out; omega) (by have := HN.out; omega) hr2 (HR.out.below (extW HB1.out hb2))
  rw [← HN.out, beq_self_eq_true] at I2
  have HI2 := hide I2; have HR2 := hide (HR1.out.below hb2); have HB2 := hide (extW HB1.out hb2)
  rw [← HN.out]
  clear I2 hb2 hr2 HP1 HR1 HB1
  go_wp2_with fail
  refine HI2.out.mono ?_
  rintro e w3 ⟨rfl, hd3⟩
  have HR3 := hide (HR2.out.below hd3.extW); have HB3 := hide (extW HB2.out hd3.extW)
  clear hd3 HR2 HB2 HI2
  go_wp2_with fail
  go_loopw [6, 27] (fun v i wr => ∃ (k : Nat) (L : List Int), k ≤ m ∧ i = .int .i64 k ∧ Hid (OwnI wr w3.heap.size 3 .i64 v L) ∧ L.length ≤ k ∧ Hid (L = picksE (ks.take k)) ∧ Hid (Below w3.heap.size w3 wr)) (fun _ i _ => m - (intOf i).toNat)
  case atStart => exact ⟨0, [], Nat.zero_le _, rfl, OwnI.nil _ _ _ _, Nat.le_refl _, rfl, Below.refl _ _⟩
  case round =>
    obtain ⟨k, L, hk1, rfl, HO, hll, HL, HB⟩ := hrel
    have hsz := HB.out.size
    by_cases hlt : k < m
    · obtain ⟨ad, ⟨ek, et, ea, eb, ec, ed, eca, ecn, ecc, ei, eoa, eon, eoc⟩, hA, hz, c0, c1, c2, c3, c4, c5, c6, c7, c8⟩ := ev_at (HQ.out.below (extW HB3.out HB.out)) (i := k) (by rw [← HM.out]; exact hlt)
      subst hA
      dsimp only at c0 c1 c2 c3 c4 c5 c6 c7 c8
      rw [add_lit _ _ (by decide)] at c1 c2 c3 c4 c5 c6 c7 c8
      have HZ := hide hz; clear hz
      by_cases hek : ek = 1
      · have HL2 := hide (picksE_yes HZ.out hek)
        have hekb : (ek == 1) = true := by simpa using hek
        have HEK := hide hek; clear hek
        have HO2 := hide ((HO.out.alloc (.cells #[.int .i64 ek, .int .i64 et, .int .i64 ea, .int .i64 eb, .int .i64 ec, .bool ed, .slice eca ecn ecc, .int .i64 ei, .slice eoa eon eoc] 37)).alloc (.cells #[.int .i64 et] 3))
        go_wp2_with (at_builtin; refine wpList_appI _ rfl _ _ 22 rfl w3.heap.size 3 .i64 Try.underlying22 info_int _ L rfl HO2.out (some ⟨wr.heap.size + 1, 0, none⟩) 1 1 [et] rfl rfl ?d3 ?d4 ?d5 ?_)
        case d3 => exact RdI.oneAt _ .i64 et _ (by simp)
        case d4 => show (L.length + 1) * 8 ≤ 140737488355328; omega
        case d5 => omega
        intro v' w4 hown' hgrow _
        have hb' := HO2.out.below_step (moreW (moreW HB.out _) _) hgrow (by simp; omega) (Nat.le_refl _)
        have HO' := hide hown'; have HB' := hide hb'; clear hown' hgrow hb'
        have HL3 := hide (show L ++ [et] = picksE (ks.take (k + 1)) by rw [HL2.out, HL.out])
        go_wp2_with fail
        go_roundw
        case rel => exact ⟨k + 1, _, by omega, by go_num, HO'.out, by simp; omega, HL3.out, HB'.out⟩
        case measure => simp [intOf]; omega
      · have HL2 := hide (picksE_no HZ.out hek)
        have hekb : (ek == 1) = false := by simpa using hek
        have HEK := hide hek; clear hek
        go_wp2_with fail
        go_roundw
        case rel => exact ⟨k + 1, L, by omega, by go_num, HO.out.alloc _, by omega, by rw [Hid, HL2.out]; exact HL.out, HB.out.alloc HB.out.size _⟩
        case measure => simp [intOf]; omega
    · have hkn : k = m := by omega
      have hL : L = picksE ks := by rw [HL.out, List.take_of_length_le (by have := HM.out; omega)]
      obtain ⟨PA, pc, hv, hrp⟩ := HO.out.rd
      subst hv
      have HRP := hide hrp; have HLL := hide hL
      have hln : L.length ≤ 1048576 := by omega
      have HLN := hide hln
      clear hrp hL hln HL HO hll
      subst hkn
      go_wp2_with fail
      go_loopw [42] (fun i wq => ∃ j : Nat, j ≤ n ∧ i = .int .i64 j ∧ Hid (Below wr.heap.size wr wq)) (fun i _ => n - (intOf i).toNat)
      case atStart => exact ⟨0, Nat.zero_le _, rfl, Below.refl _ _⟩
      case round =>
        obtain ⟨j, hj, rfl, HBQ⟩ := hrel
        have hsq := HBQ.out.size
        have HB4 := hide (extW (extW HB3.out HB.out) HBQ.out)
        by_cases hlt : j < n
        · obtain ⟨ad, e0, hA, hz, c0, c1, c2, c3, c4, c5, c6, c7, c8⟩ := ev_at (HR3.out.below (extW HB.out HBQ.out)) (i := j) (by rw [List.length_map, ← HN.out]; exact hlt)
          obtain ⟨al, z, hAl, hzl, hcl⟩ := RdI.at_ (HR.out.below HB4.out) (i := j) (by rw [← HN.out]; exact hlt)
          rw [List.getElem?_map, hzl] at hz
          injection hz with hz
          subst hz; subst hA; subst hAl
          dsimp only [pickE] at c0 c1 c2 c3 c4 c5 c6 c7 c8
          rw [add_lit _ _ (by decide)] at c1 c2 c3 c4 c5 c6 c7 c8
          clear hzl
          go_wp2_with fail
          go_region_held3 (fun w' => Below wr.heap.size wr w' ∧ (∀ i, w'.cell? ⟨wr.heap.size, i, none⟩ = #[.int .i64 1, .int .i64 z, .int .i64 0, .int .i64 0, .int .i64 0, .bool false, .slice none 0 0, .int .i64 0, .slice none 0 0][i]?) ∧ w'.cell? (al.add j) = some (.int .i64 z))
            (first | assumption | (exact ⟨below_drewN (n := 1) (moreW (selfW _) _), fun i => Blk.cell ((Blk.new wr _ _).drewN 1) i, (World.cell?_alloc_lt wr _ _ (cell_lt hcl)).trans hcl⟩))
            (first | (go_at_call 22; refine (event_any _ z).mono ?_; rintro e w' ⟨rfl, hb⟩; have hS := held_step (by assumption) rfl hb; clear hb))
          go_wp2_with fail
          go_roundw
          case rel => exact ⟨j + 1, by omega, by go_num, extW HBQ.out (And.left (by assumption))⟩
          case measure => simp [intOf]; omega
        · have hjn : j = n := by omega
          subst hjn
          go_wp2_with fail
          refine (PK.out _ HB4.out).mono ?_
          rintro e w5 ⟨⟨B5, d5, rfl, hr5⟩, hb5⟩
          have hp5 := (HRP.out.below HBQ.out).below hb5
          have hl5 := HLN.out
          rw [HLL.out] at hp5 hl5
          have I5 := ints_any B5 PA d5 pc (picksE ks) (picksE ks) w5 (by omega) (by omega) hr5 hp5
          rw [beq_self_eq_true] at I5
          have HI5 := hide I5; have HB5 := hide (extW HB4.out hb5)
          clear I5 hp5 hl5 hr5 hb5
          rw [HLL.out]
          go_wp2_with fail
          refine HI5.out.mono ?_
          rintro e w6 ⟨rfl, hd6⟩
          have HB6 := hide (extW HB5.out hd6.extW)
          clear hd6
          go_wp2_with fail
          refine (awake29 _).mono ?_
          rintro e w7 ⟨rfl, hb7⟩
          have HB7 := hide (extW HB6.out hb7)
          clear hb7
          go_wp2_with fail
          go_ret
          exact ⟨rfl, HB7.out⟩
end
end Go.Proofs.Ytphjbdoephmgfaa
