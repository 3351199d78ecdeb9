/- The walks of the laws of stopgatelaw07: awake, EpochMoves, EpochTells, EpochStays. -/
import Derived.Test.YtmgjicenaanelaaEpochT
namespace Go.Proofs.Ytmgjicenaanelaa
open Go.RowKit

set_option maxHeartbeats 1000000 in
theorem awake07 (w : World) : Calls Try.prog 20 #[] w fun e w' => e = .returned (.bool true) ∧ Below w.heap.size w w' := by
  have h1 : withL [0, 0, 0] 1 (epW 4) = [0, 9, 0] := by decide
  have h2 : leastL [0, 9, 0] = some 4 := by decide
  have h3 : inN [0, 9, 0] = 1 := by decide
  have h4 : allB [0, 9, 0] 0 4 = true := by decide
  have h5 : allB [0, 9, 0] 0 5 = false := by decide
  have h6 : allB [0, 9, 0] 1 5 = true := by decide
  have h7 : nextG [0, 9, 0] 0 4 = 5 := by unfold nextG wrap64; decide
  have H1 := hide h1; have H2 := hide h2; have H3 := hide h3; have H4 := hide h4; have H5 := hide h5; have H6 := hide h6; have H7 := hide h7
  clear h1 h2 h3 h4 h5 h6 h7
  go_enter Try.func20, Try.ntmps20
  go_wp2_with fail
  refine (enter_any (some ⟨w.heap.size, 0, none⟩) 3 [0, 0, 0] _ 1 4 (by simp) (Rd.lit w [.int .u64 0, .int .u64 0, .int .u64 0] 27)).mono ?_
  rw [H1.out]
  rintro e w1 ⟨⟨B, d, rfl, hrd⟩, hb1⟩
  have hb : Below w.heap.size w w1 := ((Below.refl _ _).alloc (Nat.le_refl _) _).trans (hb1.mono (by simp))
  obtain ⟨ad, hB, hc⟩ := hrd 1 (.int .u64 9) rfl
  rw [add_lit _ _ (by decide)] at hc
  subst hB
  have HRD := hide hrd; clear hrd
  have L := hide (least_any (some ad) d [0, 9, 0] w1 (by simp) (by simp) HRD.out)
  have I := hide (in_any (some ad) d [0, 9, 0] w1 (by simp) HRD.out)
  have A1 := hide (all_any (some ad) d [0, 9, 0] 0 4 w1 (by simp) HRD.out)
  have A2 := hide (all_any (some ad) d [0, 9, 0] 0 5 w1 (by simp) HRD.out)
  have A3 := hide (all_any (some ad) d [0, 9, 0] 1 5 w1 (by simp) HRD.out)
  have N := hide (next_any (some ad) d [0, 9, 0] w1 0 4 (by simp) HRD.out)
  rw [H2.out] at L; rw [H3.out] at I; rw [H4.out] at A1; rw [H5.out] at A2; rw [H6.out] at A3; rw [H7.out] at N
  clear H1 H2 H3 H4 H5 H6 H7
  go_wp2_with fail
  refine L.out.mono ?_; rintro e w' ⟨rfl, rfl⟩
  go_wp2_with fail
  refine I.out.mono ?_; rintro e w' ⟨rfl, rfl⟩
  go_wp2_with fail
  refine A1.out.mono ?_; rintro e w' ⟨rfl, rfl⟩
  go_wp2_with fail
  refine A2.out.mono ?_; rintro e w' ⟨rfl, rfl⟩
  go_wp2_with fail
  refine A3.out.mono ?_; rintro e w' ⟨rfl, rfl⟩
  go_wp2_with fail
  refine N.out.mono ?_; rintro e w' ⟨rfl, rfl⟩
  go_wp2_with fail
  go_ret
  exact ⟨rfl, hb⟩

section
variable (A : Option Addr) (c : Nat) (zs : List Int) (w : World)

set_option maxHeartbeats 1000000 in
theorem moves_any (t g : Int) (hl : zs.length ≤ 17592186044415) (hr : RdI w .u64 A zs) :
    Calls Try.prog 3 #[.slice A zs.length c, .int .i64 t, .int .i64 g] w fun e w' => e = .returned (.bool true) ∧ Below w.heap.size w w' := by
  have HR := hide hr; clear hr
  have hla := withL_len zs t (epW g)
  have hlb := withL_len zs t 0
  have HSA := hide (show (withL zs t (epW g)).length ≤ 17592186044415 by omega)
  have HSB := hide (show (withL zs t 0).length ≤ 17592186044415 by omega)
  have HSZ := hide (show (([] : List Int).length + zs.length) * 8 ≤ 140737488355328 by simp; omega)
  clear hla hlb
  have HL := hide hl; clear hl
  go_enter Try.func3, Try.ntmps3
  go_wp2_with (at_builtin; refine wpList_appI _ rfl _ _ 22 rfl w.heap.size 27 .u64 Try.underlying22 info_u64 _ [] rfl (OwnI.empty _ _ _) A zs.length c zs rfl rfl (HR.out.alloc _) HSZ.out (by simp) ?_)
  intro v0 w0 hown hgrow _
  have hb0 := (OwnI.empty w 27 .u64).below_step ((Below.refl _ _).alloc (Nat.le_refl _) _) hgrow (by simp) (Nat.le_refl _)
  obtain ⟨A0, d0, rfl, hrd0⟩ := hown.rd
  clear hgrow hown
  have HR0 := hide hrd0; clear hrd0
  go_wp2_with fail
  refine (enter_any A c zs w0 t g HL.out (HR.out.below hb0)).mono ?_
  rintro e w1 ⟨⟨B, d, rfl, hrd1⟩, hb1⟩
  have HRB := hide hrd1; clear hrd1
  have hb01 := hb0.trans (hb1.mono hb0.size)
  go_wp2_with fail
  refine (leave_any A c zs w1 t HL.out (HR.out.below hb01)).mono ?_
  rintro e w2 ⟨⟨C, d', rfl, hrd2⟩, hb2⟩
  have HRC := hide hrd2; clear hrd2
  have hb02 := hb01.trans (hb2.mono hb01.size)
  go_wp2_with (go_at_call 17; refine (repoch_any _ _).mono ?_; rintro e w' ⟨rfl, rfl⟩)
  refine (rwith_any A c zs w2 t (epW g) HL.out (HR.out.below hb02)).mono ?_
  rintro e w3 ⟨⟨D, e1, rfl, hrd3⟩, hb3⟩
  have HRD := hide hrd3; clear hrd3
  have hb03 := extW hb02 hb3
  go_wp2_with fail
  refine (words_any B D d e1 _ _ w3 (by have := HSA.out; omega) (by have := HSA.out; omega) (HRB.out.below (extW hb2 hb3)) HRD.out).mono ?_
  rw [beq_self_eq_true]
  rintro e w4 ⟨rfl, hd4⟩
  have hb04 := extW hb03 hd4.extW
  go_wp2_with fail
  refine (rwith_any A c zs w4 t 0 HL.out (HR.out.below hb04)).mono ?_
  rintro e w5 ⟨⟨E, e2, rfl, hrd5⟩, hb5⟩
  have HRE := hide hrd5; clear hrd5
  have hb05 := extW hb04 hb5
  go_wp2_with fail
  refine (words_any C E d' e2 _ _ w5 (by have := HSB.out; omega) (by have := HSB.out; omega) (HRC.out.below (extW (extW hb3 hd4.extW) hb5)) HRE.out).mono ?_
  rw [beq_self_eq_true]
  rintro e w6 ⟨rfl, hd6⟩
  have hb06 := extW hb05 hd6.extW
  go_wp2_with fail
  refine (next_any A c zs w6 t g HL.out (HR.out.below hb06)).mono ?_
  rintro e w7 ⟨rfl, rfl⟩
  go_wp2_with fail
  refine (rnext_any A c zs w6 t g HL.out (HR.out.below hb06)).mono ?_
  rintro e w7 ⟨rfl, hd7⟩
  have hb07 := extW hb06 hd7.extW
  go_wp2_with fail
  refine (words_any A A0 c d0 _ _ w7 (by have := HL.out; omega) (by have := HL.out; omega) (HR.out.below hb07) (HR0.out.below (extW (extW (extW (extW (extW (extW (extW hb1 hb2) hb3) hd4.extW) hb5) hd6.extW) hd7.extW) (Below.refl _ _)))).mono ?_
  rw [beq_self_eq_true]
  rintro e w8 ⟨rfl, hd8⟩
  have hb08 := extW hb07 hd8.extW
  go_wp2_with fail
  refine (awake07 w8).mono ?_
  rintro e w9 ⟨rfl, hb9⟩
  go_wp2_with fail
  go_ret
  exact ⟨rfl, extW hb08 hb9⟩

set_option maxHeartbeats 1000000 in
theorem tells_any (me g : Int) (hl : zs.length ≤ 17592186044415) (hz : ∀ z ∈ zs, 0 ≤ z ∧ z < 18446744073709551616) (hr : RdI w .u64 A zs) :
    Calls Try.prog 5 #[.slice A zs.length c, .int .i64 me, .int .i64 g] w fun e w' => e = .returned (.bool true) ∧ Below w.heap.size w w' := by
  have HR := hide hr; clear hr
  have HL := hide hl; clear hl
  have HZ := hide hz; clear hz
  have hl2 : zs.length ≤ 17592186044416 := by have := HL.out; omega
  have HL2 := hide hl2; clear hl2
  have hll := lateTo_len zs g zs.length
  have HLL := hide (show (lateTo zs g zs.length).length ≤ 17592186044416 by have := HL.out; omega)
  clear hll
  go_enter Try.func5, Try.ntmps5
  go_wp2_with fail
  refine (least_any A c zs w HL2.out HZ.out HR.out).mono ?_
  rintro e w' ⟨rfl, rfl⟩
  go_wp2_with fail
  refine (rleast_any A c zs w HL2.out HZ.out HR.out).mono ?_
  rintro e w' ⟨rfl, rfl⟩
  go_wp2_with fail
  refine (all_any A c zs me g w HL2.out HR.out).mono ?_
  rintro e w' ⟨rfl, rfl⟩
  go_wp2_with fail
  refine (rall_any A c zs w me g HL2.out HR.out).mono ?_
  rintro e w1 ⟨rfl, hd1⟩
  have hb1 := hd1.extW
  go_wp2_with fail
  refine (in_any A c zs w1 HL2.out (HR.out.below hb1)).mono ?_
  rintro e w' ⟨rfl, rfl⟩
  go_wp2_with fail
  refine (rin_any A c zs w1 HL2.out (HR.out.below hb1)).mono ?_
  rintro e w' ⟨rfl, rfl⟩
  go_wp2_with fail
  refine (late_any A c zs w1 g HL.out (HR.out.below hb1)).mono ?_
  rintro e w2 ⟨⟨B, d, rfl, hrd2⟩, hb2⟩
  have HRB := hide hrd2; clear hrd2
  have hb02 := extW hb1 hb2
  go_wp2_with fail
  refine (rlate_any A c zs w2 g HL.out (HR.out.below hb02)).mono ?_
  rintro e w3 ⟨⟨C, d', rfl, hrd3⟩, hb3⟩
  have HRC := hide hrd3; clear hrd3
  have hb03 := extW hb02 hb3
  go_wp2_with fail
  refine (ints_any B C d d' _ _ w3 HLL.out HLL.out (HRB.out.below hb3) HRC.out).mono ?_
  rw [beq_self_eq_true]
  rintro e w4 ⟨rfl, hd4⟩
  have hb04 := extW hb03 hd4.extW
  go_wp2_with fail
  refine (awake07 w4).mono ?_
  rintro e w5 ⟨rfl, hb5⟩
  go_wp2_with fail
  go_ret
  exact ⟨rfl, extW hb04 hb5⟩
end
end Go.Proofs.Ytmgjicenaanelaa
