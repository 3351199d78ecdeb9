/- The walks of sched.Seeded, stopgateref29.Seeded. -/
import Derived.Test.YtphjbdoephmgfaaSchedJ
namespace Go.Proofs.Ytphjbdoephmgfaa
open Go.RowKit

/-- the seed behind so many steps -/
def seedN : Nat → Int → Int
  | 0, s => s
  | k + 1, s => IntKind.u64.wrap (IntKind.u64.wrap (seedN k s * 6364136223846793005) + 1442695040888963407)
/-- picks by a seed -/
def seedL (s : Int) (T P : Nat) : List Int := if T = 0 then [] else (List.range P).map fun i : Nat => seedN (i + 1) s / 4294967296 % (T : Int)
theorem seedL_snoc {s : Int} {T P : Nat} (h : 0 < T) : seedL s T (P + 1) = seedL s T P ++ [seedN (P + 1) s / 4294967296 % (T : Int)] := by
  unfold seedL
  rw [if_neg (by omega), if_neg (by omega), List.range_succ]
  simp

section
variable (w : World)
set_option maxHeartbeats 1000000 in
theorem seeded_any (s m p : Int) :
    Calls Try.prog 25 #[.int .u64 s, .int .i64 m, .int .i64 p] w fun e w' => RetI .i64 (seedL s (cutN 64 m) (cutN 16384 p)) w e w' := by
  have HTH := hide (fun w => threads_any w m)
  obtain ⟨M, e1, e2⟩ := cut_two p
  have hT := cutN_le 64 m
  have hP := cutN_le 16384 p
  generalize cutN 64 m = T at hT HTH ⊢
  generalize cutN 16384 p = P at hP e2 ⊢
  rcases Nat.eq_zero_or_pos T with hT0 | hT0
  · subst hT0
    go_enter Try.func25, Try.ntmps25
    go_wp2_with fail
    refine (HTH.out _).mono ?_
    rintro e w' ⟨rfl, rfl⟩
    go_wp2_with fail
    go_ret
    rw [show seedL s 0 P = [] from rfl]
    exact (OwnI.nil w w.heap.size 3 .i64).ret (selfW _)
  · have ht0 : ((T : Int) == 0) = false := by rw [beq_eq_false_iff_ne]; omega
    have ht1 : (T == 0) = false := by rw [beq_eq_false_iff_ne]; omega
    go_enter Try.func25, Try.ntmps25
    go_wp2_with fail
    refine (HTH.out _).mono ?_
    rintro e w' ⟨rfl, rfl⟩
    go_wp2_with fail
    go_loopw [0, 7, 15] (fun x o i wr => ∃ (k : Nat) (y : Int) (L : List Int), k ≤ P ∧ x = .int .u64 y ∧ i = .int .i64 k ∧ Hid (OwnI wr w.heap.size 3 .i64 o L) ∧ L.length = k ∧ Hid (y = seedN k s) ∧ Hid (L = seedL s T k) ∧ Below w.heap.size w wr) (fun _ _ i _ => P - (intOf i).toNat)
    case atStart => exact ⟨0, s, [], Nat.zero_le _, rfl, rfl, OwnI.nil _ _ _ _, rfl, rfl, by simp [Hid, seedL], selfW _⟩
    case round =>
      obtain ⟨k, x, L, hk, rfl, rfl, HO, hll, HY, HL, hb⟩ := hrel
      have hlen := hll
      have hsz := hb.size
      by_cases hlt : k < P
      · have hk2 : k < 16384 := by omega
        obtain ⟨y, g1, g0, g2⟩ : ∃ y, IntKind.u64.wrap (IntKind.u64.wrap (x * 6364136223846793005) + 1442695040888963407) = y ∧ 0 ≤ y ∧ y < 18446744073709551616 := ⟨_, rfl, by rw [IntKind.wrap_u64]; omega, by rw [IntKind.wrap_u64]; omega⟩
        obtain ⟨q, g3, g4, g5⟩ : ∃ q, y / 4294967296 = q ∧ 0 ≤ q ∧ y / 4294967296 = q := ⟨_, rfl, by omega, rfl⟩
        obtain ⟨r, g6, g7, g8, g9⟩ : ∃ r, q.tmod (T : Int) = r ∧ 0 ≤ r ∧ r < 64 ∧ q % (T : Int) = r := by
          have h1 := Int.emod_nonneg q (show (T : Int) ≠ 0 by omega)
          have h2 := Int.emod_lt_of_pos q (show 0 < (T : Int) by omega)
          exact ⟨_, rfl, by rw [Int.tmod_eq_emod_of_nonneg g4]; exact h1, by rw [Int.tmod_eq_emod_of_nonneg g4]; omega, (Int.tmod_eq_emod_of_nonneg g4).symm⟩
        have HYN : Hid (y = seedN (k + 1) s) := by rw [Hid, ← g1, HY.out]; rfl
        have HLN : Hid (L ++ [r] = seedL s T (k + 1)) := by rw [Hid, seedL_snoc hT0, ← HL.out, ← HYN.out, g3, g9]
        clear g2 g5
        go_wp2_with fail
        refine (HTH.out _).mono ?_
        rintro e w' ⟨rfl, rfl⟩
        go_wp2_with (at_builtin; refine wpList_appI _ rfl _ _ 22 rfl w.heap.size 3 .i64 Try.underlying22 info_int _ L rfl (HO.out.alloc _) (some ⟨wr.heap.size, 0, none⟩) 1 1 [r] rfl rfl ?c1 ?c2 ?c3 ?_)
        case c1 => exact RdI.one _ .i64 _ _
        case c2 => (try simp); omega
        case c3 => (try simp); omega
        intro v' w2 hown' hgrow _
        have hb' := (HO.out.alloc _).below_step (moreW hb _) hgrow (by simp; omega) (Nat.le_refl _)
        have HO' := hide hown'
        clear hown' hgrow hb g1 g3 g6 g9
        go_wp2_with fail
        go_roundw
        case rel => exact ⟨k + 1, y, _, by omega, rfl, by go_num, HO'.out, by simp; omega, HYN.out, HLN.out, hb'⟩
        case measure => simp [intOf]; omega
      · go_wp2_with fail
        go_ret
        rw [show P = k by omega, ← HL.out]
        exact HO.out.ret hb

set_option maxHeartbeats 1000000 in
theorem rseeded_any (s m p : Int) :
    Calls Try.prog 26 #[.int .u64 s, .int .i64 m, .int .i64 p] w fun e w' => RetI .i64 (seedL s (cutN 64 m) (cutN 16384 p)) w e w' := by
  have HTH := hide (fun w => rthreads_any w m)
  have HPH := hide (fun w => picks_any w p)
  have hT := cutN_le 64 m
  have hP := cutN_le 16384 p
  generalize cutN 64 m = T at hT HTH ⊢
  generalize cutN 16384 p = P at hP HPH ⊢
  rcases Nat.eq_zero_or_pos T with hT0 | hT0
  · subst hT0
    go_enter Try.func26, Try.ntmps26
    go_wp2_with fail
    refine wp_loop_rounds 1 ?_
    rw [rounds_succ]
    by_cases hP0 : 0 < P
    · go_wp2_with fail
      refine (HPH.out _).mono ?_
      rintro e w' ⟨rfl, rfl⟩
      go_wp2_with fail
      refine (HTH.out _).mono ?_
      rintro e w' ⟨rfl, rfl⟩
      go_wp2_with fail
      go_ret
      rw [show seedL s 0 P = [] from rfl]
      exact (OwnI.nil w w.heap.size 3 .i64).ret (selfW _)
    · go_wp2_with fail
      refine (HPH.out _).mono ?_
      rintro e w' ⟨rfl, rfl⟩
      go_wp2_with fail
      go_ret
      rw [show seedL s 0 P = [] from rfl]
      exact (OwnI.nil w w.heap.size 3 .i64).ret (selfW _)
  · have ht0 : ((T : Int) == 0) = false := by rw [beq_eq_false_iff_ne]; omega
    have ht1 : (T == 0) = false := by rw [beq_eq_false_iff_ne]; omega
    have ht2 : decide ((0 : Int) < (T : Int)) = true := decide_eq_true (by omega)
    go_enter Try.func26, Try.ntmps26
    go_wp2_with fail
    go_loopw [0, 7] (fun x o wr => ∃ (k : Nat) (y : Int) (o' : Option Addr) (c : Nat) (L : List Int), k ≤ P ∧ x = .int .u64 y ∧ o = .slice o' k c ∧ Hid (OwnI wr w.heap.size 3 .i64 (.slice o' k c) L) ∧ Hid (L.length = k) ∧ Hid (y = seedN k s) ∧ Hid (L = seedL s T k) ∧ Below w.heap.size w wr) (fun _ o _ => P - lenOf o)
    case atStart => exact ⟨0, s, none, 0, [], Nat.zero_le _, rfl, rfl, OwnI.nil _ _ _ _, rfl, rfl, by simp [Hid, seedL], selfW _⟩
    case round =>
      obtain ⟨k, x, o', c, L, hk, rfl, rfl, HO, HLL, HY, HL, hb⟩ := hrel
      have hsz := hb.size
      by_cases hlt : k < P
      · have hk2 : k < 16384 := by omega
        obtain ⟨y, g1, g0, g2⟩ : ∃ y, IntKind.u64.wrap (IntKind.u64.wrap (x * 6364136223846793005) + 1442695040888963407) = y ∧ 0 ≤ y ∧ y < 18446744073709551616 := ⟨_, rfl, by rw [IntKind.wrap_u64]; omega, by rw [IntKind.wrap_u64]; omega⟩
        obtain ⟨q, g3, g4, g5⟩ : ∃ q, y / 4294967296 = q ∧ 0 ≤ q ∧ IntKind.u64.wrap (y.tdiv 4294967296) = q := ⟨_, rfl, by omega, by rw [Int.tdiv_eq_ediv_of_nonneg g0, IntKind.wrap_u64]; omega⟩
        obtain ⟨r, g6, g7, g8, g9⟩ : ∃ r, q.tmod (T : Int) = r ∧ 0 ≤ r ∧ r < 64 ∧ q % (T : Int) = r := by
          have h1 := Int.emod_nonneg q (show (T : Int) ≠ 0 by omega)
          have h2 := Int.emod_lt_of_pos q (show 0 < (T : Int) by omega)
          exact ⟨_, rfl, by rw [Int.tmod_eq_emod_of_nonneg g4]; exact h1, by rw [Int.tmod_eq_emod_of_nonneg g4]; omega, (Int.tmod_eq_emod_of_nonneg g4).symm⟩
        have HYN : Hid (y = seedN (k + 1) s) := by rw [Hid, ← g1, HY.out]; rfl
        have HLN : Hid (L ++ [r] = seedL s T (k + 1)) := by rw [Hid, seedL_snoc hT0, ← HL.out, ← HYN.out, g3, g9]
        clear g2 g3
        go_wp2_with fail
        refine (HPH.out _).mono ?_
        rintro e w' ⟨rfl, rfl⟩
        go_wp2_with fail
        refine (HTH.out _).mono ?_
        rintro e w' ⟨rfl, rfl⟩
        go_wp2_with fail
        refine (HTH.out _).mono ?_
        rintro e w' ⟨rfl, rfl⟩
        go_wp2_with (at_builtin; refine wpList_appI _ rfl _ _ 22 rfl w.heap.size 3 .i64 Try.underlying22 info_int _ L rfl (HO.out.alloc _) (some ⟨wr.heap.size, 0, none⟩) 1 1 [r] rfl rfl ?c1 ?c2 ?c3 ?_)
        case c1 => exact RdI.one _ .i64 _ _
        case c2 => have := HLL.out; (try simp); omega
        case c3 => (try simp); omega
        intro v' w2 hown' hgrow _
        have hb' := (HO.out.alloc _).below_step (moreW hb _) hgrow (by simp; omega) (Nat.le_refl _)
        have hlen : (L ++ [r]).length = k + 1 := by have := HLL.out; simp; omega
        obtain ⟨A2, c2, hv2, _⟩ := hown'.rd
        rw [hlen] at hv2
        subst hv2
        have HO' := hide hown'; have HLEN := hide hlen
        clear hown' hgrow hb hlen g1 g5 g6 g9
        go_wp2_with fail
        go_roundw
        case rel => exact ⟨k + 1, y, _, _, _, by omega, rfl, rfl, HO'.out, HLEN.out, HYN.out, HLN.out, hb'⟩
        case measure => simp [lenOf]; omega
      · go_wp2_with fail
        refine (HPH.out _).mono ?_
        rintro e w' ⟨rfl, rfl⟩
        go_wp2_with fail
        go_ret
        rw [show P = k by omega, ← HL.out]
        exact HO.out.ret hb
end
end Go.Proofs.Ytphjbdoephmgfaa
