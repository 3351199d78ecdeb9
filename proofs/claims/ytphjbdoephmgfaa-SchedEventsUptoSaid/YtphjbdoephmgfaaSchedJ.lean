/- The walks of sched.Round, stopgateref29.Round. -/
import Derived.Test.YtphjbdoephmgfaaSchedI
namespace Go.Proofs.Ytphjbdoephmgfaa
open Go.RowKit

/-- a number cut to 0 .. m, as the walk spells it: first the greater one, then the lesser one -/
theorem cut_two (p : Int) : ∃ M : Int, (if p < 0 then (0 : Int) else p) = M ∧ (if 16384 < M then (16384 : Int) else M) = (cutN 16384 p : Int) := by
  refine ⟨_, rfl, ?_⟩
  unfold cutN
  split <;> split <;> omega
/-- threads in turn -/
def roundL (T P : Nat) : List Int := if T = 0 then [] else (List.range P).map fun i : Nat => ((i % T : Nat) : Int)
theorem roundL_snoc {T P : Nat} (h : 0 < T) : roundL T (P + 1) = roundL T P ++ [((P % T : Nat) : Int)] := by
  unfold roundL
  rw [if_neg (by omega), if_neg (by omega), List.range_succ]
  simp
theorem roundL_len {T P : Nat} (h : 0 < T) : (roundL T P).length = P := by unfold roundL; rw [if_neg (by omega)]; simp

/-- the length of a slice in a slot: for a loop's measure -/
def lenOf : Value → Nat | .slice _ n _ => n | _ => 0

section
variable (w : World)
set_option maxHeartbeats 1000000 in
theorem round_any (m p : Int) :
    Calls Try.prog 23 #[.int .i64 m, .int .i64 p] w fun e w' => RetJ .i64 (roundL (cutN 64 m) (cutN 16384 p)) w e w' := by
  have HTH := hide (fun w => threads_any w m)
  have hT := cutN_le 64 m
  have hP := cutN_le 16384 p
  obtain ⟨M, e1, e2⟩ := cut_two p
  generalize cutN 64 m = T at hT HTH ⊢
  generalize cutN 16384 p = P at hP e2 ⊢
  rcases Nat.eq_zero_or_pos T with hT0 | hT0
  · have HT0 := hide hT0
    subst hT0
    go_enter Try.func23, Try.ntmps23
    go_wp2_with fail
    refine (HTH.out _).mono ?_
    rintro e w' ⟨rfl, rfl⟩
    go_wp2_with fail
    go_ret
    rw [show roundL 0 P = [] from rfl]
    exact (OwnI.nil w w.heap.size 3 .i64).retJ (selfW _)
  · have ht0 : ((T : Int) == 0) = false := by rw [beq_eq_false_iff_ne]; omega
    have ht1 : (T == 0) = false := by rw [beq_eq_false_iff_ne]; omega
    go_enter Try.func23, Try.ntmps23
    go_wp2_with fail
    refine (HTH.out _).mono ?_
    rintro e w' ⟨rfl, rfl⟩
    go_wp2_with fail
    go_loopw [5, 14] (fun o i wr => ∃ (k : Nat) (L : List Int), k ≤ P ∧ i = .int .i64 k ∧ Hid (OwnI wr w.heap.size 3 .i64 o L) ∧ L.length = k ∧ Hid (L = roundL T k) ∧ Below w.heap.size w wr) (fun _ i _ => P - (intOf i).toNat)
    case atStart => exact ⟨0, [], Nat.zero_le _, rfl, OwnI.nil _ _ _ _, rfl, by simp [Hid, roundL], selfW _⟩
    case round =>
      obtain ⟨k, L, hk, rfl, HO, hll, HL, hb⟩ := hrel
      have hsz := hb.size
      by_cases hlt : k < P
      · have hk2 : k < 16384 := by omega
        go_wp2_with fail
        refine (HTH.out _).mono ?_
        rintro e w' ⟨rfl, rfl⟩
        go_wp2_with (at_builtin; refine wpList_appI _ rfl _ _ 22 rfl w.heap.size 3 .i64 Try.underlying22 info_int _ L rfl (HO.out.alloc _) (some ⟨wr.heap.size, 0, none⟩) 1 1 [((k % T : Nat) : Int)] rfl rfl ?c1 ?c2 ?c3 ?_)
        case c1 => exact RdI.one _ .i64 _ _
        case c2 => (try simp); omega
        case c3 => (try simp); omega
        intro v' w2 hown' hgrow _
        have hb' := (HO.out.alloc _).below_step (moreW hb _) hgrow (by simp; omega) (Nat.le_refl _)
        have HO' := hide hown'
        clear hown' hgrow hb
        go_wp2_with fail
        go_roundw
        case rel => exact ⟨k + 1, _, by omega, by go_num, HO'.out, by simp; omega, by rw [Hid, roundL_snoc hT0, HL.out]; simp, hb'⟩
        case measure => simp [intOf]; omega
      · go_wp2_with fail
        go_ret
        rw [show P = k by omega, ← HL.out]
        exact HO.out.retJ hb

set_option maxHeartbeats 1000000 in
theorem rround_any (m p : Int) :
    Calls Try.prog 24 #[.int .i64 m, .int .i64 p] w fun e w' => RetJ .i64 (roundL (cutN 64 m) (cutN 16384 p)) w e w' := by
  have HTH := hide (fun w => rthreads_any w m)
  have HPH := hide (fun w => picks_any w p)
  have hT := cutN_le 64 m
  have hP := cutN_le 16384 p
  generalize cutN 64 m = T at hT HTH ⊢
  generalize cutN 16384 p = P at hP HPH ⊢
  rcases Nat.eq_zero_or_pos T with hT0 | hT0
  · subst hT0
    go_enter Try.func24, Try.ntmps24
    go_wp2_with fail
    refine wp_loop_rounds 1 ?_
    rw [rounds_succ]
    by_cases hP0 : 0 < P
    · go_wp2_with fail
      refine (HPH.out _).mono ?_
      rintro e w' ⟨rfl, rfl⟩
      go_wp2_with fail
      refine (HTH.out _).mono ?_
      rintro e w' ⟨rfl, rfl⟩
      go_wp2_with fail
      go_ret
      rw [show roundL 0 P = [] from rfl]
      exact (OwnI.nil w w.heap.size 3 .i64).retJ (selfW _)
    · go_wp2_with fail
      refine (HPH.out _).mono ?_
      rintro e w' ⟨rfl, rfl⟩
      go_wp2_with fail
      go_ret
      rw [show roundL 0 P = [] from rfl]
      exact (OwnI.nil w w.heap.size 3 .i64).retJ (selfW _)
  · have ht0 : decide ((0 : Int) < (T : Int)) = true := decide_eq_true (by omega)
    go_enter Try.func24, Try.ntmps24
    go_wp2_with fail
    go_loopw [5, 6] (fun o i wr => ∃ (k j : Nat) (o' : Option Addr) (c : Nat) (L : List Int), k ≤ P ∧ j < T ∧ o = .slice o' k c ∧ i = .int .i64 j ∧ Hid (OwnI wr w.heap.size 3 .i64 (.slice o' k c) L) ∧ Hid (L.length = k) ∧ Hid (j = k % T) ∧ Hid (L = roundL T k) ∧ Below w.heap.size w wr) (fun o _ _ => P - lenOf o)
    case atStart => exact ⟨0, 0, none, 0, [], Nat.zero_le _, hT0, rfl, rfl, OwnI.nil _ _ _ _, rfl, by simp [Hid], by simp [Hid, roundL], selfW _⟩
    case round =>
      obtain ⟨k, j, o', c, L, hk, hj, rfl, rfl, HO, HLL, HJ, HL, hb⟩ := hrel
      have hsz := hb.size
      by_cases hlt : k < P
      · have hk2 : k < 16384 := by omega
        go_wp2_with fail
        refine (HPH.out _).mono ?_
        rintro e w' ⟨rfl, rfl⟩
        go_wp2_with fail
        refine (HTH.out _).mono ?_
        rintro e w' ⟨rfl, rfl⟩
        go_wp2_with (at_builtin; refine wpList_appI _ rfl _ _ 22 rfl w.heap.size 3 .i64 Try.underlying22 info_int _ L rfl (HO.out.alloc _) (some ⟨wr.heap.size, 0, none⟩) 1 1 [(j : Int)] rfl rfl ?c1 ?c2 ?c3 ?_)
        case c1 => exact RdI.one _ .i64 _ _
        case c2 => have := HLL.out; (try simp); omega
        case c3 => (try simp); omega
        intro v' w2 hown' hgrow _
        have hb' := (HO.out.alloc _).below_step (moreW hb _) hgrow (by simp; omega) (Nat.le_refl _)
        have hlen : (L ++ [(j : Int)]).length = k + 1 := by have := HLL.out; simp; omega
        obtain ⟨A2, c2, hv2, _⟩ := hown'.rd
        rw [hlen] at hv2
        subst hv2
        have HO' := hide hown'; have HLEN := hide hlen
        have HL' : Hid (L ++ [(j : Int)] = roundL T (k + 1)) := by rw [Hid, roundL_snoc hT0, HL.out, HJ.out]
        clear hown' hgrow hb hlen
        by_cases hjT : j + 1 = T
        · have hjb : ((j : Int) + 1 == (T : Int)) = true := by rw [beq_iff_eq]; omega
          have HJT := hide hjT; clear hjT
          have HM : Hid (0 = (k + 1) % T) := by rw [Hid, Nat.add_mod, ← HJ.out, ← HJT.out]; rcases Nat.eq_zero_or_pos j with h | h; subst h; simp; rw [Nat.mod_eq_of_lt (a := 1) (by omega)]; simp
          go_wp2_with fail
          refine (HTH.out _).mono ?_
          rintro e w' ⟨rfl, rfl⟩
          go_wp2_with fail
          go_roundw
          case rel => exact ⟨k + 1, 0, _, _, _, by omega, hT0, rfl, rfl, HO'.out, HLEN.out, HM.out, HL'.out, hb'⟩
          case measure => simp [lenOf]; omega
        · have hjb : ((j : Int) + 1 == (T : Int)) = false := by rw [beq_eq_false_iff_ne]; omega
          have HM : Hid (j + 1 = (k + 1) % T) := by
            rw [Hid, Nat.add_mod, ← HJ.out]
            rcases Nat.lt_or_ge 1 T with h | h
            · rw [Nat.mod_eq_of_lt (a := 1) h, Nat.mod_eq_of_lt (by omega)]
            · omega
          have hjT' : j + 1 < T := by omega
          clear hjT
          go_wp2_with fail
          refine (HTH.out _).mono ?_
          rintro e w' ⟨rfl, rfl⟩
          go_wp2_with fail
          go_roundw
          case rel => exact ⟨k + 1, j + 1, _, _, _, by omega, hjT', rfl, by go_num, HO'.out, HLEN.out, HM.out, HL'.out, hb'⟩
          case measure => simp [lenOf]; omega
      · go_wp2_with fail
        refine (HPH.out _).mono ?_
        rintro e w' ⟨rfl, rfl⟩
        go_wp2_with fail
        go_ret
        rw [show P = k by omega, ← HL.out]
        exact HO.out.retJ hb
end
end Go.Proofs.Ytphjbdoephmgfaa
