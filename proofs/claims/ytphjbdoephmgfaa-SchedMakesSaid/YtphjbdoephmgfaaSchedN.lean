/- The walks of sched.Bursts, stopgateref29.Bursts. -/
import Derived.Test.YtphjbdoephmgfaaSchedM
namespace Go.Proofs.Ytphjbdoephmgfaa
open Go.RowKit

/-- the first m picks, so many of a thread, round by round -/
def blL (Ln T m : Nat) : List Int := (List.range m).map fun i : Nat => ((i / Ln % T : Nat) : Int)
theorem blL_len (Ln T m : Nat) : (blL Ln T m).length = m := by simp [blL]
theorem burst_val {Ln T r t k m : Nat} (hk : k < Ln) (ht : t < T) (hm : m = (r * T + t) * Ln + k) : m / Ln % T = t := by
  subst hm
  rw [Nat.mul_comm, Nat.mul_add_div (by omega), Nat.div_eq_of_lt hk, Nat.add_zero, Nat.add_comm, Nat.add_mul_mod_self_right, Nat.mod_eq_of_lt ht]
theorem blL_snoc {Ln T r t k m : Nat} (hk : k < Ln) (ht : t < T) (hm : m = (r * T + t) * Ln + k) : blL Ln T (m + 1) = blL Ln T m ++ [(t : Int)] := by
  unfold blL
  rw [List.range_succ, List.map_append, List.map_cons, List.map_nil, burst_val hk ht hm]
theorem burst_next {Ln T r t m : Nat} (hm : m = (r * T + t) * Ln + Ln) : m = (r * T + (t + 1)) * Ln + 0 := by
  subst hm; rw [← Nat.add_assoc, Nat.add_mul (r * T + t) 1, Nat.one_mul]; rfl
theorem burst_round {Ln T r m : Nat} (hm : m = (r * T + T) * Ln + 0) : m = ((r + 1) * T + 0) * Ln + 0 := by
  subst hm; rw [Nat.add_mul r 1, Nat.one_mul]; rfl
theorem burst_lt {Ln T r t k m R : Nat} (hr : r < R) (ht : t < T) (hk : k < Ln) (hm : m = (r * T + t) * Ln + k) : m < R * T * Ln := by
  subst hm
  have h1 : (r * T + t) * Ln + k < (r * T + t + 1) * Ln := by rw [Nat.add_mul (r * T + t) 1, Nat.one_mul]; omega
  have h2 : r * T + t + 1 ≤ R * T := by
    have : (r + 1) * T ≤ R * T := Nat.mul_le_mul_right T (by omega)
    rw [Nat.add_mul, Nat.one_mul] at this
    omega
  exact Nat.lt_of_lt_of_le h1 (Nat.mul_le_mul_right Ln h2)

section
variable (w : World)
set_option maxHeartbeats 2000000 in
theorem bursts_any (m l p : Int) :
    Calls Try.prog 27 #[.int .i64 m, .int .i64 l, .int .i64 p] w fun e w' => RetI .i64 (blL (cutN 16384 l) (cutN 64 m) (min (cutN 16384 p * cutN 64 m * cutN 16384 l) 16384)) w e w' := by
  have HTH := hide (fun w => threads_any w m)
  obtain ⟨M1, e1, e2⟩ := cut_two l
  obtain ⟨M2, e3, e4⟩ := cut_two p
  have hT := cutN_le 64 m
  have hL := cutN_le 16384 l
  have hR := cutN_le 16384 p
  generalize cutN 64 m = T at hT HTH ⊢
  generalize cutN 16384 l = Ln at hL e2 ⊢
  generalize cutN 16384 p = R at hR e4 ⊢
  generalize hres : blL Ln T (min (R * T * Ln) 16384) = res
  have HRES := hide hres; clear hres
  · skip
    go_enter Try.func27, Try.ntmps27
    go_wp2_with fail
    go_loopw [7, 12] (fun o i wr => ∃ (r mm : Nat) (o' : Option Addr) (c : Nat) (L : List Int), r ≤ R ∧ mm ≤ 16384 ∧ i = .int .i64 r ∧ o = .slice o' mm c ∧ Hid (OwnI wr w.heap.size 3 .i64 (.slice o' mm c) L) ∧ Hid (L.length = mm) ∧ Hid (mm = (r * T + 0) * Ln + 0) ∧ Hid (L = blL Ln T mm) ∧ Below w.heap.size w wr) (fun _ i _ => R - (intOf i).toNat)
    case atStart => exact ⟨0, 0, none, 0, [], Nat.zero_le _, Nat.zero_le _, rfl, rfl, OwnI.nil _ _ _ _, rfl, by simp [Hid], by simp [Hid, blL], selfW _⟩
    case round =>
      obtain ⟨r, mm, o', c, L, hr, hmm, rfl, rfl, HO, HLL, HM, HL, hb⟩ := hrel
      by_cases hltr : r < R
      · go_wp2_with fail
        refine (HTH.out _).mono ?_
        rintro e w' ⟨rfl, rfl⟩
        go_wp2_with fail
        go_loopw [7, 16] (fun o i wr => ∃ (t mm : Nat) (o' : Option Addr) (c : Nat) (L : List Int), t ≤ T ∧ mm ≤ 16384 ∧ i = .int .i64 t ∧ o = .slice o' mm c ∧ Hid (OwnI wr w.heap.size 3 .i64 (.slice o' mm c) L) ∧ Hid (L.length = mm) ∧ Hid (mm = (r * T + t) * Ln + 0) ∧ Hid (L = blL Ln T mm) ∧ Below w.heap.size w wr) (fun _ i _ => T - (intOf i).toNat)
        case atStart => exact ⟨0, mm, o', c, L, Nat.zero_le _, hmm, rfl, rfl, HO.out, HLL.out, HM.out, HL.out, hb⟩
        case round =>
          clear hb
          obtain ⟨t, mm, o', c, L, ht, hmm, rfl, rfl, HO, HLL, HM, HL, hb⟩ := hrel
          by_cases hltt : t < T
          · go_wp2_with fail
            go_loopw [7, 22] (fun o i wr => ∃ (k mm : Nat) (o' : Option Addr) (c : Nat) (L : List Int), k ≤ Ln ∧ mm ≤ 16384 ∧ i = .int .i64 k ∧ o = .slice o' mm c ∧ Hid (OwnI wr w.heap.size 3 .i64 (.slice o' mm c) L) ∧ Hid (L.length = mm) ∧ Hid (mm = (r * T + t) * Ln + k) ∧ Hid (L = blL Ln T mm) ∧ Below w.heap.size w wr) (fun _ i _ => Ln - (intOf i).toNat)
            case atStart => exact ⟨0, mm, o', c, L, Nat.zero_le _, hmm, rfl, rfl, HO.out, HLL.out, HM.out, HL.out, hb⟩
            case round =>
              clear hb
              obtain ⟨k, mm, o', c, L, hk, hmm, rfl, rfl, HO, HLL, HM, HL, hb⟩ := hrel
              have hsz := hb.size
              by_cases hltk : k < Ln
              · by_cases hfull : mm = 16384
                · have hm16 : ((mm : Int) == 16384) = true := by rw [beq_iff_eq]; omega
                  have hm17 : (mm == 16384) = true := by rw [beq_iff_eq]; omega
                  have hlen := hide (burst_lt hltr hltt hltk HM.out)
                  have HF := hide hfull; clear hfull
                  go_wp2_with fail
                  go_ret
                  have e1 : L = res := by rw [← HRES.out, HL.out]; congr 1; have := hlen.out; have := HF.out; omega
                  rw [← e1]
                  exact HO.out.ret hb
                · have hm16 : ((mm : Int) == 16384) = false := by rw [beq_eq_false_iff_ne]; omega
                  have hm17 : (mm == 16384) = false := by rw [beq_eq_false_iff_ne]; omega
                  have hmm2 : mm < 16384 := by omega
                  have HLN : Hid (L ++ [(t : Int)] = blL Ln T (mm + 1)) := by rw [Hid, blL_snoc hltk hltt HM.out, HL.out]
                  have HMN : Hid (mm + 1 = (r * T + t) * Ln + (k + 1)) := by rw [Hid, ← Nat.add_assoc]; exact congrArg (· + 1) HM.out
                  clear hfull
                  go_wp2_with (at_builtin; refine wpList_appI _ rfl _ _ 22 rfl w.heap.size 3 .i64 Try.underlying22 info_int _ L rfl (HO.out.alloc _) (some ⟨wr.heap.size, 0, none⟩) 1 1 [(t : Int)] rfl rfl ?c1 ?c2 ?c3 ?_)
                  case c1 => exact RdI.one _ .i64 _ _
                  case c2 => have := HLL.out; (try simp); omega
                  case c3 => (try simp); omega
                  intro v' w2 hown' hgrow _
                  have hb' := (HO.out.alloc _).below_step (moreW hb _) hgrow (by simp; omega) (Nat.le_refl _)
                  have hlen : (L ++ [(t : Int)]).length = mm + 1 := by have := HLL.out; simp; omega
                  obtain ⟨A2, c2, hv2, _⟩ := hown'.rd
                  rw [hlen] at hv2
                  subst hv2
                  have HO' := hide hown'; have HLEN := hide hlen
                  clear hown' hgrow hb hlen
                  go_wp2_with fail
                  go_roundw
                  case rel => exact ⟨k + 1, mm + 1, _, _, _, by omega, by omega, by go_num, rfl, HO'.out, HLEN.out, HMN.out, HLN.out, hb'⟩
                  case measure => simp [intOf]; omega
              · have HMN : Hid (mm = (r * T + (t + 1)) * Ln + 0) := burst_next (by have := HM.out; rwa [show k = Ln by omega] at this)
                go_wp2_with fail
                go_roundw
                case rel => exact ⟨t + 1, mm, _, _, _, by omega, hmm, by go_num, rfl, HO.out, HLL.out, HMN.out, HL.out, hb⟩
                case measure => simp [intOf]; omega
          · have HMN : Hid (mm = ((r + 1) * T + 0) * Ln + 0) := burst_round (by have := HM.out; rwa [show t = T by omega] at this)
            go_wp2_with fail
            go_roundw
            case rel => exact ⟨r + 1, mm, _, _, _, by omega, hmm, by go_num, rfl, HO.out, HLL.out, HMN.out, HL.out, hb⟩
            case measure => simp [intOf]; omega
      · have HE : Hid (L = res) := by
          rw [Hid, ← HRES.out, HL.out]
          have h1 := HM.out
          rw [show r = R by omega, Nat.add_zero, Nat.add_zero] at h1
          rw [← h1, Nat.min_eq_left hmm]
        go_wp2_with fail
        go_ret
        rw [← HE.out]
        exact HO.out.ret hb

set_option maxHeartbeats 2000000 in
theorem rbursts_any (m l p : Int) :
    Calls Try.prog 28 #[.int .i64 m, .int .i64 l, .int .i64 p] w fun e w' => RetI .i64 (blL (cutN 16384 l) (cutN 64 m) (min (cutN 16384 p * cutN 64 m * cutN 16384 l) 16384)) w e w' := by
  have HTH := hide (fun w => rthreads_any w m)
  have HPL := hide (fun w => picks_any w l)
  have HPR := hide (fun w => picks_any w p)
  have hT := cutN_le 64 m
  have hL := cutN_le 16384 l
  have hR := cutN_le 16384 p
  generalize cutN 64 m = T at hT HTH ⊢
  generalize cutN 16384 l = Ln at hL HPL ⊢
  generalize cutN 16384 p = R at hR HPR ⊢
  generalize hres : blL Ln T (min (R * T * Ln) 16384) = res
  have HRES := hide hres; clear hres
  rcases Nat.eq_zero_or_pos T with hT0 | hT0
  · have hr0 : res = [] := by rw [← HRES.out, hT0]; simp [blL]
    subst hr0
    subst hT0
    go_enter Try.func28, Try.ntmps28
    go_wp2_with fail
    refine (HTH.out _).mono ?_
    rintro e w' ⟨rfl, rfl⟩
    go_wp2_with fail
    go_ret
    exact (OwnI.nil w w.heap.size 3 .i64).ret (selfW _)
  have ht0 : ((T : Int) == 0) = false := by rw [beq_eq_false_iff_ne]; omega
  have ht1 : (T == 0) = false := by rw [beq_eq_false_iff_ne]; omega
  rcases Nat.eq_zero_or_pos Ln with hL0 | hL0
  · have hr0 : res = [] := by rw [← HRES.out, hL0]; simp [blL]
    subst hr0
    subst hL0
    go_enter Try.func28, Try.ntmps28
    go_wp2_with fail
    refine (HTH.out _).mono ?_
    rintro e w' ⟨rfl, rfl⟩
    go_wp2_with fail
    refine (HPL.out _).mono ?_
    rintro e w' ⟨rfl, rfl⟩
    go_wp2_with fail
    go_ret
    exact (OwnI.nil w w.heap.size 3 .i64).ret (selfW _)
  have hl0 : ((Ln : Int) == 0) = false := by rw [beq_eq_false_iff_ne]; omega
  have hl1 : (Ln == 0) = false := by rw [beq_eq_false_iff_ne]; omega
  · skip
    go_enter Try.func28, Try.ntmps28
    go_wp2_with fail
    refine (HTH.out _).mono ?_
    rintro e w' ⟨rfl, rfl⟩
    go_wp2_with fail
    refine (HPL.out _).mono ?_
    rintro e w' ⟨rfl, rfl⟩
    go_wp2_with fail
    go_loopw [7, 8] (fun o i wr => ∃ (r mm : Nat) (o' : Option Addr) (c : Nat) (L : List Int), r ≤ R ∧ mm ≤ 16384 ∧ i = .int .i64 r ∧ o = .slice o' mm c ∧ Hid (OwnI wr w.heap.size 3 .i64 (.slice o' mm c) L) ∧ Hid (L.length = mm) ∧ Hid (mm = (r * T + 0) * Ln + 0) ∧ Hid (L = blL Ln T mm) ∧ Below w.heap.size w wr) (fun _ i _ => R - (intOf i).toNat)
    case atStart => exact ⟨0, 0, none, 0, [], Nat.zero_le _, Nat.zero_le _, rfl, rfl, OwnI.nil _ _ _ _, rfl, by simp [Hid], by simp [Hid, blL], selfW _⟩
    case round =>
      obtain ⟨r, mm, o', c, L, hr, hmm, rfl, rfl, HO, HLL, HM, HL, hb⟩ := hrel
      by_cases hltr : r < R
      · go_wp2_with fail
        refine (HPR.out _).mono ?_
        rintro e w' ⟨rfl, rfl⟩
        go_wp2_with fail
        go_loopw [7, 9] (fun o i wr => ∃ (t mm : Nat) (o' : Option Addr) (c : Nat) (L : List Int), t ≤ T ∧ mm ≤ 16384 ∧ i = .int .i64 t ∧ o = .slice o' mm c ∧ Hid (OwnI wr w.heap.size 3 .i64 (.slice o' mm c) L) ∧ Hid (L.length = mm) ∧ Hid (mm = (r * T + t) * Ln + 0) ∧ Hid (L = blL Ln T mm) ∧ Below w.heap.size w wr) (fun _ i _ => T - (intOf i).toNat)
        case atStart => exact ⟨0, mm, o', c, L, Nat.zero_le _, hmm, rfl, rfl, HO.out, HLL.out, HM.out, HL.out, hb⟩
        case round =>
          clear hb
          obtain ⟨t, mm, o', c, L, ht, hmm, rfl, rfl, HO, HLL, HM, HL, hb⟩ := hrel
          by_cases hltt : t < T
          · go_wp2_with fail
            refine (HTH.out _).mono ?_
            rintro e w' ⟨rfl, rfl⟩
            go_wp2_with fail
            go_loopw [7, 10] (fun o i wr => ∃ (k mm : Nat) (o' : Option Addr) (c : Nat) (L : List Int), k ≤ Ln ∧ mm ≤ 16384 ∧ i = .int .i64 k ∧ o = .slice o' mm c ∧ Hid (OwnI wr w.heap.size 3 .i64 (.slice o' mm c) L) ∧ Hid (L.length = mm) ∧ Hid (mm = (r * T + t) * Ln + k) ∧ Hid (L = blL Ln T mm) ∧ Below w.heap.size w wr) (fun _ i _ => Ln - (intOf i).toNat)
            case atStart => exact ⟨0, mm, o', c, L, Nat.zero_le _, hmm, rfl, rfl, HO.out, HLL.out, HM.out, HL.out, hb⟩
            case round =>
              clear hb
              obtain ⟨k, mm, o', c, L, hk, hmm, rfl, rfl, HO, HLL, HM, HL, hb⟩ := hrel
              have hsz := hb.size
              by_cases hltk : k < Ln
              · by_cases hfull : mm = 16384
                · have hm16 : ((mm : Int) == 16384) = true := by rw [beq_iff_eq]; omega
                  have hm17 : (mm == 16384) = true := by rw [beq_iff_eq]; omega
                  have hlen := hide (burst_lt hltr hltt hltk HM.out)
                  have HF := hide hfull; clear hfull
                  go_wp2_with fail
                  refine (HPL.out _).mono ?_
                  rintro e w' ⟨rfl, rfl⟩
                  go_wp2_with fail
                  go_ret
                  have e1 : L = res := by rw [← HRES.out, HL.out]; congr 1; have := hlen.out; have := HF.out; omega
                  rw [← e1]
                  exact HO.out.ret hb
                · have hm16 : ((mm : Int) == 16384) = false := by rw [beq_eq_false_iff_ne]; omega
                  have hm17 : (mm == 16384) = false := by rw [beq_eq_false_iff_ne]; omega
                  have hmm2 : mm < 16384 := by omega
                  have HLN : Hid (L ++ [(t : Int)] = blL Ln T (mm + 1)) := by rw [Hid, blL_snoc hltk hltt HM.out, HL.out]
                  have HMN : Hid (mm + 1 = (r * T + t) * Ln + (k + 1)) := by rw [Hid, ← Nat.add_assoc]; exact congrArg (· + 1) HM.out
                  clear hfull
                  go_wp2_with fail
                  refine (HPL.out _).mono ?_
                  rintro e w' ⟨rfl, rfl⟩
                  go_wp2_with (at_builtin; refine wpList_appI _ rfl _ _ 22 rfl w.heap.size 3 .i64 Try.underlying22 info_int _ L rfl (HO.out.alloc _) (some ⟨wr.heap.size, 0, none⟩) 1 1 [(t : Int)] rfl rfl ?c1 ?c2 ?c3 ?_)
                  case c1 => exact RdI.one _ .i64 _ _
                  case c2 => have := HLL.out; (try simp); omega
                  case c3 => (try simp); omega
                  intro v' w2 hown' hgrow _
                  have hb' := (HO.out.alloc _).below_step (moreW hb _) hgrow (by simp; omega) (Nat.le_refl _)
                  have hlen : (L ++ [(t : Int)]).length = mm + 1 := by have := HLL.out; simp; omega
                  obtain ⟨A2, c2, hv2, _⟩ := hown'.rd
                  rw [hlen] at hv2
                  subst hv2
                  have HO' := hide hown'; have HLEN := hide hlen
                  clear hown' hgrow hb hlen
                  go_wp2_with fail
                  go_roundw
                  case rel => exact ⟨k + 1, mm + 1, _, _, _, by omega, by omega, by go_num, rfl, HO'.out, HLEN.out, HMN.out, HLN.out, hb'⟩
                  case measure => simp [intOf]; omega
              · have HMN : Hid (mm = (r * T + (t + 1)) * Ln + 0) := burst_next (by have := HM.out; rwa [show k = Ln by omega] at this)
                go_wp2_with fail
                refine (HPL.out _).mono ?_
                rintro e w' ⟨rfl, rfl⟩
                go_wp2_with fail
                go_roundw
                case rel => exact ⟨t + 1, mm, _, _, _, by omega, hmm, by go_num, rfl, HO.out, HLL.out, HMN.out, HL.out, hb⟩
                case measure => simp [intOf]; omega
          · have HMN : Hid (mm = ((r + 1) * T + 0) * Ln + 0) := burst_round (by have := HM.out; rwa [show t = T by omega] at this)
            go_wp2_with fail
            refine (HTH.out _).mono ?_
            rintro e w' ⟨rfl, rfl⟩
            go_wp2_with fail
            go_roundw
            case rel => exact ⟨r + 1, mm, _, _, _, by omega, hmm, by go_num, rfl, HO.out, HLL.out, HMN.out, HL.out, hb⟩
            case measure => simp [intOf]; omega
      · have HE : Hid (L = res) := by
          rw [Hid, ← HRES.out, HL.out]
          have h1 := HM.out
          rw [show r = R by omega, Nat.add_zero, Nat.add_zero] at h1
          rw [← h1, Nat.min_eq_left hmm]
        go_wp2_with fail
        refine (HPR.out _).mono ?_
        rintro e w' ⟨rfl, rfl⟩
        go_wp2_with fail
        go_ret
        rw [← HE.out]
        exact HO.out.ret hb
end
end Go.Proofs.Ytphjbdoephmgfaa
