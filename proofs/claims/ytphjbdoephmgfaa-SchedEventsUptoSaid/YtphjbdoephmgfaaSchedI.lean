/- The walks of sched.Least, stopgateref29.Least, stopgateref29.Fair. -/
import Derived.Test.YtphjbdoephmgfaaSchedH
namespace Go.Proofs.Ytphjbdoephmgfaa
open Go.RowKit

theorem run_sliceBoth {P : Program} (t e : TypeId) (ht : P.underlying t = some (.slice e)) (hi : (P.info? e).map (fun i => (i.zero, i.size, i.bytes)) = some (some (.int .i64 0), 1, 8)) (A : Option Addr) (n c a b : Nat) (X Y : Int) (hX : X = (a : Int)) (hY : Y = (b : Int)) (hab : a ≤ b) (hm : b ≤ c) (w : World) :
    (Instr.slice t (.slice A n c) (some (.int .i64 X)) (some (.int .i64 Y)) none).run P w = .ok (.slice (dropA A c a) (b - a) (c - a)) w := by
  subst hX; subst hY
  obtain ⟨i, hi0, _, hi1, _⟩ := info_parts hi
  have h0 : 0 ≤ (a : Int) ∧ (a : Int) ≤ (b : Int) := by omega
  have h1 : 0 ≤ (b : Int) ∧ (b : Int) ≤ (c : Int) := by omega
  simp [Instr.slice, Instr.sliceBounds, run_underlying ht, sizeOf, typeInfo, hi0, run_sliceBound_if, h1, hi1, dropA, hab]

theorem fairB_same {zs : List Int} {T k : Nat} (h1 : ∀ j : Nat, j < k → fairB zs T j = false) (h2 : fairB zs T k = true) : k = mg zs T + 1 := by
  have a : mg zs T < k := by simpa [fairB] using h2
  rcases Nat.lt_or_ge (mg zs T + 1) k with h | h
  · have := h1 _ h
    simp [fairB] at this
    omega
  · omega

section
variable (w : World)
set_option maxHeartbeats 1000000 in
theorem least_any (A : Option Addr) (c : Nat) (zs : List Int) (m : Int) (hl : zs.length ≤ 17592186044416) (hr : RdI w .i64 A zs) :
    Calls Try.prog 18 #[.slice A zs.length c, .int .i64 m] w fun e w' => e = .returned (.int .i64 ((mg zs (cutN 64 m) : Int) + 1)) ∧ Below w.heap.size w w' := by
  have HF := hide (fun w1 (h : Below w.heap.size w w1) (v : Int) (hv : v ≤ 9223372036854775807) => fair_any w1 A c zs m v hl hv (hr.below h))
  have HM := hide (mg_le zs (cutN 64 m))
  obtain ⟨n, hn⟩ : ∃ n, n = zs.length := ⟨_, rfl⟩
  rw [← hn] at hl HF HM ⊢
  clear hn hr
  generalize cutN 64 m = T at HF HM ⊢
  generalize hv : (mg zs T : Int) + 1 = v
  have HV := hide hv; clear hv
  go_enter Try.func18, Try.ntmps18
  go_wp2_with fail
  go_loopw [5] (fun i wr => ∃ k : Nat, 1 ≤ k ∧ k ≤ n + 1 ∧ i = .int .i64 k ∧ Hid (Below w.heap.size w wr) ∧ Hid (∀ j : Nat, j < k → fairB zs T j = false)) (fun i _ => n + 1 - (intOf i).toNat)
  case atStart => exact ⟨1, Nat.le_refl _, by omega, rfl, selfW _, fun j hj => fairB_low (by omega)⟩
  case round =>
    obtain ⟨k, hk0, hk, rfl, HB, HJ⟩ := hrel
    by_cases hlt : k ≤ n
    · have HC := hide (HF.out wr HB.out k (by omega))
      rcases hf : fairB zs T k with _ | _
      · rw [hf] at HC
        have HFK := hide hf; clear hf
        go_wp2_with fail
        refine HC.out.mono ?_
        rintro e w1 ⟨rfl, hb1⟩
        have HB1 := hide (extW HB.out hb1)
        clear hb1
        go_wp2_with fail
        go_roundw
        case rel =>
          refine ⟨k + 1, by omega, by omega, by go_num, HB1.out, fun j hj => ?_⟩
          by_cases hjk : j = k
          · rw [hjk]; exact HFK.out
          · exact HJ.out j (by omega)
        case measure => simp [intOf]; omega
      · rw [hf] at HC
        have HK := hide (fairB_same HJ.out hf)
        clear hf
        go_wp2_with fail
        refine HC.out.mono ?_
        rintro e w1 ⟨rfl, hb1⟩
        have HB1 := hide (extW HB.out hb1)
        clear hb1
        go_wp2_with fail
        go_ret
        exact ⟨ret_int (by have := HK.out; have := HV.out; omega), HB1.out⟩
    · go_wp2_with fail
      go_ret
      refine ⟨ret_int ?_, HB.out⟩
      have h1 := HJ.out n (by omega)
      have h2 := HM.out
      have h3 := HV.out
      simp [fairB] at h1
      omega

theorem mgT_first (zs : List Int) (t : Int) : mgT zs t 0 = 0 := rfl
set_option maxHeartbeats 1000000 in
theorem rleast_any (A : Option Addr) (c : Nat) (zs : List Int) (m : Int) (hl : zs.length ≤ 17592186044416) (hr : RdI w .i64 A zs) :
    Calls Try.prog 19 #[.slice A zs.length c, .int .i64 m] w fun e w' => e = .returned (.int .i64 ((mg zs (cutN 64 m) : Int) + 1)) ∧ w = w' := by
  have HM := hide (mg_le zs)
  have HG := hide (gapL_le zs)
  have HMT := hide (mgT_le zs)
  obtain ⟨n, hn⟩ : ∃ n, n = zs.length := ⟨_, rfl⟩
  rw [← hn] at hl HM HG HMT ⊢
  have HN := hide hn; clear hn
  have HR := hide hr; clear hr
  have HTH := hide (fun w => rthreads_any w m)
  have hT := cutN_le 64 m
  generalize cutN 64 m = T at hT HTH ⊢
  generalize hv : (mg zs T : Int) + 1 = v
  have HV := hide hv; clear hv
  go_enter Try.func19, Try.ntmps19
  go_wp2_with fail
  go_loop [5, 6] (fun b t => ∃ (k : Nat) (x : Int), k ≤ T ∧ t = .int .i64 k ∧ b = .int .i64 x ∧ 1 ≤ x ∧ x ≤ n + 1 ∧ Hid (x = (mg zs k : Int) + 1)) (fun _ t => T - (intOf t).toNat)
  case atStart => exact ⟨0, 1, Nat.zero_le _, rfl, rfl, Int.le_refl _, by omega, rfl⟩
  case round =>
    obtain ⟨k, x, hk, rfl, rfl, hx1, hx2, HX⟩ := hrel
    by_cases hlt : k < T
    · go_wp2_with fail
      refine (HTH.out _).mono ?_
      rintro e w' ⟨rfl, rfl⟩
      go_wp2_with fail
      go_loop [5, 7, 18] (fun b g i => ∃ (j : Nat) (y gg : Int), j ≤ n ∧ i = .int .i64 j ∧ b = .int .i64 y ∧ g = .int .i64 gg ∧ 0 ≤ gg ∧ gg ≤ j ∧ 1 ≤ y ∧ y ≤ n + 1 ∧ Hid (gg = (gapL (zs.take j) k : Nat)) ∧ Hid (y = (max (mg zs k) (mgT zs k j) : Nat) + 1)) (fun _ _ i => n - (intOf i).toNat)
      case atStart => exact ⟨0, x, 0, Nat.zero_le _, rfl, rfl, rfl, Int.le_refl _, by omega, hx1, hx2, by simp [Hid, gapL], by rw [Hid, HX.out]; simp [mgT]⟩
      case round =>
        obtain ⟨j, y, gg, hj, rfl, rfl, rfl, hg0, hg1, hy0, hy1, HGG, HY⟩ := hrel
        by_cases hlt2 : j < n
        · obtain ⟨ad, z, hA, hz, hc⟩ := RdI.at_ HR.out (by rw [← HN.out]; exact hlt2)
          subst hA
          have HZ := hide hz; clear hz
          have hgs := gapL_snoc HZ.out (k : Int)
          by_cases hzk : z = (k : Int)
          · subst hzk
            rw [if_pos rfl] at hgs
            have HGS := hide hgs; clear hgs
            by_cases hy2 : y < 1
            · omega
            · go_wp2_with fail
              all_goals
                go_round
                case rel =>
                  refine ⟨j + 1, y, 0, by omega, by go_num, ?_, rfl, Int.le_refl _, by omega, hy0, hy1, by rw [Hid, HGS.out]; rfl, ?_⟩
                  · first | rfl | (exact val_int (by omega))
                  · rw [Hid, HY.out]; simp only [mgT, HGS.out]; omega
                case measure => simp [intOf]; omega
          · rw [if_neg hzk] at hgs
            have HGS := hide hgs; clear hgs
            have hzb : (z == (k : Int)) = false := by simpa using hzk
            have HE : Hid ((gg + 1) = (gapL (zs.take (j + 1)) k : Nat)) := by rw [Hid, HGS.out, HGG.out]; simp
            clear hzk
            by_cases hy2 : y < gg + 1 + 1
            · go_wp2_with fail
              all_goals
                go_round
                case rel =>
                  refine ⟨j + 1, gg + 2, gg + 1, by omega, by go_num, ?_, by go_num, by omega, by omega, by omega, by omega, HE.out, ?_⟩
                  · first | rfl | (exact val_int (by omega))
                  · have h1 := HE.out; have h2 := HY.out; rw [Hid]; simp only [mgT]; omega
                case measure => simp [intOf]; omega
            · go_wp2_with fail
              all_goals
                go_round
                case rel =>
                  refine ⟨j + 1, y, gg + 1, by omega, by go_num, ?_, by go_num, by omega, by omega, by omega, by omega, HE.out, ?_⟩
                  · first | rfl | (exact val_int (by omega))
                  · have h1 := HE.out; have h2 := HY.out; rw [Hid]; simp only [mgT]; omega
                case measure => simp [intOf]; omega
        · go_wp2_with fail
          go_round
          case rel => exact ⟨k + 1, y, by omega, by go_num, rfl, hy0, hy1, by rw [Hid, HY.out]; simp only [mg]; rw [← HN.out, show j = n by omega]⟩
          case measure => simp [intOf]; omega
    · go_wp2_with fail
      refine (HTH.out _).mono ?_
      rintro e w' ⟨rfl, rfl⟩
      have hkT : k = T := by omega
      have HE : Hid (x = v) := by rw [Hid, HX.out, ← HV.out, hkT]
      clear hkT
      by_cases hx : (n : Int) < x
      · go_wp2_with fail
        go_ret
        exact ⟨ret_int (by have := HE.out; omega), rfl⟩
      · go_wp2_with fail
        go_ret
        exact ⟨ret_int HE.out, rfl⟩

set_option maxHeartbeats 1000000 in
theorem rfair_any (A : Option Addr) (c : Nat) (zs : List Int) (m v : Int) (hl : zs.length ≤ 17592186044416) (hcap : zs.length ≤ c) (hv : v ≤ 9223372036854775807) (hr : RdI w .i64 A zs) :
    Calls Try.prog 17 #[.slice A zs.length c, .int .i64 m, .int .i64 v] w fun e w' => e = .returned (.bool (fairB zs (cutN 64 m) v)) ∧ w = w' := by
  have HTH := hide (fun w => rthreads_any w m)
  have hT := cutN_le 64 m
  generalize cutN 64 m = T at hT HTH ⊢
  obtain ⟨n, hn⟩ : ∃ n, n = zs.length := ⟨_, rfl⟩
  have HFROM := hide (fun k => hr.from hcap k)
  rw [← hn] at hl hcap ⊢
  have HN := hide hn; clear hn hr
  generalize hq : fairB zs T v = q
  have HQ := hide hq; clear hq
  by_cases hv1 : v < 1
  · go_enter Try.func17, Try.ntmps17
    go_wp2_with fail
    go_ret
    exact ⟨ret_bool (by rw [← HQ.out]; exact (fairB_low hv1).symm), rfl⟩
  · have hv0 : 1 ≤ v := by omega
    obtain ⟨W, hW⟩ : ∃ W : Nat, (W : Int) = v := ⟨v.toNat, by omega⟩
    subst hW
    have hb1 : decide ((W : Int) < 1) = false := decide_eq_false (by omega)
    have hb2 : decide (W < 1) = false := decide_eq_false (by omega)
    have hb3 : (W == 0) = false := by rw [beq_eq_false_iff_ne]; omega
    clear hv1
    go_enter Try.func17, Try.ntmps17
    go_wp2_with fail
    go_loop [7] (fun i => ∃ k : Nat, k ≤ n + 1 ∧ i = .int .i64 k ∧ Hid (∀ f : Nat, f < k → f + W ≤ n → ∀ t : Nat, t < T → ∃ (j : Nat) (z : Int), f ≤ j ∧ j < f + W ∧ zs[j]? = some z ∧ z = t)) (fun i => n + 1 - (intOf i).toNat)
    case atStart => exact ⟨0, Nat.zero_le _, rfl, fun f hf => by omega⟩
    case round =>
      obtain ⟨k, hk, rfl, HK⟩ := hrel
      by_cases hlt : k + W ≤ n
      · have hkw : (k : Int) ≤ (n : Int) - (W : Int) := by omega
        go_wp2_with fail
        go_loop [8] (fun i => ∃ t : Nat, t ≤ T ∧ i = .int .i64 t ∧ Hid (∀ t' : Nat, t' < t → ∃ (j : Nat) (z : Int), k ≤ j ∧ j < k + W ∧ zs[j]? = some z ∧ z = t')) (fun i => T - (intOf i).toNat)
        case atStart => exact ⟨0, Nat.zero_le _, rfl, fun f hf => by omega⟩
        case round =>
          obtain ⟨t, ht, rfl, HT⟩ := hrel
          by_cases hlt2 : t < T
          · have s1 := run_sliceBoth (P := Try.prog) 22 3 Try.underlying22 info_int A n c k (k + W) (k : Int) ((k : Int) + (W : Int)) rfl (by omega) (by omega) (by omega)
            rw [show k + W - k = W by omega] at s1
            have hRD := HFROM.out k
            obtain ⟨ad, _, hA, _, _⟩ := RdI.at_ hRD (i := 0) (by rw [List.length_drop, ← HN.out]; omega)
            rw [hA] at hRD s1
            have HRD := hide hRD; clear hRD hA
            go_wp2_with fail
            refine (HTH.out _).mono ?_
            rintro e w' ⟨rfl, rfl⟩
            go_wp2_with fail
            go_loop [9, 35] (fun b i => ∃ (j : Nat) (bb : Bool), j ≤ W ∧ i = .int .i64 j ∧ b = .bool bb ∧ Hid (bb = true ↔ ∃ (j' : Nat) (z : Int), k ≤ j' ∧ j' < k + j ∧ zs[j']? = some z ∧ z = t)) (fun _ i => W - (intOf i).toNat)
            case atStart => exact ⟨0, false, Nat.zero_le _, rfl, rfl, ⟨fun h => (by cases h), fun ⟨j', z, h1, h2, _⟩ => by omega⟩⟩
            case round =>
              obtain ⟨j, bb, hj, rfl, rfl, HB⟩ := hrel
              by_cases hlt3 : j < W
              · obtain ⟨ad', z, hA, hz, hc⟩ := RdI.at_ HRD.out (i := j) (by rw [List.length_drop, ← HN.out]; omega)
                injection hA with hA
                subst hA
                rw [List.getElem?_drop] at hz
                have HZ := hide hz; clear hz
                have HB1 : Hid ((bb = true ∨ z = t) ↔ ∃ (j' : Nat) (z : Int), k ≤ j' ∧ j' < k + (j + 1) ∧ zs[j']? = some z ∧ z = t) := by
                  constructor
                  · rintro (h | h)
                    · obtain ⟨j', z', a1, a2, a3, a4⟩ := HB.out.1 h
                      exact ⟨j', z', a1, by omega, a3, a4⟩
                    · exact ⟨k + j, z, by omega, by omega, HZ.out, h⟩
                  · rintro ⟨j', z', a1, a2, a3, a4⟩
                    by_cases hjj : j' = k + j
                    · subst hjj
                      have := HZ.out.symm.trans a3
                      simp only [Option.some.injEq] at this
                      exact .inr (this.trans a4)
                    · exact .inl (HB.out.2 ⟨j', z', a1, by omega, a3, a4⟩)
                rcases bb with _ | _
                · by_cases hzt : z = (t : Int)
                  · subst hzt
                    go_wp2_with fail
                    go_round
                    case rel => exact ⟨j + 1, true, by omega, by go_num, rfl, ⟨fun _ => HB1.out.1 (.inr rfl), fun _ => rfl⟩⟩
                    case measure => simp [intOf]; omega
                  · have hzb : (z == (t : Int)) = false := by simpa using hzt
                    have HZT := hide hzt; clear hzt
                    go_wp2_with fail
                    go_round
                    case rel => exact ⟨j + 1, false, by omega, by go_num, rfl, ⟨fun h => (by cases h), fun h => (by rcases HB1.out.2 h with h | h; exact absurd h (by simp); exact absurd h HZT.out)⟩⟩
                    case measure => simp [intOf]; omega
                · go_wp2_with fail
                  go_round
                  case rel => exact ⟨j + 1, true, by omega, by go_num, rfl, ⟨fun _ => HB1.out.1 (.inl rfl), fun _ => rfl⟩⟩
                  case measure => simp [intOf]; omega
              · rcases bb with _ | _
                · go_wp2_with fail
                  go_ret
                  refine ⟨ret_bool ?_, rfl⟩
                  rw [← HQ.out]
                  symm
                  refine fairB_no hlt2 (k := k + W) (by rw [← HN.out]; exact hlt) ?_
                  have := (gapL_ge (t := (t : Int)) (k + W) (by rw [← HN.out]; exact hlt) W).2 ⟨by omega, fun j' z h1 h2 h3 h4 => ?_⟩
                  · omega
                  · have := HB.out.2 ⟨j', z, by omega, by omega, h3, h4⟩
                    cases this
                · go_wp2_with fail
                  go_round
                  case rel =>
                    refine ⟨t + 1, by omega, by go_num, fun t' ht' => ?_⟩
                    by_cases htt : t' = t
                    · subst htt
                      obtain ⟨j', z, a1, a2, a3, a4⟩ := HB.out.1 rfl
                      exact ⟨j', z, a1, by omega, a3, a4⟩
                    · exact HT.out t' (by omega)
                  case measure => simp [intOf]; omega
          · go_wp2_with fail
            refine (HTH.out _).mono ?_
            rintro e w' ⟨rfl, rfl⟩
            go_wp2_with fail
            go_round
            case rel =>
              refine ⟨k + 1, by omega, by go_num, fun f hf hfw t' ht' => ?_⟩
              by_cases hfk : f = k
              · subst hfk; exact HT.out t' (by omega)
              · exact HK.out f (by omega) hfw t' ht'
            case measure => simp [intOf]; omega
      · have hkw : decide ((k : Int) ≤ (n : Int) - (W : Int)) = false := decide_eq_false (by omega)
        have hkw2 : ¬ (k : Int) ≤ (n : Int) - (W : Int) := by omega
        go_wp2_with fail
        go_ret
        refine ⟨ret_bool ?_, rfl⟩
        rw [← HQ.out]
        symm
        refine fairB_yes hv0 fun t ht x hx => ?_
        rcases Nat.lt_or_ge (gapL (zs.take x) t) W with h | h
        · omega
        · exfalso
          obtain ⟨h1, h2⟩ := (gapL_ge (t := (t : Int)) x hx W).1 h
          obtain ⟨j', z, a1, a2, a3, a4⟩ := HK.out (x - W) (by have := HN.out; omega) (by have := HN.out; omega) t ht
          exact h2 j' z a1 (by omega) a3 a4
end
end Go.Proofs.Ytphjbdoephmgfaa
