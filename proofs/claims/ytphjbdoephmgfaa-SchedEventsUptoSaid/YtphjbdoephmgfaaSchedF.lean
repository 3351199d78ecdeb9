/- The walks of sched.Counts, stopgateref29.Counts. -/
import Derived.Test.YtphjbdoephmgfaaSchedE
namespace Go.Proofs.Ytphjbdoephmgfaa
open Go.RowKit

/-- how many are t -/
def cnt (zs : List Int) (t : Int) : Nat := (zs.filter fun x => x == t).length
theorem cnt_snoc {zs : List Int} {k : Nat} {z t : Int} (h : zs[k]? = some z) : cnt (zs.take (k + 1)) t = cnt (zs.take k) t + if z = t then 1 else 0 := by
  unfold cnt
  rw [take_of h, List.filter_append]
  by_cases hz : z = t <;> simp [hz]
theorem cnt_le (zs : List Int) (t : Int) (k : Nat) : cnt (zs.take k) t ≤ k := Nat.le_trans (List.length_filter_le _ _) (List.length_take_le _ _)
/-- how many each thread has -/
def countL (zs : List Int) (T : Nat) : List Int := (List.range T).map fun i : Nat => (cnt zs (i : Int) : Int)
theorem countL_len (zs : List Int) (T : Nat) : (countL zs T).length = T := by simp [countL]
theorem countL_at {zs : List Int} {T i : Nat} (h : i < T) : (countL zs T)[i]? = some (cnt zs i : Int) := by simp [countL, h]
theorem countL_in {zs : List Int} {T k : Nat} {z : Int} (h : zs[k]? = some z) (h0 : 0 ≤ z) (_h1 : z < T) : countL (zs.take (k + 1)) T = (countL (zs.take k) T).set z.toNat ((cnt (zs.take k) z : Int) + 1) := by
  apply List.ext_getElem
  · simp [countL]
  · intro i h2 h3
    simp only [countL, List.getElem_map, List.getElem_range, List.getElem_set]
    rw [cnt_snoc h]
    by_cases hz : z.toNat = i
    · rw [if_pos hz, if_pos (by omega), show ((i : Nat) : Int) = z by omega]; simp
    · rw [if_neg hz, if_neg (by omega)]; simp
theorem countL_out {zs : List Int} {T k : Nat} {z : Int} (h : zs[k]? = some z) (h0 : z < 0 ∨ (T : Int) ≤ z) : countL (zs.take (k + 1)) T = countL (zs.take k) T := by
  apply List.ext_getElem
  · simp [countL]
  · intro i h2 h3
    simp only [countL, List.getElem_map, List.getElem_range]
    rw [cnt_snoc h, if_neg]
    · rfl
    · have : i < T := by simpa [countL] using h2
      omega
theorem countL_nil (T : Nat) : countL [] T = List.replicate T 0 := by
  apply List.ext_getElem
  · simp [countL]
  · intro i h2 h3
    simp [countL, cnt]
theorem countL_snoc (zs : List Int) (t : Nat) : countL zs (t + 1) = countL zs t ++ [(cnt zs t : Int)] := by
  simp [countL, List.range_succ]

section
variable (w : World)
set_option maxHeartbeats 1000000 in
theorem counts_any (A : Option Addr) (c : Nat) (zs : List Int) (m : Int) (hl : zs.length ≤ 17592186044416) (hr : RdI w .i64 A zs) :
    Calls Try.prog 13 #[.slice A zs.length c, .int .i64 m] w fun e w' => RetI .i64 (countL zs (cutN 64 m)) w e w' := by
  obtain ⟨n, hn⟩ : ∃ n, n = zs.length := ⟨_, rfl⟩
  rw [← hn] at hl ⊢
  have HN := hide hn; clear hn
  have HR := hide hr; clear hr
  have hT := cutN_le 64 m
  have HTH := hide (fun w => threads_any w m)
  generalize cutN 64 m = T at hT HTH ⊢
  go_enter Try.func13, Try.ntmps13
  go_wp2_with fail
  refine (HTH.out _).mono ?_
  rintro e w' ⟨rfl, rfl⟩
  go_wp2_with (at_make; refine wpList_makeI _ rfl _ _ 22 rfl w.heap.size 3 .i64 Try.underlying22 info_int _ _ _ _ T rfl rfl rfl rfl (by omega) (Nat.le_refl _) ?_)
  intro w1 ho hb1
  have HO1 := hide ho; clear ho
  go_wp2_with fail
  go_loopw [13] (fun i wr => ∃ (k : Nat) (L : List Int), k ≤ n ∧ i = .int .i64 k ∧ Hid (OwnI wr w.heap.size 3 .i64 (.slice (some ⟨w.heap.size, 0, none⟩) T T) L) ∧ Hid (L = countL (zs.take k) T) ∧ Below w.heap.size w wr) (fun i _ => n - (intOf i).toNat)
  case atStart => exact ⟨0, _, Nat.zero_le _, rfl, HO1.out, by rw [Hid, List.take_zero, countL_nil], hb1⟩
  case round =>
    obtain ⟨k, L, hk, rfl, HO, HL, hb⟩ := hrel
    by_cases hlt : k < n
    · obtain ⟨ad, z, hA, hz, hc⟩ := RdI.at_ (HR.out.below hb) (by rw [← HN.out]; exact hlt)
      subst hA
      have HZ := hide hz; clear hz
      by_cases h0 : z < 0
      · have h0b : decide (0 ≤ z) = false := decide_eq_false (by omega)
        go_wp2
        go_roundw
        case rel => exact ⟨k + 1, L, by omega, by go_num, HO.out, by rw [Hid, countL_out HZ.out (.inl h0), HL.out], hb⟩
        case measure => simp [intOf]; omega
      · obtain ⟨j, rfl⟩ := Int.eq_ofNat_of_zero_le (show 0 ≤ z by omega)
        by_cases h1 : j < T
        · have hat : L[j]? = some (cnt (zs.take k) j : Int) := by rw [HL.out]; exact countL_at h1
          have hcj := cnt_le zs j k
          have hc1 := HO.out.cell hat
          have hf1 := HO.out.frozen j
          have HIN : Hid (countL (zs.take (k + 1)) T = (countL (zs.take k) T).set j ((cnt (zs.take k) j : Int) + 1)) := countL_in HZ.out (by omega) (by omega)
          have hv0 : (0 : Int) ≤ (cnt (zs.take k) j : Int) := by omega
          have hv1 : (cnt (zs.take k) j : Int) ≤ 17592186044416 := by omega
          have HAT := hide hat; clear hat
          generalize (cnt (zs.take k) j : Int) = v at hc1 HIN hv0 hv1
          go_wp2
          go_roundw
          case rel =>
            exact ⟨k + 1, _, by omega, by go_num, HO.out.stored j (v + 1), by rw [Hid, HIN.out, HL.out], hb.setCell (p := ⟨w.heap.size, j, none⟩) (Nat.le_refl _) _⟩
          case measure => simp [intOf]; omega
        · have h1b : decide ((j : Int) < (T : Int)) = false := decide_eq_false (by omega)
          have h1c : decide (j < T) = false := decide_eq_false (by omega)
          go_wp2
          go_roundw
          case rel => exact ⟨k + 1, L, by omega, by go_num, HO.out, by rw [Hid, countL_out HZ.out (.inr (by omega)), HL.out], hb⟩
          case measure => simp [intOf]; omega
    · go_wp2
      go_ret
      have e1 : L = countL zs T := by rw [HL.out, take_all HN.out (by omega)]
      rw [← e1]
      exact HO.out.ret hb

set_option maxHeartbeats 1000000 in
theorem rcounts_any (A : Option Addr) (c : Nat) (zs : List Int) (m : Int) (hl : zs.length ≤ 17592186044416) (hr : RdI w .i64 A zs) :
    Calls Try.prog 14 #[.slice A zs.length c, .int .i64 m] w fun e w' => RetI .i64 (countL zs (cutN 64 m)) w e w' := by
  obtain ⟨n, hn⟩ : ∃ n, n = zs.length := ⟨_, rfl⟩
  rw [← hn] at hl ⊢
  have HN := hide hn; clear hn
  have HR := hide hr; clear hr
  have hT := cutN_le 64 m
  have HTH := hide (fun w => rthreads_any w m)
  generalize cutN 64 m = T at hT HTH ⊢
  go_enter Try.func14, Try.ntmps14
  go_wp2_with fail
  go_loopw [5, 6] (fun o t wr => ∃ (k : Nat) (L : List Int), k ≤ T ∧ t = .int .i64 k ∧ Hid (OwnI wr w.heap.size 3 .i64 o L) ∧ L.length = k ∧ Hid (L = countL zs k) ∧ Below w.heap.size w wr) (fun _ t _ => T - (intOf t).toNat)
  case atStart => exact ⟨0, [], Nat.zero_le _, rfl, OwnI.nil _ _ _ _, rfl, rfl, selfW _⟩
  case round =>
    obtain ⟨k, L, hk, rfl, HO, hll, HL, hb⟩ := hrel
    have hsz := hb.size
    by_cases hlt : k < T
    · go_wp2_with (go_at_call 33; refine (HTH.out _).mono ?_; rintro e w' ⟨rfl, rfl⟩)
      go_loop [7, 18] (fun q i => ∃ (j : Nat) (v : Int), j ≤ n ∧ i = .int .i64 j ∧ q = .int .i64 v ∧ 0 ≤ v ∧ v ≤ j ∧ Hid (v = (cnt (zs.take j) k : Nat))) (fun _ i => n - (intOf i).toNat)
      case atStart => exact ⟨0, 0, Nat.zero_le _, rfl, rfl, Int.le_refl _, by omega, by simp [Hid, cnt]⟩
      case round =>
        obtain ⟨j, v, hj, rfl, rfl, hv0, hv1, HV⟩ := hrel
        by_cases hlt2 : j < n
        · obtain ⟨ad, z, hA, hz, hc⟩ := RdI.at_ (HR.out.below hb) (by rw [← HN.out]; exact hlt2)
          subst hA
          have HZ := hide hz; clear hz
          have hv2 : v ≤ 17592186044416 := by omega
          by_cases hzk : z = (k : Int)
          · subst hzk
            go_wp2
            go_round
            case rel => exact ⟨j + 1, v + 1, by omega, by go_num, by go_num, by omega, by omega, by rw [Hid, cnt_snoc HZ.out, HV.out]; simp⟩
            case measure => simp [intOf]; omega
          · have hzb : (z == (k : Int)) = false := by simpa using hzk
            have HZK := hide hzk; clear hzk
            go_wp2
            go_round
            case rel => exact ⟨j + 1, v, by omega, by go_num, rfl, by omega, by omega, by rw [Hid, cnt_snoc HZ.out, HV.out, if_neg HZK.out]; simp⟩
            case measure => simp [intOf]; omega
        · go_wp2_with (at_builtin; refine wpList_appI _ rfl _ _ 22 rfl w.heap.size 3 .i64 Try.underlying22 info_int _ L rfl (HO.out.alloc _) (some ⟨wr.heap.size, 0, none⟩) 1 1 [v] rfl rfl (RdI.one _ .i64 v _) ?c1 ?c2 ?_)
          case c1 => (try simp); omega
          case c2 => (try simp); omega
          intro v' w2 hown' hgrow _
          have hb' := (HO.out.alloc _).below_step (moreW hb _) hgrow (by simp; omega) (Nat.le_refl _)
          have HO' := hide hown'
          have HLL : Hid (L ++ [v] = countL zs (k + 1)) := by rw [Hid, countL_snoc, HL.out, HV.out, take_all HN.out (by omega)]
          clear hown' hgrow hb
          go_wp2
          go_roundw
          case rel => exact ⟨k + 1, _, by omega, by go_num, HO'.out, by simp; omega, HLL, hb'⟩
          case measure => simp [intOf]; omega
    · go_wp2_with (go_at_call 33; refine (HTH.out _).mono ?_; rintro e w' ⟨rfl, rfl⟩)
      go_ret
      have e1 : L = countL zs T := by rw [HL.out, show k = T by omega]
      rw [← e1]
      exact HO.out.ret hb
end
end Go.Proofs.Ytphjbdoephmgfaa
