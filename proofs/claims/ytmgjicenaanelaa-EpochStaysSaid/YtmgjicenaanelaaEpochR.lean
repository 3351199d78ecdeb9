/- The walks of the laws EpochStays and EpochSpread of stopgatelaw07. -/
import Derived.Test.YtmgjicenaanelaaEpochS
namespace Go.Proofs.Ytmgjicenaanelaa
open Go.RowKit

theorem mem_late {zs : List Int} {g : Int} (x : Int) : ∀ k, x ∈ lateTo zs g k ↔ ∃ i : Nat, i < k ∧ x = (i : Int) ∧ letsB (zs.getD i 0) g = false := by
  intro k
  induction k with
  | zero => simp [lateTo]
  | succ k ih =>
    simp only [lateTo, List.mem_append, ih]
    constructor
    · rintro (⟨i, h1, h2, h3⟩ | h)
      · exact ⟨i, by omega, h2, h3⟩
      · split at h
        · simp at h
        · rename_i hb
          simp at h
          exact ⟨k, by omega, h, by simpa using hb⟩
    · rintro ⟨i, h1, h2, h3⟩
      by_cases hik : i = k
      · subst hik
        right
        rw [if_neg (by rw [h3]; simp)]
        simp [h2]
      · exact .inl ⟨i, by omega, h2, h3⟩
theorem late_nodup (zs : List Int) (g : Int) : ∀ k, (lateTo zs g k).Nodup := by
  intro k
  induction k with
  | zero => simp [lateTo]
  | succ k ih =>
    simp only [lateTo]
    split
    · simpa using ih
    · rw [List.nodup_append]
      refine ⟨ih, by simp, ?_⟩
      intro a ha b hb
      simp at hb
      obtain ⟨i, h1, h2, _⟩ := (mem_late a k).1 ha
      omega
/-- an epoch may end but for 'me' just if nobody is late, or 'me' alone -/
theorem all_late (zs : List Int) (me g : Int) : allB zs me g = true ↔ (∀ x ∈ lateTo zs g zs.length, x = me) := by
  rw [allB_iff]
  constructor
  · intro h x hx
    obtain ⟨i, h1, h2, h3⟩ := (mem_late x _).1 hx
    subst h2
    rcases Int.decEq i me with hne | he
    · have := h i (zs.getD i 0) (by simp [h1]) hne
      rw [h3] at this; cases this
    · exact he
  · intro h i z hz hne
    rcases hb : letsB z g with _ | _
    · have := h i ((mem_late _ _).2 ⟨i, len_of hz, rfl, by simpa [hz] using hb⟩)
      exact absurd this hne
    · rfl
theorem all_nil {zs : List Int} {me g : Int} (h : lateTo zs g zs.length = []) : allB zs me g = true := by
  rw [all_late, h]; simp
theorem all_one {zs : List Int} {me g x : Int} (h : lateTo zs g zs.length = [x]) : allB zs me g = (x == me) := by
  rcases hb : (x == me) with _ | _
  · rcases ha : allB zs me g with _ | _
    · rfl
    · have := (all_late zs me g).1 ha x (by rw [h]; simp)
      simp [this] at hb
  · rw [all_late, h]; simpa using hb
theorem all_two {zs : List Int} {me g x y : Int} {l : List Int} (h : lateTo zs g zs.length = x :: y :: l) : allB zs me g = false := by
  rcases ha : allB zs me g with _ | _
  · rfl
  · have h1 := (all_late zs me g).1 ha x (by rw [h]; simp)
    have h2 := (all_late zs me g).1 ha y (by rw [h]; simp)
    have := late_nodup zs g zs.length
    rw [h] at this
    simp at this
    omega
theorem next_stays {zs : List Int} {me g : Int} (h : allB zs me g = false) : nextG zs me g = g := by
  unfold nextG
  rw [if_neg (by rw [h]; simp)]

section
variable (A : Option Addr) (c : Nat) (zs : List Int) (w : World)

set_option maxHeartbeats 1000000 in
theorem stays_any (me g : Int) (hl : zs.length ≤ 17592186044415) (hr : RdI w .u64 A zs) :
    Calls Try.prog 6 #[.slice A zs.length c, .int .i64 me, .int .i64 g] w fun e w' => e = .returned (.bool true) ∧ Below w.heap.size w w' := by
  have HR := hide hr; clear hr
  have HL := hide hl; clear hl
  have hl2 : zs.length ≤ 17592186044416 := by have := HL.out; omega
  have HL2 := hide hl2; clear hl2
  have late := late_any A c zs w g HL.out HR.out
  rcases hcase : lateTo zs g zs.length with _ | ⟨x, _ | ⟨y, l⟩⟩
  · have ha := all_nil (me := me) hcase
    rw [hcase] at late
    have LATE := hide late; have HA := hide ha; clear late ha hcase
    go_enter Try.func6, Try.ntmps6
    go_wp2_with fail
    refine LATE.out.mono ?_
    rintro e w1 ⟨⟨B, d, rfl, hrd⟩, hb1⟩
    have HB := hide hrd; clear hrd
    go_wp2_with fail
    refine (all_any A c zs me g w1 HL2.out (HR.out.below hb1)).mono ?_
    rw [HA.out]
    rintro e w' ⟨rfl, rfl⟩
    go_wp2_with fail
    refine (awake07 w1).mono ?_
    rintro e w2 ⟨rfl, hb2⟩
    go_wp2_with fail
    go_ret
    exact ⟨rfl, extW hb1 hb2⟩
  · by_cases hx : x = me
    · have ha : allB zs me g = true := by rw [all_one hcase]; simpa using hx
      have hxb : (x == me) = true := by simpa using hx
      rw [hcase] at late
      have LATE := hide late; have HA := hide ha; have HX := hide hx; clear late ha hcase hx
      go_enter Try.func6, Try.ntmps6
      go_wp2_with fail
      refine LATE.out.mono ?_
      rintro e w1 ⟨⟨B, d, rfl, hrd⟩, hb1⟩
      obtain ⟨ad, hB, hc⟩ := hrd 0 (.int .i64 x) rfl
      rw [add_zero] at hc
      subst hB
      have HB := hide hrd; clear hrd
      go_wp2_with fail
      refine (all_any A c zs me g w1 HL2.out (HR.out.below hb1)).mono ?_
      rw [HA.out]
      rintro e w' ⟨rfl, rfl⟩
      go_wp2_with fail
      refine (awake07 w1).mono ?_
      rintro e w2 ⟨rfl, hb2⟩
      go_wp2_with fail
      go_ret
      exact ⟨rfl, extW hb1 hb2⟩
    · have hxb : (x == me) = false := by simpa using hx
      have ha : allB zs me g = false := by rw [all_one hcase]; exact hxb
      have hn := next_stays ha
      rw [hcase] at late
      have LATE := hide late; have HA := hide ha; have HX := hide hx; have HN := hide hn; clear late ha hcase hx hn
      go_enter Try.func6, Try.ntmps6
      go_wp2_with fail
      refine LATE.out.mono ?_
      rintro e w1 ⟨⟨B, d, rfl, hrd⟩, hb1⟩
      obtain ⟨ad, hB, hc⟩ := hrd 0 (.int .i64 x) rfl
      rw [add_zero] at hc
      subst hB
      have HB := hide hrd; clear hrd
      go_wp2_with fail
      refine (all_any A c zs me g w1 HL2.out (HR.out.below hb1)).mono ?_
      rw [HA.out]
      rintro e w' ⟨rfl, rfl⟩
      go_wp2_with fail
      refine (next_any A c zs w1 me g HL.out (HR.out.below hb1)).mono ?_
      rw [HN.out]
      rintro e w' ⟨rfl, rfl⟩
      go_wp2_with fail
      refine (awake07 w1).mono ?_
      rintro e w2 ⟨rfl, hb2⟩
      go_wp2_with fail
      go_ret
      exact ⟨rfl, extW hb1 hb2⟩
  · have ha := all_two (me := me) hcase
    have hn := next_stays ha
    rw [hcase] at late
    obtain ⟨m, hm⟩ : ∃ m : Nat, (x :: y :: l).length = m + 2 := ⟨l.length, by simp⟩
    have h0 : ((m : Int) + 2 == 0) = false := by simp; omega
    have h1 : ((m : Int) + 2 == 1) = false := by simp; omega
    have LATE := hide late; have HA := hide ha; have HN := hide hn; have HM := hide hm; clear late ha hcase hn hm
    go_enter Try.func6, Try.ntmps6
    go_wp2_with fail
    refine LATE.out.mono ?_
    rintro e w1 ⟨⟨B, d, rfl, hrd⟩, hb1⟩
    rw [HM.out]
    have HB := hide hrd; clear hrd
    go_wp2_with fail
    refine (all_any A c zs me g w1 HL2.out (HR.out.below hb1)).mono ?_
    rw [HA.out]
    rintro e w' ⟨rfl, rfl⟩
    go_wp2_with fail
    refine (next_any A c zs w1 me g HL.out (HR.out.below hb1)).mono ?_
    rw [HN.out]
    rintro e w' ⟨rfl, rfl⟩
    go_wp2_with fail
    refine (awake07 w1).mono ?_
    rintro e w2 ⟨rfl, hb2⟩
    go_wp2_with fail
    go_ret
    exact ⟨rfl, extW hb1 hb2⟩

/-- a word of a thread that is at most one epoch behind -/
def Near (g z : Int) : Prop := z = 0 ∨ z = epW g ∨ z = epW (g - 1)
theorem epW_small {g : Int} (h0 : 0 ≤ g) (h1 : g ≤ 1000) : epW g = g * 2 + 1 := by unfold epW; omega
theorem near_set {ws : List Int} {y : Int} {t : Nat} {v : Int} (h : ∀ z ∈ ws, Near y z) (hv : Near y v) : ∀ z ∈ withL ws t v, Near y z := by
  intro z hz
  unfold withL at hz
  rw [if_pos (by omega)] at hz
  rcases List.mem_or_eq_of_mem_set hz with h1 | h1
  · exact h z h1
  · rw [h1]; exact hv
theorem near_least {ws : List Int} {y : Int} (h0 : 1 ≤ y) (h1 : y ≤ 500) (h : ∀ z ∈ ws, Near y z) : leastL ws = none ∨ leastL ws = some y ∨ leastL ws = some (y - 1) := by
  suffices hh : ∀ (ws : List Int) (b : Option Int), (b = none ∨ b = some y ∨ b = some (y - 1)) → (∀ z ∈ ws, Near y z) → (ws.foldl leastS b = none ∨ ws.foldl leastS b = some y ∨ ws.foldl leastS b = some (y - 1)) from
    hh ws none (.inl rfl) h
  intro ws
  induction ws with
  | nil => intro b hb _; exact hb
  | cons z l ih =>
    intro b hb hz
    refine ih (leastS b z) ?_ (fun x hx => hz x (List.mem_cons_of_mem _ hx))
    have e1 : epW y / 2 = y := by rw [epW_small (by omega) (by omega)]; omega
    have e2 : epW (y - 1) / 2 = y - 1 := by rw [epW_small (by omega) (by omega)]; omega
    have n1 : epW y ≠ 0 := by rw [epW_small (by omega) (by omega)]; omega
    have n2 : epW (y - 1) ≠ 0 := by rw [epW_small (by omega) (by omega)]; omega
    rcases hz z List.mem_cons_self with h2 | h2 | h2
    · rw [h2]; simpa [leastS] using hb
    · rw [h2]
      rcases hb with hb | hb | hb <;> rw [hb] <;> simp [leastS, n1, e1] <;> omega
    · rw [h2]
      rcases hb with hb | hb | hb <;> rw [hb] <;> simp [leastS, n2, e2] <;> omega
theorem near_next {ws : List Int} {y : Int} (h0 : 1 ≤ y) (h1 : y ≤ 500) : (nextG ws (-1) y = y) ∨ (nextG ws (-1) y = y + 1 ∧ ∀ z ∈ ws, Near (y + 1) z) := by
  unfold nextG
  split
  · rename_i hc
    right
    refine ⟨by unfold wrap64; omega, fun z hz => ?_⟩
    obtain ⟨i, hi⟩ := List.mem_iff_getElem?.1 hz
    have := (allB_iff ws (-1) y).1 hc.2.2 i z hi (by omega)
    simp [letsB] at this
    rcases this with h3 | h3
    · exact .inl h3
    · exact .inr (.inr (by rw [h3]; congr 1; omega))
  · exact .inl rfl
theorem near_wf {ws : List Int} {y : Int} (h : ∀ z ∈ ws, Near y z) : ∀ z ∈ ws, 0 ≤ z ∧ z < 18446744073709551616 := by
  intro z hz
  rcases h z hz with h1 | h1 | h1 <;> rw [h1] <;> (try unfold epW) <;> omega

set_option maxHeartbeats 2000000 in
theorem spread_any (n : Int) (hl : zs.length ≤ 17592186044415) (hr : RdI w .i64 A zs) :
    Calls Try.prog 4 #[.int .i64 n, .slice A zs.length c] w fun e w' => e = .returned (.bool true) ∧ Below w.heap.size w w' := by
  have HR := hide hr; clear hr
  by_cases h1 : n < 1
  · go_enter Try.func4, Try.ntmps4
    go_wp2_with fail
    refine (awake07 w).mono ?_
    rintro e w2 ⟨rfl, hb2⟩
    go_wp2_with fail
    go_ret
    exact ⟨rfl, hb2⟩
  by_cases h2 : 16 < n
  · go_enter Try.func4, Try.ntmps4
    go_wp2_with fail
    refine (awake07 w).mono ?_
    rintro e w2 ⟨rfl, hb2⟩
    go_wp2_with fail
    go_ret
    exact ⟨rfl, hb2⟩
  by_cases h3 : 200 < zs.length
  · go_enter Try.func4, Try.ntmps4
    go_wp2_with fail
    refine (awake07 w).mono ?_
    rintro e w2 ⟨rfl, hb2⟩
    go_wp2_with fail
    go_ret
    exact ⟨rfl, hb2⟩
  obtain ⟨n, rfl⟩ := Int.eq_ofNat_of_zero_le (show 0 ≤ n by omega)
  obtain ⟨m, hm⟩ : ∃ m, m = zs.length := ⟨_, rfl⟩
  rw [← hm] at hl h3 ⊢
  have HM := hide hm; clear hm
  have hn1 : 1 ≤ n := by omega
  have hn2 : n ≤ 16 := by omega
  have hm3 : m ≤ 200 := by omega
  clear h1 h2 h3 hl
  go_enter Try.func4, Try.ntmps4
  go_wp2_with (at_make; refine wpList_makeI _ rfl _ _ 22 rfl w.heap.size 27 .u64 Try.underlying22 info_u64 _ _ _ _ n rfl rfl rfl rfl (by omega) (Nat.le_refl _) ?_)
  intro w0 hown hb0
  obtain ⟨B0, c0, hv0, hrd0⟩ := hown.rd
  rw [List.length_replicate] at hv0
  rw [hv0]
  have HRD0 := hide hrd0; clear hrd0 hown hv0
  go_wp2_with fail
  go_loopw [5, 6, 28] (fun v g i wr => ∃ (k : Nat) (B : Option Addr) (d : Nat) (ws : List Int) (y : Int), k ≤ m ∧ i = .int .i64 k ∧ v = .slice B n d ∧ g = .int .i64 y ∧ 1 ≤ y ∧ y ≤ k + 1 ∧ Hid (ws.length = n) ∧ Hid (RdI wr .u64 B ws) ∧ Hid (∀ z ∈ ws, Near y z) ∧ Below w.heap.size w wr) (fun _ _ i _ => m - (intOf i).toNat)
  case atStart => exact ⟨0, B0, c0, List.replicate n 0, 1, Nat.zero_le _, rfl, rfl, rfl, by omega, by omega, by simp [Hid], HRD0, fun z hz => .inl (List.eq_of_mem_replicate hz), hb0⟩
  case round =>
    obtain ⟨k, B, d, ws, y, hk, rfl, rfl, rfl, hy1, hy2, HWL, HWR, HWN, hb⟩ := hrel
    by_cases hlt : k < m
    · obtain ⟨ad, x, hA, hx, hc⟩ := RdI.at_ (HR.out.below hb) (by rw [← HM.out]; exact hlt)
      subst hA
      have HX := hide hx; clear hx
      obtain ⟨u, hu⟩ : ∃ u : Nat, IntKind.u64.wrap x = (u : Int) := by
        refine Int.eq_ofNat_of_zero_le ?_
        rw [IntKind.wrap_u64]; omega
      have hub : u < 18446744073709551616 := by
        have : IntKind.u64.wrap x < 18446744073709551616 := by rw [IntKind.wrap_u64]; omega
        omega
      obtain ⟨t, ht⟩ : ∃ t, t = u % n := ⟨_, rfl⟩
      have htn : t < n := by rw [ht]; exact Nat.mod_lt _ (by omega)
      obtain ⟨q, hq⟩ : ∃ q, q = u / n := ⟨_, rfl⟩
      have hqu : q ≤ u := by rw [hq]; exact Nat.div_le_self _ _
      have e1 : (u : Int) % (n : Int) = (t : Int) := by rw [ht]; rfl
      have e2 : (u : Int) / (n : Int) = (q : Int) := by rw [hq]; rfl
      have e1' : (u : Int).tmod (n : Int) = (t : Int) := by rw [ht]; rfl
      have e2' : (u : Int).tdiv (n : Int) = (q : Int) := by rw [hq]; rfl
      have e3 : IntKind.u64.wrap (q : Int) = (q : Int) := by rw [IntKind.wrap_u64]; omega
      obtain ⟨s, hs⟩ : ∃ s, s = q % 3 := ⟨_, rfl⟩
      have hs3 : s < 3 := by omega
      have e4 : (q : Int) % 3 = (s : Int) := by rw [hs]; rfl
      have e4' : (q : Int).tmod 3 = (s : Int) := by rw [hs]; rfl
      clear ht hq hqu hub hs
      have ht64 : (t : Int) < 16 := by omega
      have hy3 : y ≤ 500 := by omega
      have hwl1 : ws.length ≤ 17592186044415 := by rw [HWL.out]; omega
      have HWL1 := hide hwl1; clear hwl1
      -- what the switch leaves, in each of its ways: words ws2 at B2, the epoch y2
      by_cases hs0 : s = 0
      · subst hs0
        have LV := leave_any B d ws wr t HWL1.out HWR.out
        rw [HWL.out] at LV
        have HLV := hide LV; clear LV
        have hlen : (withL ws t 0).length = n := by rw [withL_len, HWL.out]
        go_wp2_with fail
        refine HLV.out.mono ?_
        rintro e w2 ⟨⟨B2, d2, rfl, hrd2⟩, hb2⟩
        rw [hlen]
        have HW2L := hide hlen; have HW2R := hide hrd2; clear hlen hrd2 HLV
        have HW2N := hide (near_set (t := t) HWN.out (.inl rfl))
        generalize withL ws t 0 = ws2 at *
        have hb02 := extW hb hb2
        have hy2' : y ≤ k + 2 := by omega
        go_wp2_with fail
        have LE := least_any B2 d2 ws2 w2 (by rw [HW2L.out]; omega) (near_wf HW2N.out) HW2R.out
        rw [HW2L.out] at LE
        rcases near_least hy1 hy3 HW2N.out with h | h | h
        all_goals
          rw [h] at LE
          refine LE.mono ?_
          clear LE h
          rintro e w' ⟨rfl, rfl⟩
          go_wp2_with fail
          go_roundw
          case rel => exact ⟨k + 1, B2, d2, ws2, y, by omega, by go_num, rfl, rfl, hy1, by omega, HW2L, HW2R, HW2N, hb02⟩
          case measure => simp [intOf]; omega
      by_cases hs1 : s = 1
      · subst hs1
        obtain ⟨bd, z, hB, hz, hcz⟩ := RdI.at_ (i := t) HWR.out (by rw [HWL.out]; exact htn)
        subst hB
        clear hz
        by_cases hz0 : z = 0
        · subst hz0
          have LV := enter_any (some bd) d ws wr t y HWL1.out HWR.out
          rw [HWL.out] at LV
          have HLV := hide LV; clear LV
          have hlen : (withL ws t (epW y)).length = n := by rw [withL_len, HWL.out]
          go_wp2_with fail
          refine HLV.out.mono ?_
          rintro e w2 ⟨⟨B2, d2, rfl, hrd2⟩, hb2⟩
          rw [hlen]
          have HW2L := hide hlen; have HW2R := hide hrd2; clear hlen hrd2 HLV
          have HW2N := hide (near_set (t := t) HWN.out (.inr (.inl rfl)))
          generalize withL ws t (epW y) = ws2 at *
          have hb02 := extW hb hb2
          have hy2' : y ≤ k + 2 := by omega
          go_wp2_with fail
          have LE := least_any B2 d2 ws2 w2 (by rw [HW2L.out]; omega) (near_wf HW2N.out) HW2R.out
          rw [HW2L.out] at LE
          rcases near_least hy1 hy3 HW2N.out with h | h | h
          all_goals
            rw [h] at LE
            refine LE.mono ?_
            clear LE h
            rintro e w' ⟨rfl, rfl⟩
            go_wp2_with fail
            go_roundw
            case rel => exact ⟨k + 1, B2, d2, ws2, y, by omega, by go_num, rfl, rfl, hy1, by omega, HW2L, HW2R, HW2N, hb02⟩
            case measure => simp [intOf]; omega
        · have hz1 : (z == 0) = false := by simpa using hz0
          have HZ0 := hide hz0; clear hz0
          have hy2' : y ≤ k + 2 := by omega
          go_wp2_with fail
          have LE := least_any (some bd) d ws wr (by rw [HWL.out]; omega) (near_wf HWN.out) HWR.out
          rw [HWL.out] at LE
          rcases near_least hy1 hy3 HWN.out with h | h | h
          all_goals
            rw [h] at LE
            refine LE.mono ?_
            clear LE h
            rintro e w' ⟨rfl, rfl⟩
            go_wp2_with fail
            go_roundw
            case rel => exact ⟨k + 1, (some bd), d, ws, y, by omega, by go_num, rfl, rfl, hy1, by omega, HWL, HWR, HWN, hb⟩
            case measure => simp [intOf]; omega
      · have hs2 : s = 2 := by omega
        subst hs2
        have NX := next_any B d ws wr (-1) y HWL1.out HWR.out
        rw [HWL.out] at NX
        have hcase : ∃ y2, nextG ws (-1) y = y2 ∧ 1 ≤ y2 ∧ y2 ≤ k + 2 ∧ ∀ z ∈ ws, Near y2 z := by
          rcases near_next hy1 hy3 (ws := ws) with h | ⟨h, h'⟩
          · exact ⟨y, h, hy1, by omega, HWN.out⟩
          · exact ⟨y + 1, h, by omega, by omega, h'⟩
        obtain ⟨y2, hy2e, hy21, hy22, hnear⟩ := hcase
        rw [hy2e] at NX
        have HNX := hide NX; have HN2 := hide hnear; clear NX hnear hy2e
        have hy23 : y2 ≤ 500 := by omega
        go_wp2_with fail
        refine HNX.out.mono ?_
        rintro e w' ⟨rfl, rfl⟩
        clear HNX
        go_wp2_with fail
        have LE := least_any B d ws wr (by rw [HWL.out]; omega) (near_wf HN2.out) HWR.out
        rw [HWL.out] at LE
        rcases near_least hy21 hy23 HN2.out with h | h | h
        all_goals
          rw [h] at LE
          refine LE.mono ?_
          clear LE h
          rintro e w' ⟨rfl, rfl⟩
          go_wp2_with fail
          go_roundw
          case rel => exact ⟨k + 1, B, d, ws, y2, by omega, by go_num, rfl, rfl, hy21, by omega, HWL, HWR, HN2, hb⟩
          case measure => simp [intOf]; omega
    · go_wp2_with fail
      refine (awake07 wr).mono ?_
      rintro e w2 ⟨rfl, hb2⟩
      go_wp2_with fail
      go_ret
      exact ⟨rfl, extW hb hb2⟩
end
end Go.Proofs.Ytmgjicenaanelaa
