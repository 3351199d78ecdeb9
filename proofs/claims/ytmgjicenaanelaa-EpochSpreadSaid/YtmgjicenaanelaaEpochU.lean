/- The walks of epoch.Least, Late, with, Enter, Leave, Next, and the references'. -/
import Derived.Test.YtmgjicenaanelaaEpochV
namespace Go.Proofs.Ytmgjicenaanelaa
open Go.RowKit

/-- the least half of what is not 0, so far -/
def leastS (b : Option Int) (z : Int) : Option Int := if z = 0 then b else match b with | none => some (z / 2) | some x => some (if z / 2 < x then z / 2 else x)
def leastL (zs : List Int) : Option Int := zs.foldl leastS none
theorem leastL_snoc (zs : List Int) (z : Int) : leastL (zs ++ [z]) = leastS (leastL zs) z := by simp [leastL]
theorem leastL_bd {zs : List Int} (hz : ∀ z ∈ zs, 0 ≤ z ∧ z < 18446744073709551616) : ∀ x, leastL zs = some x → 0 ≤ x ∧ x < 9223372036854775808 := by
  suffices h : ∀ (zs : List Int) (b : Option Int), (∀ x, b = some x → 0 ≤ x ∧ x < 9223372036854775808) → (∀ z ∈ zs, 0 ≤ z ∧ z < 18446744073709551616) → ∀ x, zs.foldl leastS b = some x → 0 ≤ x ∧ x < 9223372036854775808 from
    h zs none (fun x hx => by cases hx) hz
  intro zs
  induction zs with
  | nil => intro b hb _ x hx; exact hb x hx
  | cons z l ih =>
    intro b hb hz x hx
    refine ih (leastS b z) ?_ (fun y hy => hz y (List.mem_cons_of_mem _ hy)) x hx
    intro y hy
    have := hz z List.mem_cons_self
    unfold leastS at hy
    split at hy
    · exact hb y hy
    · rcases b with _ | b0
      · simp at hy; omega
      · have := hb b0 rfl
        simp at hy
        subst hy
        split <;> omega

theorem ret_two {a c : Int} {b d : Bool} (h1 : a = c) (h2 : b = d) : Ending.returned (.tuple #[.int .i64 a, .bool b]) = .returned (.tuple #[.int .i64 c, .bool d]) := by rw [h1, h2]

section
variable (A : Option Addr) (c : Nat) (zs : List Int) (w : World)

set_option maxHeartbeats 400000 in
theorem least_any (hl : zs.length ≤ 17592186044416) (hz : ∀ z ∈ zs, 0 ≤ z ∧ z < 18446744073709551616) (hr : RdI w .u64 A zs) :
    Calls Try.prog 21 #[.slice A zs.length c] w fun e w' => e = .returned (.tuple #[.int .i64 ((leastL zs).getD 0), .bool (leastL zs).isSome]) ∧ w = w' := by
  obtain ⟨n, hn⟩ : ∃ n, n = zs.length := ⟨_, rfl⟩
  rw [← hn] at hl ⊢
  have HN := hide hn; clear hn
  have HR := hide hr; clear hr
  have HB := hide hz; clear hz
  go_enter Try.func21, Try.ntmps21
  go_wp2
  go_loop [4, 5, 11] (fun b o i => ∃ (k : Nat) (x : Int) (t : Bool), k ≤ n ∧ 0 ≤ x ∧ x < 9223372036854775808 ∧ i = .int .i64 k ∧ b = .int .i64 x ∧ o = .bool t ∧ Hid (leastL (zs.take k) = (if t then some x else none) ∧ (t = false → x = 0))) (fun _ _ i => n - (intOf i).toNat)
  case atStart => exact ⟨0, 0, false, Nat.zero_le _, by omega, by omega, rfl, rfl, rfl, by simp [Hid, leastL]⟩
  case round =>
    obtain ⟨k, x, t, hk, hx0, hx1, rfl, rfl, rfl, HM⟩ := hrel
    by_cases hlt : k < n
    · obtain ⟨ad, z, hA, hz, hc⟩ := RdI.at_ HR.out (by rw [← HN.out]; exact hlt)
      subst hA
      obtain ⟨hz0, hz1⟩ := HB.out z (List.mem_of_getElem? hz)
      have hs : leastL (zs.take (k + 1)) = leastS (leastL (zs.take k)) z := by rw [take_of hz, leastL_snoc]
      rw [HM.out.1] at hs
      by_cases h0 : z = 0
      · subst h0
        have HS := hide hs; clear hs
        clear hz
        go_wp2
        go_round
        case rel => exact ⟨k + 1, x, t, by omega, hx0, hx1, by go_num, rfl, rfl, by rw [Hid, HS.out]; exact ⟨by simp [leastS], HM.out.2⟩⟩
        case measure => simp [intOf]; omega
      · have h0' : (z != 0) = true := by simpa using h0
        cases t with
        | false =>
          have HS := hide hs; clear hs
          have H0 := hide h0; clear h0
          clear hz
          go_wp2
          go_round
          case rel => exact ⟨k + 1, z / 2, true, by omega, by omega, by omega, by go_num, by go_num, rfl, by rw [Hid, HS.out]; have := H0.out; simp [leastS, this]⟩
          case measure => simp [intOf]; omega
        | true =>
          by_cases hlt' : z / 2 < x
          · have HS := hide hs; clear hs
            have H0 := hide h0; clear h0
            clear hz
            go_wp2
            go_round
            case rel => exact ⟨k + 1, z / 2, true, by omega, by omega, by omega, by go_num, by go_num, rfl, by rw [Hid, HS.out]; have := H0.out; simp [leastS, this, hlt']⟩
            case measure => simp [intOf]; omega
          · have HS := hide hs; clear hs
            have H0 := hide h0; clear h0
            clear hz
            go_wp2
            go_round
            case rel => exact ⟨k + 1, x, true, by omega, by omega, by omega, by go_num, rfl, rfl, by rw [Hid, HS.out]; have := H0.out; simp [leastS, this]; omega⟩
            case measure => simp [intOf]; omega
    · have hm := HM.out
      rw [take_all HN.out (by omega)] at hm
      have HM2 := hide hm; clear hm
      clear HM
      go_wp2
      go_ret2
      refine ⟨?_, rfl⟩
      have h := HM2.out
      rw [h.1]
      cases t with
      | false => exact ret_two (h.2 rfl) rfl
      | true => exact ret_two rfl rfl

set_option maxHeartbeats 400000 in
theorem rleast_any (hl : zs.length ≤ 17592186044416) (hz : ∀ z ∈ zs, 0 ≤ z ∧ z < 18446744073709551616) (hr : RdI w .u64 A zs) :
    Calls Try.prog 22 #[.slice A zs.length c] w fun e w' => e = .returned (.tuple #[.int .i64 ((leastL zs).getD 0), .bool (leastL zs).isSome]) ∧ w = w' := by
  obtain ⟨n, hn⟩ : ∃ n, n = zs.length := ⟨_, rfl⟩
  rw [← hn] at hl ⊢
  have HN := hide hn; clear hn
  have HR := hide hr; clear hr
  have HB := hide hz; clear hz
  go_enter Try.func22, Try.ntmps22
  go_wp2
  go_loop [4, 5, 10] (fun b o i => ∃ (k : Nat) (x : Int) (t : Bool), k ≤ n ∧ 0 ≤ x ∧ x < 9223372036854775808 ∧ i = .int .i64 k ∧ b = .int .u64 x ∧ o = .bool t ∧ Hid (leastL (zs.take k) = (if t then some x else none) ∧ (t = false → x = 0))) (fun _ _ i => n - (intOf i).toNat)
  case atStart => exact ⟨0, 0, false, Nat.zero_le _, by omega, by omega, rfl, rfl, rfl, by simp [Hid, leastL]⟩
  case round =>
    obtain ⟨k, x, t, hk, hx0, hx1, rfl, rfl, rfl, HM⟩ := hrel
    by_cases hlt : k < n
    · obtain ⟨ad, z, hA, hz, hc⟩ := RdI.at_ HR.out (by rw [← HN.out]; exact hlt)
      subst hA
      obtain ⟨hz0, hz1⟩ := HB.out z (List.mem_of_getElem? hz)
      have hs : leastL (zs.take (k + 1)) = leastS (leastL (zs.take k)) z := by rw [take_of hz, leastL_snoc]
      rw [HM.out.1] at hs
      by_cases h0 : z = 0
      · subst h0
        have HS := hide hs; clear hs
        clear hz
        go_wp2
        go_round
        case rel => exact ⟨k + 1, x, t, by omega, hx0, hx1, by go_num, rfl, rfl, by rw [Hid, HS.out]; exact ⟨by simp [leastS], HM.out.2⟩⟩
        case measure => simp [intOf]; omega
      · have h0' : (z == 0) = false := by simpa using h0
        cases t with
        | false =>
          have HS := hide hs; clear hs
          have H0 := hide h0; clear h0
          clear hz
          go_wp2
          go_round
          case rel => exact ⟨k + 1, z / 2, true, by omega, by omega, by omega, by go_num, by go_num, rfl, by rw [Hid, HS.out]; have := H0.out; simp [leastS, this]⟩
          case measure => simp [intOf]; omega
        | true =>
          by_cases hlt' : z / 2 < x
          · have HS := hide hs; clear hs
            have H0 := hide h0; clear h0
            clear hz
            go_wp2
            go_round
            case rel => exact ⟨k + 1, z / 2, true, by omega, by omega, by omega, by go_num, by go_num, rfl, by rw [Hid, HS.out]; have := H0.out; simp [leastS, this, hlt']⟩
            case measure => simp [intOf]; omega
          · have HS := hide hs; clear hs
            have H0 := hide h0; clear h0
            clear hz
            go_wp2
            go_round
            case rel => exact ⟨k + 1, x, true, by omega, by omega, by omega, by go_num, rfl, rfl, by rw [Hid, HS.out]; have := H0.out; simp [leastS, this]; omega⟩
            case measure => simp [intOf]; omega
    · have hm := HM.out
      rw [take_all HN.out (by omega)] at hm
      have HM2 := hide hm; clear hm
      clear HM
      go_wp2
      go_ret2
      refine ⟨?_, rfl⟩
      have h := HM2.out
      rw [h.1]
      cases t with
      | false => exact ret_two (h.2 rfl) rfl
      | true => exact ret_two rfl rfl

end

/-- the places that keep g, of the first k -/
def lateTo (zs : List Int) (g : Int) : Nat → List Int
  | 0 => []
  | k + 1 => lateTo zs g k ++ (if letsB (zs.getD k 0) g then [] else [(k : Int)])
theorem lateTo_len (zs : List Int) (g : Int) (k : Nat) : (lateTo zs g k).length ≤ k := by
  induction k with
  | zero => simp [lateTo]
  | succ k ih => simp only [lateTo]; split <;> simp <;> omega
theorem lateTo_yes {zs : List Int} {g : Int} {k : Nat} {z : Int} (h : zs[k]? = some z) (hb : letsB z g = true) : lateTo zs g (k + 1) = lateTo zs g k := by simp [lateTo, h, hb]
theorem lateTo_no {zs : List Int} {g : Int} {k : Nat} {z : Int} (h : zs[k]? = some z) (hb : letsB z g = false) : lateTo zs g (k + 1) = lateTo zs g k ++ [(k : Int)] := by simp [lateTo, h, hb]

theorem info_int : (Try.prog.info? 3).map (fun i => (i.zero, i.size, i.bytes)) = some (some (.int .i64 0), 1, 8) := by kernel_rfl
theorem info_u64 : (Try.prog.info? 27).map (fun i => (i.zero, i.size, i.bytes)) = some (some (.int .u64 0), 1, 8) := by kernel_rfl

section
variable (A : Option Addr) (c : Nat) (zs : List Int) (w : World)

set_option maxHeartbeats 400000 in
theorem late_any (g : Int) (hl : zs.length ≤ 17592186044415) (hr : RdI w .u64 A zs) :
    Calls Try.prog 28 #[.slice A zs.length c, .int .i64 g] w fun e w' => RetI .i64 (lateTo zs g zs.length) w e w' := by
  obtain ⟨n, hn⟩ : ∃ n, n = zs.length := ⟨_, rfl⟩
  rw [← hn] at hl ⊢
  have HN := hide hn; clear hn
  have HR := hide hr; clear hr
  go_enter Try.func28, Try.ntmps28
  go_wp2
  go_loopw [5, 10] (fun v i wr => ∃ (k : Nat) (L : List Int), k ≤ n ∧ i = .int .i64 k ∧ Hid (OwnI wr w.heap.size 3 .i64 v L) ∧ L.length ≤ k ∧ Hid (L = lateTo zs g k) ∧ Below w.heap.size w wr) (fun _ i _ => n - (intOf i).toNat)
  case atStart => exact ⟨0, [], Nat.zero_le _, rfl, OwnI.nil _ _ _ _, Nat.le_refl _, rfl, Below.refl _ _⟩
  case round =>
    obtain ⟨k, L, hk, rfl, HO, hll, HL, hb⟩ := hrel
    have hsz := hb.size
    by_cases hlt : k < n
    · obtain ⟨ad, z, hA, hz, hc⟩ := RdI.at_ (HR.out.below hb) (by rw [← HN.out]; exact hlt)
      subst hA
      have HZ := hide hz; clear hz
      by_cases hb1 : letsB z g = true
      · go_wp2_with (go_at_call 52; refine (lets_any _ _ _).mono ?_; rintro e w' ⟨rfl, rfl⟩)
        go_roundw
        case rel => exact ⟨k + 1, L, by omega, by go_num, HO, by omega, by rw [Hid, lateTo_yes HZ.out hb1]; exact HL.out, hb⟩
        case measure => simp [intOf]; omega
      · have hb2 : letsB z g = false := by simpa using hb1
        clear hb1
        go_wp2_with (first
          | (go_at_call 52; refine (lets_any _ _ _).mono ?_; rintro e w' ⟨rfl, rfl⟩)
          | (at_builtin; refine wpList_appI _ rfl _ _ 32 rfl w.heap.size 3 .i64 Try.underlying32 info_int _ L rfl (HO.out.alloc _) (some ⟨wr.heap.size, 0, none⟩) 1 1 [(k : Int)] rfl rfl (RdI.one _ _ _ _) ?c4 ?c5 ?_))
        case c4 => simp; omega
        case c5 => simp; omega
        intro v' w1 hown' hgrow _
        have hb' := (HO.out.alloc _).below_step (hb.alloc hb.size _) hgrow (by simp; omega) (Nat.le_refl _)
        have HO' := hide hown'; clear hown' hgrow
        go_wp2
        go_roundw
        case rel => exact ⟨k + 1, _, by omega, by go_num, HO', by simp; omega, by rw [Hid, lateTo_no HZ.out hb2, ← HL.out], hb'⟩
        case measure => simp [intOf]; omega
    · have hkn : k = n := by omega
      subst hkn
      go_wp2
      go_ret
      have h := HO.out.ret hb
      rw [HL.out] at h
      exact h
set_option maxHeartbeats 400000 in
theorem rlate_any (g : Int) (hl : zs.length ≤ 17592186044415) (hr : RdI w .u64 A zs) :
    Calls Try.prog 29 #[.slice A zs.length c, .int .i64 g] w fun e w' => RetI .i64 (lateTo zs g zs.length) w e w' := by
  obtain ⟨n, hn⟩ : ∃ n, n = zs.length := ⟨_, rfl⟩
  rw [← hn] at hl ⊢
  have HN := hide hn; clear hn
  have HR := hide hr; clear hr
  go_enter Try.func29, Try.ntmps29
  go_wp2
  go_loopw [5, 10] (fun v i wr => ∃ (k : Nat) (L : List Int), k ≤ n ∧ i = .int .i64 k ∧ Hid (OwnI wr w.heap.size 3 .i64 v L) ∧ L.length ≤ k ∧ Hid (L = lateTo zs g k) ∧ Below w.heap.size w wr) (fun _ i _ => n - (intOf i).toNat)
  case atStart => exact ⟨0, [], Nat.zero_le _, rfl, OwnI.nil _ _ _ _, Nat.le_refl _, rfl, Below.refl _ _⟩
  case round =>
    obtain ⟨k, L, hk, rfl, HO, hll, HL, hb⟩ := hrel
    have hsz := hb.size
    by_cases hlt : k < n
    · obtain ⟨ad, z, hA, hz, hc⟩ := RdI.at_ (HR.out.below hb) (by rw [← HN.out]; exact hlt)
      subst hA
      have HZ := hide hz; clear hz
      by_cases hb1 : letsB z g = true
      · go_wp2_with (go_at_call 53; refine (rlets_any _ _ _).mono ?_; rintro e w' ⟨rfl, rfl⟩)
        go_roundw
        case rel => exact ⟨k + 1, L, by omega, by go_num, HO, by omega, by rw [Hid, lateTo_yes HZ.out hb1]; exact HL.out, hb⟩
        case measure => simp [intOf]; omega
      · have hb2 : letsB z g = false := by simpa using hb1
        clear hb1
        go_wp2_with (first
          | (go_at_call 53; refine (rlets_any _ _ _).mono ?_; rintro e w' ⟨rfl, rfl⟩)
          | (at_builtin; refine wpList_appI _ rfl _ _ 32 rfl w.heap.size 3 .i64 Try.underlying32 info_int _ L rfl (HO.out.alloc _) (some ⟨wr.heap.size, 0, none⟩) 1 1 [(k : Int)] rfl rfl (RdI.one _ _ _ _) ?c4 ?c5 ?_))
        case c4 => simp; omega
        case c5 => simp; omega
        intro v' w1 hown' hgrow _
        have hb' := (HO.out.alloc _).below_step (hb.alloc hb.size _) hgrow (by simp; omega) (Nat.le_refl _)
        have HO' := hide hown'; clear hown' hgrow
        go_wp2
        go_roundw
        case rel => exact ⟨k + 1, _, by omega, by go_num, HO', by simp; omega, by rw [Hid, lateTo_no HZ.out hb2, ← HL.out], hb'⟩
        case measure => simp [intOf]; omega
    · have hkn : k = n := by omega
      subst hkn
      go_wp2
      go_ret
      have h := HO.out.ret hb
      rw [HL.out] at h
      exact h
end
end Go.Proofs.Ytmgjicenaanelaa
