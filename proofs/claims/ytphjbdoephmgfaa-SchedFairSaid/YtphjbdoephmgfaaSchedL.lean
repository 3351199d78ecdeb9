/- The walks of the laws SchedStalls, SchedFair, SchedWider. -/
import Derived.Test.YtphjbdoephmgfaaSchedK
namespace Go.Proofs.Ytphjbdoephmgfaa
open Go.RowKit

section
variable (A : Option Addr) (c : Nat) (zs : List Int) (w : World)

set_option maxHeartbeats 2000000 in
theorem stalls_law (t p m : Int) (hl : zs.length ≤ 17592186043904) (hcap : zs.length ≤ c) (hr : RdI w .i64 A zs) :
    Calls Try.prog 3 #[.slice A zs.length c, .int .i64 t, .int .i64 p, .int .i64 m] w fun e w' => e = .returned (.bool true) ∧ Below w.heap.size w w' := by
  have C1 := hide (fun w1 (h : Below w.heap.size w w1) => without_any w1 A c zs t (by omega) (hr.below h))
  have C2 := hide (fun w1 (h : Below w.heap.size w w1) => rwithout_any w1 A c zs t (by omega) (hr.below h))
  have C3 := hide (fun w1 (h : Below w.heap.size w w1) => after_any w1 A c zs t p hl hcap (hr.below h))
  have C4 := hide (fun w1 (h : Below w.heap.size w w1) => rafter_any w1 A c zs t p (by omega) (hr.below h))
  have C5 := hide (fun w1 (h : Below w.heap.size w w1) => counts_any w1 A c zs m (by omega) (hr.below h))
  have C6 := hide (fun w1 (h : Below w.heap.size w w1) => rcounts_any w1 A c zs m (by omega) (hr.below h))
  have L1 : (zs.filter fun x => !(x == t)).length ≤ 17592186044416 := Nat.le_trans (List.length_filter_le _ _) (by omega)
  have L2 : (afterL zs t p.toNat).length ≤ 17592186044416 := Nat.le_trans (afterL_len _ _ _) (by omega)
  have L3 : (countL zs (cutN 64 m)).length ≤ 17592186044416 := by rw [countL_len]; have := cutN_le 64 m; omega
  have E1 := hide (fun w1 B1 B2 d1 d2 (h1 : RdI w1 .i64 B1 _) (h2 : RdI w1 .i64 B2 _) => ints_eq B1 B2 d1 d2 (zs.filter fun x => !(x == t)) _ w1 rfl L1 h1 h2)
  have E2 := hide (fun w1 B1 B2 d1 d2 (h1 : RdI w1 .i64 B1 _) (h2 : RdI w1 .i64 B2 _) => ints_eq B1 B2 d1 d2 (afterL zs t p.toNat) _ w1 rfl L2 h1 h2)
  have E3 := hide (fun w1 B1 B2 d1 d2 (h1 : RdI w1 .i64 B1 _) (h2 : RdI w1 .i64 B2 _) => ints_eq B1 B2 d1 d2 (countL zs (cutN 64 m)) _ w1 rfl L3 h1 h2)
  generalize (zs.filter fun x => !(x == t)) = X1 at C1 C2 E1
  generalize afterL zs t p.toNat = X2 at C3 C4 E2
  generalize countL zs (cutN 64 m) = X3 at C5 C6 E3
  have HB0 := hide (selfW w)
  clear L1 L2 L3 hr
  go_enter Try.func3, Try.ntmps3
  go_wp2_with fail
  refine (C1.out _ HB0.out).mono ?_
  rintro e w1 ⟨⟨B1, d1, rfl, hr1⟩, hb⟩
  have HB1 := hide (extW HB0.out hb)
  have HR1 := hide hr1
  have HX1 := hide hb
  clear hb hr1
  go_wp2_with fail
  refine (C2.out _ HB1.out).mono ?_
  rintro e w2 ⟨⟨B2, d2, rfl, hr2⟩, hb⟩
  have HB2 := hide (extW HB1.out hb)
  have HR2 := hide hr2
  have HX2 := hide hb
  clear hb hr2
  go_wp2_with fail
  refine (E1.out _ _ _ _ _ (HR1.out.below HX2.out) HR2.out).mono ?_
  rintro e w3 ⟨rfl, hb⟩
  have HB3 := hide (extW HB2.out hb)
  clear hb
  go_wp2_with fail
  refine (C3.out _ HB3.out).mono ?_
  rintro e w4 ⟨⟨B4, d4, rfl, hr4⟩, hb⟩
  have HB4 := hide (extW HB3.out hb)
  have HR4 := hide hr4
  have HX4 := hide hb
  clear hb hr4
  go_wp2_with fail
  refine (C4.out _ HB4.out).mono ?_
  rintro e w5 ⟨⟨B5, d5, rfl, hr5⟩, hb⟩
  have HB5 := hide (extW HB4.out hb)
  have HR5 := hide hr5
  have HX5 := hide hb
  clear hb hr5
  go_wp2_with fail
  refine (E2.out _ _ _ _ _ (HR4.out.below HX5.out) HR5.out).mono ?_
  rintro e w6 ⟨rfl, hb⟩
  have HB6 := hide (extW HB5.out hb)
  clear hb
  go_wp2_with fail
  refine (C5.out _ HB6.out).mono ?_
  rintro e w7 ⟨⟨B7, d7, rfl, hr7⟩, hb⟩
  have HB7 := hide (extW HB6.out hb)
  have HR7 := hide hr7
  have HX7 := hide hb
  clear hb hr7
  go_wp2_with fail
  refine (C6.out _ HB7.out).mono ?_
  rintro e w8 ⟨⟨B8, d8, rfl, hr8⟩, hb⟩
  have HB8 := hide (extW HB7.out hb)
  have HR8 := hide hr8
  have HX8 := hide hb
  clear hb hr8
  go_wp2_with fail
  refine (E3.out _ _ _ _ _ (HR7.out.below HX8.out) HR8.out).mono ?_
  rintro e w9 ⟨rfl, hb⟩
  have HB9 := hide (extW HB8.out hb)
  clear hb
  go_wp2_with fail
  refine (awake29 _).mono ?_
  rintro e w10 ⟨rfl, hb⟩
  have HB10 := hide (extW HB9.out hb)
  clear hb
  go_wp2_with fail
  go_ret
  exact ⟨rfl, HB10.out⟩

set_option maxHeartbeats 2000000 in
theorem fair_law (m v : Int) (hl : zs.length ≤ 17592186043904) (hcap : zs.length ≤ c) (hv : v ≤ 9223372036854775807) (hr : RdI w .i64 A zs) :
    Calls Try.prog 4 #[.slice A zs.length c, .int .i64 m, .int .i64 v] w fun e w' => e = .returned (.bool true) ∧ Below w.heap.size w w' := by
  have C1 := hide (fun w1 (h : Below w.heap.size w w1) => fair_any w1 A c zs m v (by omega) hv (hr.below h))
  have C2 := hide (fun w1 (h : Below w.heap.size w w1) => rfair_any w1 A c zs m v (by omega) hcap hv (hr.below h))
  have C3 := hide (fun w1 (h : Below w.heap.size w w1) => least_any w1 A c zs m (by omega) (hr.below h))
  have C4 := hide (fun w1 (h : Below w.heap.size w w1) => rleast_any w1 A c zs m (by omega) (hr.below h))
  generalize fairB zs (cutN 64 m) v = X1 at C1 C2
  generalize (mg zs (cutN 64 m) : Int) + 1 = X2 at C3 C4
  have HB0 := hide (selfW w)
  obtain ⟨n, hn⟩ : ∃ n, n = zs.length := ⟨_, rfl⟩
  rw [← hn] at hl C1 C2 C3 C4 ⊢
  clear hr hn hcap hv
  by_cases h200 : 200 < n
  · go_enter Try.func4, Try.ntmps4
    go_wp2_with fail
    refine (awake29 _).mono ?_
    rintro e w1 ⟨rfl, hb⟩
    go_wp2_with fail
    go_ret
    exact ⟨rfl, hb⟩
  · go_enter Try.func4, Try.ntmps4
    go_wp2_with fail
    refine (C1.out _ HB0.out).mono ?_
    rintro e w1 ⟨rfl, hb⟩
    have HB1 := hide (extW HB0.out hb)
    clear hb
    go_wp2_with fail
    refine (C2.out _ HB1.out).mono ?_
    rintro e w' ⟨rfl, rfl⟩
    go_wp2_with fail
    refine (C3.out _ HB1.out).mono ?_
    rintro e w2 ⟨rfl, hb⟩
    have HB2 := hide (extW HB1.out hb)
    clear hb
    go_wp2_with fail
    refine (C4.out _ HB2.out).mono ?_
    rintro e w' ⟨rfl, rfl⟩
    go_wp2_with fail
    refine (awake29 _).mono ?_
    rintro e w3 ⟨rfl, hb⟩
    have HB3 := hide (extW HB2.out hb)
    clear hb
    go_wp2_with fail
    go_ret
    exact ⟨rfl, HB3.out⟩

theorem fairB_mono {zs : List Int} {T : Nat} {a b : Int} (h : fairB zs T a = true) (hab : a ≤ b) : fairB zs T b = true := by
  simp only [fairB, decide_eq_true_eq] at h ⊢
  omega
theorem fairB_least (zs : List Int) (T : Nat) : fairB zs T ((mg zs T : Int) + 1) = true := by
  simp only [fairB, decide_eq_true_eq]
  omega

set_option maxHeartbeats 2000000 in
theorem wider_law (m a b : Int) (hl : zs.length ≤ 17592186043904) (ha : a ≤ 9223372036854775807) (hb : b ≤ 9223372036854775807) (hr : RdI w .i64 A zs) :
    Calls Try.prog 5 #[.slice A zs.length c, .int .i64 m, .int .i64 a, .int .i64 b] w fun e w' => e = .returned (.bool true) ∧ Below w.heap.size w w' := by
  have hmg : (mg zs (cutN 64 m) : Int) + 1 ≤ 9223372036854775807 := by have := mg_le zs (cutN 64 m); omega
  have C1 := hide (fun w1 (h : Below w.heap.size w w1) => fair_any w1 A c zs m a (by omega) ha (hr.below h))
  have C2 := hide (fun w1 (h : Below w.heap.size w w1) => fair_any w1 A c zs m b (by omega) hb (hr.below h))
  have C3 := hide (fun w1 (h : Below w.heap.size w w1) => least_any w1 A c zs m (by omega) (hr.below h))
  have C4 := hide (fun w1 (h : Below w.heap.size w w1) => fair_any w1 A c zs m ((mg zs (cutN 64 m) : Int) + 1) (by omega) hmg (hr.below h))
  rw [fairB_least] at C4
  have hmono : fairB zs (cutN 64 m) a = true → a ≤ b → fairB zs (cutN 64 m) b = true := fun h1 h2 => fairB_mono h1 h2
  have HMO := hide hmono
  generalize fairB zs (cutN 64 m) a = X1 at C1 HMO
  generalize fairB zs (cutN 64 m) b = X2 at C2 HMO
  generalize (mg zs (cutN 64 m) : Int) + 1 = X3 at C3 C4
  have HB0 := hide (selfW w)
  obtain ⟨n, hn⟩ : ∃ n, n = zs.length := ⟨_, rfl⟩
  rw [← hn] at hl C1 C2 C3 C4 ⊢
  clear hr hn ha hb hmono hmg
  by_cases h200 : 200 < n
  · go_enter Try.func5, Try.ntmps5
    go_wp2_with fail
    refine (awake29 _).mono ?_
    rintro e w1 ⟨rfl, hb⟩
    go_wp2_with fail
    go_ret
    exact ⟨rfl, hb⟩
  rcases X1 with _ | _
  · go_enter Try.func5, Try.ntmps5
    go_wp2_with fail
    refine (C1.out _ HB0.out).mono ?_
    rintro e w1 ⟨rfl, hb⟩
    have HB1 := hide (extW HB0.out hb)
    clear hb
    go_wp2_with fail
    refine (C3.out _ HB1.out).mono ?_
    rintro e w2 ⟨rfl, hb⟩
    have HB2 := hide (extW HB1.out hb)
    clear hb
    go_wp2_with fail
    refine (C4.out _ HB2.out).mono ?_
    rintro e w3 ⟨rfl, hb⟩
    have HB3 := hide (extW HB2.out hb)
    clear hb
    go_wp2_with fail
    refine (awake29 _).mono ?_
    rintro e w4 ⟨rfl, hb⟩
    have HB4 := hide (extW HB3.out hb)
    clear hb
    go_wp2_with fail
    go_ret
    exact ⟨rfl, HB4.out⟩
  by_cases hba : b < a
  · go_enter Try.func5, Try.ntmps5
    go_wp2_with fail
    refine (C1.out _ HB0.out).mono ?_
    rintro e w1 ⟨rfl, hb⟩
    have HB1 := hide (extW HB0.out hb)
    clear hb
    go_wp2_with fail
    refine (C3.out _ HB1.out).mono ?_
    rintro e w2 ⟨rfl, hb⟩
    have HB2 := hide (extW HB1.out hb)
    clear hb
    go_wp2_with fail
    refine (C4.out _ HB2.out).mono ?_
    rintro e w3 ⟨rfl, hb⟩
    have HB3 := hide (extW HB2.out hb)
    clear hb
    go_wp2_with fail
    refine (awake29 _).mono ?_
    rintro e w4 ⟨rfl, hb⟩
    have HB4 := hide (extW HB3.out hb)
    clear hb
    go_wp2_with fail
    go_ret
    exact ⟨rfl, HB4.out⟩
  have hx2 : X2 = true := HMO.out rfl (by omega)
  subst hx2
  have hbab : decide (b < a) = false := decide_eq_false hba
  · go_enter Try.func5, Try.ntmps5
    go_wp2_with fail
    refine (C1.out _ HB0.out).mono ?_
    rintro e w1 ⟨rfl, hb⟩
    have HB1 := hide (extW HB0.out hb)
    clear hb
    go_wp2_with fail
    refine (C2.out _ HB1.out).mono ?_
    rintro e w2 ⟨rfl, hb⟩
    have HB2 := hide (extW HB1.out hb)
    clear hb
    go_wp2_with fail
    refine (C3.out _ HB2.out).mono ?_
    rintro e w3 ⟨rfl, hb⟩
    have HB3 := hide (extW HB2.out hb)
    clear hb
    go_wp2_with fail
    refine (C4.out _ HB3.out).mono ?_
    rintro e w4 ⟨rfl, hb⟩
    have HB4 := hide (extW HB3.out hb)
    clear hb
    go_wp2_with fail
    refine (awake29 _).mono ?_
    rintro e w5 ⟨rfl, hb⟩
    have HB5 := hide (extW HB4.out hb)
    clear hb
    go_wp2_with fail
    go_ret
    exact ⟨rfl, HB5.out⟩
end
end Go.Proofs.Ytphjbdoephmgfaa
