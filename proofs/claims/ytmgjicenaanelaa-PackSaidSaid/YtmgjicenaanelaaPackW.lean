/- The walks of packages pack and stopgateref02 on results and epochs, and of stopgateplain.Res. -/
import Derived.Test.YtmgjicenaanelaaEpochW
namespace Go.Proofs.Ytmgjicenaanelaa
open Go.RowKit

theorem i64_wrap (n : Int) (h : -9223372036854775808 ≤ n ∧ n ≤ 9223372036854775807) : wrap64 n = n := by unfold wrap64; omega

/-! ### masks and joins -/
theorem and15 (x : Int) (h0 : 0 ≤ x) (h1 : x < 18446744073709551616) : bits BinOp.and IntKind.u64 x 15 = x % 16 := by
  rw [u64_and _ _ h0 h1 (by omega) (by omega), show (15 : Int).toNat = 15 from rfl, nat_mask4]; omega
theorem and1 (x : Int) (h0 : 0 ≤ x) (h1 : x < 18446744073709551616) : bits BinOp.and IntKind.u64 x 1 = x % 2 := by
  rw [u64_and _ _ h0 h1 (by omega) (by omega), show (1 : Int).toNat = 1 from rfl, nat_mask1]; omega
theorem and255 (x : Int) (h0 : 0 ≤ x) (h1 : x < 18446744073709551616) : bits BinOp.and IntKind.u64 x 255 = x % 256 := by
  rw [u64_and _ _ h0 h1 (by omega) (by omega), show (255 : Int).toNat = 255 from rfl, nat_mask8]; omega
theorem and65535 (x : Int) (h0 : 0 ≤ x) (h1 : x < 18446744073709551616) : bits BinOp.and IntKind.u64 x 65535 = x % 65536 := by
  rw [u64_and _ _ h0 h1 (by omega) (by omega), show (65535 : Int).toNat = 65535 from rfl, nat_mask16]; omega
theorem and32 (x : Int) (h0 : 0 ≤ x) (h1 : x < 18446744073709551616) : bits BinOp.and IntKind.u64 x 4294967295 = x % 4294967296 := by
  rw [u64_and _ _ h0 h1 (by omega) (by omega), show (4294967295 : Int).toNat = 2 ^ 32 - 1 from rfl, Nat.and_two_pow_sub_one_eq_mod]; omega
theorem or_up (i : Nat) (x y : Int) (hx0 : 0 ≤ x) (hx1 : x < 18446744073709551616) (hy0 : 0 ≤ y) (hy1 : y < 18446744073709551616) (hx : x % 2 ^ i = 0) (hy : y < 2 ^ i) : bits BinOp.or IntKind.u64 x y = x + y := by
  obtain ⟨a, rfl⟩ := Int.eq_ofNat_of_zero_le hx0
  obtain ⟨b, rfl⟩ := Int.eq_ofNat_of_zero_le hy0
  rw [u64_or _ _ hx0 hx1 hy0 hy1, Int.toNat_natCast, Int.toNat_natCast, nat_join i a b (by exact_mod_cast hx) (by exact_mod_cast hy)]
  simp
theorem or_lo (i : Nat) (x y : Int) (hx0 : 0 ≤ x) (hx1 : x < 18446744073709551616) (hy0 : 0 ≤ y) (hy1 : y < 18446744073709551616) (hx : y % 2 ^ i = 0) (hy : x < 2 ^ i) : bits BinOp.or IntKind.u64 x y = x + y := by
  obtain ⟨a, rfl⟩ := Int.eq_ofNat_of_zero_le hx0
  obtain ⟨b, rfl⟩ := Int.eq_ofNat_of_zero_le hy0
  rw [u64_or _ _ hx0 hx1 hy0 hy1, Int.toNat_natCast, Int.toNat_natCast, Nat.or_comm, nat_join i b a (by exact_mod_cast hx) (by exact_mod_cast hy)]
  simp; omega

/-! ### results -/
def goodB (s c o v : Int) : Bool := decide (0 ≤ s ∧ s ≤ 1048575 ∧ 0 ≤ c ∧ c ≤ 15 ∧ 0 ≤ o ∧ o ≤ 255 ∧ 0 ≤ v ∧ v ≤ 4294967295)
def resW (s c o v : Int) : Int := if goodB s c o v = true then s * 17592186044416 + c * 1099511627776 + o * 4294967296 + v else 0
def fitsB (n m : Int) : Bool := decide (0 ≤ n ∧ n < m)
theorem res_or (s c o v : Int) (b1 : 0 ≤ s) (b2 : s ≤ 1048575) (b3 : 0 ≤ c) (b4 : c ≤ 15) (b5 : 0 ≤ o) (b6 : o ≤ 255) (b7 : 0 ≤ v) (b8 : v ≤ 4294967295) :
    bits BinOp.or IntKind.u64 (bits BinOp.or IntKind.u64 (bits BinOp.or IntKind.u64 (s * 17592186044416) (c * 1099511627776)) (o * 4294967296)) v = resW s c o v := by
  rw [or_up 44 (s * 17592186044416) (c * 1099511627776) (by omega) (by omega) (by omega) (by omega) (by omega) (by omega),
    or_up 40 _ (o * 4294967296) (by omega) (by omega) (by omega) (by omega) (by omega) (by omega),
    or_up 32 _ v (by omega) (by omega) (by omega) (by omega) (by omega) (by omega)]
  unfold resW
  rw [if_pos (by simp [goodB]; omega)]

section
variable (w : World)

set_option maxHeartbeats 400000 in
theorem fits32 (n : Int) : Calls Try.prog 55 #[.int .i64 n, .int .i64 32] w fun e w' => e = .returned (.bool (fitsB n 4294967296)) ∧ w = w' := by
  go_enter Try.func55, Try.ntmps55
  go_wp2
  all_goals go_ret
  all_goals exact ⟨ret_bool (by rw [Bool.eq_iff_iff]; simp [fitsB] <;> omega), rfl⟩
set_option maxHeartbeats 400000 in
theorem fits16 (n : Int) : Calls Try.prog 55 #[.int .i64 n, .int .i64 16] w fun e w' => e = .returned (.bool (fitsB n 65536)) ∧ w = w' := by
  go_enter Try.func55, Try.ntmps55
  go_wp2
  all_goals go_ret
  all_goals exact ⟨ret_bool (by rw [Bool.eq_iff_iff]; simp [fitsB] <;> omega), rfl⟩
set_option maxHeartbeats 400000 in
theorem fits8 (n : Int) : Calls Try.prog 55 #[.int .i64 n, .int .i64 8] w fun e w' => e = .returned (.bool (fitsB n 256)) ∧ w = w' := by
  go_enter Try.func55, Try.ntmps55
  go_wp2
  all_goals go_ret
  all_goals exact ⟨ret_bool (by rw [Bool.eq_iff_iff]; simp [fitsB] <;> omega), rfl⟩
set_option maxHeartbeats 400000 in
theorem fits4 (n : Int) : Calls Try.prog 55 #[.int .i64 n, .int .i64 4] w fun e w' => e = .returned (.bool (fitsB n 16)) ∧ w = w' := by
  go_enter Try.func55, Try.ntmps55
  go_wp2
  all_goals go_ret
  all_goals exact ⟨ret_bool (by rw [Bool.eq_iff_iff]; simp [fitsB] <;> omega), rfl⟩

variable (s c o v : Int)
set_option maxHeartbeats 1000000 in
theorem good_any : Calls Try.prog 30 #[.agg #[.int .i64 s, .int .i64 c, .int .i64 o, .int .i64 v]] w fun e w' => e = .returned (.bool (goodB s c o v)) ∧ Below w.heap.size w w' := by
  go_enter Try.func30, Try.ntmps30
  go_wp2_with fail
  refine (fits32 _ _).mono ?_; rintro e w' ⟨rfl, rfl⟩
  rcases h1 : fitsB v 4294967296 with _ | _
  · go_wp2
    go_ret
    exact ⟨ret_bool (by symm; simp [fitsB] at h1; simp [goodB]; omega), (Below.refl _ _).alloc (Nat.le_refl _) _⟩
  go_wp2_with fail
  refine (fits8 _ _).mono ?_; rintro e w' ⟨rfl, rfl⟩
  rcases h2 : fitsB o 256 with _ | _
  · go_wp2
    go_ret
    exact ⟨ret_bool (by symm; simp [fitsB] at h2; simp [goodB]; omega), (Below.refl _ _).alloc (Nat.le_refl _) _⟩
  go_wp2_with fail
  refine (fits4 _ _).mono ?_; rintro e w' ⟨rfl, rfl⟩
  rcases h3 : fitsB c 16 with _ | _
  · go_wp2
    go_ret
    exact ⟨ret_bool (by symm; simp [fitsB] at h3; simp [goodB]; omega), (Below.refl _ _).alloc (Nat.le_refl _) _⟩
  go_wp2
  all_goals go_ret
  all_goals exact ⟨ret_bool (by rw [Bool.eq_iff_iff]; simp [fitsB] at h1 h2 h3; simp [goodB] <;> omega), (Below.refl _ _).alloc (Nat.le_refl _) _⟩

set_option maxHeartbeats 1000000 in
theorem rgood_any : Calls Try.prog 31 #[.agg #[.int .i64 s, .int .i64 c, .int .i64 o, .int .i64 v]] w fun e w' => e = .returned (.bool (goodB s c o v)) ∧ Below w.heap.size w w' := by
  go_enter Try.func31, Try.ntmps31
  go_wp2
  all_goals go_ret
  all_goals exact ⟨ret_bool (by rw [Bool.eq_iff_iff]; simp [goodB] <;> omega), (Below.refl _ _).alloc (Nat.le_refl _) _⟩

set_option maxHeartbeats 1000000 in
theorem result_any : Calls Try.prog 32 #[.agg #[.int .i64 s, .int .i64 c, .int .i64 o, .int .i64 v]] w fun e w' => e = .returned (.int .u64 (resW s c o v)) ∧ Below w.heap.size w w' := by
  rcases hg : goodB s c o v with _ | _
  · have HG := hide hg; clear hg
    go_enter Try.func32, Try.ntmps32
    go_wp2_with fail
    refine (good_any _ s c o v).mono ?_
    rw [HG.out]
    rintro e w1 ⟨rfl, hb1⟩
    go_wp2_with fail
    go_ret
    exact ⟨ret_int (by unfold resW; rw [HG.out]; simp), ((Below.refl _ _).alloc (Nat.le_refl _) _).trans (hb1.mono (by simp))⟩
  · have hg' := hg
    simp only [goodB, decide_eq_true_eq] at hg'
    obtain ⟨b1, b2, b3, b4, b5, b6, b7, b8⟩ := hg'
    have HG := hide hg; clear hg
    go_enter Try.func32, Try.ntmps32
    go_wp2_with fail
    refine (good_any _ s c o v).mono ?_
    rw [HG.out]
    rintro e w1 ⟨rfl, hb1⟩
    have hc : ∀ i, w1.cell? ⟨w.heap.size, i, none⟩ = _ := fun i => hb1.cell (p := ⟨w.heap.size, i, none⟩) (by simp)
    go_wp2_with fail
    go_ret
    exact ⟨ret_int (res_or s c o v b1 b2 b3 b4 b5 b6 b7 b8), ((Below.refl _ _).alloc (Nat.le_refl _) _).trans (hb1.mono (by simp))⟩

set_option maxHeartbeats 1000000 in
theorem rresult_any : Calls Try.prog 33 #[.agg #[.int .i64 s, .int .i64 c, .int .i64 o, .int .i64 v]] w fun e w' => e = .returned (.int .u64 (resW s c o v)) ∧ Below w.heap.size w w' := by
  rcases hg : goodB s c o v with _ | _
  · have HG := hide hg; clear hg
    go_enter Try.func33, Try.ntmps33
    go_wp2_with fail
    refine (rgood_any _ s c o v).mono ?_
    rw [HG.out]
    rintro e w1 ⟨rfl, hb1⟩
    go_wp2_with fail
    go_ret
    exact ⟨ret_int (by unfold resW; rw [HG.out]; simp), ((Below.refl _ _).alloc (Nat.le_refl _) _).trans (hb1.mono (by simp))⟩
  · have hg' := hg
    simp only [goodB, decide_eq_true_eq] at hg'
    obtain ⟨b1, b2, b3, b4, b5, b6, b7, b8⟩ := hg'
    have HG := hide hg; clear hg
    go_enter Try.func33, Try.ntmps33
    go_wp2_with fail
    refine (rgood_any _ s c o v).mono ?_
    rw [HG.out]
    rintro e w1 ⟨rfl, hb1⟩
    have hc : ∀ i, w1.cell? ⟨w.heap.size, i, none⟩ = _ := fun i => hb1.cell (p := ⟨w.heap.size, i, none⟩) (by simp)
    go_wp2_with fail
    go_ret
    exact ⟨ret_int (by unfold resW; rw [if_pos HG.out]; simp; omega), ((Below.refl _ _).alloc (Nat.le_refl _) _).trans (hb1.mono (by simp))⟩

/-- the parts of a result's word -/
def rS (x : Int) : Int := x / 17592186044416
def rC (x : Int) : Int := x / 1099511627776 % 16
def rO (x : Int) : Int := x / 4294967296 % 256
def rV (x : Int) : Int := x % 4294967296

theorem agg4 {a b c d a' b' c' d' : Int} (h1 : a = a') (h2 : b = b') (h3 : c = c') (h4 : d = d') : Ending.returned (.agg #[.int .i64 a, .int .i64 b, .int .i64 c, .int .i64 d]) = .returned (.agg #[.int .i64 a', .int .i64 b', .int .i64 c', .int .i64 d']) := by
  rw [h1, h2, h3, h4]

set_option maxHeartbeats 1000000 in
theorem read_any (x : Int) (h0 : 0 ≤ x) (h1 : x < 18446744073709551616) :
    Calls Try.prog 35 #[.int .u64 x] w fun e w' => e = .returned (.agg #[.int .i64 (rS x), .int .i64 (rC x), .int .i64 (rO x), .int .i64 (rV x)]) ∧ Below w.heap.size w w' := by
  have H1 := hide h1; clear h1
  go_enter Try.func35, Try.ntmps35
  go_wp2
  refine bodyPost_ret (v := .agg #[.int .i64 (wrap64 (x / 17592186044416)), .int .i64 (wrap64 (bits BinOp.and IntKind.u64 (x / 1099511627776) 15)), .int .i64 (wrap64 (bits BinOp.and IntKind.u64 (x / 4294967296) 255)), .int .i64 (wrap64 (bits BinOp.and IntKind.u64 x 4294967295))]) (by simp [results, Try.results35, go_sem]) rfl ⟨?_, (Below.refl _ _).alloc (Nat.le_refl _) _⟩
  have h1 := H1.out
  rw [and15 _ (by omega) (by omega), and255 _ (by omega) (by omega), and32 _ (by omega) (by omega)]
  refine agg4 ?_ ?_ ?_ ?_ <;> simp only [rS, rC, rO, rV] <;> exact i64_wrap _ (by omega)

set_option maxHeartbeats 1000000 in
theorem rread_any (x : Int) (h0 : 0 ≤ x) (h1 : x < 18446744073709551616) :
    Calls Try.prog 36 #[.int .u64 x] w fun e w' => e = .returned (.agg #[.int .i64 (rS x), .int .i64 (rC x), .int .i64 (rO x), .int .i64 (rV x)]) ∧ Below w.heap.size w w' := by
  have H1 := hide h1; clear h1
  go_enter Try.func36, Try.ntmps36
  go_wp2
  refine bodyPost_ret (v := ?_) ?_ rfl ?_
  rotate_left
  · simp [results, Try.results36, go_sem]
    rfl
  · refine ⟨?_, ((((((Below.refl _ _).alloc (Nat.le_refl _) _).alloc (by simp) _))))⟩
    have h1 := H1.out
    have e1 : IntKind.u64.wrap (x.tdiv 4294967296) = x / 4294967296 := by rw [Int.tdiv_eq_ediv_of_nonneg h0, IntKind.wrap_u64]; omega
    have e2 : IntKind.u64.wrap ((x / 4294967296).tdiv 256) = x / 1099511627776 := by rw [Int.tdiv_eq_ediv_of_nonneg (by omega), IntKind.wrap_u64]; omega
    have e3 : IntKind.u64.wrap ((x / 1099511627776).tdiv 16) = x / 17592186044416 := by rw [Int.tdiv_eq_ediv_of_nonneg (by omega), IntKind.wrap_u64]; omega
    have e4 : (x / 1099511627776).tmod 16 = x / 1099511627776 % 16 := Int.tmod_eq_emod_of_nonneg (by omega)
    have e5 : (x / 4294967296).tmod 256 = x / 4294967296 % 256 := Int.tmod_eq_emod_of_nonneg (by omega)
    rw [e1, e2, e3, e4, e5]
    refine agg4 ?_ ?_ ?_ ?_ <;> simp only [rS, rC, rO, rV] <;> first | rfl | exact i64_wrap _ (by omega)

set_option maxHeartbeats 1000000 in
theorem res_same (s c o v s' c' o' v' : Int) : Calls Try.prog 34 #[.agg #[.int .i64 s, .int .i64 c, .int .i64 o, .int .i64 v], .agg #[.int .i64 s', .int .i64 c', .int .i64 o', .int .i64 v']] w fun e w' => e = .returned (.bool (decide (s = s' ∧ c = c' ∧ o = o' ∧ v = v'))) ∧ Below w.heap.size w w' := by
  generalize hb : decide (s = s' ∧ c = c' ∧ o = o' ∧ v = v') = b
  have HB := hide hb; clear hb
  go_enter Try.func34, Try.ntmps34
  go_wp2
  all_goals go_ret
  all_goals refine ⟨ret_bool ?_, ((Below.refl _ _).alloc (Nat.le_refl _) _).alloc (by simp) _⟩
  all_goals rw [← HB.out, Bool.eq_iff_iff]
  all_goals simp_all

def finB (o : Int) : Bool := o != 14
def rankI (s o : Int) : Int := if finB o = true then wrap64 (wrap64 (2 * s) + 1) else wrap64 (2 * s)

set_option maxHeartbeats 1000000 in
theorem final_any (s c o v : Int) : Calls Try.prog 45 #[.agg #[.int .i64 s, .int .i64 c, .int .i64 o, .int .i64 v]] w fun e w' => e = .returned (.bool (finB o)) ∧ Below w.heap.size w w' := by
  go_enter Try.func45, Try.ntmps45
  go_wp2
  go_ret
  exact ⟨rfl, (Below.refl _ _).alloc (Nat.le_refl _) _⟩
set_option maxHeartbeats 1000000 in
theorem rfinal_any (s c o v : Int) : Calls Try.prog 46 #[.agg #[.int .i64 s, .int .i64 c, .int .i64 o, .int .i64 v]] w fun e w' => e = .returned (.bool (finB o)) ∧ Below w.heap.size w w' := by
  go_enter Try.func46, Try.ntmps46
  go_wp2
  go_ret
  exact ⟨rfl, (Below.refl _ _).alloc (Nat.le_refl _) _⟩

set_option maxHeartbeats 1000000 in
theorem rank_any (s c o v : Int) : Calls Try.prog 47 #[.agg #[.int .i64 s, .int .i64 c, .int .i64 o, .int .i64 v]] w fun e w' => e = .returned (.int .i64 (rankI s o)) ∧ Below w.heap.size w w' := by
  rcases hf : finB o with _ | _
  all_goals
    have HF := hide hf; clear hf
    go_enter Try.func47, Try.ntmps47
    go_wp2_with fail
    refine (final_any _ s c o v).mono ?_
    rw [HF.out]
    rintro e w1 ⟨rfl, hb1⟩
    have hc : ∀ i, w1.cell? ⟨w.heap.size, i, none⟩ = _ := fun i => hb1.cell (p := ⟨w.heap.size, i, none⟩) (by simp)
    go_wp2_with fail
    go_ret
    exact ⟨ret_int (by unfold rankI; rw [HF.out]; simp), ((Below.refl _ _).alloc (Nat.le_refl _) _).trans (hb1.mono (by simp))⟩

set_option maxHeartbeats 1000000 in
theorem rrank_any (s c o v : Int) : Calls Try.prog 48 #[.agg #[.int .i64 s, .int .i64 c, .int .i64 o, .int .i64 v]] w fun e w' => e = .returned (.int .i64 (rankI s o)) ∧ Below w.heap.size w w' := by
  rcases hf : finB o with _ | _
  all_goals
    have HF := hide hf; clear hf
    go_enter Try.func48, Try.ntmps48
    go_wp2_with fail
    refine (rfinal_any _ s c o v).mono ?_
    rw [HF.out]
    rintro e w1 ⟨rfl, hb1⟩
    have hc : ∀ i, w1.cell? ⟨w.heap.size, i, none⟩ = _ := fun i => hb1.cell (p := ⟨w.heap.size, i, none⟩) (by simp)
    go_wp2_with fail
    go_ret
    exact ⟨ret_int (by unfold rankI; rw [HF.out]; simp [Int.two_mul]), ((Below.refl _ _).alloc (Nat.le_refl _) _).trans (hb1.mono (by simp))⟩

def behindB (x y : Int) : Bool := decide (rankI (rS x) (rO x) < rankI (rS y) (rO y))
theorem behind_alt (x y : Int) (hx0 : 0 ≤ x) (hx : x < 18446744073709551616) (hy0 : 0 ≤ y) (hy : y < 18446744073709551616) :
    behindB x y = decide (rS x < rS y ∨ rS x = rS y ∧ finB (rO x) = false ∧ finB (rO y) = true) := by
  have h1 : 0 ≤ rS x ∧ rS x < 1048576 := by unfold rS; omega
  have h2 : 0 ≤ rS y ∧ rS y < 1048576 := by unfold rS; omega
  unfold behindB rankI wrap64
  rcases finB (rO x) with _ | _ <;> rcases finB (rO y) with _ | _ <;> rw [decide_eq_decide] <;> simp <;> omega
theorem behind_not (x y : Int) : (behindB x y && behindB y x) = false := by
  unfold behindB
  rw [← Bool.decide_and, decide_eq_false_iff_not]
  omega
theorem behind_self (x : Int) : behindB x x = false := by
  unfold behindB
  rw [decide_eq_false_iff_not]
  omega

set_option maxHeartbeats 1000000 in
theorem behind_any (x y : Int) (hx0 : 0 ≤ x) (hx : x < 18446744073709551616) (hy0 : 0 ≤ y) (hy : y < 18446744073709551616) :
    Calls Try.prog 49 #[.int .u64 x, .int .u64 y] w fun e w' => e = .returned (.bool (behindB x y)) ∧ Below w.heap.size w w' := by
  have H1 := hide hx; have H2 := hide hy; clear hx hy
  go_enter Try.func49, Try.ntmps49
  go_wp2_with fail
  refine (read_any _ x hx0 H1.out).mono ?_; rintro e w1 ⟨rfl, hb1⟩
  go_wp2_with fail
  refine (rank_any _ _ _ _ _).mono ?_; rintro e w2 ⟨rfl, hb2⟩
  go_wp2_with fail
  refine (read_any _ y hy0 H2.out).mono ?_; rintro e w3 ⟨rfl, hb3⟩
  go_wp2_with fail
  refine (rank_any _ _ _ _ _).mono ?_; rintro e w4 ⟨rfl, hb4⟩
  go_wp2_with fail
  go_ret
  exact ⟨rfl, extW (extW (extW hb1 hb2) hb3) hb4⟩

set_option maxHeartbeats 1000000 in
theorem rbehind_any (x y : Int) (hx0 : 0 ≤ x) (hx : x < 18446744073709551616) (hy0 : 0 ≤ y) (hy : y < 18446744073709551616) :
    Calls Try.prog 50 #[.int .u64 x, .int .u64 y] w fun e w' => e = .returned (.bool (behindB x y)) ∧ Below w.heap.size w w' := by
  have HB := hide (behind_alt x y hx0 hx hy0 hy)
  have H1 := hide hx; have H2 := hide hy; clear hx hy
  go_enter Try.func50, Try.ntmps50
  go_wp2_with fail
  refine (rread_any _ x hx0 H1.out).mono ?_; rintro e w1 ⟨rfl, hb1⟩
  go_wp2_with fail
  refine (rread_any _ y hy0 H2.out).mono ?_; rintro e w2 ⟨rfl, hb2⟩
  have hbb := (extW hb1 hb2)
  by_cases h1 : rS x < rS y
  · go_wp2_with fail
    go_ret
    refine ⟨ret_bool (by rw [HB.out]; symm; simp [h1]), ?_⟩
    exact moreW (moreW hbb _) _
  · by_cases h2 : rS x = rS y
    · have h2b : (rS x == rS y) = true := by simpa using h2
      have HE := hide h2; clear h2
      go_wp2_with fail
      refine (rfinal_any _ _ _ _ _).mono ?_
      rcases hf : finB (rO x) with _ | _
      · have HF := hide hf; clear hf
        rintro e w3 ⟨rfl, hb3⟩
        have hc : ∀ i, w3.cell? ⟨w2.heap.size, i, none⟩ = _ := fun i => hb3.cell (p := ⟨w2.heap.size, i, none⟩) (by simp; omega)
        have hd : ∀ i, w3.cell? ⟨w2.heap.size + 1, i, none⟩ = _ := fun i => hb3.cell (p := ⟨w2.heap.size + 1, i, none⟩) (by simp)
        go_wp2_with fail
        refine (rfinal_any _ _ _ _ _).mono ?_
        rintro e w4 ⟨rfl, hb4⟩
        go_wp2_with fail
        go_ret
        refine ⟨ret_bool (by rw [HB.out, HE.out, HF.out]; simp), extW (extW (moreW (moreW hbb _) _) hb3) hb4⟩
      · have HF := hide hf; clear hf
        rintro e w3 ⟨rfl, hb3⟩
        go_wp2_with fail
        go_ret
        refine ⟨ret_bool (by rw [HB.out, HE.out, HF.out]; simp), extW (moreW (moreW hbb _) _) hb3⟩
    · have h2b : (rS x == rS y) = false := by simpa using h2
      go_wp2_with fail
      go_ret
      refine ⟨ret_bool (by rw [HB.out]; symm; simp [h2]), moreW (moreW hbb _) _⟩
end
end Go.Proofs.Ytmgjicenaanelaa
