/- The walks of stopgateplain.Req, pack.same, pack.Call, stopgateref02.Call. -/
import Derived.Test.YtmgjicenaanelaaPackV
namespace Go.Proofs.Ytmgjicenaanelaa
open Go.RowKit

def reqB (ki ar va : Int) (df : Bool) (cs : List (Int × Int × Int)) (ki' ar' va' : Int) (df' : Bool) (cs' : List (Int × Int × Int)) : Bool :=
  ki == ki' && ar == ar' && va == va' && df == df' && cs == cs'

section
variable (w : World) (A B : Option Addr) (c d : Nat)

set_option maxHeartbeats 1000000 in
theorem req_any (ki ar va : Int) (df : Bool) (cs : List (Int × Int × Int)) (ki' ar' va' : Int) (df' : Bool) (cs' : List (Int × Int × Int)) (hl : cs.length ≤ 9223372036854775807) (hl' : cs'.length ≤ 9223372036854775807) (ha : RdF w caseC A cs) (hb : RdF w caseC B cs') :
    Calls Try.prog 44 #[.agg #[.int .i64 ki, .int .i64 ar, .int .i64 va, .bool df, .slice A cs.length c], .agg #[.int .i64 ki', .int .i64 ar', .int .i64 va', .bool df', .slice B cs'.length d]] w fun e w' => e = .returned (.bool (reqB ki ar va df cs ki' ar' va' df' cs')) ∧ Below w.heap.size w w' := by
  generalize hq : reqB ki ar va df cs ki' ar' va' df' cs' = b
  have HQ := hide hq; clear hq
  have HA := hide ha; have HB := hide hb; have HL := hide hl; have HL' := hide hl'; clear ha hb hl hl'
  by_cases h1 : ki = ki'
  · subst h1
    by_cases h2 : ar = ar'
    · subst h2
      by_cases h3 : va = va'
      · subst h3
        by_cases h4 : df = df'
        · subst h4
          go_enter Try.func44, Try.ntmps44
          go_wp2_with fail
          refine (cases_any A B c d _ cs cs' HL.out HL'.out ((HA.out.alloc _).alloc _) ((HB.out.alloc _).alloc _)).mono ?_
          rintro e w1 ⟨rfl, hd⟩
          go_wp2_with fail
          go_ret
          exact ⟨ret_bool (by rw [← HQ.out]; simp [reqB]), extW (moreW (moreW (selfW _) _) _) hd.extW⟩
        · have h4b : (df == df') = false := by simpa using h4
          have H4 := hide h4b; clear h4
          go_enter Try.func44, Try.ntmps44
          go_wp2_with fail
          go_ret
          exact ⟨ret_bool (by rw [← HQ.out]; unfold reqB; rw [H4.out]; simp), moreW (moreW (selfW _) _) _⟩
      · have h3b : (va == va') = false := by simpa using h3
        have H3 := hide h3b; clear h3
        go_enter Try.func44, Try.ntmps44
        go_wp2_with fail
        go_ret
        exact ⟨ret_bool (by rw [← HQ.out]; unfold reqB; rw [H3.out]; simp), moreW (moreW (selfW _) _) _⟩
    · have h2b : (ar == ar') = false := by simpa using h2
      have H2 := hide h2b; clear h2
      go_enter Try.func44, Try.ntmps44
      go_wp2_with fail
      go_ret
      exact ⟨ret_bool (by rw [← HQ.out]; unfold reqB; rw [H2.out]; simp), moreW (moreW (selfW _) _) _⟩
  · have h1b : (ki == ki') = false := by simpa using h1
    have H1 := hide h1b; clear h1
    go_enter Try.func44, Try.ntmps44
    go_wp2_with fail
    go_ret
    exact ⟨ret_bool (by rw [← HQ.out]; unfold reqB; rw [H1.out]; simp), moreW (moreW (selfW _) _) _⟩

set_option maxHeartbeats 400000 in
theorem same_any (xs ys : List Int) (hl : xs.length ≤ 17592186044416) (hl' : ys.length ≤ 17592186044416) (ha : RdI w .u64 A xs) (hb : RdI w .u64 B ys) :
    Calls Try.prog 56 #[.slice A xs.length c, .slice B ys.length d] w fun e w' => e = .returned (.bool (xs == ys)) ∧ w = w' := by
  obtain ⟨n, hn⟩ : ∃ n, n = xs.length := ⟨_, rfl⟩
  obtain ⟨m, hm⟩ : ∃ m, m = ys.length := ⟨_, rfl⟩
  rw [← hn] at hl ⊢
  rw [← hm] at hl' ⊢
  by_cases hnm : n = m
  · subst hnm
    have HN := hide hn; clear hn
    have HM := hide hm; clear hm
    have HA := hide ha; clear ha
    have HB := hide hb; clear hb
    go_enter Try.func56, Try.ntmps56
    go_wp2
    go_loop [14] (fun i => ∃ k : Nat, k ≤ n ∧ i = .int .i64 k ∧ Hid (∀ j x y, j < k → xs[j]? = some x → ys[j]? = some y → x = y)) (fun i => n - (intOf i).toNat)
    case atStart => exact ⟨0, Nat.zero_le _, rfl, fun j x y hj => by omega⟩
    case round =>
      obtain ⟨k, hk, rfl, HS⟩ := hrel
      by_cases hlt : k < n
      · obtain ⟨ad, x, hA, hx, hc⟩ := RdI.at_ HA.out (by rw [← HN.out]; exact hlt)
        obtain ⟨bd, y, hB, hy, hd⟩ := RdI.at_ HB.out (by rw [← HM.out]; exact hlt)
        subst hA; subst hB
        have HX := hide hx; clear hx
        have HY := hide hy; clear hy
        by_cases hxy : x = y
        · subst hxy
          go_wp2
          go_round
          case rel =>
            refine ⟨k + 1, by omega, by go_num, fun j x' y' hj hx' hy' => ?_⟩
            by_cases hjk : j = k
            · subst hjk
              have h1 := HX.out.symm.trans hx'
              have h2 := HY.out.symm.trans hy'
              simp only [Option.some.injEq] at h1 h2
              rw [← h1, ← h2]
            · exact HS.out j x' y' (by omega) hx' hy'
          case measure => simp [intOf]; omega
        · have hxy' : (y != x) = true := by simpa using fun h => hxy h.symm
          have HXY := hide hxy; clear hxy
          go_wp2
          go_ret
          refine ⟨ret_bool ?_, rfl⟩
          symm
          rw [beq_eq_false_iff_ne]
          rintro rfl
          have := HX.out.symm.trans HY.out
          simp only [Option.some.injEq] at this
          exact HXY.out this
      · go_wp2
        go_ret
        refine ⟨ret_bool ?_, rfl⟩
        symm
        rw [beq_iff_eq]
        exact same_all HN.out HM.out hlt HS.out
  · have hne : ((n : Int) != (m : Int)) = true := by simp; omega
    go_enter Try.func56, Try.ntmps56
    go_wp2
    go_ret
    refine ⟨ret_bool ?_, rfl⟩
    symm
    rw [beq_eq_false_iff_ne]
    rintro rfl
    omega
end

/-! ### a call's words -/
def caseW (x : Int × Int × Int) : Int := x.1 + x.2.1 * 256 + x.2.2 * 4294967296
def headW (ki ar va : Int) (df : Bool) (n : Int) : Int := ki + n * 256 + (if df = true then 4096 else 0) + ar * 65536 + va * 4294967296
def callL (ki ar va : Int) (df : Bool) (cs : List (Int × Int × Int)) (ph : Int) : List Int :=
  if fitsQ ki ar va cs = true ∧ fitsB ph 4294967296 = true then headW ki ar va df cs.length :: (cs.map caseW ++ List.replicate (3 - cs.length) 0 ++ [ph]) else []

theorem case_or (d h v : Int) (b1 : 1 ≤ d) (b2 : d ≤ 2) (b3 : 0 ≤ h) (b4 : h < 65536) (b5 : 0 ≤ v) (b6 : v < 4294967296) :
    bits BinOp.or IntKind.u64 (bits BinOp.or IntKind.u64 d (h * 256)) (v * 4294967296) = caseW (d, h, v) := by
  rw [or_lo 8 d (h * 256) (by omega) (by omega) (by omega) (by omega) (by omega) (by omega),
    or_lo 32 _ (v * 4294967296) (by omega) (by omega) (by omega) (by omega) (by omega) (by omega)]
  rfl
theorem head_or (ki ar va n : Int) (b1 : 1 ≤ ki) (b2 : ki ≤ 9) (b3 : 0 ≤ ar) (b4 : ar < 65536) (b5 : 0 ≤ va) (b6 : va < 4294967296) (b7 : 0 ≤ n) (b8 : n ≤ 3) :
    bits BinOp.or IntKind.u64 (bits BinOp.or IntKind.u64 (bits BinOp.or IntKind.u64 ki (n * 256)) (ar * 65536)) (va * 4294967296) = headW ki ar va false n := by
  rw [or_lo 8 ki (n * 256) (by omega) (by omega) (by omega) (by omega) (by omega) (by omega),
    or_lo 16 _ (ar * 65536) (by omega) (by omega) (by omega) (by omega) (by omega) (by omega),
    or_lo 32 _ (va * 4294967296) (by omega) (by omega) (by omega) (by omega) (by omega) (by omega)]
  simp [headW]
theorem head_df (ki ar va n : Int) (b1 : 1 ≤ ki) (b2 : ki ≤ 9) (b3 : 0 ≤ ar) (b4 : ar < 65536) (b5 : 0 ≤ va) (b6 : va < 4294967296) (b7 : 0 ≤ n) (b8 : n ≤ 3) :
    bits BinOp.or IntKind.u64 (headW ki ar va false n) 4096 = headW ki ar va true n := by
  have e : headW ki ar va false n = (ki + n * 256) + (ar + va * 65536) * 65536 := by simp [headW]; omega
  have l1 : bits BinOp.or IntKind.u64 (ki + n * 256) ((ar + va * 65536) * 65536) = headW ki ar va false n := by
    rw [or_lo 16 _ _ (by omega) (by omega) (by omega) (by omega) (by omega) (by omega), e]
  have l2 : bits BinOp.or IntKind.u64 (ki + n * 256) 4096 = ki + n * 256 + 4096 := or_lo 12 _ _ (by omega) (by omega) (by omega) (by omega) (by omega) (by omega)
  have l3 : bits BinOp.or IntKind.u64 (ki + n * 256 + 4096) ((ar + va * 65536) * 65536) = headW ki ar va true n := by
    rw [or_lo 16 _ _ (by omega) (by omega) (by omega) (by omega) (by omega) (by omega)]; simp [headW]; omega
  have c1 : bits BinOp.or IntKind.u64 (bits BinOp.or IntKind.u64 (ki + n * 256) ((ar + va * 65536) * 65536)) 4096 = bits BinOp.or IntKind.u64 (bits BinOp.or IntKind.u64 (ki + n * 256) 4096) ((ar + va * 65536) * 65536) := by
    obtain ⟨x, hx⟩ := Int.eq_ofNat_of_zero_le (show 0 ≤ ki + n * 256 by omega)
    obtain ⟨y, hy⟩ := Int.eq_ofNat_of_zero_le (show 0 ≤ (ar + va * 65536) * 65536 by omega)
    have hx1 : x < 2 ^ 64 := by omega
    have hy1 : y < 2 ^ 64 := by omega
    rw [hx, hy]
    have o1 := u64_or_nat x y (by omega) (by omega)
    have o2 := u64_or_nat x 4096 (by omega) (by omega)
    have n1 : x ||| y < 2 ^ 64 := Nat.or_lt_two_pow hx1 hy1
    have n2 : x ||| 4096 < 2 ^ 64 := Nat.or_lt_two_pow hx1 (by omega)
    have o3 := u64_or_nat (x ||| y) 4096 (by omega) (by omega)
    have o4 := u64_or_nat (x ||| 4096) y (by omega) (by omega)
    have e1 : ((4096 : Nat) : Int) = 4096 := rfl
    rw [e1] at o2 o3
    rw [o1, o2, o3, o4, Nat.or_assoc, Nat.or_assoc, Nat.or_comm y 4096]
  rw [← l1, c1, l2, l3]

/-- the length of a slice in a slot: for a loop's measure -/
def lenOf : Value → Nat | .slice _ n _ => n | _ => 0
theorem OwnI.len {w : World} {base : Nat} {e : TypeId} {k : IntKind} {A : Option Addr} {n c : Nat} {zs : List Int} (h : OwnI w base e k (.slice A n c) zs) : n = zs.length := by
  obtain ⟨A', c', hv, _⟩ := h.rd
  injection hv
theorem OwnI.shape {w : World} {base : Nat} {e : TypeId} {k : IntKind} {v : Value} {zs : List Int} (h : OwnI w base e k v zs) : ∃ A c, v = .slice A zs.length c := by
  obtain ⟨A', c', hv, _⟩ := h.rd
  exact ⟨A', c', hv⟩

section
variable (w : World) (ki ar va : Int) (df : Bool) (A : Option Addr) (c : Nat) (cs : List (Int × Int × Int)) (ph : Int)

set_option maxHeartbeats 2000000 in
theorem call_any (hl : cs.length ≤ 9223372036854775807) (hr : RdF w caseC A cs) :
    Calls Try.prog 42 #[.agg #[.int .i64 ki, .int .i64 ar, .int .i64 va, .bool df, .slice A cs.length c], .int .i64 ph] w fun e w' => RetJ .u64 (callL ki ar va df cs ph) w e w' := by
  have HR := hide hr; clear hr
  have HL := hide hl; clear hl
  rcases h1 : fitsQ ki ar va cs with _ | _
  · have hq : callL ki ar va df cs ph = [] := by unfold callL; rw [if_neg]; simp [h1]
    have H1 := hide h1; have HQ := hide hq; clear h1 hq
    go_enter Try.func42, Try.ntmps42
    go_wp2_with fail
    refine (fits_any _ ki ar va df A c cs HL.out (HR.out.alloc _)).mono ?_
    rw [H1.out]
    rintro e w1 ⟨rfl, hb1⟩
    go_wp2_with fail
    go_ret
    rw [HQ.out]
    exact (OwnI.nil w1 w1.heap.size 27 .u64).retJ (extW (moreW (selfW _) _) hb1)
  rcases h2 : fitsB ph 4294967296 with _ | _
  · have hq : callL ki ar va df cs ph = [] := by unfold callL; rw [if_neg]; simp [h2]
    have H1 := hide h1; have H2 := hide h2; have HQ := hide hq; clear h1 h2 hq
    go_enter Try.func42, Try.ntmps42
    go_wp2_with fail
    refine (fits_any _ ki ar va df A c cs HL.out (HR.out.alloc _)).mono ?_
    rw [H1.out]
    rintro e w1 ⟨rfl, hb1⟩
    have hc : ∀ i, w1.cell? ⟨w.heap.size, i, none⟩ = _ := fun i => hb1.cell (p := ⟨w.heap.size, i, none⟩) (by simp)
    go_wp2_with fail
    refine (fits32 _ _).mono ?_; rw [H2.out]; rintro e w' ⟨rfl, rfl⟩
    go_wp2_with fail
    go_ret
    rw [HQ.out]
    exact (OwnI.nil w1 w1.heap.size 27 .u64).retJ (extW (moreW (selfW _) _) hb1)
  have hq : callL ki ar va df cs ph = headW ki ar va df cs.length :: (cs.map caseW ++ List.replicate (3 - cs.length) 0 ++ [ph]) := by unfold callL; rw [if_pos ⟨h1, h2⟩]
  have hf := h1
  simp only [fitsQ, fitsB, Bool.and_eq_true, decide_eq_true_eq] at hf
  obtain ⟨⟨⟨⟨⟨k1, k2⟩, k3, k4⟩, k5, k6⟩, k7⟩, k8⟩ := hf
  have hp := h2
  simp only [fitsB, decide_eq_true_eq] at hp
  obtain ⟨p1, p2⟩ := hp
  have HM := hide k8; clear k8
  have H1 := hide h1; have H2 := hide h2; have HQ := hide hq; clear h1 h2 hq
  obtain ⟨n, hn⟩ : ∃ n, n = cs.length := ⟨_, rfl⟩
  have HF := hide (fits_any (w.alloc (.cells #[.int .i64 ki, .int .i64 ar, .int .i64 va, .bool df, .slice A cs.length c] 50)) ki ar va df A c cs HL.out (HR.out.alloc _))
  rw [H1.out, ← hn] at HF
  rw [← hn] at k7
  rw [← hn]
  have HN := hide hn; clear hn
  cases df
  all_goals
    go_enter Try.func42, Try.ntmps42
    go_wp2_with fail
    refine HF.out.mono ?_
    rintro e w1 ⟨rfl, hb1⟩
    have hc : ∀ i, w1.cell? ⟨w.heap.size, i, none⟩ = _ := fun i => hb1.cell (p := ⟨w.heap.size, i, none⟩) (by simp)
    have hbb := extW (moreW (selfW _) _) hb1
    have hz : w.heap.size < w1.heap.size := by have := hb1.size; simp at this; omega
    go_wp2_with fail
    refine (fits32 _ _).mono ?_; rw [H2.out]; rintro e w' ⟨rfl, rfl⟩
    go_wp2_with fail
    go_loopw [6, 45] (fun o i wr => ∃ (k : Nat) (L : List Int), k ≤ n ∧ i = .int .i64 k ∧ Hid (OwnI wr w1.heap.size 27 .u64 o L) ∧ L.length = k + 1 ∧ Hid (L = headW ki ar va _ n :: (cs.take k).map caseW) ∧ Below w.heap.size w wr ∧ w1.heap.size ≤ wr.heap.size) (fun _ i _ => n - (intOf i).toNat)
    case atStart =>
      refine ⟨0, _, Nat.zero_le _, rfl, OwnI.lit w1 _ _ [_] (by simp), rfl, ?_, moreW hbb _, by simp⟩
      first
        | exact (show [_] = _ by rw [head_or ki ar va n k1 k2 k3 k4 k5 k6 (by omega) (by omega), head_df ki ar va n k1 k2 k3 k4 k5 k6 (by omega) (by omega)]; rfl)
        | exact (show [_] = _ by rw [head_or ki ar va n k1 k2 k3 k4 k5 k6 (by omega) (by omega)]; rfl)
    case round =>
      obtain ⟨k, L, hk, rfl, HO, hll, HLL, hb, hw1⟩ := hrel
      have hz2 : w.heap.size < wr.heap.size := by omega
      by_cases hlt : k < n
      · obtain ⟨ad, d, hd, v, hA, hx, hc0, hc1, hc2⟩ := case_at (HR.out.below hb) (i := k) (by rw [← HN.out]; exact hlt)
        subst hA
        have hm := List.all_eq_true.1 HM.out _ (List.mem_of_getElem? hx)
        simp only [mayC, mayB, fitsB, Bool.and_eq_true, Bool.or_eq_true, beq_iff_eq, decide_eq_true_eq] at hm
        obtain ⟨⟨m1, m2, m3⟩, m4, m5⟩ := hm
        have m6 : 1 ≤ d := by omega
        have m7 : d ≤ 2 := by omega
        have HX := hide hx; clear hx m1
        have hsz := hb.size
        go_wp2_with (at_builtin; refine wpList_appI _ rfl _ _ 22 rfl w1.heap.size 27 .u64 Try.underlying22 info_u64 _ L rfl ((HO.out.alloc _).alloc _) (some ⟨wr.heap.size + 1, 0, none⟩) 1 1 [caseW (d, hd, v)] rfl rfl ?c3 ?c4 ?c5 ?_)
        case c3 => rw [← case_or d hd v m6 m7 m2 m3 m4 m5]; exact RdI.oneAt _ _ _ _ (by simp)
        case c4 => simp; omega
        case c5 => simp; omega
        intro v' w2 hown' hgrow _
        have hb' := ((HO.out.alloc _).alloc _).below_step (moreW (moreW hb _) _) hgrow (by simp; omega) (by omega)
        have hsz2 := hgrow.size
        have hw2 : w1.heap.size ≤ w2.heap.size := by simp at hsz2; omega
        have HO' := hide hown'; clear hown' hgrow hsz2
        go_wp2_with fail
        go_roundw
        case rel => exact ⟨k + 1, _, by omega, by go_num, HO', by simp; omega, by rw [Hid, HLL.out, take_of HX.out]; simp, hb', hw2⟩
        case measure => simp [intOf]; omega
      · have hkn : k = n := by omega
        subst hkn
        have htk := take_all HN.out (Nat.le_refl _)
        have hLL := HLL.out
        rw [htk] at hLL
        have HL2 := hide hLL; clear hLL htk HLL
        go_wp2_with fail
        go_loopw [6] (fun o wr => ∃ (j : Nat) (M : List Int), Hid (OwnI wr w1.heap.size 27 .u64 o M) ∧ M.length = k + 1 + j ∧ k + j ≤ 3 ∧ Hid (M = L ++ List.replicate j 0) ∧ Below w.heap.size w wr ∧ w1.heap.size ≤ wr.heap.size) (fun o _ => 4 - lenOf o)
        case atStart => exact ⟨0, L, HO, by omega, by omega, by simp [Hid], hb, hw1⟩
        case round =>
          obtain ⟨j, M, HO2, hml, hj, HML, hb2, hw3⟩ := hrel
          obtain ⟨A3, c3, hv3⟩ := HO2.out.shape
          rw [hml] at hv3
          subst hv3
          have hz3 : w.heap.size < wr.heap.size := by omega
          have hsz3 := hb2.size
          by_cases hj3 : k + j < 3
          · go_wp2_with (at_builtin; refine wpList_appI _ rfl _ _ 22 rfl w1.heap.size 27 .u64 Try.underlying22 info_u64 _ M rfl (HO2.out.alloc _) (some ⟨wr.heap.size, 0, none⟩) 1 1 [0] rfl rfl (RdI.one _ _ _ _) ?c6 ?c7 ?_)
            case c6 => simp; omega
            case c7 => simp; omega
            intro v' w2 hown' hgrow _
            have hb' := (HO2.out.alloc _).below_step (moreW hb2 _) hgrow (by simp; omega) (by omega)
            have hsz2 := hgrow.size
            have hw2 : w1.heap.size ≤ w2.heap.size := by simp at hsz2; omega
            have hlen' : (M ++ [0]).length = k + 1 + (j + 1) := by simp; omega
            obtain ⟨A4, c4, hv4⟩ := hown'.shape
            have HO' := hide hown'; clear hown' hgrow hsz2
            go_wp2_with fail
            go_roundw
            case rel => exact ⟨j + 1, _, HO', hlen', by omega, by rw [Hid, HML.out, List.append_assoc, List.replicate_succ'], hb', hw2⟩
            case measure => rw [hlen'] at hv4; simp [hv4, lenOf]; omega
          · have hj4 : j = 3 - k := by omega
            subst hj4
            go_wp2_with (at_builtin; refine wpList_appI _ rfl _ _ 22 rfl w1.heap.size 27 .u64 Try.underlying22 info_u64 _ M rfl (HO2.out.alloc _) (some ⟨wr.heap.size, 0, none⟩) 1 1 [ph] rfl rfl (RdI.one _ _ _ _) ?c8 ?c9 ?_)
            case c8 => simp; omega
            case c9 => simp; omega
            intro v' w2 hown' hgrow _
            have hb' := (HO2.out.alloc _).below_step (moreW hb2 _) hgrow (by simp; omega) (by omega)
            have HO' := hide hown'; clear hown' hgrow
            go_wp2_with fail
            go_ret
            have hfin := HO'.out.retJ hb'
            have hcl := HQ.out
            rw [← HN.out] at hcl
            rw [HML.out, HL2.out] at hfin
            rw [hcl]
            simpa using hfin
end
end Go.Proofs.Ytmgjicenaanelaa
