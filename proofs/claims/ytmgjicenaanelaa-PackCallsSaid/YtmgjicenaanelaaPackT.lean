/- The walks of stopgateref02.Call and one. -/
import Derived.Test.YtmgjicenaanelaaPackU
namespace Go.Proofs.Ytmgjicenaanelaa
open Go.RowKit

theorem set_next {h v : Int} {X : List Int} {k m : Nat} (hX : X.length = k) (hm : k < m) : (h :: (X ++ List.replicate (m - k) 0)).set (k + 1) v = h :: ((X ++ [v]) ++ List.replicate (m - (k + 1)) 0) := by
  rw [List.set_cons_succ, List.set_append_right _ _ (by omega), hX, Nat.sub_self]
  obtain ⟨j, hj⟩ : ∃ j, m - k = j + 1 := ⟨m - k - 1, by omega⟩
  rw [hj, List.replicate_succ, List.set_cons_zero, show m - (k + 1) = j by omega, List.append_assoc]
  rfl
theorem set_last {h v : Int} {X : List Int} {k : Nat} (hX : X.length = k) (hm : k ≤ 3) : (h :: (X ++ List.replicate (4 - k) 0)).set 4 v = h :: (X ++ List.replicate (3 - k) 0 ++ [v]) := by
  have e : 4 - k = (3 - k) + 1 := by omega
  rw [show (4 : Nat) = 3 + 1 from rfl, List.set_cons_succ, e, List.replicate_succ', ← List.append_assoc, List.set_append_right _ _ (by simp; omega)]
  congr 2
  rw [show 3 - (X ++ List.replicate (3 - k) (0 : Int)).length = 0 by simp; omega]
  rfl

section
variable (w : World) (ki ar va : Int) (df : Bool) (A : Option Addr) (c : Nat) (cs : List (Int × Int × Int)) (ph : Int)

set_option maxHeartbeats 2000000 in
theorem rcall_any (hl : cs.length ≤ 9223372036854775807) (hr : RdF w caseC A cs) :
    Calls Try.prog 43 #[.agg #[.int .i64 ki, .int .i64 ar, .int .i64 va, .bool df, .slice A cs.length c], .int .i64 ph] w fun e w' => RetI .u64 (callL ki ar va df cs ph) w e w' := by
  have HR := hide hr; clear hr
  have HL := hide hl; clear hl
  rcases h1 : fitsQ ki ar va cs with _ | _
  · have hq : callL ki ar va df cs ph = [] := by unfold callL; rw [if_neg]; simp [h1]
    have H1 := hide h1; have HQ := hide hq; clear h1 hq
    go_enter Try.func43, Try.ntmps43
    go_wp2_with fail
    refine (rfits_any _ ki ar va df A c cs HL.out (HR.out.alloc _)).mono ?_
    rw [H1.out]
    rintro e w1 ⟨rfl, hb1⟩
    go_wp2_with fail
    go_ret
    rw [HQ.out]
    exact (OwnI.nil w1 w1.heap.size 27 .u64).ret (extW (moreW (selfW _) _) hb1)
  by_cases h2 : ph < 0
  · have hq : callL ki ar va df cs ph = [] := by unfold callL; rw [if_neg]; simp [fitsB]; omega
    have H1 := hide h1; have HQ := hide hq; clear h1 hq
    go_enter Try.func43, Try.ntmps43
    go_wp2_with fail
    refine (rfits_any _ ki ar va df A c cs HL.out (HR.out.alloc _)).mono ?_
    rw [H1.out]
    rintro e w1 ⟨rfl, hb1⟩
    go_wp2_with fail
    go_ret
    rw [HQ.out]
    exact (OwnI.nil w1 w1.heap.size 27 .u64).ret (extW (moreW (selfW _) _) hb1)
  by_cases h3 : 4294967295 < ph
  · have hq : callL ki ar va df cs ph = [] := by unfold callL; rw [if_neg]; simp [fitsB]; omega
    have H1 := hide h1; have HQ := hide hq; clear h1 hq
    go_enter Try.func43, Try.ntmps43
    go_wp2_with fail
    refine (rfits_any _ ki ar va df A c cs HL.out (HR.out.alloc _)).mono ?_
    rw [H1.out]
    rintro e w1 ⟨rfl, hb1⟩
    go_wp2_with fail
    go_ret
    rw [HQ.out]
    exact (OwnI.nil w1 w1.heap.size 27 .u64).ret (extW (moreW (selfW _) _) hb1)
  have hp : fitsB ph 4294967296 = true := by simp [fitsB]; omega
  have hq : callL ki ar va df cs ph = headW ki ar va df cs.length :: (cs.map caseW ++ List.replicate (3 - cs.length) 0 ++ [ph]) := by unfold callL; rw [if_pos ⟨h1, hp⟩]
  have hf := h1
  simp only [fitsQ, fitsB, Bool.and_eq_true, decide_eq_true_eq] at hf
  obtain ⟨⟨⟨⟨⟨k1, k2⟩, k3, k4⟩, k5, k6⟩, k7⟩, k8⟩ := hf
  have HM := hide k8; clear k8 hp
  have H1 := hide h1; have HQ := hide hq; clear h1 hq
  obtain ⟨n, hn⟩ : ∃ n, n = cs.length := ⟨_, rfl⟩
  have HF := hide (rfits_any (w.alloc (.cells #[.int .i64 ki, .int .i64 ar, .int .i64 va, .bool df, .slice A cs.length c] 50)) ki ar va df A c cs HL.out (HR.out.alloc _))
  rw [H1.out, ← hn] at HF
  rw [← hn] at k7
  rw [← hn]
  have HN := hide hn; clear hn
  obtain ⟨h0, hh0⟩ : ∃ x, x = headW ki ar va df n := ⟨_, rfl⟩
  have HH := hide hh0; clear hh0
  cases df
  all_goals
    go_enter Try.func43, Try.ntmps43
    go_wp2_with fail
    refine HF.out.mono ?_
    rintro e w1 ⟨rfl, hb1⟩
    have hc : ∀ i, w1.cell? ⟨w.heap.size, i, none⟩ = _ := fun i => hb1.cell (p := ⟨w.heap.size, i, none⟩) (by simp)
    have hbb := extW (moreW (selfW _) _) hb1
    have hz : w.heap.size < w1.heap.size := by have := hb1.size; simp at this; omega
    go_wp2_with fail
    go_loopw [48] (fun i wr => ∃ (k : Nat) (L : List Int), k ≤ n ∧ i = .int .i64 k ∧ Hid (BlkI wr w1.heap.size 68 .u64 L) ∧ L.length = 5 ∧ Hid (L = h0 :: ((cs.take k).map caseW ++ List.replicate (4 - k) 0)) ∧ Below w.heap.size w wr ∧ w1.heap.size < wr.heap.size) (fun i _ => n - (intOf i).toNat)
    case atStart =>
      refine ⟨0, [_, 0, 0, 0, 0], Nat.zero_le _, rfl, Blk.new _ _ _, rfl, ?_, moreW hbb _, by simp⟩
      have := HH.out
      simp [Hid, headW] at this ⊢; omega
    case round =>
      obtain ⟨k, L, hk, rfl, HO, hll, HLL, hb, hw1⟩ := hrel
      by_cases hlt : k < n
      · obtain ⟨ad, d, hd, v, hA, hx, hc0, hc1, hc2⟩ := case_at (HR.out.below hb) (i := k) (by rw [← HN.out]; exact hlt)
        subst hA
        have hm := List.all_eq_true.1 HM.out _ (List.mem_of_getElem? hx)
        simp only [mayC, mayB, fitsB, Bool.and_eq_true, Bool.or_eq_true, beq_iff_eq, decide_eq_true_eq] at hm
        obtain ⟨⟨m1, m2, m3⟩, m4, m5⟩ := hm
        have m6 : 1 ≤ d := by omega
        have m7 : d ≤ 2 := by omega
        have HX := hide hx; clear hx m1
        obtain ⟨z, hz⟩ : ∃ z, L[1 + k]? = some z := ⟨_, List.getElem?_eq_getElem (by omega)⟩
        have hcell := HO.out.cell hz
        have hfr := Blk.free HO.out (1 + k)
        have HZ := hide hz; clear hz
        have hset := hide (Blk.alloc (BlkI.set_ HO.out (1 + k) (caseW (d, hd, v))) (.cells #[.int .i64 d, .int .i64 hd, .int .i64 v] 64))
        have hval : d + 256 * hd + 4294967296 * v = caseW (d, hd, v) := by simp only [caseW]; omega
        go_wp2_with fail
        go_roundw
        case rel =>
          refine ⟨k + 1, L.set (1 + k) (caseW (d, hd, v)), by omega, by go_num, hset, by simp; omega, ?_, moreW (hb.setCell (by simp only; omega) _) _, by simp; omega⟩
          rw [Hid, HLL.out, Nat.add_comm 1 k, set_next (by simp; have := HN.out; omega) (by omega), take_of HX.out]
          simp
        case measure => simp [intOf]; omega
      · have hkn : k = n := by omega
        subst hkn
        have htk := take_all HN.out (Nat.le_refl _)
        have hLL := HLL.out
        rw [htk] at hLL
        have HL2 := hide hLL; clear hLL htk HLL
        obtain ⟨z, hz⟩ : ∃ z, L[4]? = some z := ⟨_, List.getElem?_eq_getElem (by omega)⟩
        have hcell := HO.out.cell hz
        have hfr := Blk.free HO.out 4
        have HZ := hide hz; clear hz
        have hset := hide (BlkI.set_ HO.out 4 ph)
        go_wp2_with fail
        go_ret
        have hfin : RetI .u64 (L.set 4 ph) w (.returned (.slice (some ⟨w1.heap.size, 0, none⟩) (L.set 4 ph).length 5)) (wr.setCell ⟨w1.heap.size, 4, none⟩ (.int .u64 ph)) :=
          ⟨⟨_, _, rfl, BlkI.rd hset.out⟩, hb.setCell (by simp only; omega) _⟩
        rw [List.length_set, hll] at hfin
        have hcl := HQ.out
        rw [← HN.out] at hcl
        rw [HL2.out, set_last (by simp; have := HN.out; omega) k7] at hfin
        rw [hcl, ← HH.out]
        exact hfin
end
end Go.Proofs.Ytmgjicenaanelaa
