/- The walk of tickets' ticket. -/
import Derived.Test.YthghghoikaincaaTkL
namespace Go.Proofs.Ythghghoikaincaa
open Go.RowKit

section
variable {w : World} {base gq gm g1 n c1 : Nat} {vw vg vc vn : Value} {q : QT} {C : List Int} {t : Nat} {x : CmT}
theorem u64_in (z : Int) (h0 : 0 ≤ z) (h1 : z ≤ 18446744073709551615) : IntKind.u64.wrap z = z := by rw [IntKind.wrap_u64]; omega
set_option maxHeartbeats 2000000 in
theorem ticket_any (k : Nat) (next z : Int) (h : QV w base gq gm vw vg vc (.slice (some ⟨g1, 0, none⟩) n c1) vn q C) (hx : q.T[t]? = some x) (hl : q.N.length ≤ 10000) (hk : q.L[k]? = some z) (hz0 : 0 ≤ z) (hz1 : z ≤ 1000000) (hs0 : 0 ≤ q.size) (hs1 : q.size ≤ 4096) (hL : q.L.length ≤ 5000) :
    Calls Try.prog 27 #[.pointer (some ⟨gq, 0, none⟩), .int .i64 t, .int .i64 k, .int .i64 next] w fun e w' => e = .returned (.tuple #[]) ∧ QX w base gq gm vw vg vc (.slice (some ⟨g1, 0, none⟩) n c1) vn (ticketQ q t x k next) w' := by
  have hword : q.word k = z := by unfold QT.word; rw [List.getD_eq_getElem?_getD, hk]; rfl
  have HA := hide (add_any w base gm vw vg vc q.L [] C t k z 1 h.mem h.c64 (by omega) hk)
  have hw1 : IntKind.u64.wrap (z + 1) = z + 1 := u64_in _ (by omega) (by omega)
  have hw2 : IntKind.u64.wrap q.size = q.size := u64_in _ (by omega) (by omega)
  have hw3 : IntKind.i64.wrap z = z := IntWalk.i64_in _ (by omega)
  rw [hw1] at HA
  have hcs := fun i => Blk.cell h.blk i
  have hgs := h.blk.lt
  have htn : t < n := by have := len_of hx; rw [h.men.rdF.1]; exact this
  have ht2 : (t : Int) < (n : Int) := by omega
  have H := hide h; have HX := hide hx
  obtain ⟨q1, hq1⟩ : ∃ q1 : QT, q1 = q.setL k (z + 1) := ⟨_, rfl⟩
  have hC' : (cntAdd C t).length ≤ 64 := cntAdd_len _ h.c64
  by_cases hd : q.size ≤ z
  · have ea : ticketQ q t x k next = endsQ q1 t x 6 0 := by unfold ticketQ; rw [hword, if_pos hd, hq1]
    have hd2 : decide (q.size ≤ z) = true := decide_eq_true hd
    rw [ea]
    have HQ1 := hide hq1
    clear h hx hk ea hq1 hd hword
    go_enter Try.func27, Try.ntmps27
    go_wp2_with fail
    refine HA.out.mono ?_
    rintro e w1 ⟨rfl, hm⟩
    obtain ⟨vc1, h1, hn1, hr1, hb1⟩ := QV.acc H.out hm hC'
    rw [show ({ q with L := q.L.set k (z + 1) } : QT) = q1 from HQ1.out.symm] at h1
    have hx1 : q1.T[t]? = some x := by rw [HQ1.out]; exact HX.out
    have hl1 : q1.N.length ≤ 10000 := by rw [HQ1.out]; exact hl
    have HE := hide (ends_any 6 0 h1 hx1 hl1)
    have hcs1 : ∀ i : Nat, w1.cell? ⟨gq, i, none⟩ = #[.pointer (some ⟨gm, 0, none⟩), .int .i64 q.size, .int .i64 q.tries, .slice (some ⟨g1, 0, none⟩) n c1, vn, .int .i64 q.time][i]? := fun i => by have := Blk.cell h1.blk i; rw [HQ1.out] at this; exact this
    have H1 := hide h1; have HN1 := hide hn1; have HR1 := hide hr1; have HB1 := hide hb1
    clear h1 hn1 hr1 hb1 hcs hgs HA hm hx1
    go_wp2_with fail
    refine HE.out.mono ?_
    rintro e w3 ⟨rfl, hq3⟩
    have HQ3 := hide hq3
    clear hq3 HE
    go_wp2_with fail
    refine ⟨rfl, _, results_none (by rfl) _ _ _, ?_⟩
    exact ⟨rfl, QX.trans HN1.out (NewOr.refl _ _) HR1.out HB1.out HQ3.out⟩
  · have ea : ticketQ q t x k next = q1.setT t { x with pos := z, pc := next } := by unfold ticketQ; rw [hword, if_neg hd, hq1]
    have hd2 : decide (q.size ≤ z) = false := decide_eq_false hd
    rw [ea]
    have HQ1 := hide hq1
    clear h hx hk ea hq1 hd hword
    go_enter Try.func27, Try.ntmps27
    go_wp2_with fail
    refine HA.out.mono ?_
    rintro e w1 ⟨rfl, hm⟩
    obtain ⟨vc1, h1, hn1, hr1, hb1⟩ := QV.acc H.out hm hC'
    rw [show ({ q with L := q.L.set k (z + 1) } : QT) = q1 from HQ1.out.symm] at h1
    have hx1 : q1.T[t]? = some x := by rw [HQ1.out]; exact HX.out
    have hcs1 : ∀ i : Nat, w1.cell? ⟨gq, i, none⟩ = #[.pointer (some ⟨gm, 0, none⟩), .int .i64 q.size, .int .i64 q.tries, .slice (some ⟨g1, 0, none⟩) n c1, vn, .int .i64 q.time][i]? := fun i => by have := Blk.cell h1.blk i; rw [HQ1.out] at this; exact this
    obtain ⟨j0, j1, j2, j3, j4⟩ := h1.cell hx1
    have hf1 := fun i => h1.free1 i
    have hg1z := h1.lt1.2
    have hgs1 := h1.blk.lt
    have hngq := h1.ne1
    have H1 := hide h1; have HN1 := hide hn1; have HR1 := hide hr1; have HB1 := hide hb1; have HX1 := hide hx1
    clear h1 hn1 hr1 hb1 hcs hgs HA hm hx1
    go_wp2_with fail
    go_region
    all_goals
      go_wp2_with fail
      go_end0
      have e3 := H1.out.put HX1.out (y := { x with pos := z }) (j := 3) (u := .int .i64 z) (by decide) rfl
      have e0 := e3.put (get_set HX1.out) (y := { x with pos := z, pc := next }) (j := 0) (u := .int .i64 next) (by decide) rfl
      rw [setT_setT, show t * 5 + 0 = t * 5 from rfl] at e0
      exact ⟨rfl, QX.trans HN1.out (NewOr.refl _ _) HR1.out HB1.out (QX.cellOf H1.out (QX.cellOf e3 (e0.grew (below_drewN (n := 1) (selfW _)))))⟩
end
end Go.Proofs.Ythghghoikaincaa
