/- The walks of tickets' again, ticket. -/
import Derived.Test.YthghghoikaincaaTkK
import Derived.BigQuiet
namespace Go.Proofs.Ythghghoikaincaa
open Go.RowKit

section
variable {w : World} {base gq gm g1 n c1 : Nat} {vw vg vc vn : Value} {q : QT} {C : List Int} {t : Nat} {x : CmT}
/-- a store into a thread, ahead of a step -/
theorem QX.cellOf {w' : World} {q' : QT} {i : Nat} {u : Value} (h : QV w base gq gm vw vg vc (.slice (some ⟨g1, 0, none⟩) n c1) vn q C) (k : QX (w.setCell ⟨g1, i, none⟩ u) base gq gm vw vg vc (.slice (some ⟨g1, 0, none⟩) n c1) vn q' w') : QX w base gq gm vw vg vc (.slice (some ⟨g1, 0, none⟩) n c1) vn q' w' :=
  QX.trans (NewOr.refl _ _) (NewOr.refl _ _) (fun _ _ hno => Below.heap_setCell _ _ _ _ (fun e => hno (by subst e; exact .inr (.inr (.inr (.inr (.inr (.inl rfl)))))))) ((Below.refl _ _).setCell (p := ⟨g1, i, none⟩) h.lt1.1 _) k
set_option maxHeartbeats 2000000 in
theorem again_any (pc : Int) (h : QV w base gq gm vw vg vc (.slice (some ⟨g1, 0, none⟩) n c1) vn q C) (hx : q.T[t]? = some x) (hl : q.N.length ≤ 10000) (h0 : 0 ≤ x.tri) (h1 : x.tri ≤ 64) :
    Calls Try.prog 30 #[.pointer (some ⟨gq, 0, none⟩), .int .i64 t, .int .i64 pc] w fun e w' => e = .returned (.tuple #[]) ∧ QX w base gq gm vw vg vc (.slice (some ⟨g1, 0, none⟩) n c1) vn (againQ q t x pc) w' := by
  have hcs := fun i => Blk.cell h.blk i
  have hgs := h.blk.lt
  obtain ⟨k0, k1, k2, k3, k4⟩ := h.cell hx
  have hf1 := fun i => h.free1 i
  have hg1s := h.lt1.2
  have hngq := h.ne1
  have htn : t < n := by have := len_of hx; rw [h.men.rdF.1]; exact this
  have ht2 : (t : Int) < (n : Int) := by omega
  have htw : IntKind.i64.wrap (x.tri + 1) = x.tri + 1 := IntWalk.i64_in _ (by omega)
  have e4 := h.put hx (y := { x with tri := x.tri + 1 }) (j := 4) (u := .int .i64 (x.tri + 1)) (by decide) rfl
  have e0 := e4.put (get_set hx) (y := { x with tri := x.tri + 1, pc := pc }) (j := 0) (u := .int .i64 pc) (by decide) rfl
  rw [setT_setT, show t * 5 + 0 = t * 5 from rfl] at e0
  have x0 : (q.setT t { x with tri := x.tri + 1, pc := pc }).T[t]? = some { x with tri := x.tri + 1, pc := pc } := get_set hx
  have HQ := hide (fun q' w' k => QX.cellOf (w' := w') (q' := q') h (QX.cellOf (i := t * 5) (u := .int .i64 pc) e4 k))
  have HL := hide (show (q.setT t { x with tri := x.tri + 1, pc := pc }).N.length ≤ 10000 from hl)
  obtain ⟨y, hy⟩ : ∃ y : CmT, y = { x with tri := x.tri + 1, pc := pc } := ⟨_, rfl⟩
  have y4 : y.tri = x.tri + 1 := by rw [hy]
  have hqt : (q.setT t y).tries = q.tries := rfl
  by_cases hd : x.tri + 1 = q.tries
  · have ea : againQ q t x pc = endsQ (q.setT t { x with tri := x.tri + 1, pc := pc }) t { x with tri := x.tri + 1, pc := pc } 6 0 := by unfold againQ; rw [if_pos hd]
    rw [ea]
    have hd2 : (x.tri + 1 == q.tries) = true := by simpa using hd
    rw [← hy] at HL e0 x0 ⊢
    have E0 := hide e0; have X0 := hide x0; have Y4 := hide y4
    clear h hx e4 e0 x0 ea hd hy y4 hqt
    go_enter Try.func30, Try.ntmps30
    go_wp2_with fail
    generalize hw2 : World.setCell (World.setCell w _ _) _ _ = w2 at HQ E0 ⊢
    have h2 := E0.out
    clear hcs hgs k0 k1 k2 k3 k4 hw2 hf1 hg1s
    have hcs : ∀ i : Nat, w2.cell? ⟨gq, i, none⟩ = #[.pointer (some ⟨gm, 0, none⟩), .int .i64 q.size, .int .i64 q.tries, .slice (some ⟨g1, 0, none⟩) n c1, vn, .int .i64 q.time][i]? := fun i => Blk.cell h2.blk i
    have hgs := h2.blk.lt
    obtain ⟨k0, k1, k2, k3, k4⟩ := h2.cell X0.out
    rw [Y4.out] at k4
    have hg1s := h2.lt1.2
    clear h2
    go_quiet (fail)
    have HE := hide (fun m => ends_any 6 0 (E0.out.ext (below_drewN (n := m) (selfW w2))) X0.out HL.out)
    go_wp2_with fail
    refine (HE.out _).mono ?_
    rintro e w3 ⟨rfl, hq3⟩
    have HQ3 := hide hq3
    clear hq3 HE
    go_wp2_with fail
    go_end0
    exact ⟨rfl, HQ.out _ _ (QX.after (below_drewN (n := _) (selfW w2)) E0.out.base_le HQ3.out)⟩
  · have ea : againQ q t x pc = q.setT t { x with tri := x.tri + 1, pc := pc } := by unfold againQ; rw [if_neg hd]
    rw [ea]
    have hd2 : (x.tri + 1 == q.tries) = false := by simpa using hd
    rw [← hy] at HL e0 x0 ⊢
    have E0 := hide e0; have X0 := hide x0; have Y4 := hide y4
    clear h hx e4 e0 x0 ea hd hy y4 hqt
    go_enter Try.func30, Try.ntmps30
    go_wp2_with fail
    generalize hw2 : World.setCell (World.setCell w _ _) _ _ = w2 at HQ E0 ⊢
    have h2 := E0.out
    clear hcs hgs k0 k1 k2 k3 k4 hw2 hf1 hg1s
    have hcs : ∀ i : Nat, w2.cell? ⟨gq, i, none⟩ = #[.pointer (some ⟨gm, 0, none⟩), .int .i64 q.size, .int .i64 q.tries, .slice (some ⟨g1, 0, none⟩) n c1, vn, .int .i64 q.time][i]? := fun i => Blk.cell h2.blk i
    have hgs := h2.blk.lt
    obtain ⟨k0, k1, k2, k3, k4⟩ := h2.cell X0.out
    rw [Y4.out] at k4
    have hg1s := h2.lt1.2
    clear h2
    go_quiet (fail)
    go_wp2_with fail
    go_end0
    exact ⟨rfl, HQ.out _ _ (E0.out.grew (below_drewN (n := _) (selfW w2)))⟩
end
end Go.Proofs.Ythghghoikaincaa
