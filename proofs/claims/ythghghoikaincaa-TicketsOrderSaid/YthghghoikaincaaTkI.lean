/- The walks of tickets' ends, begin, Put, Take. -/
import Derived.Test.YthghghoikaincaaTkH
namespace Go.Proofs.Ythghghoikaincaa
open Go.RowKit

section
variable {w : World} {base gq gm g1 n c1 : Nat} {vw vg vc vn : Value} {q : QT} {C : List Int} {t : Nat} {x : CmT}
theorem setT_setT (q : QT) (t : Nat) (a b : CmT) : (q.setT t a).setT t b = q.setT t b := by simp [QT.setT]
theorem QV.cell (h : QV w base gq gm vw vg vc (.slice (some ⟨g1, 0, none⟩) n c1) vn q C) (hx : q.T[t]? = some x) : w.cell? ⟨g1, t * 5, none⟩ = some (.int .i64 x.pc) ∧ w.cell? ⟨g1, t * 5 + 1, none⟩ = some (.int .i64 x.seq) ∧ w.cell? ⟨g1, t * 5 + 2, none⟩ = some (.int .i64 x.value) ∧
    w.cell? ⟨g1, t * 5 + 3, none⟩ = some (.int .i64 x.pos) ∧ w.cell? ⟨g1, t * 5 + 4, none⟩ = some (.int .i64 x.tri) :=
  ⟨h.men.cells cmC_len hx (j := 0) rfl, h.men.cells cmC_len hx (j := 1) rfl, h.men.cells cmC_len hx (j := 2) rfl, h.men.cells cmC_len hx (j := 3) rfl, h.men.cells cmC_len hx (j := 4) rfl⟩
theorem QV.free1 (h : QV w base gq gm vw vg vc (.slice (some ⟨g1, 0, none⟩) n c1) vn q C) (i : Nat) : w.frozen? ⟨g1, i, none⟩ = false := h.men.frozen i
theorem QV.lt1 (h : QV w base gq gm vw vg vc (.slice (some ⟨g1, 0, none⟩) n c1) vn q C) : base ≤ g1 ∧ g1 < w.heap.size := own_lt h.men' rfl
theorem QV.ne1 (h : QV w base gq gm vw vg vc (.slice (some ⟨g1, 0, none⟩) n c1) vn q C) : gq ≠ g1 := own_ne h.men' h.blk (by decide)
theorem QV.form {vt : Value} (h : QV w base gq gm vw vg vc vt vn q C) (hx : q.T[t]? = some x) : ∃ g1 c1, vt = .slice (some ⟨g1, 0, none⟩) q.T.length c1 := by
  have hne : q.T ≠ [] := by intro e; rw [e] at hx; simp at hx
  obtain ⟨g1, c1, hv, _, _⟩ := h.men.form hne
  exact ⟨g1, c1, hv⟩
/-- five cells of a thread are set -/
theorem QV.put5 (h : QV w base gq gm vw vg vc (.slice (some ⟨g1, 0, none⟩) n c1) vn q C) (hx : q.T[t]? = some x) (y : CmT) :
    QV (((((w.setCell ⟨g1, t * 5, none⟩ (.int .i64 y.pc)).setCell ⟨g1, t * 5 + 1, none⟩ (.int .i64 y.seq)).setCell ⟨g1, t * 5 + 2, none⟩ (.int .i64 y.value)).setCell ⟨g1, t * 5 + 3, none⟩ (.int .i64 y.pos)).setCell ⟨g1, t * 5 + 4, none⟩ (.int .i64 y.tri)) base gq gm vw vg vc (.slice (some ⟨g1, 0, none⟩) n c1) vn (q.setT t y) C := by
  have h0 := h.put hx (y := { x with pc := y.pc }) (j := 0) (u := .int .i64 y.pc) (by decide) rfl
  have h1 := h0.put (get_set hx) (y := { x with pc := y.pc, seq := y.seq }) (j := 1) (u := .int .i64 y.seq) (by decide) rfl
  have h2 := h1.put (get_set (get_set hx)) (y := { x with pc := y.pc, seq := y.seq, value := y.value }) (j := 2) (u := .int .i64 y.value) (by decide) rfl
  have h3 := h2.put (get_set (get_set (get_set hx))) (y := { x with pc := y.pc, seq := y.seq, value := y.value, pos := y.pos }) (j := 3) (u := .int .i64 y.pos) (by decide) rfl
  have h4 := h3.put (get_set (get_set (get_set (get_set hx)))) (y := y) (j := 4) (u := .int .i64 y.tri) (by decide) rfl
  rw [setT_setT, setT_setT, setT_setT, setT_setT] at h4
  exact h4
/-- the heap behind five stores -/
theorem five_rest {g b : Nat} (hb : b ≠ g) (o0 o1 o2 o3 o4 : Nat) (u0 u1 u2 u3 u4 : Value) : (((((w.setCell ⟨g, o0, none⟩ u0).setCell ⟨g, o1, none⟩ u1).setCell ⟨g, o2, none⟩ u2).setCell ⟨g, o3, none⟩ u3).setCell ⟨g, o4, none⟩ u4).heap[b]? = w.heap[b]? := by
  rw [Below.heap_setCell _ _ _ _ hb, Below.heap_setCell _ _ _ _ hb, Below.heap_setCell _ _ _ _ hb, Below.heap_setCell _ _ _ _ hb, Below.heap_setCell _ _ _ _ hb]
theorem QV.put5X (h : QV w base gq gm vw vg vc (.slice (some ⟨g1, 0, none⟩) n c1) vn q C) (hx : q.T[t]? = some x) (y : CmT) :
    QX w base gq gm vw vg vc (.slice (some ⟨g1, 0, none⟩) n c1) vn (q.setT t y) (((((w.setCell ⟨g1, t * 5, none⟩ (.int .i64 y.pc)).setCell ⟨g1, t * 5 + 1, none⟩ (.int .i64 y.seq)).setCell ⟨g1, t * 5 + 2, none⟩ (.int .i64 y.value)).setCell ⟨g1, t * 5 + 3, none⟩ (.int .i64 y.pos)).setCell ⟨g1, t * 5 + 4, none⟩ (.int .i64 y.tri)) := by
  have hl := h.lt1.1
  refine ⟨vc, vn, C, h.put5 hx y, NewOr.refl _ _, NewOr.refl _ _, fun b _ hno => five_rest (fun e => hno ?_) _ _ _ _ _ _ _ _ _ _, ?_⟩
  · subst e; exact .inr (.inr (.inr (.inr (.inr (.inl rfl)))))
  · exact ((((Below.refl _ _).setCell (p := ⟨g1, _, none⟩) hl _).setCell (p := ⟨g1, _, none⟩) hl _).setCell (p := ⟨g1, _, none⟩) hl _).setCell (p := ⟨g1, _, none⟩) hl _ |>.setCell (p := ⟨g1, _, none⟩) hl _
theorem noteQ_T (q : QT) (k : Int) (t : Nat) (x : CmT) (a b c : Int) : (noteQ q k t x a b c).T = q.T := rfl

set_option maxHeartbeats 1000000 in
theorem ends_any (code v : Int) (h : QV w base gq gm vw vg vc (.slice (some ⟨g1, 0, none⟩) n c1) vn q C) (hx : q.T[t]? = some x) (hl : q.N.length ≤ 10000) :
    Calls Try.prog 29 #[.pointer (some ⟨gq, 0, none⟩), .int .i64 t, .int .i64 code, .int .i64 v] w fun e w' => e = .returned (.tuple #[]) ∧ QX w base gq gm vw vg vc (.slice (some ⟨g1, 0, none⟩) n c1) vn (endsQ q t x code v) w' := by
  have HNT := hide (note_any 3 x.seq code v h hx hl)
  have hcs := fun i => Blk.cell h.blk i
  have hgs := h.blk.lt
  obtain ⟨k0, k1, k2, k3, k4⟩ := h.cell hx
  have hg1s := h.lt1.2
  have htn : t < n := by have := len_of hx; rw [h.men.rdF.1]; exact this
  have ht2 : (t : Int) < (n : Int) := by omega
  have HX := hide hx
  clear h hx
  go_enter Try.func29, Try.ntmps29
  go_wp2_with fail
  refine HNT.out.mono ?_
  rintro e w1 ⟨rfl, vc1, vn1, C1, h1, hn1, hn2, hr1, hb1⟩
  have hx1 : (noteQ q 3 t x x.seq code v).T[t]? = some x := HX.out
  have hcs1 := fun i => Blk.cell h1.blk i
  have hgs1 := h1.blk.lt
  obtain ⟨j0, j1, j2, j3, j4⟩ := h1.cell hx1
  have hf1 := fun i => h1.free1 i
  have hg1z := h1.lt1.2
  have hngq := h1.ne1
  have H1 := hide h1; have HX1 := hide hx1; have HN1 := hide hn1; have HN2 := hide hn2; have HR1 := hide hr1; have HB1 := hide hb1
  clear h1 hx1 hn1 hn2 hr1 hb1 hcs hgs k0 k1 k2 k3 k4 hg1s
  go_wp2_with fail
  go_region
  all_goals
    go_wp2_with fail
    go_end0
    refine ⟨rfl, ?_⟩
    have h5 := QV.put5X (H1.out.ext (below_drewN (n := 1) (selfW w1))) HX1.out ⟨0, x.seq, 0, 0, 0⟩
    exact QX.trans HN1.out HN2.out HR1.out HB1.out (QX.after (below_drewN (n := 1) (selfW w1)) H1.out.base_le h5)
end
end Go.Proofs.Ythghghoikaincaa
