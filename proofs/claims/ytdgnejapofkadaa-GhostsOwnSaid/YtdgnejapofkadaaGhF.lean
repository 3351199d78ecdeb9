/- A world's state behind a store; the walk of ghosts' reads. -/
import Derived.Test.YtdgnejapofkadaaGhE
namespace Go.Proofs.Ytdgnejapofkadaa
open Go.RowKit

theorem Apart.set {xs : List RdX} {t : Nat} {x y : RdX} (h : Apart xs) (hx : xs[t]? = some x) (he : (Value.slice y.A y.r.away.length y.c).ownBlock = (Value.slice x.A x.r.away.length x.c).ownBlock) : Apart (xs.set t y) := by
  have key : ∀ (i : Nat) (z : RdX), (xs.set t y)[i]? = some z → ∃ z', xs[i]? = some z' ∧ (Value.slice z.A z.r.away.length z.c).ownBlock = (Value.slice z'.A z'.r.away.length z'.c).ownBlock := by
    intro i z hz
    by_cases hi : t = i
    · subst hi
      have hl : t < xs.length := (List.getElem?_eq_some_iff.1 hx).1
      rw [List.getElem?_set_self hl] at hz
      injection hz with hz
      subst hz
      exact ⟨x, hx, he⟩
    · rw [List.getElem?_set_ne hi] at hz
      exact ⟨z, hz, rfl⟩
  intro i j a b ha hb hij q hq
  obtain ⟨a', h1, h2⟩ := key i a ha
  obtain ⟨b', h3, h4⟩ := key j b hb
  rw [h4]
  rw [h2] at hq
  exact h i j a' b' h1 h3 hij q hq
theorem mem_set {α : Type} {l : List α} {t : Nat} {y x : α} (h : x ∈ l.set t y) : x = y ∨ x ∈ l := by
  rcases List.mem_or_eq_of_mem_set h with h | h
  · exact .inr h
  · exact .inl h

section
variable {w : World} {base gs g1 n c1 : Nat} {W : WT} {vf : Value} {xs : List RdX} {t : Nat} {x : RdX}
theorem StV.ne (h : StV w base gs W (.slice (some ⟨g1, 0, none⟩) n c1) vf xs) : gs ≠ g1 := by
  have hr := h.own.row; unfold OwnF at hr
  exact own_ne hr h.blk (by decide)
theorem StV.row (h : StV w base gs W (.slice (some ⟨g1, 0, none⟩) n c1) vf xs) : w.ownsRow base 48 5 (.slice (some ⟨g1, 0, none⟩) n c1) xs.length (xs.flatMap rdC) := by
  have hr := h.own.row; unfold OwnF at hr; exact hr
theorem StV.lt1 (h : StV w base gs W (.slice (some ⟨g1, 0, none⟩) n c1) vf xs) : base ≤ g1 ∧ g1 < w.heap.size := own_lt h.row rfl
theorem StV.obj (h : StV w base gs W (.slice (some ⟨g1, 0, none⟩) n c1) vf xs) : ∃ ys : Array Value, w.heap[g1]? = some (.cells ys 48 (0, 0)) := by
  rcases h.row.2 with ⟨h', _⟩ | ⟨g', cap', cur, h', _, hh, _⟩
  · cases h'
  · injection h' with h1 _ _
    injection h1 with h1
    injection h1 with h1
    exact ⟨cur, by rw [h1]; exact hh⟩
/-- a cell of a thread is set -/
theorem StV.put (h : StV w base gs W (.slice (some ⟨g1, 0, none⟩) n c1) vf xs) (hx : xs[t]? = some x) {y : RdX} {j : Nat} {u : Value} (hj : j < 5) (hy : rdC y = (rdC x).set j u) (hA : y.A = x.A) (hc : y.c = x.c) (hr : y.r.away = x.r.away) :
    StV (w.setCell ⟨g1, t * 5 + j, none⟩ u) base gs (W.put t y.r) (.slice (some ⟨g1, 0, none⟩) n c1) vf (xs.set t y) := by
  have hf := h.own.freed; unfold OwnI at hf
  have hm := mem_of_get hx
  refine ⟨h.blk.far (p := ⟨g1, _, none⟩) h.ne _, ⟨?_, h.own.row.stored rdC_len hx hj hy, fun z hz => ?_, h.own.apart.set hx ?_, own_out hf h.row (by decide) _ _⟩, h.low⟩
  · rw [List.map_set, h.own.rds]; rfl
  · have key : OwnF w base 52 3 oldC (.slice z.A z.r.away.length z.c) z.r.away := by
      rcases mem_set hz with rfl | hz
      · have h1 := h.own.away x hm
        rw [hA, hr, hc]; exact h1
      · exact h.own.away z hz
    unfold OwnF at key
    exact own_out key h.row (by decide) _ _
  · rw [hA, hc, hr]
/-- what a step of a thread leaves -/
def Acts (base gs : Nat) (W' : WT) (w : World) (e : Ending) (w' : World) : Prop := e = .returned (.tuple #[]) ∧ (∃ vr vf xs, StV w' base gs W' vr vf xs) ∧ Keeps w w' ∧ Below base w w'
theorem StV.keep1 (h : StV w base gs W (.slice (some ⟨g1, 0, none⟩) n c1) vf xs) (i : Nat) (u : Value) : Keeps w (w.setCell ⟨g1, i, none⟩ u) := by
  obtain ⟨ys, hy⟩ := h.obj
  exact Keeps.set hy (.inl rfl) i u
theorem StV.cell (h : StV w base gs W (.slice (some ⟨g1, 0, none⟩) n c1) vf xs) (hx : xs[t]? = some x) : w.cell? ⟨g1, t * 5, none⟩ = some (.int .i64 x.r.saw) ∧ w.cell? ⟨g1, t * 5 + 1, none⟩ = some (.int .i64 x.r.inn) ∧ w.cell? ⟨g1, t * 5 + 2, none⟩ = some (.int .i64 x.r.guard) ∧
    w.cell? ⟨g1, t * 5 + 3, none⟩ = some (.int .i64 x.r.holds) ∧ w.cell? ⟨g1, t * 5 + 4, none⟩ = some (.slice x.A x.r.away.length x.c) :=
  ⟨h.own.row.cells rdC_len hx (j := 0) rfl, h.own.row.cells rdC_len hx (j := 1) rfl, h.own.row.cells rdC_len hx (j := 2) rfl, h.own.row.cells rdC_len hx (j := 3) rfl, h.own.row.cells rdC_len hx (j := 4) rfl⟩
theorem StV.free1 (h : StV w base gs W (.slice (some ⟨g1, 0, none⟩) n c1) vf xs) (i : Nat) : w.frozen? ⟨g1, i, none⟩ = false := h.own.row.frozen i
theorem get_set {α : Type} {l : List α} {t : Nat} {x y : α} (h : l[t]? = some x) : (l.set t y)[t]? = some y := List.getElem?_set_self (List.getElem?_eq_some_iff.1 h).1
theorem put_put (W : WT) (t : Nat) (a b : RdT) : (W.put t a).put t b = W.put t b := by simp [WT.put]
/-- one cell of a thread is set -/
theorem StV.put1 (h : StV w base gs W (.slice (some ⟨g1, 0, none⟩) n c1) vf xs) (hx : xs[t]? = some x) {y : RdX} {j : Nat} {u : Value} (hj : j < 5) (hy : rdC y = (rdC x).set j u) (hA : y.A = x.A) (hc : y.c = x.c) (hr : y.r.away = x.r.away) :
    Acts base gs (W.put t y.r) w (.returned (.tuple #[])) (w.setCell ⟨g1, t * 5 + j, none⟩ u) :=
  ⟨rfl, ⟨_, _, _, h.put hx hj hy hA hc hr⟩, h.keep1 _ _, (Below.refl _ _).setCell h.lt1.1 _⟩
/-- two cells of a thread are set -/
theorem StV.put2 (h : StV w base gs W (.slice (some ⟨g1, 0, none⟩) n c1) vf xs) (hx : xs[t]? = some x) {y z : RdX} {j k : Nat} {u v : Value} (hj : j < 5) (hy : rdC y = (rdC x).set j u) (hA : y.A = x.A) (hc : y.c = x.c) (hr : y.r.away = x.r.away)
    (hk : k < 5) (hz : rdC z = (rdC y).set k v) (hA2 : z.A = y.A) (hc2 : z.c = y.c) (hr2 : z.r.away = y.r.away) :
    Acts base gs (W.put t z.r) w (.returned (.tuple #[])) ((w.setCell ⟨g1, t * 5 + j, none⟩ u).setCell ⟨g1, t * 5 + k, none⟩ v) := by
  have h1 := h.put hx hj hy hA hc hr
  have h2 := h1.put (get_set hx) hk hz hA2 hc2 hr2
  rw [put_put] at h2
  exact ⟨rfl, ⟨_, _, _, h2⟩, (h.keep1 _ _).trans (h1.keep1 _ _), ((Below.refl _ _).setCell h.lt1.1 _).setCell (p := ⟨g1, _, none⟩) h.lt1.1 _⟩
theorem StV.stay (h : StV w base gs W (.slice (some ⟨g1, 0, none⟩) n c1) vf xs) : Acts base gs W w (.returned (.tuple #[])) w := ⟨rfl, ⟨_, _, _, h⟩, Keeps.refl _, Below.refl _ _⟩
theorem StV.base_le {vr : Value} (h : StV w base gs W vr vf xs) : base ≤ w.heap.size := Nat.le_trans h.low (Nat.le_of_lt h.blk.lt)
theorem Acts.after {w1 w' : World} {e : Ending} {W' : WT} (hb : Below w.heap.size w w1) (hs : base ≤ w.heap.size) (h : Acts base gs W' w1 e w') : Acts base gs W' w e w' :=
  ⟨h.1, h.2.1, (Keeps.of_ext hb).trans h.2.2.1, (hb.mono hs).trans h.2.2.2⟩
end
end Go.Proofs.Ytdgnejapofkadaa
