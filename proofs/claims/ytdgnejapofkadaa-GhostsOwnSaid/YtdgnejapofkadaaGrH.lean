/- A world that the call owns, behind stores into its threads, into what they put away, into what is freed. -/
import Derived.Test.YtdgnejapofkadaaGrG
namespace Go.Proofs.Ytdgnejapofkadaa
open Go.RowKit

section
variable {w : World} {base g1 n c1 : Nat} {W : WT} {vr vf : Value} {xs : List RdX} {t : Nat} {x : RdX}
theorem WO.rowO (h : WO w base W vr vf xs) : w.ownsRow base 48 5 vr xs.length (xs.flatMap rdC) := h.row
theorem WO.frO (h : WO w base W vr vf xs) : w.ownsRow base 3 1 vf W.freed.length (W.freed.map (Value.int .i64)) := h.freed
theorem WO.awO (h : WO w base W vr vf xs) {z : RdX} (hz : z ∈ xs) : w.ownsRow base 52 3 (.slice z.A z.r.away.length z.c) z.r.away.length (z.r.away.flatMap oldC) := h.away z hz
/-- a cell of a thread is set -/
theorem WO.put (h : WO w base W (.slice (some ⟨g1, 0, none⟩) n c1) vf xs) (hx : xs[t]? = some x) {y : RdX} {j : Nat} {u : Value} (hj : j < 5) (hy : rdC y = (rdC x).set j u) (hA : y.A = x.A) (hc : y.c = x.c) (hr : y.r.away = x.r.away) :
    WO (w.setCell ⟨g1, t * 5 + j, none⟩ u) base (W.put t y.r) (.slice (some ⟨g1, 0, none⟩) n c1) vf (xs.set t y) := by
  have hm := mem_of_get hx
  refine ⟨?_, h.row.stored rdC_len hx hj hy, fun z hz => ?_, h.apart.set hx (by rw [hA, hc, hr]), own_out h.frO h.rowO (by decide) _ _⟩
  · rw [List.map_set, h.rds]; rfl
  · have key : OwnF w base 52 3 oldC (.slice z.A z.r.away.length z.c) z.r.away := by
      rcases mem_set hz with rfl | hz
      · have h1 := h.away x hm
        rw [hA, hr, hc]; exact h1
      · exact h.away z hz
    unfold OwnF at key
    exact own_out key h.rowO (by decide) _ _
/-- a stamp of what a thread put away is set -/
theorem WO.stamp (h : WO w base W vr vf xs) (hx : xs[t]? = some x) {b k : Nat} (hb : x.A = some ⟨b, 0, none⟩) {o : OldT} (ho : x.r.away[k]? = some o) (z : Int) :
    WO (w.setCell ⟨b, k * 3 + 2, none⟩ (.int .i64 z)) base (W.put t { x.r with away := x.r.away.set k ⟨o.node, z⟩ }) vr vf (xs.set t ⟨{ x.r with away := x.r.away.set k ⟨o.node, z⟩ }, x.A, x.c⟩) := by
  have hm := mem_of_get hx
  have hax := h.awO hm
  rw [hb] at hax
  have hrd : rdC ⟨{ x.r with away := x.r.away.set k ⟨o.node, z⟩ }, x.A, x.c⟩ = rdC x := by simp [rdC]
  have hfl : (xs.set t ⟨{ x.r with away := x.r.away.set k ⟨o.node, z⟩ }, x.A, x.c⟩).flatMap rdC = xs.flatMap rdC := by
    rw [flat_set rdC_len xs t x _ 4 (.slice x.A x.r.away.length x.c) hx (by decide) (by rw [hrd]; rfl)]
    apply List.ext_getElem?
    intro i
    by_cases hi : t * 5 + 4 = i
    · subst hi
      have h1 := flat_get rdC_len xs t x 4 hx (by decide)
      have h2 : (rdC x)[4]? = some (.slice x.A x.r.away.length x.c) := rfl
      rw [h2] at h1
      rw [List.getElem?_set_self (len_of h1), h1]
    · rw [List.getElem?_set_ne hi]
  refine ⟨?_, ?_, fun q hq => ?_, h.apart.set hx (by simp), own_out h.frO hax (by decide) _ _⟩
  · rw [List.map_set, h.rds]; rfl
  · have h1 := own_out h.rowO hax (by decide) (k * 3 + 2) (.int .i64 z)
    unfold OwnF
    rw [hfl, List.length_set]
    exact h1
  · obtain ⟨i, hi⟩ := List.getElem?_of_mem hq
    rcases idx_set hi with ⟨_, rfl⟩ | ⟨hit, hi⟩
    · have h1 : OwnF w base 52 3 oldC (.slice (some ⟨b, 0, none⟩) x.r.away.length x.c) x.r.away := hax
      have h2 := h1.stored oldC_len ho (y := ⟨o.node, z⟩) (j := 2) (by decide) (u := .int .i64 z) rfl
      dsimp only
      rw [List.length_set, hb]
      exact h2
    · have h1 := h.away q (mem_of_get hi)
      unfold OwnF at h1
      refine own_new h1 (fun g' hv he => ?_) _
      refine h.apart i t q x hi hx hit g' hv ?_
      rw [hb, he]; rfl
/-- what is freed is set -/
theorem WO.fr {b m d : Nat} (h : WO w base W vr (.slice (some ⟨b, 0, none⟩) m d) xs) (i : Nat) (z : Int) :
    WO (w.setCell ⟨b, i, none⟩ (.int .i64 z)) base { W with freed := W.freed.set i z } vr (.slice (some ⟨b, 0, none⟩) m d) xs :=
  ⟨h.rds, own_out h.rowO h.frO (by decide) _ _, fun q hq => own_out (h.awO hq) h.frO (by decide) _ _, h.apart, h.freed.stored i z⟩
end
/-- a copy's variable, block gc, and its memory from B on; what is there may be anything -/
def CopyC (w : World) (B gc : Nat) (E R L : Int) (A : Option Addr) (n c : Nat) (F : Option Addr) (m d : Nat) (W : WT) (ys : List RdX) : Prop :=
  Blk w gc 38 #[.int .i64 E, .int .i64 R, .int .i64 L, .slice A n c, .slice F m d] ∧ WO w B W (.slice A n c) (.slice F m d) ys ∧ ∀ z ∈ ys, z.r.away.length ≤ 500
theorem own_var {w : World} {base : Nat} {e t : TypeId} {m n k c : Nat} {xs : List Value} {b gc : Nat} {ys : Array Value} (h : w.ownsRow base e m (.slice (some ⟨b, 0, none⟩) k c) n xs) (hg : Blk w gc t ys) (hne : e ≠ t) (i : Nat) (u : Value) : Blk (w.setCell ⟨b, i, none⟩ u) gc t ys :=
  hg.far (p := ⟨b, i, none⟩) (own_ne h hg hne) u
end Go.Proofs.Ytdgnejapofkadaa
