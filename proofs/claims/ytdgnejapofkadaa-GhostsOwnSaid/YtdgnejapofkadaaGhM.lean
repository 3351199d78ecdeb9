/- The walk of ghosts' free. -/
import Derived.Test.YtdgnejapofkadaaGhL
namespace Go.Proofs.Ytdgnejapofkadaa
open Go.RowKit

theorem filter_snoc {α : Type} (l : List α) (x : α) (p : α → Bool) (h : p x = true) : (l ++ [x]).filter p = l.filter p ++ [x] := by simp [List.filter_append, h]
theorem filter_skip {α : Type} (l : List α) (x : α) (p : α → Bool) (h : p x = false) : (l ++ [x]).filter p = l.filter p := by simp [List.filter_append, h]
/-- free, on its way: k nodes done -/
structure FrV (w wr : World) (base gs b5 : Nat) (W : WT) (vr vf v : Value) (xs : List RdX) (p : OldT → Bool) (l : List OldT) (k : Nat) (L : List OldT) (fr : List Int) : Prop where
  st : StV wr base gs { W with freed := fr } vr vf xs
  left : OwnF wr w.heap.size 52 3 oldC v L
  ll : L = (l.take k).filter fun o => !p o
  lf : fr = W.freed ++ ((l.take k).filter p).map (·.node)
  ptr : Blk wr b5 61 #[.pointer (some ⟨gs, 0, none⟩)]
  keep : Keeps w wr
  old : Below base w wr
section
variable {w wr w1 W4 : World} {base gs b5 : Nat} {W : WT} {vr vf v v4 : Value} {xs : List RdX} {p : OldT → Bool} {l : List OldT} {k : Nat} {L : List OldT} {fr : List Int} {o : OldT}
theorem FrV.ext (h : FrV w wr base gs b5 W vr vf v xs p l k L fr) (hb : Below wr.heap.size wr w1) : FrV w w1 base gs b5 W vr vf v xs p l k L fr :=
  ⟨h.st.ext hb, h.left.extW hb, h.ll, h.lf, h.ptr.extW hb, h.keep.trans (Keeps.of_ext hb), h.old.trans (hb.mono h.st.base_le)⟩
theorem FrV.freed (h : FrV w w1 base gs b5 W vr vf v xs p l k L fr) (ho : l[k]? = some o) (hp : p o = true) (hn : OwnI W4 base 3 .i64 v4 (fr ++ [o.node])) (hg : w1.grownBy W4 vf.ownBlock) :
    FrV w (W4.setCell ⟨gs, 4, none⟩ v4) base gs b5 W vr v4 v xs p l (k + 1) L (fr ++ [o.node]) := by
  have hL := h.left; unfold OwnF at hL
  have hb := h.st.blk.grown hg (own_other h.st.frd h.st.blk (by decide))
  have hp5 := h.ptr.grown hg (own_other h.st.frd h.ptr (by decide))
  have hne : b5 ≠ gs := by
    rintro rfl
    have := h.ptr; unfold Blk at this
    have h2 := h.st.blk; unfold Blk at h2
    rw [this] at h2
    injection h2 with h2
    injection h2 with _ h2
    exact absurd h2 (by decide)
  refine ⟨h.st.more hn hg, own_far (own_grown hL hg (fun g hv => own_apart hL h.st.frd (by decide) hv)) hb (by decide) _ _, ?_, ?_, hp5.far (p := ⟨gs, 4, none⟩) hne _, ?_, ?_⟩
  · rw [take_of ho, filter_skip _ _ _ (by simp [hp])]; exact h.ll
  · rw [take_of ho, filter_snoc _ _ _ hp, List.map_append, ← List.append_assoc, ← h.lf]; rfl
  · exact h.keep.trans ((Keeps.grown h.st.frd hg (.inr (.inr (.inl rfl)))).trans (Keeps.set (g := gs) hb (.inr (.inr (.inr rfl))) _ _))
  · exact (Below.grown h.old hg h.st.base_le (fun q hq => (own_lt h.st.frd hq).1)).setCell (p := ⟨gs, 4, none⟩) h.st.low _
theorem FrV.stays (h : FrV w w1 base gs b5 W vr vf v xs p l k L fr) (ho : l[k]? = some o) (hp : p o = false) (hlow : ∀ z ∈ xs, ∀ q, (Value.slice z.A z.r.away.length z.c).ownBlock = some q → q < w.heap.size) (hw : base ≤ w.heap.size)
    (hn : OwnF W4 w.heap.size 52 3 oldC v4 (L ++ [o])) (hg : w1.grownBy W4 v.ownBlock) : FrV w W4 base gs b5 W vr vf v4 xs p l (k + 1) (L ++ [o]) fr := by
  have hL := h.left; unfold OwnF at hL
  refine ⟨h.st.side hL hg hlow, hn, ?_, ?_, h.ptr.grown hg (own_other hL h.ptr (by decide)), h.keep.trans (Keeps.grown hL hg (.inr (.inl rfl))), Below.grown h.old hg h.st.base_le (fun q hq => Nat.le_trans hw (own_lt hL hq).1)⟩
  · rw [take_of ho, filter_snoc _ _ _ (by simp [hp]), ← h.ll]
  · rw [take_of ho, filter_skip _ _ _ hp]; exact h.lf
theorem FrV.grownBlk (h : FrV w w1 base gs b5 W vr vf v xs p l k L fr) {wA : World} (hb : Below w1.heap.size w1 wA) (hg : wA.grownBy W4 vf.ownBlock) : Blk W4 gs 63 #[.int .i64 W.epoch, .int .i64 W.root, .int .i64 W.last, vr, vf] :=
  (h.st.ext hb).blk.grown hg (own_other (h.st.ext hb).frd (h.st.ext hb).blk (by decide))
end
end Go.Proofs.Ytdgnejapofkadaa
