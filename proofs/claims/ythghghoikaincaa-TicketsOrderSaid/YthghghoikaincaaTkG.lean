/- A queue behind stores into its threads, its own block, its notes; behind an access of its words. -/
import Derived.Test.YthghghoikaincaaTkF
namespace Go.Proofs.Ythghghoikaincaa
open Go.RowKit

/-- what a step leaves: the queue, its slices' values, and all other blocks -/
def QX (w : World) (base gq gm : Nat) (vw vg vc vt vn : Value) (q' : QT) (w' : World) : Prop :=
  ∃ vc' vn' C', QV w' base gq gm vw vg vc' vt vn' q' C' ∧ NewOr w vc vc' ∧ NewOr w vn vn' ∧ (∀ b, b < w.heap.size → ¬ QOwns gq gm vw vg vc vt vn b → w'.heap[b]? = w.heap[b]?) ∧ Below base w w'
section
variable {w w1 w' : World} {base gq gm : Nat} {vw vg vc vt vn : Value} {q q' : QT} {C : List Int}
theorem QV.base_le (h : QV w base gq gm vw vg vc vt vn q C) : base ≤ w.heap.size := Nat.le_trans h.low (Nat.le_of_lt h.blk.lt)
theorem QV.stay (h : QV w base gq gm vw vg vc vt vn q C) : QX w base gq gm vw vg vc vt vn q w := ⟨vc, vn, C, h, NewOr.refl _ _, NewOr.refl _ _, fun _ _ _ => rfl, Below.refl _ _⟩
theorem QV.grew (h : QV w base gq gm vw vg vc vt vn q C) (hb : Below w.heap.size w w') : QX w base gq gm vw vg vc vt vn q w' := ⟨vc, vn, C, h.ext hb, NewOr.refl _ _, NewOr.refl _ _, fun b hb' _ => hb.block b hb', hb.mono h.base_le⟩
theorem QX.trans {vc1 vn1 : Value} (hn1 : NewOr w vc vc1) (hn2 : NewOr w vn vn1) (hr : ∀ b, b < w.heap.size → ¬ QOwns gq gm vw vg vc vt vn b → w1.heap[b]? = w.heap[b]?) (hb : Below base w w1) (k : QX w1 base gq gm vw vg vc1 vt vn1 q' w') : QX w base gq gm vw vg vc vt vn q' w' := by
  obtain ⟨vc', vn', C', h1, h2, h3, h4, h5⟩ := k
  refine ⟨vc', vn', C', h1, hn1.trans hb.size h2, hn2.trans hb.size h3, fun b hbl hno => ?_, hb.trans h5⟩
  refine (h4 b (Nat.lt_of_lt_of_le hbl hb.size) (fun ho => hno ?_)).trans (hr b hbl hno)
  rcases ho with h | h | h | h | h | h | h
  · exact .inl h
  · exact .inr (.inl h)
  · exact .inr (.inr (.inl h))
  · exact .inr (.inr (.inr (.inl h)))
  · rcases hn1 b h with h | h
    · exact .inr (.inr (.inr (.inr (.inl h))))
    · omega
  · exact .inr (.inr (.inr (.inr (.inr (.inl h)))))
  · rcases hn2 b h with h | h
    · exact .inr (.inr (.inr (.inr (.inr (.inr h)))))
    · omega
/-- new memory ahead of a step -/
theorem QX.after (hb : Below w.heap.size w w1) (hbl : base ≤ w.heap.size) (k : QX w1 base gq gm vw vg vc vt vn q' w') : QX w base gq gm vw vg vc vt vn q' w' :=
  QX.trans (NewOr.refl _ _) (NewOr.refl _ _) (fun b hb' _ => hb.block b hb') (hb.mono hbl) k
/-- new memory behind a step -/
theorem QX.more (h : QX w base gq gm vw vg vc vt vn q' w1) (hb : Below w1.heap.size w1 w') (hbl : base ≤ w1.heap.size) : QX w base gq gm vw vg vc vt vn q' w' := by
  obtain ⟨vc', vn', C', h1, h2, h3, h4, h5⟩ := h
  exact ⟨vc', vn', C', h1.ext hb, h2, h3, fun b hb' hno => (hb.block b (Nat.lt_of_lt_of_le hb' h5.size)).trans (h4 b hb' hno), h5.trans (hb.mono hbl)⟩
theorem QV.men' (h : QV w base gq gm vw vg vc vt vn q C) : w.ownsRow base 35 5 vt q.T.length (q.T.flatMap cmC) := h.men
theorem QV.notes' (h : QV w base gq gm vw vg vc vt vn q C) : w.ownsRow base 61 13 vn q.N.length (q.N.flatMap ntC) := h.notes
/-- a store into a block of a type that is none of the words' -/
theorem MemV.type_far {vl vg vc : Value} {L : List Int} {G : List Acc} {kp : Bool} {g : Nat} (h : MemV w base gm vl vg vc L G C kp) {t : TypeId} {ys : Array Value} {fr : Nat × Nat} (hg : w.heap[g]? = some (.cells ys t fr)) (h1 : t ≠ 71) (h2 : t ≠ 67) (h3 : t ≠ 83) (h4 : t ≠ 3) (i : Nat) (u : Value) :
    MemV (w.setCell ⟨g, i, none⟩ u) base gm vl vg vc L G C kp := by
  refine h.out ?_ ?_ ?_ ?_ u
  · rintro rfl
    have := h.blk
    unfold Blk at this
    rw [hg] at this
    injection this with this
    injection this with _ ht
    exact h1 ht
  · exact fun he => own_other' h.words hg (Ne.symm h2) he.symm
  · exact fun he => own_other' h.log hg (Ne.symm h3) he.symm
  · exact fun he => own_other' h.counts hg (Ne.symm h4) he.symm
theorem MemV.type_grown {vl vg vc v : Value} {L : List Int} {G : List Acc} {kp : Bool} {e : TypeId} {m n : Nat} {xs : List Value} (h : MemV w base gm vl vg vc L G C kp) (hv : w.ownsRow base e m v n xs) (hg : w.grownBy w' v.ownBlock) (h1 : e ≠ 71) (h2 : e ≠ 67) (h3 : e ≠ 83) (h4 : e ≠ 3) :
    MemV w' base gm vl vg vc L G C kp :=
  ⟨h.blk.grown hg (own_other hv h.blk h1), own_grown h.words hg (fun _ hb => own_apart h.words hv (Ne.symm h2) hb), own_grown h.log hg (fun _ hb => own_apart h.log hv (Ne.symm h3) hb), own_grown h.counts hg (fun _ hb => own_apart h.counts hv (Ne.symm h4) hb), h.low⟩
theorem own_obj {e : TypeId} {m n k c g : Nat} {xs : List Value} (h : w.ownsRow base e m (.slice (some ⟨g, 0, none⟩) k c) n xs) : ∃ ys : Array Value, w.heap[g]? = some (.cells ys e (0, 0)) := by
  rcases h.2 with ⟨h', _⟩ | ⟨g', cap', cur, h', _, hh, _⟩
  · cases h'
  · injection h' with h1 _ _
    injection h1 with h1
    injection h1 with h1
    exact ⟨cur, by rw [h1]; exact hh⟩
/-- a store into one of the queue's own blocks -/
theorem QV.one (hq : QV w base gq gm vw vg vc vt vn q C) {g i : Nat} {u : Value} (hg : QOwns gq gm vw vg vc vt vn g) (h : QV (w.setCell ⟨g, i, none⟩ u) base gq gm vw vg vc vt vn q' C) : QX w base gq gm vw vg vc vt vn q' (w.setCell ⟨g, i, none⟩ u) := by
  refine ⟨vc, vn, C, h, NewOr.refl _ _, NewOr.refl _ _, fun b _ hno => ?_, (Below.refl _ _).setCell (p := ⟨g, i, none⟩) (hq.lo g hg) _⟩
  rw [Below.heap_setCell _ _ _ _ (fun e => hno (by subst e; exact hg))]
/-- a cell of a thread is set -/
theorem QV.put {g1 n c1 t : Nat} {x y : CmT} {j : Nat} {u : Value} (h : QV w base gq gm vw vg vc (.slice (some ⟨g1, 0, none⟩) n c1) vn q C) (hx : q.T[t]? = some x) (hj : j < 5) (hy : cmC y = (cmC x).set j u) :
    QV (w.setCell ⟨g1, t * 5 + j, none⟩ u) base gq gm vw vg vc (.slice (some ⟨g1, 0, none⟩) n c1) vn (q.setT t y) C := by
  obtain ⟨ys, hy1⟩ := own_obj h.men'
  exact ⟨h.blk.far (p := ⟨g1, _, none⟩) (own_ne h.men' h.blk (by decide)) _, h.mem.type_far hy1 (by decide) (by decide) (by decide) (by decide) _ _, h.men.stored cmC_len hx hj hy, own_out h.notes' h.men' (by decide) _ _, h.low, h.c64⟩
/-- the time is set -/
theorem QV.time (h : QV w base gq gm vw vg vc vt vn q C) (z : Int) : QV (w.setCell ⟨gq, 5, none⟩ (.int .i64 z)) base gq gm vw vg vc vt vn { q with time := z } C :=
  ⟨h.blk.set_ 5 _, h.mem.type_far (g := gq) h.blk (by decide) (by decide) (by decide) (by decide) _ _, own_far h.men' h.blk (by decide) _ _, own_far h.notes' h.blk (by decide) _ _, h.low, h.c64⟩
/-- the notes are more -/
theorem QV.noted {vn' : Value} {N' : List NtT} (h : QV w base gq gm vw vg vc vt vn q C) (ho : OwnF w' base 61 13 ntC vn' N') (hg : w.grownBy w' vn.ownBlock) : QV (w'.setCell ⟨gq, 4, none⟩ vn') base gq gm vw vg vc vt vn' { q with N := N' } C := by
  have hb := h.blk.grown hg (own_other h.notes' h.blk (by decide))
  have hm := h.mem.type_grown h.notes' hg (by decide) (by decide) (by decide) (by decide)
  have ho' := ho; unfold OwnF at ho'
  exact ⟨hb.set_ 4 _, hm.type_far (g := gq) hb (by decide) (by decide) (by decide) (by decide) _ _, own_far (own_grown h.men' hg (fun g hv => own_apart h.men' h.notes' (by decide) hv)) hb (by decide) _ _, own_far ho' hb (by decide) _ _, h.low, h.c64⟩
/-- what an access of the words leaves -/
theorem QV.acc {L' : List Int} {C' : List Int} (h : QV w base gq gm vw vg vc vt vn q C) (hm : MemTo w base gm vw vg vc L' [] C' w') (hc : C'.length ≤ 64) : ∃ vc', QV w' base gq gm vw vg vc' vt vn { q with L := L' } C' ∧ NewOr w vc vc' ∧ (∀ b, b < w.heap.size → ¬ QOwns gq gm vw vg vc vt vn b → w'.heap[b]? = w.heap[b]?) ∧ Below base w w' := by
  obtain ⟨⟨vc', hM, hN⟩, hR, hK, hB⟩ := hm
  have keep : ∀ {e : TypeId} {m n : Nat} {v : Value} {xs : List Value}, w.ownsRow base e m v n xs → e ≠ 71 → e ≠ 67 → e ≠ 83 → e ≠ 3 → w'.ownsRow base e m v n xs := by
    intro e m n v xs ho h1 h2 h3 h4
    obtain ⟨k1, k2⟩ := ho
    refine ⟨k1, ?_⟩
    rcases k2 with k2 | ⟨g, cap, cur, hv, hb, hh, r⟩
    · exact Or.inl k2
    · exact Or.inr ⟨g, cap, cur, hv, hb, hK g _ _ _ hh h1 h2 h3 h4, r⟩
  refine ⟨vc', ⟨hK gq _ _ _ h.blk (by decide) (by decide) (by decide) (by decide), hM, keep h.men' (by decide) (by decide) (by decide) (by decide), keep h.notes' (by decide) (by decide) (by decide) (by decide), h.low, hc⟩, hN, fun b hb hno => ?_, hB⟩
  refine hR b hb (fun e => hno (.inr (.inl e))) (fun e => hno (.inr (.inr (.inl e)))) (fun e => hno (.inr (.inr (.inr (.inl e))))) (fun e => hno (.inr (.inr (.inr (.inr (.inl e))))))
theorem QV.grownBlk (h : QV w base gq gm vw vg vc vt vn q C) {wA : World} (hb : Below w.heap.size w wA) (hg : wA.grownBy w' vn.ownBlock) : Blk w' gq 54 #[.pointer (some ⟨gm, 0, none⟩), .int .i64 q.size, .int .i64 q.tries, vt, vn, .int .i64 q.time] :=
  (h.ext hb).blk.grown hg (own_other (h.ext hb).notes' (h.ext hb).blk (by decide))
/-- a note more: all of it -/
theorem QV.noteX (h : QV w base gq gm vw vg vc vt vn q C) {wA : World} {vn' : Value} {N' : List NtT} (hb : Below w.heap.size w wA) (ho : OwnF w' base 61 13 ntC vn' N') (hg : wA.grownBy w' vn.ownBlock) (hat : vn'.ownBlock = vn.ownBlock ∨ vn'.ownBlock = some wA.heap.size) :
    QX w base gq gm vw vg vc vt vn { q with N := N' } (w'.setCell ⟨gq, 4, none⟩ vn') := by
  have h1 := h.ext hb
  refine ⟨vc, vn', C, h1.noted ho hg, NewOr.refl _ _, fun b hbk => ?_, fun b hbl hno => ?_, ?_⟩
  · rcases hat with he | he
    · exact .inl (he.symm.trans hbk)
    · rw [he] at hbk; injection hbk with hbk; right; have := hb.size; omega
  · rw [Below.heap_setCell _ _ _ _ (fun e => hno (.inl e)), hg.block b (Nat.lt_of_lt_of_le hbl hb.size) (fun e => hno (.inr (.inr (.inr (.inr (.inr (.inr e.symm)))))))]
    exact hb.block b hbl
  · exact (Below.grown (hb.mono h.base_le) hg (Nat.le_trans h.base_le hb.size) (fun _ hk => (own_lt h.notes' hk).1)).setCell (p := ⟨gq, 4, none⟩) h.low _
end
end Go.Proofs.Ythghghoikaincaa
