/- A block of ints beside a queue. -/
import Derived.Test.YthghghoikaincaaTkU
namespace Go.Proofs.Ythghghoikaincaa
open Go.RowKit

section
variable {w w' : World} {base gq gm : Nat} {vw vg vc vt vn : Value} {q q' : QT} {C : List Int} {S : Nat → Prop}
theorem QV.away (h : QV w base gq gm vw vg vc vt vn q C) {g i : Nat} (hno : ¬ QOwns gq gm vw vg vc vt vn g) (u : Value) : QV (w.setCell ⟨g, i, none⟩ u) base gq gm vw vg vc vt vn q C := by
  refine ⟨h.blk.far (p := ⟨g, i, none⟩) (fun e => hno (.inl e.symm)) _, ?_, ?_, ?_, h.low, h.c64⟩
  · refine h.mem.out ?_ ?_ ?_ ?_ u
    · exact fun e => hno (.inr (.inl e.symm))
    · exact fun e => hno (.inr (.inr (.inl e)))
    · exact fun e => hno (.inr (.inr (.inr (.inl e))))
    · exact fun e => hno (.inr (.inr (.inr (.inr (.inl e)))))
  · exact own_new h.men' (fun b hb e => by subst e; exact hno (.inr (.inr (.inr (.inr (.inr (.inl hb))))))) u
  · exact own_new h.notes' (fun b hb e => by subst e; exact hno (.inr (.inr (.inr (.inr (.inr (.inr hb))))))) u
theorem QAt.away (h : QAt w base gq S q) {g i : Nat} (hno : ¬ S g) (u : Value) : QAt (w.setCell ⟨g, i, none⟩ u) base gq S q := by
  obtain ⟨gm, vw, vg, vc, vt, vn, C, h, hs⟩ := h
  exact ⟨gm, vw, vg, vc, vt, vn, C, h.away (fun ho => hno (hs g ho)) u, hs⟩
/-- a queue beside a block -/
def QBeside (w : World) (base gq gs : Nat) (q : QT) : Prop := QAt w base gq (fun b => b ≠ gs) q
theorem QBeside.to {gs : Nat} (hg : gs < w.heap.size) (h : QTo w base gq (fun b => b ≠ gs) q' w') : QBeside w' base gq gs q' ∧ (w'.heap[gs]? = w.heap[gs]?) ∧ Below base w w' :=
  ⟨h.1.mono fun b hb => by rcases hb with hb | hb; · exact hb
                           · omega, h.2.1 gs hg (fun e => e rfl), h.2.2⟩
theorem Blk.same {t : TypeId} {g : Nat} {a : Array Value} (h : Blk w g t a) (he : w'.heap[g]? = w.heap[g]?) : Blk w' g t a := by unfold Blk at h ⊢; rw [he]; exact h
theorem make_ints (n : Nat) (hn : n ≤ 64) (W : World) : (Instr.makeSlice 28 (.int .i64 (n : Int)) (.int .i64 (n : Int))).run Try.prog W = .ok (.slice (some ⟨W.heap.size, 0, none⟩) n n) (W.alloc (.cells (madeCells #[.int .i64 0] (n * 1)) 3)) := by
  obtain ⟨i, hi0, hz0, hz1, hz2⟩ := info_parts (show (Try.prog.info? 3).map (fun i => (i.zero, i.size, i.bytes)) = some (some (.int .i64 0), 1, 8) by kernel_rfl)
  have h := run_make_rowN (P := Try.prog) 28 3 i _ Try.underlying28 hi0 hz0 .i64 .i64 n n (Nat.le_refl _) (by rw [hz2]; omega) (by omega) W
  rw [hz1] at h
  exact h
theorem zeros_cells (n : Nat) : madeCells #[.int .i64 0] (n * 1) = ((List.replicate n (0 : Int)).map (Value.int .i64)).toArray := by
  apply Array.ext'
  rw [Nat.mul_one]
  unfold madeCells
  simp only [List.map_replicate, Array.toList_map, Array.toList_range, List.size_toArray]
  refine List.ext_getElem (by simp) (fun i h1 h2 => ?_)
  simp [Nat.mod_one]
end
end Go.Proofs.Ythghghoikaincaa
