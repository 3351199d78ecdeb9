/- A set of integers that the call keeps as a map[int]bool of its own. -/
import Derived.Test.YtdgnejapofkadaaOwn
import Derived.Maps.Own
import Derived.Maps.Views
namespace Go.Proofs.Ytdgnejapofkadaa
open Go.RowKit Go.Maps

theorem keyI : Keyed Try.prog 3 := int_keyed Try.underlying3
theorem zeroB (w : World) : (zeroValue 4).run Try.prog w = .ok (.bool false) w := by kernel_rfl
theorem plainElem_bool_inv {H : Type} {P : Program} {e : TypeId} (he : P.underlying e = some .bool) {v : Value} {z : DataW H × List MemPlace} (h : plainElem P e v = some z) : ∃ x, v = .bool x ∧ z = (.lit (.bool x), []) := by
  unfold plainElem at h
  rw [he] at h
  cases v <;> simp at h
  exact ⟨_, rfl, h.symm⟩
/-- block b is a map of the numbers S, each with true -/
def SetI (w : World) (b : Nat) (S : List Int) : Prop :=
  ∃ (n : Nat) (D : DataW Unit), n ≤ S.length ∧ w.ownsMap Try.prog 3 (plainElem Try.prog 4) b n D ∧ IsMap D ∧ ∀ z : Int, (Lit.int .i64 z).wf = true → D.atKey (.int .i64 z) (.lit (.bool false)) = .lit (.bool (decide (z ∈ S)))
theorem SetI.made (w : World) : SetI (w.alloc (.map #[] 0)) w.heap.size [] :=
  ⟨0, .map [], Nat.le_refl _, World.ownsMap_made _ _ _ _, isMap_empty, fun _ _ => rfl⟩
theorem SetI.lt {w : World} {b : Nat} {S : List Int} (h : SetI w b S) : b < w.heap.size := by
  obtain ⟨n, D, _, h, _⟩ := h
  exact h.lt
theorem SetI.ext {w w' : World} {b : Nat} {S : List Int} (h : SetI w b S) (hb : Below w.heap.size w w') : SetI w' b S := by
  obtain ⟨n, D, h1, h2, h3⟩ := h
  exact ⟨n, D, h1, h2.kept (row := none) ⟨hb.os, hb.tape, hb.output, hb.size, fun k hk _ => hb.block k hk⟩ (by simp), h3⟩
theorem SetI.look {w : World} {b : Nat} {S : List Int} (h : SetI w b S) {z : Int} (hz : (Lit.int .i64 z).wf = true) : (Instr.lookup 70 (.map (some b)) (.int .i64 z) false).run Try.prog w = .ok (.bool (decide (z ∈ S))) w := by
  obtain ⟨n, D, _, h2, _, h4⟩ := h
  obtain ⟨v, ps, hrun, hv⟩ := h2.lookup keyI Try.underlying70 (zeroB w) (plainElem_bool Try.underlying4 false) (keyOf_int_mk Try.underlying3 hz)
  rw [h4 z hz] at hv
  obtain ⟨x, rfl, hx⟩ := plainElem_bool_inv Try.underlying4 hv
  injection hx with hx _
  injection hx with hx
  injection hx with hx
  rw [hrun, hx]
theorem SetI.add {w : World} {b : Nat} {S : List Int} (h : SetI w b S) {z : Int} (hz : (Lit.int .i64 z).wf = true) (hl : S.length ≤ 1000000) :
    ∃ w', (Instr.mapUpdate 70 (.map (some b)) (.int .i64 z) (.bool true)).run Try.prog w = .ok () w' ∧ SetI w' b (S ++ [z]) ∧ w.grownBy w' (some b) := by
  obtain ⟨n, D, h1, h2, h3, h4⟩ := h
  have hk : WideAt.IsKeyLit (Lit.int .i64 z) := keyI.key (keyOf_int_mk Try.underlying3 hz)
  obtain ⟨w', hrun, ho, hg⟩ := h2.update keyI Try.underlying70 (by unfold maxLen; omega) (keyOf_int_mk Try.underlying3 hz) (plainElem_bool Try.underlying4 true)
  refine ⟨w', hrun, ⟨n + 1, _, by simp; omega, ho, h3.put _ _, fun y hy => ?_⟩, hg⟩
  by_cases hyz : y = z
  · subst hyz
    rw [atKey_put_same h3 hk]
    simp
  · rw [atKey_put_other (by intro e; injection e with _ e; exact hyz e), h4 y hy]
    simp [hyz]
end Go.Proofs.Ytdgnejapofkadaa
