/- What ghosts.Do gives back. -/
import Derived.Test.YtdgnejapofkadaaGhN
namespace Go.Proofs.Ytdgnejapofkadaa
open Go.RowKit

/-- the call returns what reads as a world, and has changed nothing that was there -/
def GivesR (W : WT) (w : World) (e : Ending) (w' : World) : Prop := ∃ v, e = .returned v ∧ RdW w' v W ∧ Below w.heap.size w w'
theorem do_end {w w6 : World} {base gs rb : Nat} {W' : WT} {A B : Option Addr} {n c m d : Nat} {zs : List RdX} {ys : Array Value} (hS : StV w6 base gs W' (.slice A n c) (.slice B m d) zs) (hr : Blk w6 rb 38 ys) (hB : Below w.heap.size w w6) (hb : w.heap.size ≤ rb) :
    GivesR W' w (.returned (.agg #[.int .i64 W'.epoch, .int .i64 W'.root, .int .i64 W'.last, .slice A n c, .slice B m d])) (set5 w6 rb (.int .i64 W'.epoch) (.int .i64 W'.root) (.int .i64 W'.last) (.slice A n c) (.slice B m d)) := by
  have hrow : w6.ownsRow base 48 5 (.slice A n c) zs.length (zs.flatMap rdC) := hS.own.row
  have hO : WO (set5 w6 rb (.int .i64 W'.epoch) (.int .i64 W'.root) (.int .i64 W'.last) (.slice A n c) (.slice B m d)) base W' (.slice A n c) (.slice B m d) zs :=
    ⟨hS.own.rds, set5_own hrow hr (by decide) _ _ _ _ _, fun z hz => set5_own (hS.awy hz) hr (by decide) _ _ _ _ _, hS.own.apart, set5_own hS.frd hr (by decide) _ _ _ _ _⟩
  exact ⟨_, rfl, ⟨_, _, zs, rfl, hO.weak (Nat.zero_le _)⟩, set5_below hB hb _ _ _ _ _⟩
/-- the same, where nothing was done -/
theorem do_end0 {w w6 : World} {base rb : Nat} {W' : WT} {A B : Option Addr} {n c m d : Nat} {zs : List RdX} {ys : Array Value} (hS : WO w6 base W' (.slice A n c) (.slice B m d) zs) (hr : Blk w6 rb 38 ys) (hB : Below w.heap.size w w6) (hb : w.heap.size ≤ rb) :
    GivesR W' w (.returned (.agg #[.int .i64 W'.epoch, .int .i64 W'.root, .int .i64 W'.last, .slice A n c, .slice B m d])) (set5 w6 rb (.int .i64 W'.epoch) (.int .i64 W'.root) (.int .i64 W'.last) (.slice A n c) (.slice B m d)) := by
  have hrow : w6.ownsRow base 48 5 (.slice A n c) zs.length (zs.flatMap rdC) := hS.row
  have hfr : w6.ownsRow base 3 1 (.slice B m d) W'.freed.length (W'.freed.map (Value.int .i64)) := hS.freed
  have hO : WO (set5 w6 rb (.int .i64 W'.epoch) (.int .i64 W'.root) (.int .i64 W'.last) (.slice A n c) (.slice B m d)) base W' (.slice A n c) (.slice B m d) zs :=
    ⟨hS.rds, set5_own hrow hr (by decide) _ _ _ _ _, fun z hz => set5_own (by exact hS.away z hz) hr (by decide) _ _ _ _ _, hS.apart, set5_own hfr hr (by decide) _ _ _ _ _⟩
  exact ⟨_, rfl, ⟨_, _, zs, rfl, hO.weak (Nat.zero_le _)⟩, set5_below hB hb _ _ _ _ _⟩
theorem GivesR.more {W : WT} {w wa wb : World} {e : Ending} (h : GivesR W w e wa) (hb : Below wa.heap.size wa wb) : GivesR W w e wb := by
  obtain ⟨v, h1, h2, h3⟩ := h
  exact ⟨v, h1, h2.below hb, extW h3 hb⟩
theorem StV.shape {w : World} {base gs : Nat} {W : WT} {vr vf : Value} {xs : List RdX} (h : StV w base gs W vr vf xs) : ∃ A n c B m d, vr = .slice A n c ∧ vf = .slice B m d := by
  obtain ⟨A, c, B, d, h1, h2, _⟩ := h.own.rd
  exact ⟨A, _, c, B, _, d, h1, h2⟩
end Go.Proofs.Ytdgnejapofkadaa
