/- Copying a world: what one round does. -/
import Derived.Test.YtdgnejapofkadaaGhC
namespace Go.Proofs.Ytdgnejapofkadaa
open Go.RowKit

section
variable (w : World) (A : Option Addr) (c : Nat)
theorem clone_rd' (xs : List RdX) (hl : xs.length ≤ 1000) (hr : RdF w rdC A xs) :
    Calls Try.prog 30 #[.slice A xs.length c] w fun e w' => ∃ B d, e = .returned (.slice B xs.length d) ∧ OwnF w' w.heap.size 48 5 rdC (.slice B xs.length d) xs ∧ Below w.heap.size w w' :=
  (clone_rd w A c xs hl hr).mono fun e w' h => by
    obtain ⟨⟨v, h1, h2⟩, h3⟩ := h
    obtain ⟨B, d, rfl⟩ := h2.shape
    exact ⟨B, d, h1, h2, h3⟩
theorem clone_old' (xs : List OldT) (hl : xs.length ≤ 1000) (hr : RdF w oldC A xs) :
    Calls Try.prog 32 #[.slice A xs.length c] w fun e w' => ∃ B d, e = .returned (.slice B xs.length d) ∧ OwnF w' w.heap.size 52 3 oldC (.slice B xs.length d) xs ∧ Below w.heap.size w w' :=
  (clone_old w A c xs hl hr).mono fun e w' h => by
    obtain ⟨⟨v, h1, h2⟩, h3⟩ := h
    obtain ⟨B, d, rfl⟩ := h2.shape
    exact ⟨B, d, h1, h2, h3⟩
theorem clone_int' (xs : List Int) (hl : xs.length ≤ 1000) (hr : RdI w .i64 A xs) :
    Calls Try.prog 31 #[.slice A xs.length c] w fun e w' => ∃ B d, e = .returned (.slice B xs.length d) ∧ OwnI w' w.heap.size 3 .i64 (.slice B xs.length d) xs ∧ Below w.heap.size w w' :=
  (clone_int w A c xs hl hr).mono fun e w' h => by
    obtain ⟨⟨v, h1, h2⟩, h3⟩ := h
    obtain ⟨B, d, rfl⟩ := h2.shape
    exact ⟨B, d, h1, h2, h3⟩
end
/-- Copy, on its way: g its own world, k threads done -/
structure CpV (w wr : World) (g : Nat) (W : WT) (A1 : Option Addr) (n c1 : Nat) (A2 : Option Addr) (m c2 : Nat) (xs zs : List RdX) : Prop where
  blk : Blk wr g 38 #[.int .i64 W.epoch, .int .i64 W.root, .int .i64 W.last, .slice A1 n c1, .slice A2 m c2]
  res : Blk wr (g + 1) 38 #[.int .i64 0, .int .i64 0, .int .i64 0, .slice none 0 0, .slice none 0 0]
  row : OwnF wr w.heap.size 48 5 rdC (.slice A1 n c1) (zs ++ xs.drop zs.length)
  away : ∀ z ∈ zs, OwnF wr w.heap.size 52 3 oldC (.slice z.A z.r.away.length z.c) z.r.away
  apart : Apart zs
  freed : OwnI wr w.heap.size 3 .i64 (.slice A2 m c2) W.freed
  old : Below w.heap.size w wr
theorem drop_step {α : Type} {xs zs : List α} {x y : α} (hx : xs[zs.length]? = some x) : (zs ++ xs.drop zs.length).set zs.length y = (zs ++ [y]) ++ xs.drop (zs ++ [y]).length := by
  rw [drop_of hx, List.set_append_right _ _ (Nat.le_refl _), Nat.sub_self]
  simp
theorem own_ne {w : World} {base : Nat} {e t : TypeId} {m n k c : Nat} {xs : List Value} {g g1 : Nat} {ys : Array Value} (h : w.ownsRow base e m (.slice (some ⟨g1, 0, none⟩) k c) n xs) (hg : Blk w g t ys) (hne : e ≠ t) : g ≠ g1 := by
  intro he
  exact own_other h hg hne (by rw [he]; rfl)
theorem own_out {w : World} {base base' : Nat} {e e' : TypeId} {m m' n n' k c : Nat} {v : Value} {xs xs' : List Value} {g1 : Nat} (h : w.ownsRow base e m v n xs) (h' : w.ownsRow base' e' m' (.slice (some ⟨g1, 0, none⟩) k c) n' xs') (hne : e ≠ e') (i : Nat) (u : Value) : (w.setCell ⟨g1, i, none⟩ u).ownsRow base e m v n xs :=
  own_new h (fun g' hv he => own_apart h h' hne hv (by rw [he]; rfl)) u
theorem Apart.snoc {zs : List RdX} {z : RdX} (h : Apart zs) (B : Nat) (h1 : ∀ x ∈ zs, ∀ b, (Value.slice x.A x.r.away.length x.c).ownBlock = some b → b < B) (h2 : ∀ b, (Value.slice z.A z.r.away.length z.c).ownBlock = some b → B ≤ b) : Apart (zs ++ [z]) := by
  have key : ∀ (i : Nat) (x : RdX), (zs ++ [z])[i]? = some x → zs[i]? = some x ∨ (i = zs.length ∧ x = z) := by
    intro i x hx
    rcases Nat.lt_or_ge i zs.length with hi | hi
    · rw [List.getElem?_append_left hi] at hx; exact .inl hx
    · rw [List.getElem?_append_right hi] at hx
      have h0 : i - zs.length = 0 := by have := (List.getElem?_eq_some_iff.1 hx).1; simp at this; omega
      rw [h0] at hx
      simp at hx
      exact .inr ⟨by omega, hx.symm⟩
  intro i j x y hx hy hij b hb hb'
  rcases key i x hx with hx1 | ⟨h3, h5⟩
  · rcases key j y hy with hy1 | ⟨h4, h6⟩
    · exact h i j x y hx1 hy1 hij b hb hb'
    · rw [h6] at hb'; have := h1 x (mem_of_get hx1) b hb; have := h2 b hb'; omega
  · rcases key j y hy with hy1 | ⟨h4, h6⟩
    · rw [h5] at hb; have := h1 y (mem_of_get hy1) b hb'; have := h2 b hb; omega
    · omega
theorem CpV.step {w wr w3 : World} {g : Nat} {W : WT} {g1 n c1 : Nat} {A2 : Option Addr} {m c2 : Nat} {xs zs : List RdX} {x : RdX} {A3 : Option Addr} {c3 b3 : Nat} (h : CpV w wr g W (some ⟨g1, 0, none⟩) n c1 A2 m c2 xs zs)
    (hg1 : w.heap.size ≤ g1) (hx : xs[zs.length]? = some x) (hb : Below wr.heap.size wr w3) (ho : OwnF w3 b3 52 3 oldC (.slice A3 x.r.away.length c3) x.r.away) (hb3 : wr.heap.size ≤ b3) :
    CpV w (w3.setCell ⟨g1, zs.length * 5 + 4, none⟩ (.slice A3 x.r.away.length c3)) g W (some ⟨g1, 0, none⟩) n c1 A2 m c2 xs (zs ++ [⟨x.r, A3, c3⟩]) := by
  have hrow := h.row.extW hb
  have hblk := h.blk.extW hb
  have hres := h.res.extW hb
  have hxx : (zs ++ xs.drop zs.length)[zs.length]? = some x := by rw [List.getElem?_append_right (Nat.le_refl _), Nat.sub_self, List.getElem?_drop]; simpa using hx
  have hrw := hrow; unfold OwnF at hrw
  have hfr := OwnI.extW h.freed hb; unfold OwnI at hfr
  refine ⟨hblk.far (p := ⟨g1, _, none⟩) (own_ne hrw hblk (by decide)) _, hres.far (p := ⟨g1, _, none⟩) (own_ne hrw hres (by decide)) _, ?_, ?_, ?_, own_out hfr hrw (by decide) _ _, (extW h.old hb).setCell hg1 _⟩
  · have := hrow.stored rdC_len hxx (y := ⟨x.r, A3, c3⟩) (j := 4) (by decide) (u := .slice A3 x.r.away.length c3) rfl
    rw [drop_step hx] at this
    exact this
  · intro z hz
    rcases List.mem_append.1 hz with hz | hz
    · exact own_out ((h.away z hz).extW hb) hrow (by decide) _ _
    · have := List.mem_singleton.1 hz
      subst this
      have hz1 := ho.weak (Nat.le_trans h.old.size hb3); unfold OwnF at hz1
      exact own_out hz1 hrw (by decide) _ _
  · exact h.apart.snoc wr.heap.size (fun x hx b hb => (own_lt (h.away x hx) hb).2) (fun b hb => Nat.le_trans hb3 (own_lt ho hb).1)
end Go.Proofs.Ytdgnejapofkadaa
