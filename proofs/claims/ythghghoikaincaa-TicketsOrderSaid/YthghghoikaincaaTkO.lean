/- Words for memory, more: as XOwn, over package mem's words. -/
import Derived.Test.YthghghoikaincaaTkE
namespace Go.Proofs.Ythghghoikaincaa
open Go.RowKit

theorem own_ne {w : World} {base : Nat} {e t : TypeId} {m n k c : Nat} {xs : List Value} {g g1 : Nat} {ys : Array Value} (h : w.ownsRow base e m (.slice (some ⟨g1, 0, none⟩) k c) n xs) (hg : Blk w g t ys) (hne : e ≠ t) : g ≠ g1 := by
  intro he
  exact own_other h hg hne (by rw [he]; rfl)
theorem own_out {w : World} {base base' : Nat} {e e' : TypeId} {m m' n n' k c : Nat} {v : Value} {xs xs' : List Value} {g1 : Nat} (h : w.ownsRow base e m v n xs) (h' : w.ownsRow base' e' m' (.slice (some ⟨g1, 0, none⟩) k c) n' xs') (hne : e ≠ e') (i : Nat) (u : Value) : (w.setCell ⟨g1, i, none⟩ u).ownsRow base e m v n xs :=
  own_new h (fun g' hv he => own_apart h h' hne hv (by rw [he]; rfl)) u
theorem get_set {α : Type} {l : List α} {t : Nat} {x y : α} (h : l[t]? = some x) : (l.set t y)[t]? = some y := List.getElem?_set_self (List.getElem?_eq_some_iff.1 h).1
theorem mem_of_get {α : Type} {l : List α} {t : Nat} {r : α} (h : l[t]? = some r) : r ∈ l := List.mem_of_getElem? h
theorem mem_set {α : Type} {l : List α} {t : Nat} {y x : α} (h : x ∈ l.set t y) : x = y ∨ x ∈ l := by
  rcases List.mem_or_eq_of_mem_set h with h | h
  · exact .inr h
  · exact .inl h
theorem OwnI.rdI {w : World} {base : Nat} {e : TypeId} {k : IntKind} {A : Option Addr} {n c : Nat} {zs : List Int} (h : OwnI w base e k (.slice A n c) zs) : n = zs.length ∧ RdI w k A zs := by
  obtain ⟨A', c', hv, hr⟩ := h.rd
  injection hv with e1 e2 e3
  subst e1; subst e2; subst e3
  exact ⟨rfl, hr⟩
section
variable {α : Type} {w w' : World} {base : Nat} {e : TypeId} {m : Nat} {f : α → List Value} {v : Value} {cs : List α}
theorem OwnF.rdF {A : Option Addr} {n c : Nat} (h : OwnF w base e m f (.slice A n c) cs) : n = cs.length ∧ RdF w f A cs := by
  obtain ⟨A', c', hv, hr⟩ := h.rd
  injection hv with e1 e2 e3
  subst e1; subst e2; subst e3
  exact ⟨rfl, hr⟩
theorem OwnF.shape (h : OwnF w base e m f v cs) : ∃ A c, v = .slice A cs.length c := by
  obtain ⟨A', c', hv, _⟩ := h.rd
  exact ⟨A', c', hv⟩
theorem OwnF.empty (w : World) (e : TypeId) (m : Nat) (f : α → List Value) : OwnF (w.alloc (.cells #[] e)) w.heap.size e m f (.slice (some ⟨w.heap.size, 0, none⟩) 0 0) [] := World.ownsRow_lit w #[] 0 (Nat.le_refl _) (Nat.zero_le _) (by simp)
theorem OwnF.weak {base' : Nat} (h : OwnF w base e m f v cs) (hb : base' ≤ base) : OwnF w base' e m f v cs := by
  obtain ⟨h1, h2⟩ := h
  refine ⟨h1, ?_⟩
  rcases h2 with h2 | ⟨g', cap, cur, hv, hbs, r⟩
  · exact Or.inl h2
  · exact Or.inr ⟨g', cap, cur, hv, by omega, r⟩
theorem OwnF.cap {A : Option Addr} {n c : Nat} (h : OwnF w base e m f (.slice A n c) cs) : n = cs.length ∧ n ≤ c := by
  rcases h.2 with ⟨h', h0⟩ | ⟨g', cap', cur, h', _, _, hc, _⟩
  · injection h' with _ h1 h2; subst h1; subst h2; exact ⟨h0.symm, Nat.le_refl _⟩
  · injection h' with _ h1 h2; subst h1; subst h2; exact ⟨rfl, hc⟩
theorem OwnF.form (h : OwnF w base e m f v cs) (hne : cs ≠ []) : ∃ g c, v = .slice (some ⟨g, 0, none⟩) cs.length c ∧ base ≤ g ∧ g < w.heap.size := by
  rcases h.2 with ⟨_, h0⟩ | ⟨g, cap, cur, hv, hb, hh, _⟩
  · exact absurd (List.eq_nil_of_length_eq_zero h0) hne
  · refine ⟨g, cap, hv, hb, ?_⟩
    rcases Nat.lt_or_ge g w.heap.size with h1 | h1
    · exact h1
    · rw [Array.getElem?_eq_none h1] at hh; cases hh
theorem OwnF.cells {g c n : Nat} (hf : ∀ c, (f c).length = m) (h : OwnF w base e m f (.slice (some ⟨g, 0, none⟩) n c) cs) {i : Nat} {x : α} (hx : cs[i]? = some x) {j : Nat} {u : Value} (hu : (f x)[j]? = some u) : w.cell? ⟨g, i * m + j, none⟩ = some u := by
  obtain ⟨hn, hr⟩ := h.rdF
  have hj : j < m := by rw [← hf x]; exact (List.getElem?_eq_some_iff.1 hu).1
  obtain ⟨ad, h1, h2⟩ := hr (i * m + j) u (by rw [flat_get hf cs i x j hx hj]; exact hu)
  injection h1 with h1
  subst h1
  rw [add_mk, Nat.zero_add] at h2
  exact h2
theorem OwnF.frozen {g c n : Nat} (h : OwnF w base e m f (.slice (some ⟨g, 0, none⟩) n c) cs) (i : Nat) : w.frozen? ⟨g, i, none⟩ = false := by
  have hn := h.cap.1
  subst hn
  exact World.ownsRow.frozenAt h i
theorem flat_set (hf : ∀ c, (f c).length = m) : ∀ (cs : List α) (i : Nat) (x y : α) (j : Nat) (u : Value), cs[i]? = some x → j < m → f y = (f x).set j u → (cs.set i y).flatMap f = (cs.flatMap f).set (i * m + j) u := by
  intro cs
  induction cs with
  | nil => intro i x y j u h; simp at h
  | cons z l ih =>
    intro i x y j u h hj hy
    rcases i with _ | i
    · simp at h
      subst h
      simp only [List.set_cons_zero, List.flatMap_cons, Nat.zero_mul, Nat.zero_add]
      rw [hy, List.set_append_left _ _ (by rw [hf]; exact hj)]
    · simp only [List.getElem?_cons_succ] at h
      simp only [List.set_cons_succ, List.flatMap_cons]
      rw [ih i x y j u h hj hy, List.set_append_right _ _ (by rw [hf, Nat.add_mul]; omega), hf]
      rw [show (i + 1) * m + j - m = i * m + j by rw [Nat.add_mul]; omega]
theorem OwnF.stored {g c n : Nat} (hf : ∀ c, (f c).length = m) (h : OwnF w base e m f (.slice (some ⟨g, 0, none⟩) n c) cs) {i : Nat} {x y : α} (hx : cs[i]? = some x) {j : Nat} (hj : j < m) {u : Value} (hy : f y = (f x).set j u) :
    OwnF (w.setCell ⟨g, i * m + j, none⟩ u) base e m f (.slice (some ⟨g, 0, none⟩) n c) (cs.set i y) := by
  have hn := h.cap.1
  subst hn
  have := (World.ownsRow.stored h (i * m + j) u).1
  unfold OwnF
  rw [List.length_set, flat_set hf cs i x y j u hx hj hy]
  exact this
end
/-- five cells are set, one behind the other -/
def set5 (w : World) (g : Nat) (u0 u1 u2 u3 u4 : Value) : World :=
  ((((w.setCell ⟨g, 0, none⟩ u0).setCell ⟨g, 1, none⟩ u1).setCell ⟨g, 2, none⟩ u2).setCell ⟨g, 3, none⟩ u3).setCell ⟨g, 4, none⟩ u4
theorem set5_cells {w : World} {g : Nat} {t : TypeId} {a0 a1 a2 a3 a4 : Value} (h : Blk w g t #[a0, a1, a2, a3, a4]) (u0 u1 u2 u3 u4 : Value) :
    (w.setCell ⟨g, 0, none⟩ u0).cell? ⟨g, 0, none⟩ = some u0 ∧ ((w.setCell ⟨g, 0, none⟩ u0).setCell ⟨g, 1, none⟩ u1).cell? ⟨g, 1, none⟩ = some u1 ∧
      (((w.setCell ⟨g, 0, none⟩ u0).setCell ⟨g, 1, none⟩ u1).setCell ⟨g, 2, none⟩ u2).cell? ⟨g, 2, none⟩ = some u2 ∧
      ((((w.setCell ⟨g, 0, none⟩ u0).setCell ⟨g, 1, none⟩ u1).setCell ⟨g, 2, none⟩ u2).setCell ⟨g, 3, none⟩ u3).cell? ⟨g, 3, none⟩ = some u3 ∧
      (set5 w g u0 u1 u2 u3 u4).cell? ⟨g, 4, none⟩ = some u4 := by
  have h0 := h.set_ 0 u0
  have h1 := h0.set_ 1 u1
  have h2 := h1.set_ 2 u2
  have h3 := h2.set_ 3 u3
  have h4 := h3.set_ 4 u4
  exact ⟨by rw [h0.cell]; simp, by rw [h1.cell]; simp, by rw [h2.cell]; simp, by rw [h3.cell]; simp, by unfold set5; rw [h4.cell]; simp⟩
theorem set5_below {B b : Nat} {w w1 : World} (h : Below B w w1) (hb : B ≤ b) (u0 u1 u2 u3 u4 : Value) : Below B w (set5 w1 b u0 u1 u2 u3 u4) :=
  ((((h.setCell hb _).setCell hb _).setCell hb _).setCell hb _).setCell hb _
theorem set5_own {w : World} {base : Nat} {e t : TypeId} {m n : Nat} {v : Value} {xs : List Value} {g : Nat} {ys : Array Value} (h : w.ownsRow base e m v n xs) (hg : Blk w g t ys) (hne : e ≠ t) (u0 u1 u2 u3 u4 : Value) :
    (set5 w g u0 u1 u2 u3 u4).ownsRow base e m v n xs := by
  have hp : ∀ g', v.ownBlock = some g' → g' ≠ g := fun g' hv he => own_other h hg hne (by rw [hv, he])
  exact own_new (own_new (own_new (own_new (own_new h (p := ⟨g, 0, none⟩) hp _) (p := ⟨g, 1, none⟩) hp _) (p := ⟨g, 2, none⟩) hp _) (p := ⟨g, 3, none⟩) hp _) (p := ⟨g, 4, none⟩) hp _
theorem set5_set {w : World} {g : Nat} {t : TypeId} {a0 a1 a2 a3 a4 : Value} (h : Blk w g t #[a0, a1, a2, a3, a4]) (u0 u1 u2 u3 u4 : Value) : Blk (set5 w g u0 u1 u2 u3 u4) g t #[u0, u1, u2, u3, u4] :=
  ((((h.set_ 0 u0).set_ 1 u1).set_ 2 u2).set_ 3 u3).set_ 4 u4
theorem set5_far {w : World} {g b : Nat} {t : TypeId} {xs : Array Value} (h : Blk w b t xs) (hne : b ≠ g) (u0 u1 u2 u3 u4 : Value) : Blk (set5 w g u0 u1 u2 u3 u4) b t xs :=
  ((((h.far (p := ⟨g, 0, none⟩) hne u0).far (p := ⟨g, 1, none⟩) hne u1).far (p := ⟨g, 2, none⟩) hne u2).far (p := ⟨g, 3, none⟩) hne u3).far (p := ⟨g, 4, none⟩) hne u4
end Go.Proofs.Ythghghoikaincaa
