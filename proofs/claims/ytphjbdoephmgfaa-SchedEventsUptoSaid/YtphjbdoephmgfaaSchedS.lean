/- An argument that is a slice of events, opened to cells. -/
import Derived.Test.YtphjbdoephmgfaaStruct
import Derived.Test.YtphjbdoephmgfaaSchedR
namespace Go.Proofs.Ytphjbdoephmgfaa
open Go.ChangeShapes Go.WideShapes Go.Deep Go.Joins Go.RowKit

section
variable {H : Type} {enc : TypeId × Value → H} {w : World} {base : Nat} {spare : Nat → Bool} {held : Bool}
theorem slice_cell {t e : TypeId} {fuel : Nat} {v : Value} {x : DataW H × List MemPlace} (ht : Try.prog.underlying t = some (.slice e)) (h : DataW.trod enc Try.prog w base spare held fuel t [v] = some x) : ∃ A n c, v = .slice A n c := by
  rcases open_slice ht h with ⟨h1, _⟩ | ⟨a, len, cap, m, n, D, Pl, hcs, _⟩
  · simp at h1; exact ⟨_, _, _, h1⟩
  · simp at hcs; exact ⟨_, _, _, hcs⟩
theorem event_cells {fuel : Nat} {cs : List Value} {x : DataW H × List MemPlace} (hl : cs.length = 9) (h : DataW.trod enc Try.prog w base spare held fuel 37 cs = some x) : ∃ e : EvT, cs = evC e := by
  match cs, hl with
  | [v0, v1, v2, v3, v4, v5, v6, v7, v8], _ =>
    obtain ⟨xs, n, _, _, _, hlen, hf⟩ := DataW.trod_struct Try.underlying37 h
    have ki : Try.prog.cellsOf 3 = 1 := by kernel_rfl
    have kb : Try.prog.cellsOf 4 = 1 := by kernel_rfl
    have kr : Try.prog.cellsOf 35 = 5 := by kernel_rfl
    have ks : Try.prog.cellsOf 22 = 1 := by kernel_rfl
    have kc : Try.prog.cellsOf 33 = 1 := by kernel_rfl
    match xs, hlen with
    | [y0, y1, y2, y3, y4], _ =>
      have f0 : DataW.trod enc Try.prog w base spare held n 3 [v0] = some y0 := by simpa [ki] using hf 0 _ rfl
      have f1 : DataW.trod enc Try.prog w base spare held n 3 [v1] = some y1 := by simpa [ki] using hf 1 _ rfl
      have f2 : DataW.trod enc Try.prog w base spare held n 35 [v2, v3, v4, v5, v6] = some y2 := by simpa [kr] using hf 2 _ rfl
      have f3 : DataW.trod enc Try.prog w base spare held n 3 [v7] = some y3 := by simpa [ki] using hf 3 _ rfl
      have f4 : DataW.trod enc Try.prog w base spare held n 22 [v8] = some y4 := by simpa [ks] using hf 4 _ rfl
      obtain ⟨zs, m, _, _, _, hlen2, hg⟩ := DataW.trod_struct Try.underlying35 f2
      match zs, hlen2 with
      | [z0, z1, z2, z3, z4], _ =>
        have g0 : DataW.trod enc Try.prog w base spare held m 3 [v2] = some z0 := by simpa [ki] using hg 0 _ rfl
        have g1 : DataW.trod enc Try.prog w base spare held m 3 [v3] = some z1 := by simpa [ki] using hg 1 _ rfl
        have g2 : DataW.trod enc Try.prog w base spare held m 3 [v4] = some z2 := by simpa [ki] using hg 2 _ rfl
        have g3 : DataW.trod enc Try.prog w base spare held m 4 [v5] = some z3 := by simpa [kb] using hg 3 _ rfl
        have g4 : DataW.trod enc Try.prog w base spare held m 33 [v6] = some z4 := by simpa [kc] using hg 4 _ rfl
        obtain ⟨a0, e0, _, _⟩ := DataW.trod_int Try.underlying3 f0
        obtain ⟨a1, e1, _, _⟩ := DataW.trod_int Try.underlying3 f1
        obtain ⟨a2, e2, _, _⟩ := DataW.trod_int Try.underlying3 g0
        obtain ⟨a3, e3, _, _⟩ := DataW.trod_int Try.underlying3 g1
        obtain ⟨a4, e4, _, _⟩ := DataW.trod_int Try.underlying3 g2
        obtain ⟨a5, e5, _⟩ := DataW.trod_bool Try.underlying4 g3
        obtain ⟨A6, n6, c6, rfl⟩ := slice_cell Try.underlying33 g4
        obtain ⟨a7, e7, _, _⟩ := DataW.trod_int Try.underlying3 f3
        obtain ⟨A8, n8, c8, rfl⟩ := slice_cell Try.underlying22 f4
        simp at e0 e1 e2 e3 e4 e5 e7
        subst e0 e1 e2 e3 e4 e5 e7
        exact ⟨⟨a0, a1, a2, a3, a4, a5, A6, n6, c6, a7, A8, n8, c8⟩, rfl⟩
theorem arg_events {fuel : Nat} {cs : List Value} {x : DataW H × List MemPlace} (h : DataW.trod enc Try.prog w base (fun _ => true) held fuel 30 cs = some x) :
    ∃ (A : Option Addr) (c : Nat) (ks : List EvT) (sp : List (DataW H)) (ds : List (DataW H)), cs = [.slice A ks.length c] ∧ RdF w evC A ks ∧ (ks = [] ∨ (x.1 = .slice ds sp ∧ ds.length = ks.length)) := by
  rcases open_slice Try.underlying30 h with ⟨h1, _⟩ | ⟨a, len, cap, m, n, D, Pl, hcs, hb, hl, hm, hmm, hx, hi⟩
  · exact ⟨none, 0, [], [], [], h1, RdF.nil _ _ _, .inl rfl⟩
  · have kE : Try.prog.cellsOf 37 = 9 := by kernel_rfl
    have key : ∀ i, ∃ e : EvT, i < len → ∀ r u, (evC e)[r]? = some u → w.cell? (a.add (i * 9 + r)) = some u := by
      intro i
      by_cases hil : i < len
      · obtain ⟨cs', hc, ht'⟩ := hi i (by simp only [if_true] at hmm; omega)
        rw [kE] at hc
        obtain ⟨_, hcl, hat⟩ := World.cells?_some hc
        obtain ⟨e, he⟩ := event_cells hcl ht'
        refine ⟨e, fun _ r u hu => ?_⟩
        have hr : r < 9 := by have := (List.getElem?_eq_some_iff.1 hu).1; rwa [evC_len] at this
        rw [← Go.Deep.add_add, hat r hr, he, hu]
      · exact ⟨pickE 0, fun h => absurd h hil⟩
    obtain ⟨F, hF⟩ : ∃ F : Nat → EvT, ∀ i, i < len → ∀ r u, (evC (F i))[r]? = some u → w.cell? (a.add (i * 9 + r)) = some u := ⟨fun i => (key i).choose, fun i => (key i).choose_spec⟩
    have hlen : ((List.range len).map F).length = len := by simp
    refine ⟨some a, cap, (List.range len).map F, (List.range (m - len)).map fun j => D (len + j), (List.range len).map D, by rw [hlen]; exact hcs, RdF.of_cells evC_len ?_, .inr ⟨by rw [hx], by simp⟩⟩
    intro i e hie r u hu
    have hil : i < len := by have := (List.getElem?_eq_some_iff.1 hie).1; simpa using this
    simp [hil] at hie
    subst hie
    exact hF i hil r u hu
end
end Go.Proofs.Ytphjbdoephmgfaa
