/- Package tickets: what holds of a queue, whatever is done. Plain Lean. -/
import Derived.Test.YthghghoikaincaaTkT
namespace Go.Proofs.Ythghghoikaincaa
open Go.RowKit

theorem QT.word_setL (q : QT) (k j : Nat) (z : Int) (hk : k < q.L.length) : (q.setL k z).word j = if j = k then z else q.word j := by
  unfold QT.word QT.setL
  dsimp only
  rw [List.getD_eq_getElem?_getD, List.getD_eq_getElem?_getD, List.getElem?_set]
  by_cases h : k = j
  · rw [if_pos h, if_pos hk, if_pos h.symm]; rfl
  · rw [if_neg h, if_neg (fun e => h e.symm)]
structure ThOk (q : QT) (s : Int) (x : CmT) : Prop where
  c0 : 0 ≤ x.pc
  c6 : x.pc ≤ 6
  p0 : 0 ≤ x.pos
  p1 : x.pos < q.size
  r0 : 0 ≤ x.tri
  r1 : x.tri < q.tries
  v0 : 0 ≤ x.value
  v1 : x.value ≤ 4294967295
  e0 : 0 ≤ x.seq
  e1 : x.seq ≤ s
  five : x.pc = 5 → 2 ≤ q.word x.cell
  four : x.pc = 4 → q.word x.cell ≠ 1 ∧ x.pos < q.word 0
structure QInv (q : QT) (w n t s : Int) : Prop where
  s0 : 1 ≤ q.size
  s1 : q.size ≤ 4096
  k0 : 1 ≤ q.tries
  k1 : q.tries ≤ 64
  len : q.L.length = q.size.toNat + 2
  w0 : ∀ k : Nat, k < 2 → 0 ≤ q.word k ∧ q.word k ≤ w
  wc : ∀ k : Nat, 2 ≤ k → 0 ≤ q.word k ∧ q.word k ≤ 4294967297
  th : ∀ (i : Nat) (x : CmT), q.T[i]? = some x → ThOk q s x
  two : ∀ (i j : Nat) (x y : CmT), q.T[i]? = some x → q.T[j]? = some y → i ≠ j → x.pc = 4 → y.pc = 4 → x.pos ≠ y.pos
  one : ∀ k : Nat, 2 ≤ k → q.word 0 ≤ (k : Int) - 2 → q.word k ≠ 1
  nl : (q.N.length : Int) ≤ n
  t0 : 0 ≤ q.time
  t1 : q.time ≤ t
section
variable {q : QT} {w n t s : Int} {x y : CmT} {i k : Nat}
theorem CmT.cell_two (x : CmT) : 2 ≤ x.cell := Nat.le_add_right _ _
theorem ThOk.mono {s' : Int} (h : ThOk q s x) (hs : s ≤ s') : ThOk q s' x := ⟨h.c0, h.c6, h.p0, h.p1, h.r0, h.r1, h.v0, h.v1, h.e0, Int.le_trans h.e1 hs, h.five, h.four⟩
theorem QInv.mono {w' n' t' s' : Int} (h : QInv q w n t s) (h1 : w ≤ w') (h2 : n ≤ n') (h3 : t ≤ t') (h4 : s ≤ s') : QInv q w' n' t' s' :=
  ⟨h.s0, h.s1, h.k0, h.k1, h.len, fun k hk => ⟨(h.w0 k hk).1, Int.le_trans (h.w0 k hk).2 h1⟩, h.wc, fun i x hx => (h.th i x hx).mono h4, h.two, h.one, Int.le_trans h.nl h2, h.t0, Int.le_trans h.t1 h3⟩
theorem ThOk.of_word {q' : QT} (h : ThOk q s x) (h1 : q'.size = q.size) (h2 : q'.tries = q.tries) (h5 : x.pc = 5 → 2 ≤ q'.word x.cell) (h4 : x.pc = 4 → q'.word x.cell ≠ 1 ∧ x.pos < q'.word 0) : ThOk q' s x :=
  ⟨h.c0, h.c6, h.p0, by rw [h1]; exact h.p1, h.r0, by rw [h2]; exact h.r1, h.v0, h.v1, h.e0, h.e1, h5, h4⟩
theorem ThOk.same {q' : QT} (h : ThOk q s x) (h1 : q'.size = q.size) (h2 : q'.tries = q.tries) (h3 : q'.L = q.L) : ThOk q' s x := by
  have e : ∀ k, q'.word k = q.word k := fun k => by unfold QT.word; rw [h3]
  exact h.of_word h1 h2 (fun a => by rw [e]; exact h.five a) (fun a => by rw [e, e]; exact h.four a)
theorem QInv.tick (h : QInv q w n t s) : QInv q.tick w n (t + 1) s :=
  ⟨h.s0, h.s1, h.k0, h.k1, h.len, h.w0, h.wc, fun i x hx => (h.th i x hx).same rfl rfl rfl, h.two, h.one, h.nl, Int.le_trans h.t0 (by show _ ≤ q.time + 1; omega), by show q.time + 1 ≤ t + 1; have := h.t1; omega⟩
theorem QInv.note (h : QInv q w n t s) (kind : Int) (i : Nat) (x : CmT) (a b c : Int) : QInv (noteQ q kind i x a b c) w (n + 1) t s :=
  ⟨h.s0, h.s1, h.k0, h.k1, h.len, h.w0, h.wc, fun i x hx => (h.th i x hx).same rfl rfl rfl, h.two, h.one, by have := h.nl; unfold noteQ; simp only [List.length_append, List.length_cons, List.length_nil]; omega, h.t0, h.t1⟩
theorem QInv.setT (h : QInv q w n t s) (hy : ThOk q s y) (h2 : y.pc = 4 → ∀ (j : Nat) (z : CmT), j ≠ i → q.T[j]? = some z → z.pc = 4 → z.pos ≠ y.pos) : QInv (q.setT i y) w n t s := by
  have hg : ∀ (j : Nat) (z : CmT), (q.setT i y).T[j]? = some z → (j = i ∧ z = y) ∨ (j ≠ i ∧ q.T[j]? = some z) := by
    intro j z hz
    unfold QT.setT at hz
    dsimp only at hz
    rw [List.getElem?_set] at hz
    by_cases hj : i = j
    · rw [if_pos hj] at hz
      split at hz
      · injection hz with hz; exact Or.inl ⟨hj.symm, hz.symm⟩
      · cases hz
    · rw [if_neg hj] at hz; exact Or.inr ⟨fun e => hj e.symm, hz⟩
  refine ⟨h.s0, h.s1, h.k0, h.k1, h.len, h.w0, h.wc, fun j z hz => ?_, fun a b u v hu hv hab h4 h4' => ?_, h.one, h.nl, h.t0, h.t1⟩
  · rcases hg j z hz with ⟨_, rfl⟩ | ⟨_, hz⟩
    · exact hy.same rfl rfl rfl
    · exact (h.th j z hz).same rfl rfl rfl
  · rcases hg a u hu with ⟨ha, ea⟩ | ⟨ha, hu'⟩ <;> rcases hg b v hv with ⟨hb, eb⟩ | ⟨hb, hv'⟩
    · exact absurd (ha.trans hb.symm) hab
    · subst ea; exact fun e => h2 h4 b v hb hv' h4' e.symm
    · subst eb; exact h2 h4' a u ha hu' h4
    · exact h.two a b u v hu' hv' hab h4 h4'
theorem QInv.add (h : QInv q w n t s) (hk : k < 2) : QInv (q.setL k (q.word k + 1)) (w + 1) n t s := by
  have hkl : k < q.L.length := by rw [h.len]; omega
  have hw := fun j => QT.word_setL q k j (q.word k + 1) hkl
  have hw2 : ∀ j, 2 ≤ j → (q.setL k (q.word k + 1)).word j = q.word j := fun j hj => by rw [hw, if_neg (by omega)]
  have hw0 : q.word 0 ≤ (q.setL k (q.word k + 1)).word 0 := by
    rw [hw]; split
    · rename_i e; rw [e]; omega
    · exact Int.le_refl _
  refine ⟨h.s0, h.s1, h.k0, h.k1, by unfold QT.setL; simp only [List.length_set]; exact h.len, fun j hj => ?_, fun j hj => ?_, fun j z hz => ?_, h.two, fun j hj hle => ?_, h.nl, h.t0, h.t1⟩
  · rw [hw]
    split
    · have := h.w0 k hk; omega
    · have := h.w0 j hj; omega
  · rw [hw2 j hj]; exact h.wc j hj
  · have ht := h.th j z hz
    refine ht.of_word rfl rfl (fun e => ?_) (fun e => ?_)
    · rw [hw2 _ z.cell_two]; exact ht.five e
    · rw [hw2 _ z.cell_two]; exact ⟨(ht.four e).1, by have := (ht.four e).2; omega⟩
  · rw [hw2 j hj]; exact h.one j hj (by omega)
theorem QInv.fill {v : Int} (h : QInv q w n t s) (hk : 2 ≤ k) (hl : k < q.L.length) (hz : q.word k = 0) (h0 : 1 ≤ v) (h1 : v ≤ 4294967297)
    (h2 : v = 1 → (∀ (j : Nat) (z : CmT), q.T[j]? = some z → z.pc = 4 → z.cell ≠ k) ∧ (k : Int) - 2 < q.word 0) : QInv (q.setL k v) w n t s := by
  have hw := fun j => QT.word_setL q k j v hl
  have hw0 : ∀ j, j < 2 → (q.setL k v).word j = q.word j := fun j hj => by rw [hw, if_neg (by omega)]
  refine ⟨h.s0, h.s1, h.k0, h.k1, by unfold QT.setL; simp only [List.length_set]; exact h.len, fun j hj => ?_, fun j hj => ?_, fun j z hz' => ?_, h.two, fun j hj hle => ?_, h.nl, h.t0, h.t1⟩
  · rw [hw0 j hj]; exact h.w0 j hj
  · rw [hw]; split
    · omega
    · exact h.wc j hj
  · have ht := h.th j z hz'
    refine ht.of_word rfl rfl (fun e => ?_) (fun e => ?_)
    · rw [hw]; split
      · rename_i e2; have := ht.five e; rw [e2, hz] at this; omega
      · exact ht.five e
    · rw [hw0 0 (by decide), hw]
      refine ⟨?_, (ht.four e).2⟩
      split
      · rename_i e2; intro e3; exact (h2 e3).1 j z hz' e e2
      · exact (ht.four e).1
  · rw [hw0 0 (by decide)] at hle
    rw [hw]; split
    · rename_i e2; subst e2; intro e3; have := (h2 e3).2; omega
    · exact h.one j hj hle
theorem ThOk.plain (c : 0 ≤ x.pc ∧ x.pc ≤ 6 ∧ x.pc ≠ 4 ∧ x.pc ≠ 5) (p : 0 ≤ x.pos ∧ x.pos < q.size) (r : 0 ≤ x.tri ∧ x.tri < q.tries) (v : 0 ≤ x.value ∧ x.value ≤ 4294967295) (e : 0 ≤ x.seq ∧ x.seq ≤ s) : ThOk q s x :=
  ⟨c.1, c.2.1, p.1, p.2, r.1, r.2, v.1, v.2, e.1, e.2, fun a => absurd a c.2.2.2, fun a => absurd a c.2.2.1⟩
/-- an idle thread -/
theorem QInv.idle (h : QInv q w n t s) (e0 : 0 ≤ x.seq) (e1 : x.seq ≤ s) : QInv (q.setT i ⟨0, x.seq, 0, 0, 0⟩) w n t s := by
  have h1 := h.s0; have h2 := h.k0
  refine h.setT (ThOk.plain ?_ ?_ ?_ ?_ ⟨e0, e1⟩) (fun e => ?_)
  all_goals dsimp only at *
  all_goals omega
theorem QInv.ends (h : QInv q w n t s) (e0 : 0 ≤ x.seq) (e1 : x.seq ≤ s) (a b : Int) : QInv (endsQ q i x a b) w (n + 1) t s := (h.note 3 i x x.seq a b).idle e0 e1
theorem endsQ_setT (q : QT) (i : Nat) (x y : CmT) (a b : Int) : endsQ (q.setT i y) i x a b = endsQ q i x a b := by
  unfold endsQ noteQ QT.setT
  dsimp only
  rw [List.set_set]
theorem QInv.again (h : QInv q w n t s) (hx : ThOk q s x) {pc : Int} (h0 : pc = 1 ∨ pc = 3) : QInv (againQ q i x pc) w (n + 1) t s := by
  unfold againQ
  split
  · rw [endsQ_setT]
    exact QInv.ends (x := { x with tri := x.tri + 1, pc := pc }) h hx.e0 hx.e1 _ _
  · rename_i hne
    have r1 := hx.r1; have r0 := hx.r0
    refine (h.setT (i := i) (y := { x with tri := x.tri + 1, pc := pc }) (ThOk.plain ?_ ⟨hx.p0, hx.p1⟩ ?_ ⟨hx.v0, hx.v1⟩ ⟨hx.e0, hx.e1⟩) (fun e => ?_)).mono (n' := n + 1) (Int.le_refl _) (by omega) (Int.le_refl _) (Int.le_refl _)
    all_goals dsimp only at *
    all_goals omega
/-- a ticket is drawn -/
theorem QInv.ticket1 (h : QInv q w n t s) (hx : ThOk q s x) : QInv (ticketQ q i x 1 2) (w + 1) (n + 1) t s := by
  unfold ticketQ
  have ha := h.add (k := 1) (by decide)
  split
  · exact ha.ends hx.e0 hx.e1 _ _
  · rename_i hd
    have h0 := (h.w0 1 (by decide)).1
    refine (ha.setT (i := i) (y := { x with pos := q.word 1, pc := 2 }) (ThOk.plain ?_ ?_ ⟨hx.r0, hx.r1⟩ ⟨hx.v0, hx.v1⟩ ⟨hx.e0, hx.e1⟩) (fun e => ?_)).mono (n' := n + 1) (Int.le_refl _) (by omega) (Int.le_refl _) (Int.le_refl _)
    · dsimp only; omega
    · exact ⟨h0, by show q.word 1 < q.size; omega⟩
    · dsimp only at e; omega
theorem QInv.ticket0 (h : QInv q w n t s) (hx : ThOk q s x) : QInv (ticketQ q i x 0 4) (w + 1) (n + 1) t s := by
  unfold ticketQ
  have ha := h.add (k := 0) (by decide)
  split
  · exact ha.ends hx.e0 hx.e1 _ _
  · rename_i hd
    have h0 := (h.w0 0 (by decide)).1
    have hl := h.len; have hs := h.s0
    have hkl : 0 < q.L.length := by omega
    have hw := fun j => QT.word_setL q 0 j (q.word 0 + 1) hkl
    have hy : ThOk (q.setL 0 (q.word 0 + 1)) s ⟨4, x.seq, x.value, q.word 0, x.tri⟩ := by
      refine ⟨?_, ?_, h0, ?_, hx.r0, hx.r1, hx.v0, hx.v1, hx.e0, hx.e1, fun e => ?_, fun _ => ⟨?_, ?_⟩⟩
      · dsimp only; omega
      · dsimp only; omega
      · show q.word 0 < q.size; omega
      · dsimp only at e; omega
      · rw [hw, if_neg (by have := CmT.cell_two ⟨4, x.seq, x.value, q.word 0, x.tri⟩; omega)]
        exact h.one _ (CmT.cell_two _) (by unfold CmT.cell; dsimp only; omega)
      · rw [hw, if_pos rfl]; dsimp only; omega
    refine (ha.setT hy (fun _ j z hj hz h4 => ?_)).mono (n' := n + 1) (Int.le_refl _) (by omega) (Int.le_refl _) (Int.le_refl _)
    have := ((h.th j z hz).four h4).2
    dsimp only; omega
/-- a step -/
theorem QInv.step (h : QInv q w n t s) (hi : q.T[i]? = some x) : QInv (stepQ q i x) (w + 1) (n + 1) t s := by
  have hx := h.th i x hi
  have hm : ∀ {q'}, QInv q' w (n + 1) t s → QInv q' (w + 1) (n + 1) t s := fun k => k.mono (by omega) (Int.le_refl _) (Int.le_refl _) (Int.le_refl _)
  have hm2 : ∀ {q'}, QInv q' w n t s → QInv q' (w + 1) (n + 1) t s := fun k => k.mono (by omega) (by omega) (Int.le_refl _) (Int.le_refl _)
  have hcl : x.cell < q.L.length := by have := hx.p0; have := hx.p1; have := h.len; unfold CmT.cell; omega
  unfold stepQ
  split
  · exact h.ticket1 hx
  split
  · split
    · rename_i hz
      have := hx.v0; have := hx.v1
      exact hm ((h.fill x.cell_two hcl hz (by omega) (by omega) (fun e => by omega)).ends hx.e0 hx.e1 _ _)
    · exact hm (h.again hx (Or.inl rfl))
  split
  · exact h.ticket0 hx
  split
  · rename_i h4
    split
    · rename_i hz
      have h6 : QInv (q.setT i { x with pc := 6 }) w n t s := h.setT (ThOk.plain (by dsimp only; omega) ⟨hx.p0, hx.p1⟩ ⟨hx.r0, hx.r1⟩ ⟨hx.v0, hx.v1⟩ ⟨hx.e0, hx.e1⟩) (fun e => by dsimp only at e; omega)
      refine hm2 (h6.fill (k := x.cell) (v := 1) x.cell_two hcl hz (by omega) (by omega) (fun _ => ⟨fun j z hz' hz4 e => ?_, ?_⟩))
      · unfold QT.setT at hz'
        dsimp only at hz'
        rw [List.getElem?_set] at hz'
        by_cases hj : i = j
        · rw [if_pos hj] at hz'
          split at hz'
          · injection hz' with hz'; subst hz'; dsimp only at hz4; omega
          · cases hz'
        · rw [if_neg hj] at hz'
          refine h.two i j x z hi hz' hj h4 hz4 ?_
          have := hx.p0; have := (h.th j z hz').p0
          unfold CmT.cell at e; omega
      · have := (hx.four h4).2; have := hx.p0
        show (x.cell : Int) - 2 < q.word 0
        unfold CmT.cell; omega
    · rename_i hz
      have hy : ThOk q s { x with pc := 5 } := by
        refine ⟨by dsimp only; omega, by dsimp only; omega, hx.p0, hx.p1, hx.r0, hx.r1, hx.v0, hx.v1, hx.e0, hx.e1, fun _ => ?_, fun e => by dsimp only at e; omega⟩
        have h1 := (hx.four h4).1
        have h2 := (h.wc x.cell x.cell_two).1
        show 2 ≤ q.word x.cell
        omega
      exact hm2 (h.setT hy (fun e => by dsimp only at e; omega))
  split
  · exact hm (h.ends hx.e0 hx.e1 _ _)
  split
  · split
    · exact hm (h.ends hx.e0 hx.e1 _ _)
    · exact hm (h.again hx (Or.inr rfl))
  · exact hm2 h
/-- a pick, a call that begins -/
theorem QInv.pick (h : QInv q w n t s) (th : Int) : QInv (pickQ q th) (w + 1) (n + 1) (t + 1) s := by
  have hm : QInv q (w + 1) (n + 1) (t + 1) s := h.mono (by omega) (by omega) (by omega) (Int.le_refl _)
  unfold pickQ
  split
  · exact hm
  · split
    · exact hm
    · rename_i x hx; exact h.tick.step hx
theorem QInv.begin {pc v : Int} (h : QInv q w n t s) (th : Int) (hp : pc = 1 ∨ pc = 3) (hv : 0 ≤ v ∧ v ≤ 4294967295) : QInv (beginQ q th ⟨pc, 0, v, 0, 0⟩) w (n + 1) (t + 1) (s + 1) := by
  have hm : QInv q w (n + 1) (t + 1) (s + 1) := h.mono (by omega) (by omega) (by omega) (by omega)
  unfold beginQ
  split
  · exact hm
  · split
    · exact hm
    · rename_i x hx
      split
      · exact hm
      · have hs := h.s0; have hk := h.k0; have he := (h.th _ _ hx).e0; have he1 := (h.th _ _ hx).e1
        refine ((QInv.setT (i := th.toNat) (y := ⟨pc, x.seq + 1, v, 0, 0⟩) (h.mono (s' := s + 1) (Int.le_refl _) (Int.le_refl _) (Int.le_refl _) (by omega)) (ThOk.plain ?_ ?_ ?_ hv ?_) (fun e => ?_)).tick).note 1 th.toNat _ 0 0 0
        all_goals dsimp only at *
        all_goals omega
theorem QInv.put (h : QInv q w n t s) (th v : Int) : QInv (putQ q th v) w (n + 1) (t + 1) (s + 1) := by
  unfold putQ
  split
  · exact h.mono (by omega) (by omega) (by omega) (by omega)
  · exact h.begin th (Or.inl rfl) (by omega)
theorem QInv.take (h : QInv q w n t s) (th : Int) : QInv (takeQ q th) w (n + 1) (t + 1) (s + 1) := h.begin th (Or.inr rfl) (by omega)
end
end Go.Proofs.Ythghghoikaincaa
