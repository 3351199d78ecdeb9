/- Tickets: steps keep what holds of calls that put, and of calls that take. Plain Lean. -/
import Derived.Test.YthghghoikaincaaTlB
namespace Go.Proofs.Ythghghoikaincaa
open Go.RowKit

/-- the queue ahead of a step's last store: its time is one more, its words may have turned -/
structure Pre (q q1 : QT) : Prop where
  T : q1.T = q.T
  N : q1.N = q.N
  size : q1.size = q.size
  time : q1.time = q.time + 1
section
variable {q q1 q' : QT} {i : Nat} {x y : CmT} {I : Int} {P R : List Rec} {D : Nat → Int}
theorem Pre.tick (q : QT) : Pre q q.tick := ⟨rfl, rfl, rfl, rfl⟩
theorem Pre.setL (q : QT) (k : Nat) (z : Int) : Pre q (q.tick.setL k z) := ⟨rfl, rfl, rfl, rfl⟩
theorem Pre.setT (h : Pre q q1) (hx : q.T[i]? = some x) (y : CmT) : Mv q (q1.setT i y) i x y :=
  ⟨hx, by show q1.T.set i y = _; rw [h.T], h.size, by show q.time ≤ q1.time; rw [h.time]; omega, fun j s _ => by show begL q1.N j s = _; rw [h.N]⟩
theorem ends_N (q : QT) (i : Nat) (x : CmT) (c v : Int) : (endsQ q i x c v).N = q.N ++ [⟨3, i, x.seq, q.time, if isPut x = true then 8 else 9, if isPut x = true then x.value else 0, x.seq, c, v⟩] := rfl
theorem Pre.ends_beg (h : Pre q q1) (c v : Int) (j : Nat) (s : Int) : begL (endsQ q1 i x c v).N j s = begL q.N j s := by
  rw [ends_N, begL_no rfl, h.N]
theorem Pre.ends (h : Pre q q1) (hx : q.T[i]? = some x) (c v : Int) : Mv q (endsQ q1 i x c v) i x (idleX x) :=
  ⟨hx, by show q1.T.set i _ = _; rw [h.T]; rfl, h.size, by show q.time ≤ q1.time; rw [h.time]; omega, fun j s _ => h.ends_beg c v j s⟩
theorem Pre.ends_sp (h : Pre q q1) {c v kind : Int} (hc : c ≠ 0 ∨ kind ≠ if isPut x = true then 8 else 9) : spL (endsQ q1 i x c v).N kind = spL q.N kind := by
  rw [ends_N, spL_no, h.N]
  unfold hitN
  dsimp only
  rcases hc with hc | hc
  · have : (c == 0) = false := by simpa using hc
    rw [this]; simp
  · have : ((if isPut x = true then (8 : Int) else 9) == kind) = false := by simpa using fun e => hc e.symm
    rw [this]; simp
theorem Pre.ends_spOk (h : Pre q q1) {v kind : Int} (hc : kind = if isPut x = true then 8 else 9) :
    spL (endsQ q1 i x 0 v).N kind = spL q.N kind ++ [⟨begL q.N i x.seq, q.time + 1, if kind = 8 then x.value else v⟩] := by
  rw [ends_N, spL_app]
  have e : hitN kind ⟨3, i, x.seq, q1.time, if isPut x = true then 8 else 9, if isPut x = true then x.value else 0, x.seq, 0, v⟩ = true := by
    unfold hitN
    dsimp only
    rw [← hc]
    simp
  rw [if_pos e, h.N, h.time]
  unfold valN
  dsimp only
  by_cases hp : isPut x = true
  · rw [if_pos hp] at hc; subst hc; rw [if_pos hp]
  · rw [if_neg hp] at hc; subst hc; rfl
/-- nothing is put, and the words for puts stay -/
theorem PInv.keep (h : PInv q I P D) (m : Mv q q' i x y) (hI0 : 0 ≤ I) (h8 : spL q'.N 8 = spL q.N 8) (hw1 : q'.word 1 = q.word 1)
    (hc : ∀ p : Nat, (p : Int) < q.size → q'.word (2 + p) = q.word (2 + p) ∨ (q.word (2 + p) = 0 ∧ q'.word (2 + p) = 1))
    (hy1 : (y.pc = 1 ∨ y.pc = 2) → (x.pc = 1 ∨ x.pc = 2) ∧ y.value = x.value) (hy2 : y.pc ≠ 2) : PInv q' I P D :=
  h.move m (Int.le_refl _) h8 (by omega) hc hI0 (fun e => .inl (hy1 e)) (fun e => absurd e hy2) (fun _ _ => rfl)
    (fun p hp => Int.le_trans (h.d p (by omega)) m.time) (fun p p' hpp hp => h.dm p p' hpp (by omega))
theorem TInv.keep (h : TInv q R D) (m : Mv q q' i x y) (h9 : spL q'.N 9 = spL q.N 9) (hw0 : q'.word 0 = q.word 0)
    (hc : ∀ p : Nat, (p : Int) < q.size → q'.word (2 + p) = q.word (2 + p) ∨ q.word (2 + p) = 0)
    (hx : (x.pc = 4 ∨ x.pc = 5) → ((y.pc = 4 ∨ y.pc = 5) ∧ y.pos = x.pos) ∨ q'.word (2 + x.pos.toNat) = 1)
    (hy : (y.pc = 4 ∨ y.pc = 5) → (x.pc = 4 ∨ x.pc = 5) ∧ y.pos = x.pos ∧ begL q'.N i y.seq = begL q.N i x.seq) : TInv q' R D :=
  h.move m h9 (by omega) hc hx (fun e => by
    obtain ⟨h1, h2, h3⟩ := hy e
    have := (h.th i x m.hx h1).2.2.2.1
    exact ⟨by rw [h3, h2]; exact this, .inl ⟨h1, h2⟩⟩) (fun p _ h1 h2 => by omega) (fun _ _ => rfl)
    (fun p hp => Int.le_trans (h.d p (by omega)) m.time) (fun p p' hpp hp => h.dm p p' hpp (by omega))
/-- a draw's time -/
def drawD (q : QT) (k : Nat) (D : Nat → Int) (p : Nat) : Int := if (p : Int) = q.word k then q.time + 1 else D p
theorem drawD_old {k : Nat} (p : Nat) (hp : (p : Int) < q.word k) : drawD q k D p = D p := by unfold drawD; rw [if_neg (by omega)]
theorem drawD_le {k : Nat} {t : Int} (ht : q.time + 1 ≤ t) (hd : ∀ p : Nat, (p : Int) < q.word k → D p ≤ q.time) (p : Nat) (hp : (p : Int) < q.word k + 1) : drawD q k D p ≤ t := by
  unfold drawD
  split
  · exact ht
  · have := hd p (by omega); omega
theorem drawD_mono {k : Nat} (hd : ∀ p : Nat, (p : Int) < q.word k → D p ≤ q.time) (hm : ∀ p p' : Nat, p < p' → (p' : Int) < q.word k → D p < D p') (p p' : Nat) (h : p < p') (hp : (p' : Int) < q.word k + 1) : drawD q k D p < drawD q k D p' := by
  unfold drawD
  rw [if_neg (by omega)]
  split
  · have := hd p (by omega); omega
  · exact hm p p' h (by omega)
/-- what holds of calls, whatever is done -/
def OInv (q : QT) (I : Int) : Prop := 0 ≤ I ∧ ∃ P R D1 D0, PInv q I P D1 ∧ TInv q R D0 ∧ BInv q
/-- the three are kept by a step that puts nothing and takes nothing, draws nothing -/
theorem OInv.keep (h : OInv q I) (m : Mv q q' i x y) (h8 : spL q'.N 8 = spL q.N 8) (h9 : spL q'.N 9 = spL q.N 9) (hw1 : q'.word 1 = q.word 1) (hw0 : q'.word 0 = q.word 0)
    (hc : ∀ p : Nat, (p : Int) < q.size → q'.word (2 + p) = q.word (2 + p) ∨ (q.word (2 + p) = 0 ∧ q'.word (2 + p) = 1))
    (hb : begL q'.N i y.seq = begL q.N i x.seq) (hp : y.pc ≠ 0 → x.pc ≠ 0)
    (hy1 : (y.pc = 1 ∨ y.pc = 2) → (x.pc = 1 ∨ x.pc = 2) ∧ y.value = x.value) (hy2 : y.pc ≠ 2)
    (hx : (x.pc = 4 ∨ x.pc = 5) → ((y.pc = 4 ∨ y.pc = 5) ∧ y.pos = x.pos) ∨ q'.word (2 + x.pos.toNat) = 1)
    (hy : (y.pc = 4 ∨ y.pc = 5) → (x.pc = 4 ∨ x.pc = 5) ∧ y.pos = x.pos) : OInv q' I := by
  obtain ⟨h0, P, R, D1, D0, hP, hR, hB⟩ := h
  refine ⟨h0, P, R, D1, D0, hP.keep m h0 h8 hw1 hc hy1 hy2, hR.keep m h9 hw0 (fun p hps => ?_) hx (fun e => ⟨(hy e).1, (hy e).2, hb⟩), hB.move m fun e => ?_⟩
  · rcases hc p hps with e | ⟨e, _⟩
    · exact .inl e
    · exact .inr e
  · rw [hb]; exact Int.le_trans (hB i x m.hx (hp e)) m.time
/-- a call ends that did nothing -/
theorem OInv.quit (h : OInv q I) (hx : q.T[i]? = some x) (hp : x.pc ≠ 4 ∧ x.pc ≠ 5) {c : Int} (hc : c ≠ 0) (v : Int) : OInv (endsQ q.tick i x c v) I := by
  have hpre := Pre.tick q
  refine h.keep (hpre.ends hx c v) (hpre.ends_sp (.inl hc)) (hpre.ends_sp (.inl hc)) rfl rfl (fun p _ => .inl rfl) (hpre.ends_beg c v i _) ?_ ?_ ?_ ?_ ?_
  all_goals unfold idleX
  all_goals dsimp only
  all_goals omega
theorem OInv.again (h : OInv q I) (hx : q.T[i]? = some x) {pc : Int} (hp : (x.pc = 2 ∧ pc = 1) ∨ (x.pc = 6 ∧ pc = 3)) : OInv (againQ q.tick i x pc) I := by
  unfold againQ
  split
  · rw [endsQ_setT]
    -- the call's note is one of the thread that tried again
    have hpre := Pre.tick q
    have hno : ∀ kind : Int, spL (endsQ q.tick i { x with tri := x.tri + 1, pc := pc } 6 0).N kind = spL q.N kind := fun kind => hpre.ends_sp (.inl (by decide))
    have m : Mv q (endsQ q.tick i { x with tri := x.tri + 1, pc := pc } 6 0) i x (idleX x) :=
      ⟨hx, rfl, rfl, by show q.time ≤ q.time + 1; omega, fun j s _ => hpre.ends_beg _ _ j s⟩
    refine h.keep m (hno 8) (hno 9) rfl rfl (fun p _ => .inl rfl) (hpre.ends_beg _ _ i _) ?_ ?_ ?_ ?_ ?_
    all_goals unfold idleX
    all_goals dsimp only
    all_goals omega
  · have hpre := Pre.tick q
    refine h.keep (hpre.setT hx { x with tri := x.tri + 1, pc := pc }) rfl rfl rfl rfl (fun p _ => .inl rfl) rfl ?_ ?_ ?_ ?_ ?_
    all_goals dsimp only
    all_goals omega
/-- a ticket of those that put is drawn -/
theorem OInv.draw1 {w n t s : Int} (h : OInv q I) (hi : QInv q w n t s) (hx : q.T[i]? = some x) (hp : x.pc = 1) : OInv (ticketQ q.tick i x 1 2) I := by
  have hl : 1 < q.tick.L.length := by show 1 < q.L.length; rw [hi.len]; have := hi.s0; omega
  have hw := fun j => QT.word_setL q.tick 1 j (q.word 1 + 1) hl
  have hw1 : (q.tick.setL 1 (q.word 1 + 1)).word 1 = q.word 1 + 1 := by rw [hw, if_pos rfl]
  have hwo : ∀ j, j ≠ 1 → (q.tick.setL 1 (q.word 1 + 1)).word j = q.word j := fun j hj => by rw [hw, if_neg hj]; rfl
  have h0 := (hi.w0 1 (by decide)).1
  have hpre := Pre.setL q 1 (q.word 1 + 1)
  obtain ⟨hI0, P, R, D1, D0, hP, hR, hB⟩ := h
  unfold ticketQ
  show OInv (if q.size ≤ q.word 1 then endsQ (q.tick.setL 1 (q.word 1 + 1)) i x 6 0 else (q.tick.setL 1 (q.word 1 + 1)).setT i { x with pos := q.word 1, pc := 2 }) I
  split
  · rename_i hs
    have m := hpre.ends hx 6 0
    refine ⟨hI0, P, R, drawD q 1 D1, D0, ?_, ?_, ?_⟩
    · refine hP.move m (Int.le_refl _) (hpre.ends_sp (.inl (by decide))) ?_ (fun p _ => .inl (hwo _ (by omega))) hI0 ?_ ?_ (fun p hp => drawD_old p hp) ?_ ?_
      · show q.word 1 ≤ (q.tick.setL 1 (q.word 1 + 1)).word 1; omega
      · unfold idleX; dsimp only; omega
      · unfold idleX; dsimp only; omega
      · intro p hp
        change (p : Int) < (q.tick.setL 1 (q.word 1 + 1)).word 1 at hp
        exact drawD_le (Int.le_refl _) hP.d p (by omega)
      · intro p p' hpp hp
        change (p' : Int) < (q.tick.setL 1 (q.word 1 + 1)).word 1 at hp
        exact drawD_mono hP.d hP.dm p p' hpp (by omega)
    · refine hR.keep m (hpre.ends_sp (.inl (by decide))) (hwo 0 (by decide)) (fun p _ => .inl (hwo _ (by omega))) ?_ ?_
      · omega
      · unfold idleX; dsimp only; omega
    · exact hB.move m (fun e => absurd rfl e)
  · rename_i hs
    have m := hpre.setT hx { x with pos := q.word 1, pc := 2 }
    have hbx := hB i x hx (by omega)
    refine ⟨hI0, P, R, drawD q 1 D1, D0, ?_, ?_, ?_⟩
    · refine hP.move m (Int.le_refl _) rfl ?_ (fun p _ => .inl (hwo _ (by omega))) hI0 ?_ ?_ (fun p hp => drawD_old p hp) ?_ ?_
      · show q.word 1 ≤ (q.tick.setL 1 (q.word 1 + 1)).word 1; omega
      · intro _; exact .inl ⟨.inl hp, rfl⟩
      · intro _
        refine ⟨h0, ?_, ?_, ?_⟩
        · show q.word 1 < (q.tick.setL 1 (q.word 1 + 1)).word 1; omega
        · show q.word 1 < q.size; omega
        · show begL q.N i x.seq < drawD q 1 D1 (q.word 1).toNat
          unfold drawD; rw [if_pos (by omega)]; omega
      · intro p hp
        change (p : Int) < (q.tick.setL 1 (q.word 1 + 1)).word 1 at hp
        exact drawD_le (Int.le_refl _) hP.d p (by omega)
      · intro p p' hpp hp
        change (p' : Int) < (q.tick.setL 1 (q.word 1 + 1)).word 1 at hp
        exact drawD_mono hP.d hP.dm p p' hpp (by omega)
    · refine hR.keep m rfl (hwo 0 (by decide)) (fun p _ => .inl (hwo _ (by omega))) ?_ ?_
      · omega
      · dsimp only; omega
    · refine hB.move m (fun _ => ?_)
      show begL q.N i x.seq ≤ q.time + 1
      omega
/-- a ticket of those that take is drawn -/
theorem OInv.draw0 {w n t s : Int} (h : OInv q I) (hi : QInv q w n t s) (hx : q.T[i]? = some x) (hp : x.pc = 3) : OInv (ticketQ q.tick i x 0 4) I := by
  have hl : 0 < q.tick.L.length := by show 0 < q.L.length; rw [hi.len]; have := hi.s0; omega
  have hw := fun j => QT.word_setL q.tick 0 j (q.word 0 + 1) hl
  have hw1 : (q.tick.setL 0 (q.word 0 + 1)).word 0 = q.word 0 + 1 := by rw [hw, if_pos rfl]
  have hwo : ∀ j, j ≠ 0 → (q.tick.setL 0 (q.word 0 + 1)).word j = q.word j := fun j hj => by rw [hw, if_neg hj]; rfl
  have h0 := (hi.w0 0 (by decide)).1
  have hpre := Pre.setL q 0 (q.word 0 + 1)
  obtain ⟨hI0, P, R, D1, D0, hP, hR, hB⟩ := h
  unfold ticketQ
  show OInv (if q.size ≤ q.word 0 then endsQ (q.tick.setL 0 (q.word 0 + 1)) i x 6 0 else (q.tick.setL 0 (q.word 0 + 1)).setT i { x with pos := q.word 0, pc := 4 }) I
  split
  · rename_i hs
    have m := hpre.ends hx 6 0
    refine ⟨hI0, P, R, D1, drawD q 0 D0, ?_, ?_, ?_⟩
    · refine hP.keep m hI0 (hpre.ends_sp (.inl (by decide))) (hwo 1 (by decide)) (fun p _ => .inl (hwo _ (by omega))) ?_ ?_
      · unfold idleX; dsimp only; omega
      · unfold idleX; dsimp only; omega
    · refine hR.move m (hpre.ends_sp (.inl (by decide))) ?_ (fun p _ => .inl (hwo _ (by omega))) ?_ ?_ ?_ (fun p hp => drawD_old p hp) ?_ ?_
      · show q.word 0 ≤ (q.tick.setL 0 (q.word 0 + 1)).word 0; omega
      · omega
      · unfold idleX; dsimp only; omega
      · intro p h1 h2 h3
        omega
      · intro p hp
        change (p : Int) < (q.tick.setL 0 (q.word 0 + 1)).word 0 at hp
        exact drawD_le (Int.le_refl _) hR.d p (by omega)
      · intro p p' hpp hp
        change (p' : Int) < (q.tick.setL 0 (q.word 0 + 1)).word 0 at hp
        exact drawD_mono hR.d hR.dm p p' hpp (by omega)
    · exact hB.move m (fun e => absurd rfl e)
  · rename_i hs
    have m := hpre.setT hx { x with pos := q.word 0, pc := 4 }
    have hbx := hB i x hx (by omega)
    refine ⟨hI0, P, R, D1, drawD q 0 D0, ?_, ?_, ?_⟩
    · refine hP.keep m hI0 rfl (hwo 1 (by decide)) (fun p _ => .inl (hwo _ (by omega))) ?_ ?_
      · dsimp only; omega
      · dsimp only; omega
    · refine hR.move m rfl ?_ (fun p _ => .inl (hwo _ (by omega))) ?_ ?_ ?_ (fun p hp => drawD_old p hp) ?_ ?_
      · show q.word 0 ≤ (q.tick.setL 0 (q.word 0 + 1)).word 0; omega
      · omega
      · intro _
        refine ⟨?_, .inr ⟨Int.le_refl _, ?_, ?_, h0⟩⟩
        · show begL q.N i x.seq < drawD q 0 D0 (q.word 0).toNat
          unfold drawD; rw [if_pos (by omega)]; omega
        · show q.word 0 < (q.tick.setL 0 (q.word 0 + 1)).word 0; omega
        · show q.word 0 < q.size; omega
      · intro p h1 h2 h3
        change (p : Int) < (q.tick.setL 0 (q.word 0 + 1)).word 0 at h3
        refine ⟨rfl, ?_⟩
        show q.word 0 = p
        omega
      · intro p hp
        change (p : Int) < (q.tick.setL 0 (q.word 0 + 1)).word 0 at hp
        exact drawD_le (Int.le_refl _) hR.d p (by omega)
      · intro p p' hpp hp
        change (p' : Int) < (q.tick.setL 0 (q.word 0 + 1)).word 0 at hp
        exact drawD_mono hR.d hR.dm p p' hpp (by omega)
    · refine hB.move m (fun _ => ?_)
      show begL q.N i x.seq ≤ q.time + 1
      omega
/-- a step -/
theorem OInv.step {w n t s : Int} (h : OInv q I) (hi : QInv q w n t s) (hx : q.T[i]? = some x) : OInv (stepQ q.tick i x) I := by
  have ht := hi.th i x hx
  have hcl : x.cell < q.tick.L.length := by show x.cell < q.L.length; have := ht.p0; have := ht.p1; have := hi.len; unfold CmT.cell; omega
  have hws := fun z j => QT.word_setL q.tick x.cell j z hcl
  have hcell : x.cell = 2 + x.pos.toNat := rfl
  unfold stepQ
  split
  · rename_i hp; exact h.draw1 hi hx hp
  split
  · rename_i hp
    show OInv (if q.word x.cell = 0 then endsQ (q.tick.setL x.cell (x.value + 2)) i x 0 0 else againQ q.tick i x 1) I
    split
    · rename_i hz
      obtain ⟨hI0, P, R, D1, D0, hP, hR, hB⟩ := h
      have hpre := Pre.setL q x.cell (x.value + 2)
      have m := hpre.ends hx 0 0
      have hput : isPut x = true := by unfold isPut; rw [hp]; rfl
      have hw0 : ∀ j, j ≠ x.cell → (q.tick.setL x.cell (x.value + 2)).word j = q.word j := fun j hj => by rw [hws, if_neg hj]; rfl
      have hwx : (q.tick.setL x.cell (x.value + 2)).word x.cell = x.value + 2 := by rw [hws, if_pos rfl]
      have e8 := hpre.ends_spOk (i := i) (x := x) (v := 0) (kind := 8) (by rw [if_pos hput])
      rw [if_pos rfl] at e8
      refine ⟨hI0, _, R, D1, D0, hP.fill m hp e8 (hw0 1 (by omega)) hz hwx (fun p hps => hw0 _ (by omega)) rfl, ?_, ?_⟩
      · refine hR.keep m (hpre.ends_sp (.inr (by rw [if_pos hput]; decide))) (hw0 0 (by omega)) (fun p _ => ?_) ?_ ?_
        · by_cases e : 2 + p = x.cell
          · right; rw [e]; exact hz
          · exact .inl (hw0 _ e)
        · omega
        · unfold idleX; dsimp only; omega
      · exact hB.move m (fun e => absurd rfl e)
    · exact h.again hx (.inl ⟨hp, rfl⟩)
  split
  · rename_i hp; exact h.draw0 hi hx hp
  split
  · rename_i hp
    show OInv (if q.word x.cell = 0 then (q.tick.setL x.cell 1).setT i { x with pc := 6 } else q.tick.setT i { x with pc := 5 }) I
    split
    · rename_i hz
      have hpre := Pre.setL q x.cell 1
      have hw0 : ∀ j, j ≠ x.cell → (q.tick.setL x.cell 1).word j = q.word j := fun j hj => by rw [hws, if_neg hj]; rfl
      have hwx : (q.tick.setL x.cell 1).word x.cell = 1 := by rw [hws, if_pos rfl]
      refine h.keep (hpre.setT hx { x with pc := 6 }) rfl rfl (hw0 1 (by omega)) (hw0 0 (by omega)) (fun p _ => ?_) rfl ?_ ?_ ?_ (fun _ => .inr hwx) ?_
      · by_cases e : 2 + p = x.cell
        · right; rw [e]; exact ⟨hz, hwx⟩
        · exact .inl (hw0 _ e)
      all_goals dsimp only
      all_goals omega
    · refine h.keep ((Pre.tick q).setT hx { x with pc := 5 }) rfl rfl rfl rfl (fun p _ => .inl rfl) rfl ?_ ?_ ?_ (fun _ => .inl ⟨.inr rfl, rfl⟩) (fun _ => ⟨.inl hp, rfl⟩)
      all_goals dsimp only
      all_goals omega
  split
  · rename_i hp
    show OInv (endsQ q.tick i x 0 (q.word x.cell - 2)) I
    obtain ⟨hI0, P, R, D1, D0, hP, hR, hB⟩ := h
    have hpre := Pre.tick q
    have m := hpre.ends hx 0 (q.word x.cell - 2)
    have hput : ¬ isPut x = true := by unfold isPut; rw [hp]; decide
    have e9 := hpre.ends_spOk (i := i) (x := x) (v := q.word x.cell - 2) (kind := 9) (by rw [if_neg hput])
    rw [if_neg (by decide)] at e9
    refine ⟨hI0, P, _, D1, D0, ?_, hR.taken m hp (ht.five hp) e9 (fun _ => rfl) rfl, ?_⟩
    · refine hP.keep m hI0 (hpre.ends_sp (.inr (by rw [if_neg hput]; decide))) rfl (fun p _ => .inl rfl) ?_ ?_
      · unfold idleX; dsimp only; omega
      · unfold idleX; dsimp only; omega
    · exact hB.move m (fun e => absurd rfl e)
  split
  · rename_i hp
    show OInv (if q.word 1 ≤ x.pos + 1 then endsQ q.tick i x 10 0 else againQ q.tick i x 3) I
    split
    · exact h.quit hx (by omega) (by decide) 0
    · exact h.again hx (.inr ⟨hp, rfl⟩)
  · have hpre := Pre.tick q
    have m : Mv q q.tick i x x := ⟨hx, (set_self hx).symm, rfl, by show q.time ≤ q.time + 1; omega, fun _ _ _ => rfl⟩
    refine h.keep m rfl rfl rfl rfl (fun p _ => .inl rfl) rfl ?_ ?_ ?_ ?_ ?_
    all_goals omega
theorem OInv.pick {w n t s : Int} (h : OInv q I) (hi : QInv q w n t s) (th : Int) : OInv (pickQ q th) I := by
  unfold pickQ
  split
  · exact h
  · split
    · exact h
    · rename_i z hz; exact h.step hi hz
theorem PInv.up {I' : Int} (h : PInv q I P D) (hI : I ≤ I') : PInv q I' P D :=
  ⟨h.sp, h.nd, h.ok, h.cov, fun i x hx hp => ⟨(h.th1 i x hx hp).1, by have := (h.th1 i x hx hp).2.1; omega, (h.th1 i x hx hp).2.2⟩, h.th2, h.pv, fun p hp => by have := h.cv p hp; omega, h.cd, h.d, h.dm⟩
theorem OInv.up {I' : Int} (h : OInv q I) (hI : I ≤ I') : OInv q I' := by
  obtain ⟨h0, P, R, D1, D0, hP, hR, hB⟩ := h
  exact ⟨by omega, P, R, D1, D0, hP.up hI, hR, hB⟩
/-- a call begins -/
theorem OInv.begin {pc v I' : Int} (h : OInv q I) (th : Int) (hp : (pc = 1 ∧ I ≤ v ∧ v < I') ∨ pc = 3) (hI : I ≤ I') : OInv (beginQ q th ⟨pc, 0, v, 0, 0⟩) I' := by
  unfold beginQ
  split
  · exact h.up hI
  · split
    · exact h.up hI
    · rename_i x hx
      split
      · exact h.up hI
      · rename_i hb
        obtain ⟨h0, P, R, D1, D0, hP, hR, hB⟩ := h
        have hxp : x.pc = 0 := by omega
        have hN : ∀ (j : Nat) (s : Int), begL (noteQ (q.setT th.toNat ⟨pc, x.seq + 1, v, 0, 0⟩).tick 1 th.toNat ⟨pc, x.seq + 1, v, 0, 0⟩ 0 0 0).N j s = if begN j s ⟨1, th.toNat, x.seq + 1, q.time + 1, if isPut ⟨pc, x.seq + 1, v, 0, 0⟩ = true then 8 else 9, if isPut ⟨pc, x.seq + 1, v, 0, 0⟩ = true then v else 0, 0, 0, 0⟩ = true then q.time + 1 else begL q.N j s := fun j s => begL_app _ _ _ _
        have m : Mv q (noteQ (q.setT th.toNat ⟨pc, x.seq + 1, v, 0, 0⟩).tick 1 th.toNat ⟨pc, x.seq + 1, v, 0, 0⟩ 0 0 0) th.toNat x ⟨pc, x.seq + 1, v, 0, 0⟩ := by
          refine ⟨hx, rfl, rfl, by show q.time ≤ q.time + 1; omega, fun j s hj => ?_⟩
          rw [hN, if_neg]
          unfold begN
          have : (((th.toNat : Nat) : Int) == (j : Int)) = false := by rw [beq_eq_false_iff_ne]; intro e; exact hj (by omega)
          dsimp only
          rw [this]
          simp
        have hs : ∀ kind : Int, spL (noteQ (q.setT th.toNat ⟨pc, x.seq + 1, v, 0, 0⟩).tick 1 th.toNat ⟨pc, x.seq + 1, v, 0, 0⟩ 0 0 0).N kind = spL q.N kind := fun kind => spL_no rfl
        have hmv := m.time
        refine ⟨by omega, P, R, D1, D0, ?_, ?_, ?_⟩
        · refine hP.move m hI (hs 8) (Int.le_refl _) (fun p _ => .inl rfl) h0 ?_ ?_ (fun _ _ => rfl) (fun p hpp => Int.le_trans (hP.d p hpp) hmv) hP.dm
          · dsimp only; omega
          · dsimp only; omega
        · refine hR.keep m (hs 9) rfl (fun p _ => .inl rfl) ?_ ?_
          · omega
          · dsimp only; omega
        · refine hB.move m (fun _ => ?_)
          rw [hN, if_pos (by unfold begN; simp)]
          exact Int.le_refl _
theorem OInv.put (h : OInv q I) (th : Int) : OInv (putQ q th I) (I + 1) := by
  unfold putQ
  split
  · exact h.up (by omega)
  · exact h.begin th (.inl ⟨rfl, by omega, by omega⟩) (by omega)
theorem OInv.take (h : OInv q I) (th : Int) : OInv (takeQ q th) (I + 1) := h.begin th (.inr rfl) (by omega)
theorem OInv.new (s n k : Int) : OInv (newQ s n k) 0 := by
  have hw : ∀ j, (newQ s n k).word j = 0 := fun j => rep_word _ j
  have ht : ∀ (i : Nat) (x : CmT), (newQ s n k).T[i]? = some x → x.pc = 0 := by
    intro i x hx
    unfold newQ at hx
    dsimp only at hx
    rw [List.getElem?_replicate] at hx
    split at hx
    · injection hx with hx; rw [← hx]
    · cases hx
  refine ⟨Int.le_refl _, [], [], fun _ => 0, fun _ => 0, ⟨rfl, by simp, by simp, ?_, ?_, ?_, ?_, ?_, ?_, ?_, ?_⟩, ⟨rfl, by simp, by simp, ?_, ?_, ?_, ?_, ?_⟩, ?_⟩
  · intro p _ h2; rw [hw] at h2; omega
  · intro i x hx hp; have := ht i x hx; omega
  · intro i x hx hp; have := ht i x hx; omega
  · intro i j x y hx _ _ hp; have := ht i x hx; omega
  · intro p _; rw [hw]; decide
  · intro p p' _ _ h2; rw [hw] at h2; omega
  · intro p hp; rw [hw] at hp; omega
  · intro p p' _ hp; rw [hw] at hp; omega
  · intro p _ hp; rw [hw] at hp; omega
  · intro i x hx hp; have := ht i x hx; omega
  · intro i j x y hx _ _ hp; have := ht i x hx; omega
  · intro p hp; rw [hw] at hp; omega
  · intro p p' _ hp; rw [hw] at hp; omega
  · intro i x hx hp; exact absurd (ht i x hx) hp
end
end Go.Proofs.Ythghghoikaincaa
