/- Package tickets: no call takes more steps than three a try. Plain Lean. -/
import Derived.Test.YthghghoikaincaaTkQ
namespace Go.Proofs.Ythghghoikaincaa
open Go.RowKit

def idleX (x : CmT) : CmT := ⟨0, x.seq, 0, 0, 0⟩
def againX (q : QT) (x : CmT) (pc : Int) : CmT := if x.tri + 1 = q.tries then idleX x else { x with tri := x.tri + 1, pc := pc }
def ticketX (q : QT) (x : CmT) (word : Nat) (next : Int) : CmT := if q.size ≤ q.word word then idleX x else { x with pos := q.word word, pc := next }
def stepX (q : QT) (x : CmT) : CmT :=
  if x.pc = 1 then ticketX q x 1 2
  else if x.pc = 2 then (if q.word x.cell = 0 then idleX x else againX q x 1)
  else if x.pc = 3 then ticketX q x 0 4
  else if x.pc = 4 then (if q.word x.cell = 0 then { x with pc := 6 } else { x with pc := 5 })
  else if x.pc = 5 then idleX x
  else if x.pc = 6 then (if q.word 1 ≤ x.pos + 1 then idleX x else againX q x 3)
  else x
theorem set_self {α : Type} {l : List α} {i : Nat} {x : α} (h : l[i]? = some x) : l.set i x = l := by
  refine List.ext_getElem? fun j => ?_
  rw [List.getElem?_set]
  split
  · rename_i h1; subst h1; rw [h]; simp [len_of h]
  · rfl
section
variable {q : QT} {i : Nat} {x : CmT}
theorem endsQ_T (a b : Int) : (endsQ q i x a b).T = q.T.set i (idleX x) := rfl
theorem againQ_T (pc : Int) : (againQ q i x pc).T = q.T.set i (againX q x pc) := by
  unfold againQ againX
  split
  · rw [endsQ_setT]; rfl
  · rfl
theorem ticketQ_T (k : Nat) (next : Int) : (ticketQ q i x k next).T = q.T.set i (ticketX q x k next) := by
  unfold ticketQ ticketX
  split <;> rfl
theorem stepQ_T (hx : q.T[i]? = some x) : (stepQ q i x).T = q.T.set i (stepX q x) := by
  unfold stepQ stepX
  split
  · exact ticketQ_T _ _
  split
  · split
    · rfl
    · exact againQ_T _
  split
  · exact ticketQ_T _ _
  split
  · split <;> rfl
  split
  · rfl
  split
  · split
    · rfl
    · exact againQ_T _
  · exact (set_self hx).symm
theorem pickQ_T (hx : q.T[i]? = some x) : (pickQ q i).T = q.T.set i (stepX q.tick x) := by
  unfold pickQ
  rw [if_neg (by omega), Int.toNat_natCast, hx]
  exact stepQ_T (q := q.tick) hx
theorem endsQ_tries (a b : Int) : (endsQ q i x a b).tries = q.tries := rfl
theorem againQ_tries (pc : Int) : (againQ q i x pc).tries = q.tries := by unfold againQ; split <;> rfl
theorem ticketQ_tries (k : Nat) (next : Int) : (ticketQ q i x k next).tries = q.tries := by unfold ticketQ; split <;> rfl
theorem stepQ_tries : (stepQ q i x).tries = q.tries := by
  unfold stepQ
  split
  · exact ticketQ_tries _ _
  split
  · split
    · rfl
    · exact againQ_tries _
  split
  · exact ticketQ_tries _ _
  split
  · split <;> rfl
  split
  · rfl
  split
  · split
    · rfl
    · exact againQ_tries _
  · rfl
end
theorem pickQ_tries (q : QT) (t : Int) : (pickQ q t).tries = q.tries := by
  unfold pickQ
  split
  · rfl
  · split
    · rfl
    · exact stepQ_tries
theorem beginQ_tries (q : QT) (t : Int) (y : CmT) : (beginQ q t y).tries = q.tries := by
  unfold beginQ
  split
  · rfl
  · split
    · rfl
    · split <;> rfl
theorem putQ_tries (q : QT) (t v : Int) : (putQ q t v).tries = q.tries := by
  unfold putQ
  split
  · rfl
  · exact beginQ_tries _ _ _
/-- how far a try is -/
def phase (pc : Int) : Int := if pc = 2 ∨ pc = 4 then 1 else if pc = 5 ∨ pc = 6 then 2 else 0
structure Bnd (tries : Int) (x : CmT) (s : Int) : Prop where
  lo : 0 ≤ s
  hi : if x.pc = 0 then s ≤ 3 * tries else s ≤ 3 * x.tri + phase x.pc
theorem Bnd.le {q : QT} {m s : Int} {x : CmT} (h : Bnd q.tries x s) (hx : ThOk q m x) : s ≤ 3 * q.tries := by
  have h1 := h.hi
  have := hx.r1
  split at h1
  · exact h1
  · have : phase x.pc ≤ 2 := by unfold phase; split; · omega
                                · split <;> omega
    omega
theorem idle_bnd {tries s : Int} {x : CmT} (h0 : 0 ≤ s) (h : s ≤ 3 * tries) : Bnd tries (idleX x) s := ⟨h0, by unfold idleX; rw [if_pos rfl]; exact h⟩
theorem again_bnd {q : QT} {m s : Int} {x : CmT} (hx : ThOk q m x) (h0 : 0 ≤ s) (h : s ≤ 3 * x.tri + 3) {pc : Int} (hp : pc = 1 ∨ pc = 3) : Bnd q.tries (againX q x pc) s := by
  unfold againX
  have := hx.r1
  split
  · exact idle_bnd h0 (by omega)
  · refine ⟨h0, ?_⟩
    rcases hp with rfl | rfl
    · show if (1 : Int) = 0 then _ else s ≤ 3 * (x.tri + 1) + phase 1
      rw [if_neg (by decide)]; have : phase 1 = 0 := by decide
      omega
    · show if (3 : Int) = 0 then _ else s ≤ 3 * (x.tri + 1) + phase 3
      rw [if_neg (by decide)]; have : phase 3 = 0 := by decide
      omega
theorem ticket_bnd {q : QT} {m s : Int} {x : CmT} (hx : ThOk q m x) (h0 : 0 ≤ s) (h : s ≤ 3 * x.tri + 1) {k : Nat} {next : Int} (hp : next = 2 ∨ next = 4) : Bnd q.tries (ticketX q x k next) s := by
  unfold ticketX
  have := hx.r1
  split
  · exact idle_bnd h0 (by omega)
  · refine ⟨h0, ?_⟩
    rcases hp with rfl | rfl
    · show if (2 : Int) = 0 then _ else s ≤ 3 * x.tri + phase 2
      rw [if_neg (by decide)]; have : phase 2 = 1 := by decide
      omega
    · show if (4 : Int) = 0 then _ else s ≤ 3 * x.tri + phase 4
      rw [if_neg (by decide)]; have : phase 4 = 1 := by decide
      omega
/-- a step of a call: one step more, one step further -/
theorem step_bnd {q : QT} {m s : Int} {x : CmT} (hx : ThOk q m x) (h : Bnd q.tries x s) (hp : x.pc ≠ 0) : Bnd q.tries (stepX q x) (s + 1) := by
  have h0 := h.lo
  have h1 := h.hi
  rw [if_neg hp] at h1
  have hr := hx.r1
  have c0 := hx.c0; have c6 := hx.c6
  unfold stepX
  split
  · rename_i e; rw [e, show phase 1 = 0 by decide] at h1
    exact ticket_bnd hx (by omega) (by omega) (Or.inl rfl)
  split
  · rename_i e; rw [e, show phase 2 = 1 by decide] at h1
    split
    · exact idle_bnd (by omega) (by omega)
    · exact again_bnd hx (by omega) (by omega) (Or.inl rfl)
  split
  · rename_i e; rw [e, show phase 3 = 0 by decide] at h1
    exact ticket_bnd hx (by omega) (by omega) (Or.inr rfl)
  split
  · rename_i e; rw [e, show phase 4 = 1 by decide] at h1
    split
    · refine ⟨by omega, ?_⟩
      show if (6 : Int) = 0 then _ else s + 1 ≤ 3 * x.tri + phase 6
      rw [if_neg (by decide), show phase 6 = 2 by decide]; omega
    · refine ⟨by omega, ?_⟩
      show if (5 : Int) = 0 then _ else s + 1 ≤ 3 * x.tri + phase 5
      rw [if_neg (by decide), show phase 5 = 2 by decide]; omega
  split
  · rename_i e; rw [e, show phase 5 = 2 by decide] at h1
    exact idle_bnd (by omega) (by omega)
  split
  · rename_i e; rw [e, show phase 6 = 2 by decide] at h1
    split
    · exact idle_bnd (by omega) (by omega)
    · exact again_bnd hx (by omega) (by omega) (Or.inr rfl)
  · omega
/-- all threads' steps are bounded -/
def BndAll (q : QT) (ss : List Int) : Prop := ss.length = q.T.length ∧ ∀ (i : Nat) (x : CmT) (s : Int), q.T[i]? = some x → ss[i]? = some s → Bnd q.tries x s
theorem set_cases {α : Type} {l : List α} {i j : Nat} {y z : α} (h : (l.set i y)[j]? = some z) : (j = i ∧ z = y) ∨ (j ≠ i ∧ l[j]? = some z) := by
  rw [List.getElem?_set] at h
  by_cases hj : i = j
  · rw [if_pos hj] at h
    split at h
    · injection h with h; exact Or.inl ⟨hj.symm, h.symm⟩
    · cases h
  · rw [if_neg hj] at h; exact Or.inr ⟨fun e => hj e.symm, h⟩
/-- one thread and its count are set -/
theorem BndAll.set {q q' : QT} {ss : List Int} {i : Nat} {y : CmT} {s : Int} (h : BndAll q ss) (ht : q'.tries = q.tries) (hT : q'.T = q.T.set i y) (hb : Bnd q.tries y s) : BndAll q' (ss.set i s) := by
  refine ⟨by rw [hT, List.length_set, List.length_set]; exact h.1, fun j z r hz hr => ?_⟩
  rw [hT] at hz
  rw [ht]
  rcases set_cases hz with ⟨h1, rfl⟩ | ⟨h1, hz⟩ <;> rcases set_cases hr with ⟨h2, rfl⟩ | ⟨h2, hr⟩
  · exact hb
  · exact absurd h1 h2
  · exact absurd h2 h1
  · exact h.2 j z r hz hr
theorem BndAll.new (s n k : Int) (hk : 1 ≤ k) : BndAll (newQ s n k) (List.replicate n.toNat 0) := by
  refine ⟨by unfold newQ; simp, fun i x r hx hr => ?_⟩
  unfold newQ at hx
  dsimp only at hx
  rw [List.getElem?_replicate] at hx hr
  split at hx
  · rename_i hl
    rw [if_pos hl] at hr
    injection hx with hx; injection hr with hr
    subst hx hr
    exact ⟨by decide, by rw [if_pos rfl]; show (0 : Int) ≤ 3 * k; omega⟩
  · cases hx
end Go.Proofs.Ythghghoikaincaa
