/- Tickets: what holds of calls that put, and of calls that take, whatever is done. Plain Lean. -/
import Derived.Test.YthghghoikaincaaTlA
namespace Go.Proofs.Ythghghoikaincaa
open Go.RowKit

/-- a call that was OK: its cell, when it began and ended -/
structure Rec where
  p : Nat
  (b e : Int)
def QT.val (q : QT) (p : Nat) : Int := q.word (2 + p) - 2
def Rec.sp (q : QT) (r : Rec) : SpT := ⟨r.b, r.e, q.val r.p⟩
/-- calls that put -/
structure PInv (q : QT) (I : Int) (P : List Rec) (D : Nat → Int) : Prop where
  sp : spL q.N 8 = P.map (Rec.sp q)
  nd : (P.map Rec.p).Nodup
  ok : ∀ r ∈ P, (r.p : Int) < q.size ∧ 2 ≤ q.word (2 + r.p) ∧ (r.p : Int) < q.word 1 ∧ r.b < D r.p ∧ D r.p ≤ r.e
  cov : ∀ p : Nat, (p : Int) < q.size → 2 ≤ q.word (2 + p) → ∃ r ∈ P, r.p = p
  th1 : ∀ (i : Nat) (x : CmT), q.T[i]? = some x → (x.pc = 1 ∨ x.pc = 2) → 0 ≤ x.value ∧ x.value < I ∧ ∀ p : Nat, (p : Int) < q.size → q.word (2 + p) ≠ x.value + 2
  th2 : ∀ (i : Nat) (x : CmT), q.T[i]? = some x → x.pc = 2 → 0 ≤ x.pos ∧ x.pos < q.word 1 ∧ x.pos < q.size ∧ begL q.N i x.seq < D x.pos.toNat
  pv : ∀ (i j : Nat) (x y : CmT), q.T[i]? = some x → q.T[j]? = some y → i ≠ j → (x.pc = 1 ∨ x.pc = 2) → (y.pc = 1 ∨ y.pc = 2) → x.value ≠ y.value
  cv : ∀ p : Nat, (p : Int) < q.size → q.word (2 + p) < I + 2
  cd : ∀ p p' : Nat, (p : Int) < q.size → (p' : Int) < q.size → 2 ≤ q.word (2 + p) → q.word (2 + p) = q.word (2 + p') → p = p'
  d : ∀ p : Nat, (p : Int) < q.word 1 → D p ≤ q.time
  dm : ∀ p p' : Nat, p < p' → (p' : Int) < q.word 1 → D p < D p'
/-- calls that take -/
structure TInv (q : QT) (R : List Rec) (D : Nat → Int) : Prop where
  sp : spL q.N 9 = R.map (Rec.sp q)
  nd : (R.map Rec.p).Nodup
  ok : ∀ r ∈ R, (r.p : Int) < q.size ∧ 2 ≤ q.word (2 + r.p) ∧ (r.p : Int) < q.word 0 ∧ r.b < D r.p ∧ D r.p ≤ r.e
  cov : ∀ p : Nat, (p : Int) < q.size → (p : Int) < q.word 0 → q.word (2 + p) ≠ 1 → (∃ r ∈ R, r.p = p) ∨ ∃ (i : Nat) (x : CmT), q.T[i]? = some x ∧ (x.pc = 4 ∨ x.pc = 5) ∧ x.pos = p
  th : ∀ (i : Nat) (x : CmT), q.T[i]? = some x → (x.pc = 4 ∨ x.pc = 5) → 0 ≤ x.pos ∧ x.pos < q.word 0 ∧ x.pos < q.size ∧ begL q.N i x.seq < D x.pos.toNat ∧ ∀ r ∈ R, (r.p : Int) ≠ x.pos
  two : ∀ (i j : Nat) (x y : CmT), q.T[i]? = some x → q.T[j]? = some y → i ≠ j → (x.pc = 4 ∨ x.pc = 5) → (y.pc = 4 ∨ y.pc = 5) → x.pos ≠ y.pos
  d : ∀ p : Nat, (p : Int) < q.word 0 → D p ≤ q.time
  dm : ∀ p p' : Nat, p < p' → (p' : Int) < q.word 0 → D p < D p'
def BInv (q : QT) : Prop := ∀ (i : Nat) (x : CmT), q.T[i]? = some x → x.pc ≠ 0 → begL q.N i x.seq ≤ q.time
/-- a thread turns from x to y, the rest of the queue is as it was, or said elsewhere -/
structure Mv (q q' : QT) (i : Nat) (x y : CmT) : Prop where
  hx : q.T[i]? = some x
  hT : q'.T = q.T.set i y
  size : q'.size = q.size
  time : q.time ≤ q'.time
  beg : ∀ (j : Nat) (s : Int), j ≠ i → begL q'.N j s = begL q.N j s
section
variable {q q' : QT} {i : Nat} {x y : CmT} {I I' : Int} {P R : List Rec} {D D' : Nat → Int}
theorem Mv.get (m : Mv q q' i x y) {j : Nat} {z : CmT} (h : q'.T[j]? = some z) : (j = i ∧ z = y) ∨ (j ≠ i ∧ q.T[j]? = some z) := by
  rw [m.hT] at h; exact set_cases h
theorem Mv.at_ (m : Mv q q' i x y) : q'.T[i]? = some y := by rw [m.hT]; exact get_set m.hx
theorem Mv.other (m : Mv q q' i x y) {j : Nat} {z : CmT} (h : q.T[j]? = some z) (hj : j ≠ i) : q'.T[j]? = some z := by
  rw [m.hT, List.getElem?_set_ne (fun e => hj e.symm)]; exact h
theorem sp_same {P : List Rec} (h : ∀ r ∈ P, q'.word (2 + r.p) = q.word (2 + r.p)) : P.map (Rec.sp q') = P.map (Rec.sp q) := by
  refine List.map_congr_left fun r hr => ?_
  unfold Rec.sp QT.val
  rw [h r hr]
theorem BInv.move (h : BInv q) (m : Mv q q' i x y) (hy : y.pc ≠ 0 → begL q'.N i y.seq ≤ q'.time) : BInv q' := by
  intro j z hz hp
  rcases m.get hz with ⟨rfl, rfl⟩ | ⟨hj, hz⟩
  · exact hy hp
  · rw [m.beg j _ hj]; exact Int.le_trans (h j z hz hp) m.time
/-- no value is put -/
theorem PInv.move (h : PInv q I P D) (m : Mv q q' i x y) (hI : I ≤ I') (h8 : spL q'.N 8 = spL q.N 8) (hw1 : q.word 1 ≤ q'.word 1)
    (hc : ∀ p : Nat, (p : Int) < q.size → q'.word (2 + p) = q.word (2 + p) ∨ (q.word (2 + p) = 0 ∧ q'.word (2 + p) = 1)) (hI0 : 0 ≤ I)
    (hy1 : (y.pc = 1 ∨ y.pc = 2) → ((x.pc = 1 ∨ x.pc = 2) ∧ y.value = x.value) ∨ (I ≤ y.value ∧ y.value < I'))
    (hy2 : y.pc = 2 → 0 ≤ y.pos ∧ y.pos < q'.word 1 ∧ y.pos < q.size ∧ begL q'.N i y.seq < D' y.pos.toNat)
    (hD : ∀ p : Nat, (p : Int) < q.word 1 → D' p = D p) (hd : ∀ p : Nat, (p : Int) < q'.word 1 → D' p ≤ q'.time) (hdm : ∀ p p' : Nat, p < p' → (p' : Int) < q'.word 1 → D' p < D' p') : PInv q' I' P D' := by
  have hok : ∀ r ∈ P, q'.word (2 + r.p) = q.word (2 + r.p) := by
    intro r hr
    have h1 := h.ok r hr
    rcases hc r.p h1.1 with e | ⟨e, _⟩
    · exact e
    · omega
  have hv : ∀ (j : Nat) (z : CmT), q.T[j]? = some z → (z.pc = 1 ∨ z.pc = 2) → ∀ p : Nat, (p : Int) < q.size → q'.word (2 + p) ≠ z.value + 2 := by
    intro j z hz hp p hps
    have h1 := h.th1 j z hz hp
    rcases hc p hps with e | ⟨_, e⟩
    · rw [e]; exact h1.2.2 p hps
    · omega
  have hne : ∀ (j : Nat) (z : CmT), j ≠ i → q.T[j]? = some z → (z.pc = 1 ∨ z.pc = 2) → (y.pc = 1 ∨ y.pc = 2) → z.value ≠ y.value := by
    intro j z hj hz hzp hyp
    rcases hy1 hyp with ⟨h1, h2⟩ | ⟨h1, h2⟩
    · rw [h2]; exact h.pv j i z x hz m.hx hj hzp h1
    · have := (h.th1 j z hz hzp).2.1; omega
  refine ⟨?_, h.nd, ?_, ?_, ?_, ?_, ?_, ?_, ?_, hd, hdm⟩
  · rw [h8, h.sp, sp_same hok]
  · intro r hr
    obtain ⟨h1, h2, h3, h4, h5⟩ := h.ok r hr
    rw [hok r hr, m.size, hD r.p h3]
    exact ⟨h1, h2, by omega, h4, h5⟩
  · intro p hp h2
    rw [m.size] at hp
    rcases hc p hp with e | ⟨_, e⟩
    · exact h.cov p hp (by rw [← e]; exact h2)
    · omega
  · intro j z hz hp
    rw [m.size]
    rcases m.get hz with ⟨rfl, rfl⟩ | ⟨hj, hz⟩
    · rcases hy1 hp with ⟨h1, h2⟩ | ⟨h1, h2⟩
      · have h3 := h.th1 _ x m.hx h1
        refine ⟨by omega, by omega, fun p hps => ?_⟩
        rw [h2]; exact hv _ x m.hx h1 p hps
      · refine ⟨by omega, h2, fun p hps => ?_⟩
        have := h.cv p hps
        rcases hc p hps with e | ⟨_, e⟩ <;> omega
    · have h3 := h.th1 j z hz hp
      exact ⟨h3.1, by omega, hv j z hz hp⟩
  · intro j z hz hp
    rw [m.size]
    rcases m.get hz with ⟨rfl, rfl⟩ | ⟨hj, hz⟩
    · exact hy2 hp
    · obtain ⟨h1, h2, h3, h4⟩ := h.th2 j z hz hp
      rw [m.beg j _ hj, hD _ (by omega)]
      exact ⟨h1, by omega, h3, h4⟩
  · intro a b u v hu hv' hab hpu hpv
    rcases m.get hu with ⟨rfl, rfl⟩ | ⟨ha, hu⟩ <;> rcases m.get hv' with ⟨rfl, rfl⟩ | ⟨hb, hv'⟩
    · exact absurd rfl hab
    · exact fun e => hne b v hb hv' hpv hpu e.symm
    · exact hne a u ha hu hpu hpv
    · exact h.pv a b u v hu hv' hab hpu hpv
  · intro p hp
    rw [m.size] at hp
    have := h.cv p hp
    rcases hc p hp with e | ⟨_, e⟩ <;> omega
  · intro p p' hp hp' h2 he
    rw [m.size] at hp hp'
    rcases hc p hp with e | ⟨_, e⟩ <;> rcases hc p' hp' with e' | ⟨_, e'⟩
    · exact h.cd p p' hp hp' (by omega) (by omega)
    · omega
    · omega
    · omega
/-- a value is put -/
theorem PInv.fill (h : PInv q I P D) (m : Mv q q' i x y) (hx : x.pc = 2) (h8 : spL q'.N 8 = spL q.N 8 ++ [⟨begL q.N i x.seq, q'.time, x.value⟩]) (hw1 : q'.word 1 = q.word 1)
    (hz : q.word (2 + x.pos.toNat) = 0) (hz' : q'.word (2 + x.pos.toNat) = x.value + 2)
    (hc : ∀ p : Nat, p ≠ x.pos.toNat → q'.word (2 + p) = q.word (2 + p)) (hy : y.pc = 0) : PInv q' I (P ++ [⟨x.pos.toNat, begL q.N i x.seq, q'.time⟩]) D := by
  obtain ⟨t1, t2, t3, t4⟩ := h.th2 i x m.hx hx
  obtain ⟨v1, v2, v3⟩ := h.th1 i x m.hx (.inr hx)
  have hno : ∀ r ∈ P, r.p ≠ x.pos.toNat := by
    intro r hr e
    have := (h.ok r hr).2.1
    rw [e] at this; omega
  have hok : ∀ r ∈ P, q'.word (2 + r.p) = q.word (2 + r.p) := fun r hr => hc _ (hno r hr)
  have hdx := h.d x.pos.toNat (by omega)
  refine ⟨?_, ?_, ?_, ?_, ?_, ?_, ?_, ?_, ?_, ?_, ?_⟩
  · rw [h8, h.sp, List.map_append, sp_same hok]
    congr 1
    show [_] = [Rec.sp q' _]
    unfold Rec.sp QT.val
    dsimp only
    rw [hz']
    congr 2
    omega
  · rw [List.map_append, List.nodup_append]
    refine ⟨h.nd, by simp, ?_⟩
    intro a ha b hb e
    simp at hb
    obtain ⟨r, hr, rfl⟩ := List.mem_map.1 ha
    exact hno r hr (e.trans hb)
  · intro r hr
    rw [m.size, hw1]
    rcases List.mem_append.1 hr with hr | hr
    · obtain ⟨h1, h2, h3, h4, h5⟩ := h.ok r hr
      rw [hok r hr]
      exact ⟨h1, h2, h3, h4, h5⟩
    · simp at hr
      subst hr
      dsimp only
      rw [hz']
      have := m.time
      exact ⟨by omega, by omega, by omega, t4, by omega⟩
  · intro p hp h2
    rw [m.size] at hp
    by_cases e : p = x.pos.toNat
    · exact ⟨_, List.mem_append_right _ (List.mem_singleton.2 rfl), e.symm⟩
    · rw [hc p e] at h2
      obtain ⟨r, hr, h3⟩ := h.cov p hp h2
      exact ⟨r, List.mem_append_left _ hr, h3⟩
  · intro j z hz0 hp
    rw [m.size]
    rcases m.get hz0 with ⟨rfl, rfl⟩ | ⟨hj, hz0⟩
    · omega
    · have h3 := h.th1 j z hz0 hp
      refine ⟨h3.1, h3.2.1, fun p hps => ?_⟩
      by_cases e : p = x.pos.toNat
      · rw [e, hz']
        have := h.pv j i z x hz0 m.hx hj hp (.inr hx)
        omega
      · rw [hc p e]; exact h3.2.2 p hps
  · intro j z hz0 hp
    rw [m.size, hw1]
    rcases m.get hz0 with ⟨rfl, rfl⟩ | ⟨hj, hz0⟩
    · omega
    · rw [m.beg j _ hj]; exact h.th2 j z hz0 hp
  · intro a b u v hu hv' hab hpu hpv
    rcases m.get hu with ⟨rfl, rfl⟩ | ⟨ha, hu⟩ <;> rcases m.get hv' with ⟨rfl, rfl⟩ | ⟨hb, hv'⟩
    · exact absurd rfl hab
    · omega
    · omega
    · exact h.pv a b u v hu hv' hab hpu hpv
  · intro p hp
    rw [m.size] at hp
    by_cases e : p = x.pos.toNat
    · rw [e, hz']; omega
    · rw [hc p e]; exact h.cv p hp
  · intro p p' hp hp' h2 he
    rw [m.size] at hp hp'
    by_cases e : p = x.pos.toNat <;> by_cases e' : p' = x.pos.toNat
    · omega
    · rw [e, hz', hc p' e'] at he; exact absurd he.symm (v3 p' hp')
    · rw [e', hz', hc p e] at he; exact absurd he (v3 p hp)
    · rw [hc p e] at h2 he; rw [hc p' e'] at he; exact h.cd p p' hp hp' h2 he
  · intro p hp
    rw [hw1] at hp
    exact Int.le_trans (h.d p hp) m.time
  · intro p p' hpp hp
    rw [hw1] at hp
    exact h.dm p p' hpp hp
/-- nothing is taken -/
theorem TInv.move (h : TInv q R D) (m : Mv q q' i x y) (h9 : spL q'.N 9 = spL q.N 9) (hw0 : q.word 0 ≤ q'.word 0)
    (hc : ∀ p : Nat, (p : Int) < q.size → q'.word (2 + p) = q.word (2 + p) ∨ q.word (2 + p) = 0)
    (hx : (x.pc = 4 ∨ x.pc = 5) → ((y.pc = 4 ∨ y.pc = 5) ∧ y.pos = x.pos) ∨ q'.word (2 + x.pos.toNat) = 1)
    (hy : (y.pc = 4 ∨ y.pc = 5) → begL q'.N i y.seq < D' y.pos.toNat ∧ (((x.pc = 4 ∨ x.pc = 5) ∧ y.pos = x.pos) ∨ (q.word 0 ≤ y.pos ∧ y.pos < q'.word 0 ∧ y.pos < q.size ∧ 0 ≤ y.pos)))
    (hn : ∀ p : Nat, (p : Int) < q.size → q.word 0 ≤ p → (p : Int) < q'.word 0 → y.pc = 4 ∧ y.pos = p)
    (hD : ∀ p : Nat, (p : Int) < q.word 0 → D' p = D p) (hd : ∀ p : Nat, (p : Int) < q'.word 0 → D' p ≤ q'.time) (hdm : ∀ p p' : Nat, p < p' → (p' : Int) < q'.word 0 → D' p < D' p') : TInv q' R D' := by
  have hok : ∀ r ∈ R, q'.word (2 + r.p) = q.word (2 + r.p) := by
    intro r hr
    have h1 := h.ok r hr
    rcases hc r.p h1.1 with e | e
    · exact e
    · omega
  have hne : ∀ (j : Nat) (z : CmT), j ≠ i → q.T[j]? = some z → (z.pc = 4 ∨ z.pc = 5) → (y.pc = 4 ∨ y.pc = 5) → z.pos ≠ y.pos := by
    intro j z hj hz hzp hyp
    rcases (hy hyp).2 with ⟨h1, h2⟩ | ⟨h1, h2, _, _⟩
    · rw [h2]; exact h.two j i z x hz m.hx hj hzp h1
    · have := (h.th j z hz hzp).2.1; omega
  refine ⟨?_, h.nd, ?_, ?_, ?_, ?_, hd, hdm⟩
  · rw [h9, h.sp, sp_same hok]
  · intro r hr
    obtain ⟨h1, h2, h3, h4, h5⟩ := h.ok r hr
    rw [hok r hr, m.size, hD r.p h3]
    exact ⟨h1, h2, by omega, h4, h5⟩
  · intro p hp hp0 h1
    rw [m.size] at hp
    by_cases hlt : (p : Int) < q.word 0
    · have h1' : q.word (2 + p) ≠ 1 := by
        rcases hc p hp with e | e
        · rw [← e]; exact h1
        · omega
      rcases h.cov p hp hlt h1' with hr | ⟨j, z, hz, hzp, hzq⟩
      · exact .inl hr
      · right
        by_cases hj : j = i
        · subst hj
          have e : z = x := by have := m.hx; rw [hz] at this; injection this
          subst e
          rcases hx hzp with ⟨h2, h3⟩ | h2
          · exact ⟨j, y, m.at_, h2, by omega⟩
          · exfalso; rw [hzq, Int.toNat_natCast] at h2; exact h1 h2
        · exact ⟨j, z, m.other hz hj, hzp, hzq⟩
    · obtain ⟨h2, h3⟩ := hn p hp (by omega) hp0
      exact .inr ⟨i, y, m.at_, .inl h2, h3⟩
  · intro j z hz hp
    rw [m.size]
    rcases m.get hz with ⟨rfl, rfl⟩ | ⟨hj, hz⟩
    · obtain ⟨h1, h2⟩ := hy hp
      rcases h2 with ⟨h2, h3⟩ | ⟨h2, h3, h4, h5⟩
      · obtain ⟨a1, a2, a3, a4, a5⟩ := h.th _ x m.hx h2
        exact ⟨by omega, by omega, by omega, h1, by rw [h3]; exact a5⟩
      · exact ⟨by omega, by omega, by omega, h1, fun r hr => by have := (h.ok r hr).2.2.1; omega⟩
    · obtain ⟨a1, a2, a3, a4, a5⟩ := h.th j z hz hp
      rw [m.beg j _ hj, hD _ (by omega)]
      exact ⟨a1, by omega, a3, a4, a5⟩
  · intro a b u v hu hv' hab hpu hpv
    rcases m.get hu with ⟨rfl, rfl⟩ | ⟨ha, hu⟩ <;> rcases m.get hv' with ⟨rfl, rfl⟩ | ⟨hb, hv'⟩
    · exact absurd rfl hab
    · exact fun e => hne b v hb hv' hpv hpu e.symm
    · exact hne a u ha hu hpu hpv
    · exact h.two a b u v hu hv' hab hpu hpv
/-- a value is taken -/
theorem TInv.taken (h : TInv q R D) (m : Mv q q' i x y) (hx : x.pc = 5) (h2 : 2 ≤ q.word (2 + x.pos.toNat)) (h9 : spL q'.N 9 = spL q.N 9 ++ [⟨begL q.N i x.seq, q'.time, q.word (2 + x.pos.toNat) - 2⟩])
    (hc : ∀ p : Nat, q'.word p = q.word p) (hy : y.pc = 0) : TInv q' (R ++ [⟨x.pos.toNat, begL q.N i x.seq, q'.time⟩]) D := by
  obtain ⟨t1, t2, t3, t4, t5⟩ := h.th i x m.hx (.inr hx)
  have hno : ∀ r ∈ R, r.p ≠ x.pos.toNat := by
    intro r hr e
    have := t5 r hr
    omega
  have hok : ∀ r ∈ R, q'.word (2 + r.p) = q.word (2 + r.p) := fun r hr => hc _
  have hdx := h.d x.pos.toNat (by omega)
  refine ⟨?_, ?_, ?_, ?_, ?_, ?_, ?_, ?_⟩
  · rw [h9, h.sp, List.map_append, sp_same hok]
    congr 1
    show [_] = [Rec.sp q' _]
    unfold Rec.sp QT.val
    dsimp only
    rw [hc]
  · rw [List.map_append, List.nodup_append]
    refine ⟨h.nd, by simp, ?_⟩
    intro a ha b hb e
    simp at hb
    obtain ⟨r, hr, rfl⟩ := List.mem_map.1 ha
    exact hno r hr (e.trans hb)
  · intro r hr
    rw [m.size, hc, hc]
    rcases List.mem_append.1 hr with hr | hr
    · exact h.ok r hr
    · simp at hr
      subst hr
      dsimp only
      have := m.time
      exact ⟨by omega, h2, by omega, t4, by omega⟩
  · intro p hp hp0 h1
    rw [m.size] at hp
    rw [hc] at hp0 h1
    rcases h.cov p hp hp0 h1 with ⟨r, hr, hrp⟩ | ⟨j, z, hz, hzp, hzq⟩
    · exact .inl ⟨r, List.mem_append_left _ hr, hrp⟩
    · by_cases hj : j = i
      · subst hj
        have e : z = x := by have := m.hx; rw [hz] at this; injection this
        subst e
        exact .inl ⟨_, List.mem_append_right _ (List.mem_singleton.2 rfl), by dsimp only; omega⟩
      · exact .inr ⟨j, z, m.other hz hj, hzp, hzq⟩
  · intro j z hz hp
    rw [m.size, hc]
    rcases m.get hz with ⟨rfl, rfl⟩ | ⟨hj, hz⟩
    · omega
    · obtain ⟨a1, a2, a3, a4, a5⟩ := h.th j z hz hp
      rw [m.beg j _ hj]
      refine ⟨a1, a2, a3, a4, fun r hr => ?_⟩
      rcases List.mem_append.1 hr with hr | hr
      · exact a5 r hr
      · simp at hr
        subst hr
        dsimp only
        have := h.two j i z x hz m.hx hj hp (.inr hx)
        omega
  · intro a b u v hu hv' hab hpu hpv
    rcases m.get hu with ⟨rfl, rfl⟩ | ⟨ha, hu⟩ <;> rcases m.get hv' with ⟨rfl, rfl⟩ | ⟨hb, hv'⟩
    · exact absurd rfl hab
    · omega
    · omega
    · exact h.two a b u v hu hv' hab hpu hpv
  · intro p hp
    rw [hc] at hp
    exact Int.le_trans (h.d p hp) m.time
  · intro p p' hpp hp
    rw [hc] at hp
    exact h.dm p p' hpp hp
end
end Go.Proofs.Ythghghoikaincaa
