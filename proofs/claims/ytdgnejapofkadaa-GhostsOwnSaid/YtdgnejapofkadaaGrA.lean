/- The reference's world in memory: the words of ghosts' world, at the reference's types. -/
import Derived.Test.YtdgnejapofkadaaGhM
namespace Go.Proofs.Ytdgnejapofkadaa.Ref
open Go.RowKit

def oldC (o : OldT) : List Value := [.int .i64 o.node, .int .i64 o.stamp]
theorem oldC_len (o : OldT) : (oldC o).length = 2 := rfl
theorem oldC_one (o : OldT) : ∀ u ∈ oldC o, u.oneCell' = true := by intro u hu; simp [oldC] at hu; rcases hu with rfl | rfl <;> rfl
theorem info_old : (Try.prog.info? 58).map (fun i => (i.zero, i.size, i.bytes)) = some (some (.agg #[.int .i64 0, .int .i64 0]), 2, 16) := by kernel_rfl
theorem info_rd : (Try.prog.info? 35).map (fun i => (i.zero, i.size, i.bytes)) = some (some (.agg #[.int .i64 0, .int .i64 0, .int .i64 0, .int .i64 0, .slice none 0 0]), 5, 56) := by kernel_rfl
/-- a world that lies in memory, and reads so -/
structure WV (w : World) (W : WT) (A B : Option Addr) (xs : List RdX) : Prop where
  rds : xs.map (·.r) = W.rds
  row : RdF w rdC A xs
  away : ∀ x ∈ xs, RdF w oldC x.A x.r.away
  freed : RdI w .i64 B W.freed
theorem WV.below {w w' : World} {W : WT} {A B : Option Addr} {xs : List RdX} (h : WV w W A B xs) (hb : Below w.heap.size w w') : WV w' W A B xs :=
  ⟨h.rds, h.row.below hb, fun x hx => (h.away x hx).below hb, h.freed.below hb⟩
/-- the call owns a world: the values of its slices, its threads -/
structure WO (w : World) (base : Nat) (W : WT) (vr vf : Value) (xs : List RdX) : Prop where
  rds : xs.map (·.r) = W.rds
  row : OwnF w base 35 5 rdC vr xs
  away : ∀ x ∈ xs, OwnF w base 58 2 oldC (.slice x.A x.r.away.length x.c) x.r.away
  apart : Apart xs
  freed : OwnI w base 3 .i64 vf W.freed
theorem WO.ext {w w' : World} {base : Nat} {W : WT} {vr vf : Value} {xs : List RdX} (h : WO w base W vr vf xs) (hb : Below w.heap.size w w') : WO w' base W vr vf xs :=
  ⟨h.rds, h.row.extW hb, fun x hx => (h.away x hx).extW hb, h.apart, OwnI.extW h.freed hb⟩
theorem WO.rd {w : World} {base : Nat} {W : WT} {vr vf : Value} {xs : List RdX} (h : WO w base W vr vf xs) : ∃ A c B d, vr = .slice A xs.length c ∧ vf = .slice B W.freed.length d ∧ WV w W A B xs := by
  obtain ⟨A, c, rfl, hr⟩ := h.row.rd
  obtain ⟨B, d, rfl, hf⟩ := h.freed.rd
  exact ⟨A, c, B, d, rfl, rfl, h.rds, hr, fun x hx => (h.away x hx).rdF.2, hf⟩
/-- blocks of types that are no part of a world's memory are as they were -/
def Keeps (w w' : World) : Prop := ∀ (b : Nat) (xs : Array Value) (t : TypeId) (fr : Nat × Nat), w.heap[b]? = some (.cells xs t fr) → t ≠ 35 → t ≠ 58 → t ≠ 3 → t ≠ 32 → w'.heap[b]? = some (.cells xs t fr)
theorem Keeps.refl (w : World) : Keeps w w := fun _ _ _ _ h _ _ _ _ => h
theorem Keeps.trans {a b c : World} (h : Keeps a b) (k : Keeps b c) : Keeps a c := fun x xs t fr h0 h1 h2 h3 h4 => k x xs t fr (h x xs t fr h0 h1 h2 h3 h4) h1 h2 h3 h4
theorem Keeps.of_ext {w w' : World} (hb : Below w.heap.size w w') : Keeps w w' := fun b _ _ _ h _ _ _ _ => (hb.block b (Blk.lt' h)).trans h
theorem Keeps.blk {w w' : World} {b : Nat} {xs : Array Value} {t : TypeId} (h : Keeps w w') (hb : Blk w b t xs) (h1 : t ≠ 35) (h2 : t ≠ 58) (h3 : t ≠ 3) (h4 : t ≠ 32) : Blk w' b t xs := h b xs t (0, 0) hb h1 h2 h3 h4
/-- a store into a block of one of those types -/
theorem Keeps.set {w : World} {g : Nat} {ys : Array Value} {t : TypeId} {fr : Nat × Nat} (hg : w.heap[g]? = some (.cells ys t fr)) (ht : t = 35 ∨ t = 58 ∨ t = 3 ∨ t = 32) (i : Nat) (u : Value) : Keeps w (w.setCell ⟨g, i, none⟩ u) := by
  intro b xs t' fr' hb h1 h2 h3 h4
  rw [Below.heap_setCell _ _ _ _ ?_]
  · exact hb
  · rintro rfl
    rw [hg] at hb
    injection hb with hb
    injection hb with _ he
    rcases ht with h | h | h | h
    · exact h1 (he.symm.trans h)
    · exact h2 (he.symm.trans h)
    · exact h3 (he.symm.trans h)
    · exact h4 (he.symm.trans h)
theorem Keeps.grown {w w' : World} {base : Nat} {e : TypeId} {m n : Nat} {v : Value} {xs : List Value} (h : w.ownsRow base e m v n xs) (hg : w.grownBy w' v.ownBlock) (he : e = 35 ∨ e = 58 ∨ e = 3 ∨ e = 32) : Keeps w w' := by
  intro b ys t fr hb h1 h2 h3 h4
  rw [hg.block b (Blk.lt' hb) (own_other' h hb ?_)]
  · exact hb
  · rintro rfl
    rcases he with h | h | h | h
    · exact h1 h
    · exact h2 h
    · exact h3 h
    · exact h4 h
/-- a world's state in memory: block g -/
structure StV (w : World) (base g : Nat) (W : WT) (vr vf : Value) (xs : List RdX) : Prop where
  blk : Blk w g 32 #[.int .i64 W.epoch, .int .i64 W.root, .int .i64 W.last, vr, vf]
  own : WO w base W vr vf xs
  low : base ≤ g
theorem StV.ext {w w' : World} {base g : Nat} {W : WT} {vr vf : Value} {xs : List RdX} (h : StV w base g W vr vf xs) (hb : Below w.heap.size w w') : StV w' base g W vr vf xs := ⟨h.blk.extW hb, h.own.ext hb, h.low⟩
section
variable {w : World} {base gs g1 n c1 : Nat} {W : WT} {vf : Value} {xs : List RdX} {t : Nat} {x : RdX}
theorem StV.ne (h : StV w base gs W (.slice (some ⟨g1, 0, none⟩) n c1) vf xs) : gs ≠ g1 := by
  have hr := h.own.row; unfold OwnF at hr
  exact own_ne hr h.blk (by decide)
theorem StV.row (h : StV w base gs W (.slice (some ⟨g1, 0, none⟩) n c1) vf xs) : w.ownsRow base 35 5 (.slice (some ⟨g1, 0, none⟩) n c1) xs.length (xs.flatMap rdC) := by
  have hr := h.own.row; unfold OwnF at hr; exact hr
theorem StV.lt1 (h : StV w base gs W (.slice (some ⟨g1, 0, none⟩) n c1) vf xs) : base ≤ g1 ∧ g1 < w.heap.size := own_lt h.row rfl
theorem StV.obj (h : StV w base gs W (.slice (some ⟨g1, 0, none⟩) n c1) vf xs) : ∃ ys : Array Value, w.heap[g1]? = some (.cells ys 35 (0, 0)) := by
  rcases h.row.2 with ⟨h', _⟩ | ⟨g', cap', cur, h', _, hh, _⟩
  · cases h'
  · injection h' with h1 _ _
    injection h1 with h1
    injection h1 with h1
    exact ⟨cur, by rw [h1]; exact hh⟩
/-- a cell of a thread is set -/
theorem StV.put (h : StV w base gs W (.slice (some ⟨g1, 0, none⟩) n c1) vf xs) (hx : xs[t]? = some x) {y : RdX} {j : Nat} {u : Value} (hj : j < 5) (hy : rdC y = (rdC x).set j u) (hA : y.A = x.A) (hc : y.c = x.c) (hr : y.r.away = x.r.away) :
    StV (w.setCell ⟨g1, t * 5 + j, none⟩ u) base gs (W.put t y.r) (.slice (some ⟨g1, 0, none⟩) n c1) vf (xs.set t y) := by
  have hf := h.own.freed; unfold OwnI at hf
  have hm := mem_of_get hx
  refine ⟨h.blk.far (p := ⟨g1, _, none⟩) h.ne _, ⟨?_, h.own.row.stored rdC_len hx hj hy, fun z hz => ?_, h.own.apart.set hx ?_, own_out hf h.row (by decide) _ _⟩, h.low⟩
  · rw [List.map_set, h.own.rds]; rfl
  · have key : OwnF w base 58 2 oldC (.slice z.A z.r.away.length z.c) z.r.away := by
      rcases mem_set hz with rfl | hz
      · have h1 := h.own.away x hm
        rw [hA, hr, hc]; exact h1
      · exact h.own.away z hz
    unfold OwnF at key
    exact own_out key h.row (by decide) _ _
  · rw [hA, hc, hr]
/-- what a step of a thread leaves -/
def Acts (base gs : Nat) (W' : WT) (w : World) (e : Ending) (w' : World) : Prop := e = .returned (.tuple #[]) ∧ (∃ vr vf xs, StV w' base gs W' vr vf xs) ∧ Keeps w w' ∧ Below base w w'
theorem StV.keep1 (h : StV w base gs W (.slice (some ⟨g1, 0, none⟩) n c1) vf xs) (i : Nat) (u : Value) : Keeps w (w.setCell ⟨g1, i, none⟩ u) := by
  obtain ⟨ys, hy⟩ := h.obj
  exact Keeps.set hy (.inl rfl) i u
theorem StV.cell (h : StV w base gs W (.slice (some ⟨g1, 0, none⟩) n c1) vf xs) (hx : xs[t]? = some x) : w.cell? ⟨g1, t * 5, none⟩ = some (.int .i64 x.r.saw) ∧ w.cell? ⟨g1, t * 5 + 1, none⟩ = some (.int .i64 x.r.inn) ∧ w.cell? ⟨g1, t * 5 + 2, none⟩ = some (.int .i64 x.r.guard) ∧
    w.cell? ⟨g1, t * 5 + 3, none⟩ = some (.int .i64 x.r.holds) ∧ w.cell? ⟨g1, t * 5 + 4, none⟩ = some (.slice x.A x.r.away.length x.c) :=
  ⟨h.own.row.cells rdC_len hx (j := 0) rfl, h.own.row.cells rdC_len hx (j := 1) rfl, h.own.row.cells rdC_len hx (j := 2) rfl, h.own.row.cells rdC_len hx (j := 3) rfl, h.own.row.cells rdC_len hx (j := 4) rfl⟩
theorem StV.free1 (h : StV w base gs W (.slice (some ⟨g1, 0, none⟩) n c1) vf xs) (i : Nat) : w.frozen? ⟨g1, i, none⟩ = false := h.own.row.frozen i
/-- one cell of a thread is set -/
theorem StV.put1 (h : StV w base gs W (.slice (some ⟨g1, 0, none⟩) n c1) vf xs) (hx : xs[t]? = some x) {y : RdX} {j : Nat} {u : Value} (hj : j < 5) (hy : rdC y = (rdC x).set j u) (hA : y.A = x.A) (hc : y.c = x.c) (hr : y.r.away = x.r.away) :
    Acts base gs (W.put t y.r) w (.returned (.tuple #[])) (w.setCell ⟨g1, t * 5 + j, none⟩ u) :=
  ⟨rfl, ⟨_, _, _, h.put hx hj hy hA hc hr⟩, h.keep1 _ _, (Below.refl _ _).setCell h.lt1.1 _⟩
/-- two cells of a thread are set -/
theorem StV.put2 (h : StV w base gs W (.slice (some ⟨g1, 0, none⟩) n c1) vf xs) (hx : xs[t]? = some x) {y z : RdX} {j k : Nat} {u v : Value} (hj : j < 5) (hy : rdC y = (rdC x).set j u) (hA : y.A = x.A) (hc : y.c = x.c) (hr : y.r.away = x.r.away)
    (hk : k < 5) (hz : rdC z = (rdC y).set k v) (hA2 : z.A = y.A) (hc2 : z.c = y.c) (hr2 : z.r.away = y.r.away) :
    Acts base gs (W.put t z.r) w (.returned (.tuple #[])) ((w.setCell ⟨g1, t * 5 + j, none⟩ u).setCell ⟨g1, t * 5 + k, none⟩ v) := by
  have h1 := h.put hx hj hy hA hc hr
  have h2 := h1.put (get_set hx) hk hz hA2 hc2 hr2
  rw [put_put] at h2
  exact ⟨rfl, ⟨_, _, _, h2⟩, (h.keep1 _ _).trans (h1.keep1 _ _), ((Below.refl _ _).setCell h.lt1.1 _).setCell (p := ⟨g1, _, none⟩) h.lt1.1 _⟩
theorem StV.stay (h : StV w base gs W (.slice (some ⟨g1, 0, none⟩) n c1) vf xs) : Acts base gs W w (.returned (.tuple #[])) w := ⟨rfl, ⟨_, _, _, h⟩, Keeps.refl _, Below.refl _ _⟩
theorem StV.base_le {vr : Value} (h : StV w base gs W vr vf xs) : base ≤ w.heap.size := Nat.le_trans h.low (Nat.le_of_lt h.blk.lt)
theorem Acts.after {w1 w' : World} {e : Ending} {W' : WT} (hb : Below w.heap.size w w1) (hs : base ≤ w.heap.size) (h : Acts base gs W' w1 e w') : Acts base gs W' w e w' :=
  ⟨h.1, h.2.1, (Keeps.of_ext hb).trans h.2.2.1, (hb.mono hs).trans h.2.2.2⟩
end
section
variable {w w' : World} {base gs g1 n c1 : Nat} {W : WT} {vf : Value} {xs : List RdX} {t : Nat} {x : RdX}
theorem StV.frd {vr : Value} (h : StV w base gs W vr vf xs) : w.ownsRow base 3 1 vf W.freed.length (W.freed.map (Value.int .i64)) := by
  have hr := h.own.freed; unfold OwnI at hr; exact hr
theorem StV.awy {vr : Value} (h : StV w base gs W vr vf xs) {z : RdX} (hz : z ∈ xs) : w.ownsRow base 58 2 (.slice z.A z.r.away.length z.c) z.r.away.length (z.r.away.flatMap oldC) := by
  have hr := h.own.away z hz; unfold OwnF at hr; exact hr
/-- what a thread put away has grown -/
theorem StV.grow (h : StV w base gs W (.slice (some ⟨g1, 0, none⟩) n c1) vf xs) (hx : xs[t]? = some x) {A4 : Option Addr} {c4 : Nat} {r' : RdT} (hr' : rdC ⟨r', A4, c4⟩ = (rdC x).set 4 (.slice A4 r'.away.length c4))
    (ho : OwnF w' base 58 2 oldC (.slice A4 r'.away.length c4) r'.away) (hg : w.grownBy w' (Value.slice x.A x.r.away.length x.c).ownBlock)
    (hat : (Value.slice A4 r'.away.length c4).ownBlock = (Value.slice x.A x.r.away.length x.c).ownBlock ∨ (Value.slice A4 r'.away.length c4).ownBlock = some w.heap.size) :
    StV (w'.setCell ⟨g1, t * 5 + 4, none⟩ (.slice A4 r'.away.length c4)) base gs (W.put t r') (.slice (some ⟨g1, 0, none⟩) n c1) vf (xs.set t ⟨r', A4, c4⟩) := by
  have hm := mem_of_get hx
  have hax := h.awy hm
  have hrw : w'.ownsRow base 35 5 (.slice (some ⟨g1, 0, none⟩) n c1) xs.length (xs.flatMap rdC) := own_grown h.row hg (fun g hv => own_apart h.row hax (by decide) hv)
  have hrow : OwnF w' base 35 5 rdC (.slice (some ⟨g1, 0, none⟩) n c1) xs := hrw
  refine ⟨(h.blk.grown hg (own_other hax h.blk (by decide))).far (p := ⟨g1, _, none⟩) h.ne _, ⟨?_, hrow.stored rdC_len hx (j := 4) (by decide) hr', fun z hz => ?_, ?_, own_out (own_grown h.frd hg (fun g hv => own_apart h.frd hax (by decide) hv)) hrw (by decide) _ _⟩, h.low⟩
  · rw [List.map_set, h.own.rds]; rfl
  · obtain ⟨i, hi⟩ := List.getElem?_of_mem hz
    rcases idx_set hi with ⟨_, rfl⟩ | ⟨hit, hi⟩
    · have h1 := ho; unfold OwnF at h1
      exact own_out h1 hrw (by decide) _ _
    · exact own_out (own_grown (h.awy (mem_of_get hi)) hg (fun g hv he => h.own.apart i t z x hi hx hit g hv he.symm)) hrw (by decide) _ _
  · intro i j a b ha hb hij q hq hq'
    have hlt : ∀ (k : Nat) (z : RdX), xs[k]? = some z → ∀ q, (Value.slice z.A z.r.away.length z.c).ownBlock = some q → q < w.heap.size := fun k z hz q hq => (own_lt (h.awy (mem_of_get hz)) hq).2
    rcases idx_set ha with ⟨h1, rfl⟩ | ⟨h1, ha⟩
    · rcases idx_set hb with ⟨h2, rfl⟩ | ⟨h2, hb⟩
      · omega
      · rcases hat with he | he
        · rw [he] at hq; exact h.own.apart t j x b hx hb (fun e => h2 e.symm) q hq hq'
        · rw [he] at hq; injection hq with hq; have := hlt j b hb q hq'; omega
    · rcases idx_set hb with ⟨h2, rfl⟩ | ⟨h2, hb⟩
      · rcases hat with he | he
        · rw [he] at hq'; exact h.own.apart i t a x ha hx h1 q hq hq'
        · rw [he] at hq'; injection hq' with hq'; have := hlt i a ha q hq; omega
      · exact h.own.apart i j a b ha hb hij q hq hq'
theorem StV.rowGrown (h : StV w base gs W (.slice (some ⟨g1, 0, none⟩) n c1) vf xs) (hx : xs[t]? = some x) {wA w2 : World} (hb : Below w.heap.size w wA) (hg : wA.grownBy w2 (Value.slice x.A x.r.away.length x.c).ownBlock) : OwnF w2 base 35 5 rdC (.slice (some ⟨g1, 0, none⟩) n c1) xs :=
  own_grown (h.ext hb).row hg (fun g hv => own_apart (h.ext hb).row ((h.ext hb).awy (mem_of_get hx)) (by decide) hv)
theorem keep_own {w : World} {base : Nat} {e : TypeId} {m k c l : Nat} {xs : List Value} {g : Nat} (h : w.ownsRow base e m (.slice (some ⟨g, 0, none⟩) k c) l xs) (ht : e = 35 ∨ e = 58 ∨ e = 3 ∨ e = 32) (i : Nat) (u : Value) : Keeps w (w.setCell ⟨g, i, none⟩ u) := by
  rcases h.2 with ⟨h', _⟩ | ⟨g', cap', cur, h', _, hh, _⟩
  · cases h'
  · injection h' with h1 _ _
    injection h1 with h1
    injection h1 with h1
    subst h1
    exact Keeps.set hh ht i u
/-- what a thread put away has grown: all of it -/
theorem StV.growAll (h0 : StV w base gs W (.slice (some ⟨g1, 0, none⟩) n c1) vf xs) (hx : xs[t]? = some x) {A4 : Option Addr} {c4 : Nat} {r' : RdT} {l4 : Nat} (hl4 : l4 = r'.away.length) {wA w2 : World} (hb : Below w.heap.size w wA) (hr' : rdC ⟨r', A4, c4⟩ = (rdC x).set 4 (.slice A4 l4 c4))
    (ho : OwnF w2 base 58 2 oldC (.slice A4 l4 c4) r'.away) (hg : wA.grownBy w2 (Value.slice x.A x.r.away.length x.c).ownBlock)
    (hat : (Value.slice A4 l4 c4).ownBlock = (Value.slice x.A x.r.away.length x.c).ownBlock ∨ (Value.slice A4 l4 c4).ownBlock = some wA.heap.size) :
    StV (w2.setCell ⟨g1, t * 5 + 4, none⟩ (.slice A4 l4 c4)) base gs (W.put t r') (.slice (some ⟨g1, 0, none⟩) n c1) vf (xs.set t ⟨r', A4, c4⟩) ∧
      Keeps w (w2.setCell ⟨g1, t * 5 + 4, none⟩ (.slice A4 l4 c4)) ∧ Below base w (w2.setCell ⟨g1, t * 5 + 4, none⟩ (.slice A4 l4 c4)) ∧
      Blk w2 gs 32 #[.int .i64 W.epoch, .int .i64 W.root, .int .i64 W.last, .slice (some ⟨g1, 0, none⟩) n c1, vf] := by
  subst hl4
  have h := h0.ext hb
  have hrow := h0.rowGrown hx hb hg
  have hrw := hrow; unfold OwnF at hrw
  have hbs : base ≤ w.heap.size := Nat.le_trans h0.low (Nat.le_of_lt h0.blk.lt)
  refine ⟨h.grow hx hr' ho hg hat, (Keeps.of_ext hb).trans ((Keeps.grown (h.awy (mem_of_get hx)) hg (.inr (.inl rfl))).trans (keep_own hrw (.inl rfl) _ _)), ?_, h.blk.grown hg (own_other (h.awy (mem_of_get hx)) h.blk (by decide))⟩
  refine Below.setCell (Below.grown (hb.mono hbs) hg (Nat.le_trans hbs hb.size) (fun k hk => (own_lt (h.awy (mem_of_get hx)) hk).1)) (p := ⟨g1, _, none⟩) h0.lt1.1 _
/-- a cell of the state is set -/
theorem StV.top {vr : Value} (h : StV w base gs W vr vf xs) {W' : WT} {i : Nat} {u : Value} (hq : (#[.int .i64 W.epoch, .int .i64 W.root, .int .i64 W.last, vr, vf] : Array Value).setIfInBounds i u = #[.int .i64 W'.epoch, .int .i64 W'.root, .int .i64 W'.last, vr, vf]) (h1 : W'.rds = W.rds) (h2 : W'.freed = W.freed) :
    StV (w.setCell ⟨gs, i, none⟩ u) base gs W' vr vf xs := by
  have hb := h.blk.set_ i u
  rw [hq] at hb
  have hrow : w.ownsRow base 35 5 vr xs.length (xs.flatMap rdC) := h.own.row
  refine ⟨hb, ⟨h.own.rds.trans h1.symm, own_far hrow h.blk (by decide) _ _, fun z hz => own_far (h.awy hz) h.blk (by decide) _ _, h.own.apart, ?_⟩, h.low⟩
  rw [h2]
  exact own_far h.frd h.blk (by decide) _ _
theorem StV.keepS {vr : Value} (h : StV w base gs W vr vf xs) (i : Nat) (u : Value) : Keeps w (w.setCell ⟨gs, i, none⟩ u) := Keeps.set (g := gs) h.blk (.inr (.inr (.inr rfl))) i u
/-- more is freed -/
theorem StV.more {vr vf' : Value} (h : StV w base gs W vr vf xs) {fr' : List Int} (ho : OwnI w' base 3 .i64 vf' fr') (hg : w.grownBy w' vf.ownBlock) : StV (w'.setCell ⟨gs, 4, none⟩ vf') base gs { W with freed := fr' } vr vf' xs := by
  have hrow : w.ownsRow base 35 5 vr xs.length (xs.flatMap rdC) := h.own.row
  have hb := h.blk.grown hg (own_other h.frd h.blk (by decide))
  refine ⟨hb.set_ 4 vf', ⟨h.own.rds, own_far (own_grown hrow hg (fun g hv => own_apart hrow h.frd (by decide) hv)) hb (by decide) _ _, fun z hz => own_far (own_grown (h.awy hz) hg (fun g hv => own_apart (h.awy hz) h.frd (by decide) hv)) hb (by decide) _ _, h.own.apart, ?_⟩, h.low⟩
  have h1 := ho; unfold OwnI at h1
  exact own_far h1 hb (by decide) _ _
/-- a slice of what was put away, that is none of the state's, has grown -/
theorem StV.side {vr : Value} (h : StV w base gs W vr vf xs) {B : Nat} {k l : Nat} {v : Value} {ys : List Value} (hv : w.ownsRow B 58 k v l ys) (hg : w.grownBy w' v.ownBlock) (hlow : ∀ z ∈ xs, ∀ q, (Value.slice z.A z.r.away.length z.c).ownBlock = some q → q < B) : StV w' base gs W vr vf xs := by
  have hrow : w.ownsRow base 35 5 vr xs.length (xs.flatMap rdC) := h.own.row
  refine ⟨h.blk.grown hg (own_other hv h.blk (by decide)), ⟨h.own.rds, own_grown hrow hg (fun g h1 => own_apart hrow hv (by decide) h1), fun z hz => own_grown (h.awy hz) hg (fun g h1 he => ?_), h.own.apart, own_grown h.frd hg (fun g h1 => own_apart h.frd hv (by decide) h1)⟩, h.low⟩
  have := hlow z hz g h1
  have := (own_lt hv he.symm).1
  omega
/-- what a thread put away is another slice, of new memory -/
theorem StV.left (h : StV w base gs W (.slice (some ⟨g1, 0, none⟩) n c1) vf xs) (hx : xs[t]? = some x) {A4 : Option Addr} {c4 B : Nat} {r' : RdT} (hr' : rdC ⟨r', A4, c4⟩ = (rdC x).set 4 (.slice A4 r'.away.length c4))
    (ho : OwnF w B 58 2 oldC (.slice A4 r'.away.length c4) r'.away) (hB : base ≤ B) (hlow : ∀ z ∈ xs, ∀ q, (Value.slice z.A z.r.away.length z.c).ownBlock = some q → q < B) :
    StV (w.setCell ⟨g1, t * 5 + 4, none⟩ (.slice A4 r'.away.length c4)) base gs (W.put t r') (.slice (some ⟨g1, 0, none⟩) n c1) vf (xs.set t ⟨r', A4, c4⟩) := by
  have h1 := ho.weak hB; unfold OwnF at h1
  have h2 := ho; unfold OwnF at h2
  refine ⟨h.blk.far (p := ⟨g1, _, none⟩) h.ne _, ⟨?_, h.own.row.stored rdC_len hx (j := 4) (by decide) hr', fun z hz => ?_, ?_, own_out h.frd h.row (by decide) _ _⟩, h.low⟩
  · rw [List.map_set, h.own.rds]; rfl
  · rcases mem_set hz with rfl | hz
    · exact own_out h1 h.row (by decide) _ _
    · exact own_out (h.awy hz) h.row (by decide) _ _
  · intro i j a b ha hb hij q hq hq'
    rcases idx_set ha with ⟨h3, rfl⟩ | ⟨h3, ha⟩
    · rcases idx_set hb with ⟨h4, rfl⟩ | ⟨h4, hb⟩
      · omega
      · have := (own_lt h2 hq).1; have := hlow b (mem_of_get hb) q hq'; omega
    · rcases idx_set hb with ⟨h4, rfl⟩ | ⟨h4, hb⟩
      · have := (own_lt h2 hq').1; have := hlow a (mem_of_get ha) q hq; omega
      · exact h.own.apart i j a b ha hb hij q hq hq'
end
/-- free, on its way: k nodes done -/
structure FrV (w wr : World) (base gs : Nat) (W : WT) (vr vf v : Value) (xs : List RdX) (p : OldT → Bool) (l : List OldT) (k : Nat) (L : List OldT) (fr : List Int) : Prop where
  st : StV wr base gs { W with freed := fr } vr vf xs
  left : OwnF wr w.heap.size 58 2 oldC v L
  ll : L = (l.take k).filter fun o => !p o
  lf : fr = W.freed ++ ((l.take k).filter p).map (·.node)
  keep : Keeps w wr
  old : Below base w wr
section
variable {w wr w1 W4 : World} {base gs : Nat} {W : WT} {vr vf v v4 : Value} {xs : List RdX} {p : OldT → Bool} {l : List OldT} {k : Nat} {L : List OldT} {fr : List Int} {o : OldT}
theorem FrV.ext (h : FrV w wr base gs W vr vf v xs p l k L fr) (hb : Below wr.heap.size wr w1) : FrV w w1 base gs W vr vf v xs p l k L fr :=
  ⟨h.st.ext hb, h.left.extW hb, h.ll, h.lf, h.keep.trans (Keeps.of_ext hb), h.old.trans (hb.mono h.st.base_le)⟩
theorem FrV.freed (h : FrV w w1 base gs W vr vf v xs p l k L fr) (ho : l[k]? = some o) (hp : p o = true) (hn : OwnI W4 base 3 .i64 v4 (fr ++ [o.node])) (hg : w1.grownBy W4 vf.ownBlock) :
    FrV w (W4.setCell ⟨gs, 4, none⟩ v4) base gs W vr v4 v xs p l (k + 1) L (fr ++ [o.node]) := by
  have hL := h.left; unfold OwnF at hL
  have hb := h.st.blk.grown hg (own_other h.st.frd h.st.blk (by decide))
  refine ⟨h.st.more hn hg, own_far (own_grown hL hg (fun g hv => own_apart hL h.st.frd (by decide) hv)) hb (by decide) _ _, ?_, ?_, ?_, ?_⟩
  · rw [take_of ho, filter_skip _ _ _ (by simp [hp])]; exact h.ll
  · rw [take_of ho, filter_snoc _ _ _ hp, List.map_append, ← List.append_assoc, ← h.lf]; rfl
  · exact h.keep.trans ((Keeps.grown h.st.frd hg (.inr (.inr (.inl rfl)))).trans (Keeps.set (g := gs) hb (.inr (.inr (.inr rfl))) _ _))
  · exact (Below.grown h.old hg h.st.base_le (fun q hq => (own_lt h.st.frd hq).1)).setCell (p := ⟨gs, 4, none⟩) h.st.low _
theorem FrV.stays (h : FrV w w1 base gs W vr vf v xs p l k L fr) (ho : l[k]? = some o) (hp : p o = false) (hlow : ∀ z ∈ xs, ∀ q, (Value.slice z.A z.r.away.length z.c).ownBlock = some q → q < w.heap.size) (hw : base ≤ w.heap.size)
    (hn : OwnF W4 w.heap.size 58 2 oldC v4 (L ++ [o])) (hg : w1.grownBy W4 v.ownBlock) : FrV w W4 base gs W vr vf v4 xs p l (k + 1) (L ++ [o]) fr := by
  have hL := h.left; unfold OwnF at hL
  refine ⟨h.st.side hL hg hlow, hn, ?_, ?_, h.keep.trans (Keeps.grown hL hg (.inr (.inl rfl))), Below.grown h.old hg h.st.base_le (fun q hq => Nat.le_trans hw (own_lt hL hq).1)⟩
  · rw [take_of ho, filter_snoc _ _ _ (by simp [hp]), ← h.ll]
  · rw [take_of ho, filter_skip _ _ _ hp]; exact h.lf
theorem FrV.grownBlk (h : FrV w w1 base gs W vr vf v xs p l k L fr) {wA : World} (hb : Below w1.heap.size w1 wA) (hg : wA.grownBy W4 vf.ownBlock) : Blk W4 gs 32 #[.int .i64 W.epoch, .int .i64 W.root, .int .i64 W.last, vr, vf] :=
  (h.st.ext hb).blk.grown hg (own_other (h.st.ext hb).frd (h.st.ext hb).blk (by decide))
end
end Go.Proofs.Ytdgnejapofkadaa.Ref
