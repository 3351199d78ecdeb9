/- A world's state behind an append; the walk of ghosts' change. -/
import Derived.Test.YtdgnejapofkadaaGhI
import Derived.RegionTactic
import Derived.Deep.RegionLaw
namespace Go.Proofs.Ytdgnejapofkadaa
open Go.RowKit

theorem idx_set {α : Type} {l : List α} {t i : Nat} {y z : α} (h : (l.set t y)[i]? = some z) : (i = t ∧ z = y) ∨ (i ≠ t ∧ l[i]? = some z) := by
  by_cases hi : t = i
  · subst hi
    have hl : t < l.length := by have := len_of h; simpa using this
    rw [List.getElem?_set_self hl] at h
    injection h with h
    exact .inl ⟨rfl, h.symm⟩
  · rw [List.getElem?_set_ne hi] at h
    exact .inr ⟨fun e => hi e.symm, h⟩
section
variable {w w' : World} {base gs g1 n c1 : Nat} {W : WT} {vf : Value} {xs : List RdX} {t : Nat} {x : RdX}
theorem StV.frd {vr : Value} (h : StV w base gs W vr vf xs) : w.ownsRow base 3 1 vf W.freed.length (W.freed.map (Value.int .i64)) := by
  have hr := h.own.freed; unfold OwnI at hr; exact hr
theorem StV.awy {vr : Value} (h : StV w base gs W vr vf xs) {z : RdX} (hz : z ∈ xs) : w.ownsRow base 52 3 (.slice z.A z.r.away.length z.c) z.r.away.length (z.r.away.flatMap oldC) := by
  have hr := h.own.away z hz; unfold OwnF at hr; exact hr
/-- what a thread put away has grown -/
theorem StV.grow (h : StV w base gs W (.slice (some ⟨g1, 0, none⟩) n c1) vf xs) (hx : xs[t]? = some x) {A4 : Option Addr} {c4 : Nat} {r' : RdT} (hr' : rdC ⟨r', A4, c4⟩ = (rdC x).set 4 (.slice A4 r'.away.length c4))
    (ho : OwnF w' base 52 3 oldC (.slice A4 r'.away.length c4) r'.away) (hg : w.grownBy w' (Value.slice x.A x.r.away.length x.c).ownBlock)
    (hat : (Value.slice A4 r'.away.length c4).ownBlock = (Value.slice x.A x.r.away.length x.c).ownBlock ∨ (Value.slice A4 r'.away.length c4).ownBlock = some w.heap.size) :
    StV (w'.setCell ⟨g1, t * 5 + 4, none⟩ (.slice A4 r'.away.length c4)) base gs (W.put t r') (.slice (some ⟨g1, 0, none⟩) n c1) vf (xs.set t ⟨r', A4, c4⟩) := by
  have hm := mem_of_get hx
  have hax := h.awy hm
  have hrw : w'.ownsRow base 48 5 (.slice (some ⟨g1, 0, none⟩) n c1) xs.length (xs.flatMap rdC) := own_grown h.row hg (fun g hv => own_apart h.row hax (by decide) hv)
  have hrow : OwnF w' base 48 5 rdC (.slice (some ⟨g1, 0, none⟩) n c1) xs := hrw
  refine ⟨(h.blk.grown hg (own_other hax h.blk (by decide))).far (p := ⟨g1, _, none⟩) h.ne _, ⟨?_, hrow.stored rdC_len hx (j := 4) (by decide) hr', fun z hz => ?_, ?_, own_out (own_grown h.frd hg (fun g hv => own_apart h.frd hax (by decide) hv)) hrw (by decide) _ _⟩, h.low⟩
  · rw [List.map_set, h.own.rds]; rfl
  · obtain ⟨i, hi⟩ := List.getElem?_of_mem hz
    rcases idx_set hi with ⟨_, rfl⟩ | ⟨hit, hi⟩
    · have h1 := ho; unfold OwnF at h1
      exact own_out h1 hrw (by decide) _ _
    · exact own_out (own_grown (h.awy (mem_of_get hi)) hg (fun g hv he => h.own.apart i t z x hi hx hit g hv he.symm)) hrw (by decide) _ _
  · intro i j a b ha hb hij q hq hq'
    have hlt : ∀ (k : Nat) (z : RdX), xs[k]? = some z → ∀ q, (Value.slice z.A z.r.away.length z.c).ownBlock = some q → q < w.heap.size := fun k z hz q hq => (own_lt (h.awy (mem_of_get hz)) hq).2
    rcases idx_set ha with ⟨h1, rfl⟩ | ⟨h1, ha⟩
    · rcases idx_set hb with ⟨h2, rfl⟩ | ⟨h2, hb⟩
      · omega
      · rcases hat with he | he
        · rw [he] at hq; exact h.own.apart t j x b hx hb (fun e => h2 e.symm) q hq hq'
        · rw [he] at hq; injection hq with hq; have := hlt j b hb q hq'; omega
    · rcases idx_set hb with ⟨h2, rfl⟩ | ⟨h2, hb⟩
      · rcases hat with he | he
        · rw [he] at hq'; exact h.own.apart i t a x ha hx h1 q hq hq'
        · rw [he] at hq'; injection hq' with hq'; have := hlt i a ha q hq; omega
      · exact h.own.apart i j a b ha hb hij q hq hq'
theorem StV.rowGrown (h : StV w base gs W (.slice (some ⟨g1, 0, none⟩) n c1) vf xs) (hx : xs[t]? = some x) {wA w2 : World} (hb : Below w.heap.size w wA) (hg : wA.grownBy w2 (Value.slice x.A x.r.away.length x.c).ownBlock) : OwnF w2 base 48 5 rdC (.slice (some ⟨g1, 0, none⟩) n c1) xs :=
  own_grown (h.ext hb).row hg (fun g hv => own_apart (h.ext hb).row ((h.ext hb).awy (mem_of_get hx)) (by decide) hv)
theorem keep_own {w : World} {base : Nat} {e : TypeId} {m k c l : Nat} {xs : List Value} {g : Nat} (h : w.ownsRow base e m (.slice (some ⟨g, 0, none⟩) k c) l xs) (ht : e = 48 ∨ e = 52 ∨ e = 3 ∨ e = 63) (i : Nat) (u : Value) : Keeps w (w.setCell ⟨g, i, none⟩ u) := by
  rcases h.2 with ⟨h', _⟩ | ⟨g', cap', cur, h', _, hh, _⟩
  · cases h'
  · injection h' with h1 _ _
    injection h1 with h1
    injection h1 with h1
    subst h1
    exact Keeps.set hh ht i u
/-- what a thread put away has grown: all of it -/
theorem StV.growAll (h0 : StV w base gs W (.slice (some ⟨g1, 0, none⟩) n c1) vf xs) (hx : xs[t]? = some x) {A4 : Option Addr} {c4 : Nat} {r' : RdT} {l4 : Nat} (hl4 : l4 = r'.away.length) {wA w2 : World} (hb : Below w.heap.size w wA) (hr' : rdC ⟨r', A4, c4⟩ = (rdC x).set 4 (.slice A4 l4 c4))
    (ho : OwnF w2 base 52 3 oldC (.slice A4 l4 c4) r'.away) (hg : wA.grownBy w2 (Value.slice x.A x.r.away.length x.c).ownBlock)
    (hat : (Value.slice A4 l4 c4).ownBlock = (Value.slice x.A x.r.away.length x.c).ownBlock ∨ (Value.slice A4 l4 c4).ownBlock = some wA.heap.size) :
    StV (w2.setCell ⟨g1, t * 5 + 4, none⟩ (.slice A4 l4 c4)) base gs (W.put t r') (.slice (some ⟨g1, 0, none⟩) n c1) vf (xs.set t ⟨r', A4, c4⟩) ∧
      Keeps w (w2.setCell ⟨g1, t * 5 + 4, none⟩ (.slice A4 l4 c4)) ∧ Below base w (w2.setCell ⟨g1, t * 5 + 4, none⟩ (.slice A4 l4 c4)) ∧
      Blk w2 gs 63 #[.int .i64 W.epoch, .int .i64 W.root, .int .i64 W.last, .slice (some ⟨g1, 0, none⟩) n c1, vf] := by
  subst hl4
  have h := h0.ext hb
  have hrow := h0.rowGrown hx hb hg
  have hrw := hrow; unfold OwnF at hrw
  have hbs : base ≤ w.heap.size := Nat.le_trans h0.low (Nat.le_of_lt h0.blk.lt)
  refine ⟨h.grow hx hr' ho hg hat, (Keeps.of_ext hb).trans ((Keeps.grown (h.awy (mem_of_get hx)) hg (.inr (.inl rfl))).trans (keep_own hrw (.inl rfl) _ _)), ?_, h.blk.grown hg (own_other (h.awy (mem_of_get hx)) h.blk (by decide))⟩
  refine Below.setCell (Below.grown (hb.mono hbs) hg (Nat.le_trans hbs hb.size) (fun k hk => (own_lt (h.awy (mem_of_get hx)) hk).1)) (p := ⟨g1, _, none⟩) h0.lt1.1 _
/-- a cell of the state is set -/
theorem StV.top {vr : Value} (h : StV w base gs W vr vf xs) {W' : WT} {i : Nat} {u : Value} (hq : (#[.int .i64 W.epoch, .int .i64 W.root, .int .i64 W.last, vr, vf] : Array Value).setIfInBounds i u = #[.int .i64 W'.epoch, .int .i64 W'.root, .int .i64 W'.last, vr, vf]) (h1 : W'.rds = W.rds) (h2 : W'.freed = W.freed) :
    StV (w.setCell ⟨gs, i, none⟩ u) base gs W' vr vf xs := by
  have hb := h.blk.set_ i u
  rw [hq] at hb
  have hrow : w.ownsRow base 48 5 vr xs.length (xs.flatMap rdC) := h.own.row
  refine ⟨hb, ⟨h.own.rds.trans h1.symm, own_far hrow h.blk (by decide) _ _, fun z hz => own_far (h.awy hz) h.blk (by decide) _ _, h.own.apart, ?_⟩, h.low⟩
  rw [h2]
  exact own_far h.frd h.blk (by decide) _ _
theorem StV.keepS {vr : Value} (h : StV w base gs W vr vf xs) (i : Nat) (u : Value) : Keeps w (w.setCell ⟨gs, i, none⟩ u) := Keeps.set (g := gs) h.blk (.inr (.inr (.inr rfl))) i u
/-- more is freed -/
theorem StV.more {vr vf' : Value} (h : StV w base gs W vr vf xs) {fr' : List Int} (ho : OwnI w' base 3 .i64 vf' fr') (hg : w.grownBy w' vf.ownBlock) : StV (w'.setCell ⟨gs, 4, none⟩ vf') base gs { W with freed := fr' } vr vf' xs := by
  have hrow : w.ownsRow base 48 5 vr xs.length (xs.flatMap rdC) := h.own.row
  have hb := h.blk.grown hg (own_other h.frd h.blk (by decide))
  refine ⟨hb.set_ 4 vf', ⟨h.own.rds, own_far (own_grown hrow hg (fun g hv => own_apart hrow h.frd (by decide) hv)) hb (by decide) _ _, fun z hz => own_far (own_grown (h.awy hz) hg (fun g hv => own_apart (h.awy hz) h.frd (by decide) hv)) hb (by decide) _ _, h.own.apart, ?_⟩, h.low⟩
  have h1 := ho; unfold OwnI at h1
  exact own_far h1 hb (by decide) _ _
/-- a slice of what was put away, that is none of the state's, has grown -/
theorem StV.side {vr : Value} (h : StV w base gs W vr vf xs) {B : Nat} {k l : Nat} {v : Value} {ys : List Value} (hv : w.ownsRow B 52 k v l ys) (hg : w.grownBy w' v.ownBlock) (hlow : ∀ z ∈ xs, ∀ q, (Value.slice z.A z.r.away.length z.c).ownBlock = some q → q < B) : StV w' base gs W vr vf xs := by
  have hrow : w.ownsRow base 48 5 vr xs.length (xs.flatMap rdC) := h.own.row
  refine ⟨h.blk.grown hg (own_other hv h.blk (by decide)), ⟨h.own.rds, own_grown hrow hg (fun g h1 => own_apart hrow hv (by decide) h1), fun z hz => own_grown (h.awy hz) hg (fun g h1 he => ?_), h.own.apart, own_grown h.frd hg (fun g h1 => own_apart h.frd hv (by decide) h1)⟩, h.low⟩
  have := hlow z hz g h1
  have := (own_lt hv he.symm).1
  omega
/-- what a thread put away is another slice, of new memory -/
theorem StV.left (h : StV w base gs W (.slice (some ⟨g1, 0, none⟩) n c1) vf xs) (hx : xs[t]? = some x) {A4 : Option Addr} {c4 B : Nat} {r' : RdT} (hr' : rdC ⟨r', A4, c4⟩ = (rdC x).set 4 (.slice A4 r'.away.length c4))
    (ho : OwnF w B 52 3 oldC (.slice A4 r'.away.length c4) r'.away) (hB : base ≤ B) (hlow : ∀ z ∈ xs, ∀ q, (Value.slice z.A z.r.away.length z.c).ownBlock = some q → q < B) :
    StV (w.setCell ⟨g1, t * 5 + 4, none⟩ (.slice A4 r'.away.length c4)) base gs (W.put t r') (.slice (some ⟨g1, 0, none⟩) n c1) vf (xs.set t ⟨r', A4, c4⟩) := by
  have h1 := ho.weak hB; unfold OwnF at h1
  have h2 := ho; unfold OwnF at h2
  refine ⟨h.blk.far (p := ⟨g1, _, none⟩) h.ne _, ⟨?_, h.own.row.stored rdC_len hx (j := 4) (by decide) hr', fun z hz => ?_, ?_, own_out h.frd h.row (by decide) _ _⟩, h.low⟩
  · rw [List.map_set, h.own.rds]; rfl
  · rcases mem_set hz with rfl | hz
    · exact own_out h1 h.row (by decide) _ _
    · exact own_out (h.awy hz) h.row (by decide) _ _
  · intro i j a b ha hb hij q hq hq'
    rcases idx_set ha with ⟨h3, rfl⟩ | ⟨h3, ha⟩
    · rcases idx_set hb with ⟨h4, rfl⟩ | ⟨h4, hb⟩
      · omega
      · have := (own_lt h2 hq).1; have := hlow b (mem_of_get hb) q hq'; omega
    · rcases idx_set hb with ⟨h4, rfl⟩ | ⟨h4, hb⟩
      · have := (own_lt h2 hq').1; have := hlow a (mem_of_get ha) q hq; omega
      · exact h.own.apart i j a b ha hb hij q hq hq'
end
end Go.Proofs.Ytdgnejapofkadaa
