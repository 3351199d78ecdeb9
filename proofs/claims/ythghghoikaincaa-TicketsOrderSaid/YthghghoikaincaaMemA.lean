/- Package mem: a row of words in memory, in plain words; the walks of New, made, count. -/
import Derived.Test.YthghghoikaincaaLists
namespace Go.Proofs.Ythghghoikaincaa
open Go.RowKit

theorem info_int : (Try.prog.info? 3).map (fun i => (i.zero, i.size, i.bytes)) = some (some (.int .i64 0), 1, 8) := by kernel_rfl
theorem info_u64 : (Try.prog.info? 67).map (fun i => (i.zero, i.size, i.bytes)) = some (some (.int .u64 0), 1, 8) := by kernel_rfl

/-- an access -/
structure Acc where
  (th ki ad wa ol nw : Int)
  ok : Bool
def accC (a : Acc) : List Value := [.int .i64 a.th, .int .i64 a.ki, .int .i64 a.ad, .int .u64 a.wa, .int .u64 a.ol, .int .u64 a.nw, .bool a.ok]
theorem accC_len (a : Acc) : (accC a).length = 7 := rfl
theorem accC_one (a : Acc) : ∀ u ∈ accC a, u.oneCell' = true := by intro u hu; simp [accC] at hu; rcases hu with rfl | rfl | rfl | rfl | rfl | rfl | rfl <;> rfl
theorem info_acc : (Try.prog.info? 83).map (fun i => (i.zero, i.size, i.bytes)) = some (some (.agg #[.int .i64 0, .int .i64 0, .int .i64 0, .int .u64 0, .int .u64 0, .int .u64 0, .bool false]), 7, 56) := by kernel_rfl

/-! ### an owned slice, over memory that turns elsewhere -/
theorem own_far {w : World} {base : Nat} {e t : TypeId} {m n : Nat} {v : Value} {xs : List Value} {g : Nat} {ys : Array Value} (h : w.ownsRow base e m v n xs) (hg : Blk w g t ys) (hne : e ≠ t) (i : Nat) (u : Value) :
    (w.setCell ⟨g, i, none⟩ u).ownsRow base e m v n xs := by
  obtain ⟨h1, h2⟩ := h
  refine ⟨h1, ?_⟩
  rcases h2 with h2 | ⟨g', cap, cur, hv, hb, hh, r⟩
  · exact Or.inl h2
  · refine Or.inr ⟨g', cap, cur, hv, hb, ?_, r⟩
    rw [Below.heap_setCell _ _ _ _ ?_]
    · exact hh
    · rintro rfl
      unfold Blk at hg
      rw [hh] at hg
      injection hg with hg
      injection hg with _ ht
      exact hne ht
/-- a store into a block from B on leaves an owned row below B as it was -/
theorem own_new {w : World} {base : Nat} {e : TypeId} {m n : Nat} {v : Value} {xs : List Value} (h : w.ownsRow base e m v n xs) {p : Addr} (hp : ∀ g, v.ownBlock = some g → g ≠ p.block) (u : Value) : (w.setCell p u).ownsRow base e m v n xs := by
  obtain ⟨h1, h2⟩ := h
  refine ⟨h1, ?_⟩
  rcases h2 with h2 | ⟨g', cap, cur, hv, hb, hh, r⟩
  · exact Or.inl h2
  · refine Or.inr ⟨g', cap, cur, hv, hb, ?_, r⟩
    rw [Below.heap_setCell _ _ _ _ (hp g' (by rw [hv]; rfl))]
    exact hh
/-- what another slice's growth leaves -/
theorem own_grown {w w' : World} {base : Nat} {e : TypeId} {m n : Nat} {v : Value} {xs : List Value} {row : Option Nat} (h : w.ownsRow base e m v n xs) (hg : w.grownBy w' row) (hr : ∀ g, v.ownBlock = some g → some g ≠ row) : w'.ownsRow base e m v n xs := by
  obtain ⟨h1, h2⟩ := h
  refine ⟨h1, ?_⟩
  rcases h2 with h2 | ⟨g', cap, cur, hv, hb, hh, r⟩
  · exact Or.inl h2
  · refine Or.inr ⟨g', cap, cur, hv, hb, ?_, r⟩
    rw [hg.block g' (Blk.lt hh) (hr g' (by rw [hv]; rfl))]
    exact hh
/-- two owned rows of unlike element types lie in unlike blocks -/
theorem own_apart {w : World} {base base' : Nat} {e e' : TypeId} {m m' n n' : Nat} {v v' : Value} {xs xs' : List Value} (h : w.ownsRow base e m v n xs) (h' : w.ownsRow base' e' m' v' n' xs') (hne : e ≠ e') {g : Nat} (hv : v.ownBlock = some g) : some g ≠ v'.ownBlock := by
  rcases h.2 with ⟨rfl, _⟩ | ⟨g1, cap1, cur1, rfl, _, hh1, _⟩
  · simp [Value.ownBlock] at hv
  · have hg : g1 = g := by simpa [Value.ownBlock] using hv
    subst hg
    rcases h'.2 with ⟨rfl, _⟩ | ⟨g2, cap2, cur2, rfl, _, hh2, _⟩
    · simp [Value.ownBlock]
    · intro he
      have : g1 = g2 := by simpa [Value.ownBlock] using he
      subst this
      rw [hh1] at hh2
      injection hh2 with hh2
      injection hh2 with _ ht
      exact hne ht
theorem own_lt {w : World} {base : Nat} {e : TypeId} {m n : Nat} {v : Value} {xs : List Value} (h : w.ownsRow base e m v n xs) {g : Nat} (hv : v.ownBlock = some g) : base ≤ g ∧ g < w.heap.size := by
  rcases h.2 with ⟨rfl, _⟩ | ⟨g1, cap1, cur1, rfl, hb, hh1, _⟩
  · simp [Value.ownBlock] at hv
  · have hg : g1 = g := by simpa [Value.ownBlock] using hv
    subst hg
    exact ⟨hb, Blk.lt hh1⟩
theorem own_other {w : World} {base : Nat} {e t : TypeId} {m n : Nat} {v : Value} {xs : List Value} {g : Nat} {ys : Array Value} (h : w.ownsRow base e m v n xs) (hg : Blk w g t ys) (hne : e ≠ t) : some g ≠ v.ownBlock := by
  rcases h.2 with ⟨rfl, _⟩ | ⟨g1, cap1, cur1, rfl, hb, hh1, _⟩
  · simp [Value.ownBlock]
  · intro he
    have hg' : g = g1 := by simpa [Value.ownBlock] using he
    subst hg'
    unfold Blk at hg
    rw [hh1] at hg
    injection hg with hg
    injection hg with _ ht
    exact hne ht

theorem Blk.lt' {w : World} {g : Nat} {xs : Array Value} {t : TypeId} {fr : Nat × Nat} (h : w.heap[g]? = some (.cells xs t fr)) : g < w.heap.size := by
  rcases Nat.lt_or_ge g w.heap.size with h1 | h1
  · exact h1
  · rw [Array.getElem?_eq_none h1] at h; cases h
theorem own_other' {w : World} {base : Nat} {e t : TypeId} {m n : Nat} {v : Value} {xs : List Value} {g : Nat} {ys : Array Value} {fr : Nat × Nat} (h : w.ownsRow base e m v n xs) (hg : w.heap[g]? = some (.cells ys t fr)) (hne : e ≠ t) : some g ≠ v.ownBlock := by
  rcases h.2 with ⟨rfl, _⟩ | ⟨g1, cap1, cur1, rfl, hb, hh1, _⟩
  · simp [Value.ownBlock]
  · intro he
    have hg' : g = g1 := by simpa [Value.ownBlock] using he
    subst hg'
    rw [hh1] at hg
    injection hg with hg
    injection hg with _ ht
    exact hne ht

/-- a row of words at block g: its words, what was noted, its counts, whether it notes; with the slices' own values -/
structure MemV (w : World) (base g : Nat) (vl vg vc : Value) (L : List Int) (G : List Acc) (C : List Int) (kp : Bool) : Prop where
  blk : Blk w g 71 #[vl, vg, vc, .bool kp]
  words : OwnI w base 67 .u64 vl L
  log : OwnF w base 83 7 accC vg G
  counts : OwnI w base 3 .i64 vc C
  low : base ≤ g
def MemAt (w : World) (base g : Nat) (L : List Int) (G : List Acc) (C : List Int) (kp : Bool) : Prop := ∃ vl vg vc, MemV w base g vl vg vc L G C kp

section
variable {w w' : World} {base g : Nat} {vl vg vc : Value} {L : List Int} {G : List Acc} {C : List Int} {kp : Bool}
theorem MemV.extW (h : MemV w base g vl vg vc L G C kp) (hb : Below w.heap.size w w') : MemV w' base g vl vg vc L G C kp :=
  ⟨h.blk.extW hb, h.words.extW hb, h.log.extW hb, OwnI.extW h.counts hb, h.low⟩
theorem MemAt.extW (h : MemAt w base g L G C kp) (hb : Below w.heap.size w w') : MemAt w' base g L G C kp := by
  obtain ⟨vl, vg, vc, h⟩ := h
  exact ⟨vl, vg, vc, h.extW hb⟩
theorem MemV.alloc (h : MemV w base g vl vg vc L G C kp) (o : Obj) : MemV (w.alloc o) base g vl vg vc L G C kp := h.extW ((selfW w).alloc (Nat.le_refl _) o)
theorem MemV.drew (h : MemV w base g vl vg vc L G C kp) (q : Nat) : MemV (w.drewN q) base g vl vg vc L G C kp := h.extW (below_drewN (selfW w) q)
/-- what a call leaves: all blocks but those of the row -/
def Rest (w w' : World) (g : Nat) (vl vg vc : Value) : Prop :=
  ∀ b, b < w.heap.size → b ≠ g → vl.ownBlock ≠ some b → vg.ownBlock ≠ some b → vc.ownBlock ≠ some b → w'.heap[b]? = w.heap[b]?
theorem Rest.refl (w : World) (g : Nat) (vl vg vc : Value) : Rest w w g vl vg vc := fun _ _ _ _ _ _ => rfl
theorem Rest.of_ext (g : Nat) (vl vg vc : Value) (hb : Below w.heap.size w w') : Rest w w' g vl vg vc := fun b h _ _ _ _ => hb.block b h
theorem Rest.blk {t : TypeId} {xs : Array Value} {b : Nat} (h : Rest w w' g vl vg vc) (hb : Blk w b t xs) (h0 : b ≠ g) (h1 : vl.ownBlock ≠ some b) (h2 : vg.ownBlock ≠ some b) (h3 : vc.ownBlock ≠ some b) : Blk w' b t xs :=
  (h b hb.lt h0 h1 h2 h3).trans hb
/-- a block from top on is none of the row's, where that lies below -/
def MemLow (g top : Nat) (vl vg vc : Value) : Prop := g < top ∧ (∀ b, vl.ownBlock = some b → b < top) ∧ (∀ b, vg.ownBlock = some b → b < top) ∧ ∀ b, vc.ownBlock = some b → b < top
theorem MemV.lows (h : MemV w base g vl vg vc L G C kp) : MemLow g w.heap.size vl vg vc :=
  ⟨h.blk.lt, fun _ hb => (own_lt h.words hb).2, fun _ hb => (own_lt h.log hb).2, fun _ hb => (own_lt h.counts hb).2⟩
theorem MemV.free {t : TypeId} {xs : Array Value} {b : Nat} (hr : Rest w w' g vl vg vc) {top : Nat} (hl : MemLow g top vl vg vc) (hb : Blk w b t xs) (ht : top ≤ b) : Blk w' b t xs := by
  obtain ⟨h0, h1, h2, h3⟩ := hl
  exact hr.blk hb (by omega) (fun h => by have := h1 b h; omega) (fun h => by have := h2 b h; omega) (fun h => by have := h3 b h; omega)
/-- a store into a block that is none of the row's -/
theorem MemV.far (h : MemV w base g vl vg vc L G C kp) {p : Addr} {top : Nat} (hl : MemLow g top vl vg vc) (hp : top ≤ p.block) (u : Value) : MemV (w.setCell p u) base g vl vg vc L G C kp := by
  obtain ⟨h0, h1, h2, h3⟩ := hl
  exact ⟨h.blk.far (by omega) u, own_new h.words (fun b hb => by have := h1 b hb; omega) u, own_new h.log (fun b hb => by have := h2 b hb; omega) u, own_new h.counts (fun b hb => by have := h3 b hb; omega) u, h.low⟩
/-- a word is set -/
theorem MemV.store {gl cl nl : Nat} (h : MemV w base g (.slice (some ⟨gl, 0, none⟩) nl cl) vg vc L G C kp) (i : Nat) (z : Int) :
    MemV (w.setCell ⟨gl, i, none⟩ (.int .u64 z)) base g (.slice (some ⟨gl, 0, none⟩) nl cl) vg vc (L.set i z) G C kp := by
  have hgl : (Value.slice (some ⟨gl, 0, none⟩) nl cl).ownBlock = some gl := rfl
  refine ⟨h.blk.far ?_ _, h.words.stored i z, own_new h.log (fun g' hg' he => ?_) _, own_new h.counts (fun g' hg' he => ?_) _, h.low⟩
  · intro he
    exact own_other h.words h.blk (by decide) (by rw [hgl]; exact congrArg some he)
  · exact own_apart h.log h.words (by decide) hg' (by rw [hgl]; exact congrArg some he)
  · exact own_apart h.counts h.words (by decide) hg' (by rw [hgl]; exact congrArg some he)
theorem MemV.form (h : MemV w base g vl vg vc L G C kp) (hne : L ≠ []) : ∃ gl cl, vl = .slice (some ⟨gl, 0, none⟩) L.length cl ∧ base ≤ gl ∧ gl < w.heap.size := h.words.form hne
/-- the counts grow -/
theorem MemV.count_more {vc' : Value} {C' : List Int} (h : MemV w base g vl vg vc L G C kp) (ho : OwnI w' base 3 .i64 vc' C') (hg : w.grownBy w' vc.ownBlock) : MemV (w'.setCell ⟨g, 2, none⟩ vc') base g vl vg vc' L G C' kp := by
  have hb : Blk w' g 71 #[vl, vg, vc, .bool kp] := h.blk.grown hg (own_other h.counts h.blk (by decide))
  have hw : OwnI w' base 67 .u64 vl L := own_grown h.words hg (fun b hb => own_apart h.words h.counts (by decide) hb)
  have hl : OwnF w' base 83 7 accC vg G := own_grown h.log hg (fun b hb => own_apart h.log h.counts (by decide) hb)
  exact ⟨Blk.set_ hb 2 vc', own_far hw hb (by decide) _ _, own_far hl hb (by decide) _ _, own_far ho hb (by decide) _ _, h.low⟩
theorem MemV.log_more {vg' : Value} {G' : List Acc} (h : MemV w base g vl vg vc L G C kp) (ho : OwnF w' base 83 7 accC vg' G') (hg : w.grownBy w' vg.ownBlock) : MemV (w'.setCell ⟨g, 1, none⟩ vg') base g vl vg' vc L G' C kp := by
  have hb : Blk w' g 71 #[vl, vg, vc, .bool kp] := h.blk.grown hg (own_other h.log h.blk (by decide))
  have hw : OwnI w' base 67 .u64 vl L := own_grown h.words hg (fun b hb => own_apart h.words h.log (by decide) hb)
  have hc : OwnI w' base 3 .i64 vc C := own_grown h.counts hg (fun b hb => own_apart h.counts h.log (by decide) hb)
  exact ⟨Blk.set_ hb 1 vg', own_far hw hb (by decide) _ _, own_far ho hb (by decide) _ _, own_far hc hb (by decide) _ _, h.low⟩
end

section
variable {w w1 w2 : World} {g : Nat} {vl vg vc vg' vc' : Value}
theorem Rest.set_new (h : Rest w w1 g vl vg vc) {p : Addr} (hp : w.heap.size ≤ p.block) (u : Value) : Rest w (w1.setCell p u) g vl vg vc := fun b hb h0 h1 h2 h3 => by
  rw [Below.heap_setCell _ _ _ _ (by omega)]; exact h b hb h0 h1 h2 h3
theorem Rest.set_row (h : Rest w w1 g vl vg vc) {i : Nat} (u : Value) : Rest w (w1.setCell ⟨g, i, none⟩ u) g vl vg vc := fun b hb h0 h1 h2 h3 => by
  rw [Below.heap_setCell _ _ _ _ h0]; exact h b hb h0 h1 h2 h3
theorem Rest.set_words (h : Rest w w1 g vl vg vc) {p : Addr} (hp : vl.ownBlock = some p.block) (u : Value) : Rest w (w1.setCell p u) g vl vg vc := fun b hb h0 h1 h2 h3 => by
  rw [Below.heap_setCell _ _ _ _ (fun he => h1 (by rw [hp, he]))]; exact h b hb h0 h1 h2 h3
theorem Rest.drew (h : Rest w w1 g vl vg vc) (q : Nat) : Rest w (w1.drewN q) g vl vg vc := h
theorem Rest.alloc (h : Rest w w1 g vl vg vc) (hs : w.heap.size ≤ w1.heap.size) (o : Obj) : Rest w (w1.alloc o) g vl vg vc := fun b hb h0 h1 h2 h3 => by
  rw [Below.heap_alloc _ _ _ (by omega)]; exact h b hb h0 h1 h2 h3
theorem Rest.trans (h : Rest w w1 g vl vg vc) (hs : w.heap.size ≤ w1.heap.size) (k : Rest w1 w2 g vl vg' vc') (hg : ∀ b, vg'.ownBlock = some b → vg.ownBlock = some b ∨ w.heap.size ≤ b) (hc : ∀ b, vc'.ownBlock = some b → vc.ownBlock = some b ∨ w.heap.size ≤ b) : Rest w w2 g vl vg vc := fun b hb h0 h1 h2 h3 => by
  refine (k b (by omega) h0 h1 (fun he => ?_) (fun he => ?_)).trans (h b hb h0 h1 h2 h3)
  · rcases hg b he with h | h
    · exact h2 h
    · omega
  · rcases hc b he with h | h
    · exact h3 h
    · omega
/-- what the log's growth leaves -/
theorem Rest.grown (h : Rest w w1 g vl vg vc) (hs : w.heap.size ≤ w1.heap.size) (hg : w1.grownBy w2 vg'.ownBlock) (hv : ∀ b, vg'.ownBlock = some b → vg.ownBlock = some b ∨ w.heap.size ≤ b) : Rest w w2 g vl vg vc := fun b hb h0 h1 h2 h3 => by
  rw [hg.block b (by omega) (fun he => ?_)]
  · exact h b hb h0 h1 h2 h3
  · rcases hv b he.symm with h | h
    · exact h2 h
    · omega
end
/-- the same world; a name for it -/
def Same (a b : World) : Prop := a = b
theorem Same.to {a b : World} (h : Same a b) {Q : World → Prop} (q : Q a) : Q b := by unfold Same at h; exact h ▸ q
/-- seven cells are set, one behind the other -/
def set7 (w : World) (g : Nat) (u0 u1 u2 u3 u4 u5 u6 : Value) : World :=
  ((((((w.setCell ⟨g, 0, none⟩ u0).setCell ⟨g, 1, none⟩ u1).setCell ⟨g, 2, none⟩ u2).setCell ⟨g, 3, none⟩ u3).setCell ⟨g, 4, none⟩ u4).setCell ⟨g, 5, none⟩ u5).setCell ⟨g, 6, none⟩ u6
theorem set7_cells {w : World} {g : Nat} {t : TypeId} {a0 a1 a2 a3 a4 a5 a6 : Value} (h : Blk w g t #[a0, a1, a2, a3, a4, a5, a6]) (u0 u1 u2 u3 u4 u5 u6 : Value) :
    (w.setCell ⟨g, 0, none⟩ u0).cell? ⟨g, 0, none⟩ = some u0 ∧ ((w.setCell ⟨g, 0, none⟩ u0).setCell ⟨g, 1, none⟩ u1).cell? ⟨g, 1, none⟩ = some u1 ∧
      (((w.setCell ⟨g, 0, none⟩ u0).setCell ⟨g, 1, none⟩ u1).setCell ⟨g, 2, none⟩ u2).cell? ⟨g, 2, none⟩ = some u2 ∧
      ((((w.setCell ⟨g, 0, none⟩ u0).setCell ⟨g, 1, none⟩ u1).setCell ⟨g, 2, none⟩ u2).setCell ⟨g, 3, none⟩ u3).cell? ⟨g, 3, none⟩ = some u3 ∧
      (((((w.setCell ⟨g, 0, none⟩ u0).setCell ⟨g, 1, none⟩ u1).setCell ⟨g, 2, none⟩ u2).setCell ⟨g, 3, none⟩ u3).setCell ⟨g, 4, none⟩ u4).cell? ⟨g, 4, none⟩ = some u4 ∧
      ((((((w.setCell ⟨g, 0, none⟩ u0).setCell ⟨g, 1, none⟩ u1).setCell ⟨g, 2, none⟩ u2).setCell ⟨g, 3, none⟩ u3).setCell ⟨g, 4, none⟩ u4).setCell ⟨g, 5, none⟩ u5).cell? ⟨g, 5, none⟩ = some u5 ∧
      (set7 w g u0 u1 u2 u3 u4 u5 u6).cell? ⟨g, 6, none⟩ = some u6 := by
  have h0 := h.set_ 0 u0
  have h1 := h0.set_ 1 u1
  have h2 := h1.set_ 2 u2
  have h3 := h2.set_ 3 u3
  have h4 := h3.set_ 4 u4
  have h5 := h4.set_ 5 u5
  have h6 := h5.set_ 6 u6
  exact ⟨by rw [h0.cell]; simp, by rw [h1.cell]; simp, by rw [h2.cell]; simp, by rw [h3.cell]; simp, by rw [h4.cell]; simp, by rw [h5.cell]; simp, by unfold set7; rw [h6.cell]; simp⟩
theorem set7_rest {w w1 : World} {g b : Nat} {vl vg vc : Value} (h : Rest w w1 g vl vg vc) (hb : w.heap.size ≤ b) (u0 u1 u2 u3 u4 u5 u6 : Value) : Rest w (set7 w1 b u0 u1 u2 u3 u4 u5 u6) g vl vg vc :=
  ((((((h.set_new hb _).set_new hb _).set_new hb _).set_new hb _).set_new hb _).set_new hb _).set_new hb _
theorem set7_below {B b : Nat} {w w1 : World} (h : Below B w w1) (hb : B ≤ b) (u0 u1 u2 u3 u4 u5 u6 : Value) : Below B w (set7 w1 b u0 u1 u2 u3 u4 u5 u6) :=
  ((((((h.setCell hb _).setCell hb _).setCell hb _).setCell hb _).setCell hb _).setCell hb _).setCell hb _
/-- a store into a block that is none of the row's, told by its number -/
theorem MemV.out {w : World} {base g : Nat} {vl vg vc : Value} {L : List Int} {G : List Acc} {C : List Int} {kp : Bool} (h : MemV w base g vl vg vc L G C kp) {p : Addr} (h0 : g ≠ p.block) (h1 : vl.ownBlock ≠ some p.block) (h2 : vg.ownBlock ≠ some p.block) (h3 : vc.ownBlock ≠ some p.block) (u : Value) :
    MemV (w.setCell p u) base g vl vg vc L G C kp :=
  ⟨h.blk.far h0 u, own_new h.words (fun b hb he => h1 (by rw [hb, he])) u, own_new h.log (fun b hb he => h2 (by rw [hb, he])) u, own_new h.counts (fun b hb he => h3 (by rw [hb, he])) u, h.low⟩
theorem set7_memV {w : World} {base g b : Nat} {vl vg vc : Value} {L : List Int} {G : List Acc} {C : List Int} {kp : Bool} (h : MemV w base g vl vg vc L G C kp) (h0 : g ≠ b) (h1 : vl.ownBlock ≠ some b) (h2 : vg.ownBlock ≠ some b) (h3 : vc.ownBlock ≠ some b) (u0 u1 u2 u3 u4 u5 u6 : Value) :
    MemV (set7 w b u0 u1 u2 u3 u4 u5 u6) base g vl vg vc L G C kp :=
  ((((((h.out h0 h1 h2 h3 _).out h0 h1 h2 h3 _).out h0 h1 h2 h3 _).out h0 h1 h2 h3 _).out h0 h1 h2 h3 _).out h0 h1 h2 h3 _).out h0 h1 h2 h3 _

/-- the counts, behind one access more -/
def cntAdd (C : List Int) (t : Int) : List Int :=
  if t < 0 ∨ 64 ≤ t then C else
    let D := C ++ List.replicate (t.toNat + 1 - C.length) 0
    D.set t.toNat (wrap64 (D.getD t.toNat 0 + 1))
theorem cntAdd_len {C : List Int} (t : Int) (h : C.length ≤ 64) : (cntAdd C t).length ≤ 64 := by
  unfold cntAdd
  split
  · exact h
  · simp; omega
end Go.Proofs.Ythghghoikaincaa
