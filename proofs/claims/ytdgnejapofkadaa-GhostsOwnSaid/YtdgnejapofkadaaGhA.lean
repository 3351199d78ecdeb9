/- Package ghosts: a world in plain words, what a thread does to it, and how a world lies in memory. -/
import Derived.Test.YtdgnejapofkadaaOwn
namespace Go.Proofs.Ytdgnejapofkadaa
open Go.RowKit

/-- a node that is put away -/
structure OldT where
  (node stamp : Int)
/-- a thread -/
structure RdT where
  (saw inn guard holds : Int)
  away : List OldT
/-- a world -/
structure WT where
  (epoch root last : Int)
  rds : List RdT
  freed : List Int

def newW (n : Nat) : WT := ⟨1, 1, 1, List.replicate n ⟨0, -1, 0, 0, []⟩, []⟩
def letsW (W : WT) (t : Nat) : Bool := W.rds.zipIdx.all fun p => p.2 == t || (decide (p.1.inn < 0) || p.1.inn == W.epoch)
def guardedW (W : WT) (n : Int) : Bool := W.rds.any fun r => r.guard == n
def pastB (s g : Int) : Bool := decide (0 ≤ s) && (decide (2 ≤ g) && decide (s ≤ g - 2))
def WT.put (W : WT) (t : Nat) (r : RdT) : WT := { W with rds := W.rds.set t r }
def freeW (W : WT) (t : Nat) (r : RdT) (p : OldT → Bool) : WT :=
  { W with freed := W.freed ++ (r.away.filter p).map (·.node), rds := W.rds.set t { r with away := r.away.filter fun o => !p o } }
def seeW (W : WT) (t : Nat) (r : RdT) : WT := W.put t { r with saw := W.epoch }
def enterW (W : WT) (t : Nat) (r : RdT) : WT := if r.inn < 0 ∧ 0 < r.saw then W.put t { r with inn := r.saw, saw := 0 } else W
def guardW (W : WT) (t : Nat) (r : RdT) : WT := if 0 ≤ r.inn ∧ r.holds = 0 then W.put t { r with guard := W.root } else W
def holdW (W : WT) (t : Nat) (r : RdT) : WT := if r.guard = W.root then W.put t { r with holds := r.guard } else W
def changeW (W : WT) (t : Nat) (r : RdT) : WT :=
  if r.holds = W.root then { W with rds := W.rds.set t { r with away := r.away ++ [⟨W.root, W.epoch⟩] }, last := W.last + 1, root := W.last + 1 } else W
def dropW (W : WT) (t : Nat) (r : RdT) : WT := W.put t { r with guard := 0, holds := 0 }
def leaveW (W : WT) (t : Nat) (r : RdT) : WT := if r.holds = 0 then W.put t { r with inn := -1, guard := 0 } else W
def advW (W : WT) (t : Nat) (r : RdT) : WT := if r.holds = 0 ∧ letsW W t = true then { W with epoch := W.epoch + 1 } else W
def byEpochW (W : WT) (t : Nat) (r : RdT) : WT := freeW W t r fun o => pastB o.stamp W.epoch
def byGuardW (W : WT) (t : Nat) (r : RdT) : WT := freeW W t r fun o => !guardedW W o.node
/-- what thread t, that is r, does by kind k -/
def actW (W : WT) (t : Nat) (r : RdT) (k : Int) : WT :=
  if k = 1 then seeW W t r else if k = 2 then enterW W t r else if k = 3 then guardW W t r else if k = 4 then holdW W t r else if k = 5 then changeW W t r
  else if k = 6 then dropW W t r else if k = 7 then leaveW W t r else if k = 8 then advW W t r else if k = 9 then byEpochW W t r else if k = 10 then byGuardW W t r else W
def doW (W : WT) (t k : Int) : WT := if t < 0 then W else match W.rds[t.toNat]? with | none => W | some r => actW W t.toNat r k
def playW (n : Nat) (l : List (Int × Int)) : WT := l.foldl (fun W a => doW W a.1 a.2) (newW n)

/-- how many nodes are put away -/
def awayN (W : WT) : Nat := (W.rds.map fun r => r.away.length).sum

/-- what holds of each world that was played: k acts at most -/
structure Sane (W : WT) (k : Nat) : Prop where
  few : W.rds.length ≤ 64
  e1 : 1 ≤ W.epoch
  e2 : W.epoch ≤ k + 1
  r1 : 1 ≤ W.root
  l2 : W.last ≤ k + 1
  rl : W.root = W.last
  cnt : (W.freed.length : Int) + awayN W + 1 = W.last
  inn : ∀ r ∈ W.rds, r.inn = -1 ∨ 0 < r.inn

theorem sum_set {l : List RdT} {t : Nat} {r r' : RdT} (h : l[t]? = some r) : ((l.set t r').map fun r => r.away.length).sum + r.away.length = (l.map fun r => r.away.length).sum + r'.away.length := by
  induction l generalizing t with
  | nil => simp at h
  | cons x l ih =>
    rcases t with _ | t
    · simp at h; subst h; simp; omega
    · simp only [List.getElem?_cons_succ] at h
      have := ih h
      simp only [List.set_cons_succ, List.map_cons, List.sum_cons]
      omega
theorem mem_put {l : List RdT} {t : Nat} {r' : RdT} {x : RdT} (h : x ∈ l.set t r') : x = r' ∨ x ∈ l := by
  rcases List.mem_or_eq_of_mem_set h with h | h
  · exact .inr h
  · exact .inl h
theorem mem_of_get {α : Type} {l : List α} {t : Nat} {r : α} (h : l[t]? = some r) : r ∈ l := List.mem_of_getElem? h

theorem Sane.mono {W : WT} {k k' : Nat} (h : Sane W k) (hk : k ≤ k') : Sane W k' := ⟨h.few, h.e1, by have := h.e2; omega, h.r1, by have := h.l2; omega, h.rl, h.cnt, h.inn⟩
/-- one reader turns, and puts as much away as before -/
theorem Sane.put {W : WT} {k t : Nat} {r r' : RdT} (h : Sane W k) (hr : W.rds[t]? = some r) (ha : r'.away.length = r.away.length) (hi : r'.inn = -1 ∨ 0 < r'.inn) : Sane (W.put t r') k := by
  have hs := sum_set (r' := r') hr
  refine ⟨by simpa [WT.put] using h.few, h.e1, h.e2, h.r1, h.l2, h.rl, ?_, fun x hx => ?_⟩
  · have := h.cnt
    simp only [WT.put, awayN] at this ⊢
    omega
  · rcases mem_put hx with rfl | hx
    · exact hi
    · exact h.inn x hx
theorem filter_len {α : Type} (p : α → Bool) (l : List α) : (l.filter p).length + (l.filter fun o => !p o).length = l.length := by
  induction l with
  | nil => rfl
  | cons x l ih => simp only [List.filter_cons]; cases p x <;> simp <;> omega
theorem Sane.free {W : WT} {k t : Nat} {r : RdT} (h : Sane W k) (hr : W.rds[t]? = some r) (p : OldT → Bool) : Sane (freeW W t r p) k := by
  have hs := sum_set (r' := { r with away := r.away.filter fun o => !p o }) hr
  have hl := filter_len p r.away
  refine ⟨by simpa [freeW] using h.few, h.e1, h.e2, h.r1, h.l2, h.rl, ?_, fun x hx => ?_⟩
  · have := h.cnt
    simp only [freeW, awayN, List.length_append, List.length_map] at this hs ⊢
    omega
  · rcases mem_put hx with rfl | hx
    · exact h.inn r (mem_of_get hr)
    · exact h.inn x hx
theorem Sane.act {W : WT} {k t : Nat} {r : RdT} (h : Sane W k) (hr : W.rds[t]? = some r) (kd : Int) : Sane (actW W t r kd) (k + 1) := by
  have hi := h.inn r (mem_of_get hr)
  have hm := h.mono (Nat.le_succ k)
  have hp : ∀ r', r'.away.length = r.away.length → (r'.inn = -1 ∨ 0 < r'.inn) → Sane (W.put t r') (k + 1) := fun r' h1 h2 => hm.put hr h1 h2
  unfold actW
  split
  · exact hp _ rfl hi
  split
  · unfold enterW
    split
    · next h2 => exact hp _ rfl (.inr h2.2)
    · exact hm
  split
  · unfold guardW
    split
    · exact hp _ rfl hi
    · exact hm
  split
  · unfold holdW
    split
    · exact hp _ rfl hi
    · exact hm
  split
  · unfold changeW
    split
    · have hs := sum_set (r' := { r with away := r.away ++ [⟨W.root, W.epoch⟩] }) hr
      refine ⟨by simpa using h.few, h.e1, by have := h.e2; show W.epoch ≤ _; omega, ?_, ?_, rfl, ?_, fun x hx => ?_⟩
      · have := h.r1; have := h.rl; show 1 ≤ W.last + 1; omega
      · have := h.l2; show W.last + 1 ≤ _; omega
      · have := h.cnt
        simp only [awayN, List.length_append, List.length_singleton] at this hs ⊢
        omega
      · rcases mem_put hx with rfl | hx
        · exact hi
        · exact h.inn x hx
    · exact hm
  split
  · exact hp _ rfl hi
  split
  · unfold leaveW
    split
    · exact hp _ rfl (.inl rfl)
    · exact hm
  split
  · unfold advW
    split
    · exact ⟨h.few, by have := h.e1; show 1 ≤ W.epoch + 1; omega, by have := h.e2; show W.epoch + 1 ≤ _; omega, h.r1, by have := h.l2; show W.last ≤ _; omega, h.rl, h.cnt, h.inn⟩
    · exact hm
  split
  · exact hm.free hr _
  split
  · exact hm.free hr _
  exact hm
theorem Sane.doW {W : WT} {k : Nat} (h : Sane W k) (t kd : Int) : Sane (doW W t kd) (k + 1) := by
  unfold Proofs.Ytdgnejapofkadaa.doW
  split
  · exact h.mono (Nat.le_succ k)
  · split
    · exact h.mono (Nat.le_succ k)
    · next r hr => exact h.act hr kd
theorem Sane.new {n : Nat} (h : n ≤ 64) : Sane (newW n) 0 := by
  refine ⟨by simpa [newW] using h, by simp [newW], by simp [newW], by simp [newW], by simp [newW], rfl, ?_, fun r hr => ?_⟩
  · simp [newW, awayN]
  · have := (List.mem_replicate.1 hr).2
    subst this
    exact .inl rfl
theorem le_sum {l : List RdT} {r : RdT} (h : r ∈ l) : r.away.length ≤ (l.map fun r => r.away.length).sum := by
  induction l with
  | nil => simp at h
  | cons x l ih =>
    simp only [List.map_cons, List.sum_cons]
    rcases List.mem_cons.1 h with rfl | h
    · omega
    · have := ih h; omega
/-- the lengths of a world's lists -/
theorem Sane.lens {W : WT} {k : Nat} (h : Sane W k) : W.freed.length + awayN W ≤ k := by have := h.cnt; have := h.l2; omega
theorem Sane.away {W : WT} {k : Nat} (h : Sane W k) {r : RdT} (hr : r ∈ W.rds) : r.away.length ≤ k := by have := h.lens; have := le_sum hr; unfold awayN at *; omega

/-! ### in memory -/
def oldC (o : OldT) : List Value := [.int .i64 0, .int .i64 o.node, .int .i64 o.stamp]
theorem oldC_len (o : OldT) : (oldC o).length = 3 := rfl
theorem oldC_one (o : OldT) : ∀ u ∈ oldC o, u.oneCell' = true := by intro u hu; simp [oldC] at hu; rcases hu with rfl | rfl | rfl <;> rfl
theorem info_old : (Try.prog.info? 52).map (fun i => (i.zero, i.size, i.bytes)) = some (some (.agg #[.int .i64 0, .int .i64 0, .int .i64 0]), 3, 24) := by kernel_rfl
/-- a thread, and where what it put away lies -/
structure RdX where
  r : RdT
  A : Option Addr
  c : Nat
def rdC (x : RdX) : List Value := [.int .i64 x.r.saw, .int .i64 x.r.inn, .int .i64 x.r.guard, .int .i64 x.r.holds, .slice x.A x.r.away.length x.c]
theorem rdC_len (x : RdX) : (rdC x).length = 5 := rfl
theorem rdC_one (x : RdX) : ∀ u ∈ rdC x, u.oneCell' = true := by intro u hu; simp [rdC] at hu; rcases hu with rfl | rfl | rfl | rfl | rfl <;> rfl
theorem info_rd : (Try.prog.info? 48).map (fun i => (i.zero, i.size, i.bytes)) = some (some (.agg #[.int .i64 0, .int .i64 0, .int .i64 0, .int .i64 0, .slice none 0 0]), 5, 56) := by kernel_rfl
def wval (W : WT) (A : Option Addr) (n c : Nat) (B : Option Addr) (m d : Nat) : Value := .agg #[.int .i64 W.epoch, .int .i64 W.root, .int .i64 W.last, .slice A n c, .slice B m d]
/-- a world that lies in memory, and reads so -/
structure WV (w : World) (W : WT) (A B : Option Addr) (xs : List RdX) : Prop where
  rds : xs.map (·.r) = W.rds
  row : RdF w rdC A xs
  away : ∀ x ∈ xs, RdF w oldC x.A x.r.away
  freed : RdI w .i64 B W.freed
theorem WV.below {w w' : World} {W : WT} {A B : Option Addr} {xs : List RdX} (h : WV w W A B xs) (hb : Below w.heap.size w w') : WV w' W A B xs :=
  ⟨h.rds, h.row.below hb, fun x hx => (h.away x hx).below hb, h.freed.below hb⟩
/-- the values of what threads put away lie in blocks unlike each other -/
def Apart (xs : List RdX) : Prop := ∀ (i j : Nat) (x y : RdX), xs[i]? = some x → xs[j]? = some y → i ≠ j → ∀ b, (Value.slice x.A x.r.away.length x.c).ownBlock = some b → (Value.slice y.A y.r.away.length y.c).ownBlock ≠ some b
/-- the call owns a world: the values of its slices, its threads -/
structure WO (w : World) (base : Nat) (W : WT) (vr vf : Value) (xs : List RdX) : Prop where
  rds : xs.map (·.r) = W.rds
  row : OwnF w base 48 5 rdC vr xs
  away : ∀ x ∈ xs, OwnF w base 52 3 oldC (.slice x.A x.r.away.length x.c) x.r.away
  apart : Apart xs
  freed : OwnI w base 3 .i64 vf W.freed
theorem WO.ext {w w' : World} {base : Nat} {W : WT} {vr vf : Value} {xs : List RdX} (h : WO w base W vr vf xs) (hb : Below w.heap.size w w') : WO w' base W vr vf xs :=
  ⟨h.rds, h.row.extW hb, fun x hx => (h.away x hx).extW hb, h.apart, OwnI.extW h.freed hb⟩
theorem WO.rd {w : World} {base : Nat} {W : WT} {vr vf : Value} {xs : List RdX} (h : WO w base W vr vf xs) : ∃ A c B d, vr = .slice A xs.length c ∧ vf = .slice B W.freed.length d ∧ WV w W A B xs := by
  obtain ⟨A, c, rfl, hr⟩ := h.row.rd
  obtain ⟨B, d, rfl, hf⟩ := h.freed.rd
  exact ⟨A, c, B, d, rfl, rfl, h.rds, hr, fun x hx => (h.away x hx).rdF.2, hf⟩
theorem WO.weak {w : World} {base base' : Nat} {W : WT} {vr vf : Value} {xs : List RdX} (h : WO w base W vr vf xs) (hb : base' ≤ base) : WO w base' W vr vf xs :=
  ⟨h.rds, h.row.weak hb, fun x hx => (h.away x hx).weak hb, h.apart, h.freed.weak hb⟩
/-- the value reads as a world (in memory that is nothing else) -/
def RdW (w : World) (v : Value) (W : WT) : Prop := ∃ vr vf xs, v = .agg #[.int .i64 W.epoch, .int .i64 W.root, .int .i64 W.last, vr, vf] ∧ WO w 0 W vr vf xs
theorem RdW.below {w w' : World} {v : Value} {W : WT} (h : RdW w v W) (hb : Below w.heap.size w w') : RdW w' v W := by
  obtain ⟨vr, vf, xs, hv, h⟩ := h
  exact ⟨vr, vf, xs, hv, h.ext hb⟩
/-- blocks of types that are no part of a world's memory are as they were -/
def Keeps (w w' : World) : Prop := ∀ (b : Nat) (xs : Array Value) (t : TypeId) (fr : Nat × Nat), w.heap[b]? = some (.cells xs t fr) → t ≠ 48 → t ≠ 52 → t ≠ 3 → t ≠ 63 → w'.heap[b]? = some (.cells xs t fr)
theorem Keeps.refl (w : World) : Keeps w w := fun _ _ _ _ h _ _ _ _ => h
theorem Keeps.trans {a b c : World} (h : Keeps a b) (k : Keeps b c) : Keeps a c := fun x xs t fr h0 h1 h2 h3 h4 => k x xs t fr (h x xs t fr h0 h1 h2 h3 h4) h1 h2 h3 h4
theorem Keeps.of_ext {w w' : World} (hb : Below w.heap.size w w') : Keeps w w' := fun b _ _ _ h _ _ _ _ => (hb.block b (Blk.lt' h)).trans h
theorem Keeps.blk {w w' : World} {b : Nat} {xs : Array Value} {t : TypeId} (h : Keeps w w') (hb : Blk w b t xs) (h1 : t ≠ 48) (h2 : t ≠ 52) (h3 : t ≠ 3) (h4 : t ≠ 63) : Blk w' b t xs := h b xs t (0, 0) hb h1 h2 h3 h4
/-- a store into a block of one of those types -/
theorem Keeps.set {w : World} {g : Nat} {ys : Array Value} {t : TypeId} {fr : Nat × Nat} (hg : w.heap[g]? = some (.cells ys t fr)) (ht : t = 48 ∨ t = 52 ∨ t = 3 ∨ t = 63) (i : Nat) (u : Value) : Keeps w (w.setCell ⟨g, i, none⟩ u) := by
  intro b xs t' fr' hb h1 h2 h3 h4
  rw [Below.heap_setCell _ _ _ _ ?_]
  · exact hb
  · rintro rfl
    rw [hg] at hb
    injection hb with hb
    injection hb with _ he
    rcases ht with h | h | h | h
    · exact h1 (he.symm.trans h)
    · exact h2 (he.symm.trans h)
    · exact h3 (he.symm.trans h)
    · exact h4 (he.symm.trans h)
theorem Keeps.grown {w w' : World} {base : Nat} {e : TypeId} {m n : Nat} {v : Value} {xs : List Value} (h : w.ownsRow base e m v n xs) (hg : w.grownBy w' v.ownBlock) (he : e = 48 ∨ e = 52 ∨ e = 3 ∨ e = 63) : Keeps w w' := by
  intro b ys t fr hb h1 h2 h3 h4
  rw [hg.block b (Blk.lt' hb) (own_other' h hb ?_)]
  · exact hb
  · rintro rfl
    rcases he with h | h | h | h
    · exact h1 h
    · exact h2 h
    · exact h3 h
    · exact h4 h
/-- a world's state in memory: block g -/
structure StV (w : World) (base g : Nat) (W : WT) (vr vf : Value) (xs : List RdX) : Prop where
  blk : Blk w g 63 #[.int .i64 W.epoch, .int .i64 W.root, .int .i64 W.last, vr, vf]
  own : WO w base W vr vf xs
  low : base ≤ g
theorem StV.ext {w w' : World} {base g : Nat} {W : WT} {vr vf : Value} {xs : List RdX} (h : StV w base g W vr vf xs) (hb : Below w.heap.size w w') : StV w' base g W vr vf xs := ⟨h.blk.extW hb, h.own.ext hb, h.low⟩
end Go.Proofs.Ytdgnejapofkadaa
