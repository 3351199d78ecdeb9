/- Words for memory: a slice that reads as a list of cells; a slice that the call owns and appends to; what stays of both over new memory. -/
import Derived.Test.YthghghoikaincaaRows
import Derived.WalkKit
import Derived.WalkSpells
import Derived.WalkLawsBesides
import Derived.BigQuiet
import Derived.Deep.QuietTactic
import Derived.Maps.AppendAt
namespace Go.Proofs.Ythghghoikaincaa
open Go.RowKit

theorem hide {p : Prop} (h : p) : Hid p := h
theorem ret_int {k : IntKind} {a b : Int} (h : a = b) : Ending.returned (.int k a) = .returned (.int k b) := by rw [h]
theorem ret_bool {a b : Bool} (h : a = b) : Ending.returned (.bool a) = .returned (.bool b) := by rw [h]
theorem val_int {k : IntKind} {a b : Int} (h : a = b) : Value.int k a = .int k b := by rw [h]
theorem val_bool {a b : Bool} (h : a = b) : Value.bool a = .bool b := by rw [h]

theorem cell_lt {w : World} {a : Addr} {v : Value} (h : w.cell? a = some v) : a.block < w.heap.size := by
  rcases Nat.lt_or_ge a.block w.heap.size with h1 | h1
  · exact h1
  · simp [World.cell?, Array.getElem?_eq_none h1] at h

theorem add_zero (a : Addr) : a.add 0 = a := rfl

/-- nothing but draws lies between the two -/
def Drew (w w' : World) : Prop := ∃ q, w' = w.drewN q
theorem Drew.refl (w : World) : Drew w w := ⟨0, rfl⟩
theorem Drew.of_eq {w w' : World} (h : w = w') : Drew w w' := h ▸ Drew.refl w
theorem Drew.trans {a b c : World} (h : Drew a b) (k : Drew b c) : Drew a c := by
  obtain ⟨q, rfl⟩ := h
  obtain ⟨r, rfl⟩ := k
  exact ⟨_, World.drewN_drewN _ _ _⟩
theorem Drew.more {a w : World} (h : Drew a w) (n : Nat) : Drew a (w.drewN n) := h.trans ⟨n, rfl⟩
theorem Drew.one {a w : World} (h : Drew a w) : Drew a w.drew := h.trans ⟨1, rfl⟩
theorem Drew.cell {w w' : World} (h : Drew w w') (a : Addr) : w'.cell? a = w.cell? a := by obtain ⟨q, rfl⟩ := h; rfl
theorem Drew.below {w w' : World} (h : Drew w w') (B : Nat) : Below B w w' := by obtain ⟨q, rfl⟩ := h; exact below_drewN (Below.refl _ _) _
theorem Drew.quiet {P : Program} {f : FuncId} {args : Array Value} {w : World} {n : Nat} {v : Value}
    (h : Calls P f args (w.drewN n) fun e w' => e = .returned v ∧ Drew (w.drewN n) w') : Calls P f args (w.drewN n) fun e w' => e = .returned v ∧ ∃ m, w' = w.drewN m :=
  h.mono fun _ _ ⟨he, _, hm⟩ => ⟨he, _, hm.trans (World.drewN_drewN _ _ _)⟩
theorem same_quiet {P : Program} {f : FuncId} {args : Array Value} {w : World} {n : Nat} {v : Value}
    (h : Calls P f args (w.drewN n) fun e w' => e = .returned v ∧ w.drewN n = w') : Calls P f args (w.drewN n) fun e w' => e = .returned v ∧ ∃ m, w' = w.drewN m :=
  h.mono fun _ _ ⟨he, hm⟩ => ⟨he, _, hm.symm⟩

theorem extW {a b c : World} (h : Below a.heap.size a b) (k : Below b.heap.size b c) : Below a.heap.size a c := h.trans (k.mono h.size)
theorem moreW {a w : World} (h : Below a.heap.size a w) (o : Obj) : Below a.heap.size a (w.alloc o) := h.alloc h.size o
theorem selfW (a : World) : Below a.heap.size a a := Below.refl _ _
theorem Drew.extW {w w' : World} (h : Drew w w') : Below w.heap.size w w' := h.below _
theorem add_addW (a : Addr) (i j : Nat) : (a.add i).add j = a.add (i + j) := by
  unfold Addr.add
  by_cases hi : i = 0 <;> by_cases hj : j = 0 <;> simp [hi, hj, Nat.add_assoc]

theorem add_mk (b o k : Nat) : (⟨b, o, none⟩ : Addr).add k = ⟨b, o + k, none⟩ := by unfold Addr.add; split <;> simp_all
theorem ltW {a w : World} {n : Nat} (h : Below n a w) {g : Nat} (hg : g < a.heap.size) : g < w.heap.size := Nat.lt_of_lt_of_le hg h.size
theorem add_lit (a : Addr) (n : Nat) (h : n ≠ 0) : a.add n = ⟨a.block, a.off + n, none⟩ := by unfold Addr.add; rw [if_neg h]
/-- the cells from A on are xs -/
def Rd (w : World) (A : Option Addr) (xs : List Value) : Prop := ∀ j u, xs[j]? = some u → ∃ ad, A = some ad ∧ w.cell? (ad.add j) = some u
/-- the slice at A reads as the numbers zs, of kind k -/
def RdI (w : World) (k : IntKind) (A : Option Addr) (zs : List Int) : Prop := Rd w A (zs.map (Value.int k))

section
variable {w w' : World} {k : IntKind} {A : Option Addr} {zs : List Int} {xs : List Value}
theorem Rd.nil (w : World) (A : Option Addr) : Rd w A [] := fun i z h => by simp at h
theorem RdI.nil (w : World) (k : IntKind) (A : Option Addr) : RdI w k A [] := Rd.nil w A
theorem Rd.below (h : Rd w A xs) (hb : Below w.heap.size w w') : Rd w' A xs := by
  intro i z hz
  obtain ⟨ad, h1, h2⟩ := h i z hz
  exact ⟨ad, h1, (hb.cell (cell_lt h2)).trans h2⟩
theorem RdI.below (h : RdI w k A zs) (hb : Below w.heap.size w w') : RdI w' k A zs := Rd.below h hb
theorem Rd.alloc (h : Rd w A xs) (o : Obj) : Rd (w.alloc o) A xs := h.below ((Below.refl _ _).alloc (Nat.le_refl _) o)
theorem RdI.alloc (h : RdI w k A zs) (o : Obj) : RdI (w.alloc o) k A zs := Rd.alloc h o
theorem Rd.drew (h : Rd w A xs) (hd : Drew w w') : Rd w' A xs := h.below (hd.below _)
theorem RdI.drew (h : RdI w k A zs) (hd : Drew w w') : RdI w' k A zs := Rd.drew h hd
theorem RdI.tail {ad : Addr} {z : Int} (h : RdI w k (some ad) (z :: zs)) : RdI w k (some ⟨ad.block, ad.off + 1, none⟩) zs := by
  intro j u hu
  obtain ⟨ad', h1, h2⟩ := h (1 + j) u (by rw [Nat.add_comm]; exact hu)
  injection h1 with h1
  subst h1
  refine ⟨_, rfl, ?_⟩
  rw [← add_lit ad 1 (by decide), add_addW]
  exact h2
theorem RdI.at_ (h : RdI w k A zs) {i : Nat} (hi : i < zs.length) : ∃ ad z, A = some ad ∧ zs[i]? = some z ∧ w.cell? (ad.add i) = some (.int k z) := by
  obtain ⟨ad, h1, h2⟩ := h i (.int k zs[i]) (by simp [hi])
  exact ⟨ad, zs[i], h1, List.getElem?_eq_getElem hi, h2⟩
theorem Rd.grown (h : Rd w A xs) {row : Option Nat} (hg : w.grownBy w' row) (hr : ∀ ad, A = some ad → xs ≠ [] → some ad.block ≠ row) : Rd w' A xs := by
  intro i z hz
  obtain ⟨ad, h1, h2⟩ := h i z hz
  have hne : xs ≠ [] := by rintro rfl; simp at hz
  refine ⟨ad, h1, hg.cell h2 ?_⟩
  have := hr ad h1 hne
  have hb : (ad.add i).block = ad.block := by unfold Addr.add; split <;> rfl
  rw [hb]; exact this
theorem Rd.one (w : World) (v : Value) (e : TypeId) : Rd (w.alloc (.cells #[v] e)) (some ⟨w.heap.size, 0, none⟩) [v] := fun j u hu => ⟨_, rfl, cell_one_new w v e j u hu⟩
theorem Rd.lit (w : World) (vs : List Value) (e : TypeId) : Rd (w.alloc (.cells vs.toArray e)) (some ⟨w.heap.size, 0, none⟩) vs := by
  intro j u hu
  refine ⟨_, rfl, ?_⟩
  have hb : ((⟨w.heap.size, 0, none⟩ : Addr).add j) = ⟨w.heap.size, j, none⟩ := by unfold Addr.add; split <;> simp_all
  rw [hb]
  rw [cell_of_row _ w.heap.size j vs.toArray e (0, 0) (heap_alloc_new w _)]
  simpa using hu
theorem Rd.litAt (w : World) (vs : List Value) (e : TypeId) {g : Nat} (h : g = w.heap.size) : Rd (w.alloc (.cells vs.toArray e)) (some ⟨g, 0, none⟩) vs := h ▸ Rd.lit w vs e
end

/-- block g is just the cells cs, of element type t, none frozen -/
def Blk (w : World) (g : Nat) (t : TypeId) (cs : Array Value) : Prop := w.heap[g]? = some (.cells cs t (0, 0))
section
variable {w w' : World} {g : Nat} {t : TypeId} {cs : Array Value}
theorem Blk.lt (h : Blk w g t cs) : g < w.heap.size := by
  rcases Nat.lt_or_ge g w.heap.size with h1 | h1
  · exact h1
  · unfold Blk at h; rw [Array.getElem?_eq_none h1] at h; cases h
theorem Blk.cell (h : Blk w g t cs) (i : Nat) : w.cell? ⟨g, i, none⟩ = cs[i]? := cell_of_row w g i cs t (0, 0) h
theorem Blk.free (h : Blk w g t cs) (i : Nat) : w.frozen? ⟨g, i, none⟩ = false := by unfold Blk at h; simp [World.frozen?, h]
theorem Blk.new (w : World) (t : TypeId) (cs : Array Value) : Blk (w.alloc (.cells cs t)) w.heap.size t cs := heap_alloc_new w _
theorem Blk.newAt (w : World) (t : TypeId) (cs : Array Value) {g : Nat} (h : g = w.heap.size) : Blk (w.alloc (.cells cs t)) g t cs := h ▸ Blk.new w t cs
theorem Blk.drewN (h : Blk w g t cs) (n : Nat) : Blk (w.drewN n) g t cs := h
theorem Blk.alloc (h : Blk w g t cs) (o : Obj) : Blk (w.alloc o) g t cs := (Below.heap_alloc w o g h.lt).trans h
theorem Blk.set_ (h : Blk w g t cs) (i : Nat) (u : Value) : Blk (w.setCell ⟨g, i, none⟩ u) g t (cs.setIfInBounds i u) := by
  unfold Blk at h ⊢
  simp [World.setCell, Array.getElem?_modify, h]
theorem Blk.far (h : Blk w g t cs) {p : Addr} (hp : g ≠ p.block) (u : Value) : Blk (w.setCell p u) g t cs := (Below.heap_setCell w p u g hp).trans h
theorem Blk.below {B : Nat} (h : Blk w g t cs) (hb : Below B w w') (hg : g < B) : Blk w' g t cs := (hb.block g hg).trans h
theorem Blk.extW (h : Blk w g t cs) (hb : Below w.heap.size w w') : Blk w' g t cs := h.below hb h.lt
theorem Blk.drew (h : Blk w g t cs) (hd : Drew w w') : Blk w' g t cs := by obtain ⟨q, rfl⟩ := hd; exact h
theorem Blk.grown {row : Option Nat} (h : Blk w g t cs) (hb : w.grownBy w' row) (hg : some g ≠ row) : Blk w' g t cs := (hb.block g h.lt hg).trans h
end
/-- block g is the integers zs -/
def BlkI (w : World) (g : Nat) (t : TypeId) (k : IntKind) (zs : List Int) : Prop := Blk w g t (zs.map (Value.int k)).toArray
section
variable {w w' : World} {g : Nat} {t : TypeId} {k : IntKind} {zs : List Int}
theorem BlkI.cell (h : BlkI w g t k zs) {i : Nat} {z : Int} (hz : zs[i]? = some z) : w.cell? ⟨g, i, none⟩ = some (.int k z) := by
  rw [Blk.cell h i]; simp [hz]
theorem BlkI.set_ (h : BlkI w g t k zs) (i : Nat) (z : Int) : BlkI (w.setCell ⟨g, i, none⟩ (.int k z)) g t k (zs.set i z) := by
  have := Blk.set_ h i (.int k z)
  unfold BlkI
  rw [List.map_set]
  simpa using this
theorem BlkI.rd (h : BlkI w g t k zs) : RdI w k (some ⟨g, 0, none⟩) zs := by
  intro j u hu
  refine ⟨_, rfl, ?_⟩
  have hb : ((⟨g, 0, none⟩ : Addr).add j) = ⟨g, j, none⟩ := by unfold Addr.add; split <;> simp_all
  rw [hb, Blk.cell h j]
  simpa using hu
end

/-- rows of m cells each, one behind the other -/
theorem flat_len {α : Type} {f : α → List Value} {m : Nat} (hf : ∀ c, (f c).length = m) (cs : List α) : (cs.flatMap f).length = cs.length * m := by
  induction cs with
  | nil => simp
  | cons c l ih => simp [hf, ih, Nat.add_mul, Nat.add_comm]
theorem flat_get {α : Type} {f : α → List Value} {m : Nat} (hf : ∀ c, (f c).length = m) : ∀ (cs : List α) (i : Nat) (c : α) (j : Nat), cs[i]? = some c → j < m → (cs.flatMap f)[i * m + j]? = (f c)[j]? := by
  intro cs
  induction cs with
  | nil => intro i c j h; simp at h
  | cons x l ih =>
    intro i c j h hj
    rcases i with _ | i
    · simp at h; subst h
      simp only [List.flatMap_cons, Nat.zero_mul, Nat.zero_add]
      rw [List.getElem?_append_left (by rw [hf]; exact hj)]
    · simp only [List.getElem?_cons_succ] at h
      simp only [List.flatMap_cons]
      rw [List.getElem?_append_right (by rw [hf, Nat.add_mul]; omega), hf]
      rw [show (i + 1) * m + j - m = i * m + j by rw [Nat.add_mul]; omega]
      exact ih i c j h hj
/-- the slice at A reads as the rows cs, of m cells each -/
def RdF {α : Type} (w : World) (f : α → List Value) (A : Option Addr) (cs : List α) : Prop := Rd w A (cs.flatMap f)
section
variable {α : Type} {w w' : World} {f : α → List Value} {A : Option Addr} {cs : List α}
theorem RdF.nil (w : World) (f : α → List Value) (A : Option Addr) : RdF w f A [] := Rd.nil w A
theorem RdF.below (h : RdF w f A cs) (hb : Below w.heap.size w w') : RdF w' f A cs := Rd.below h hb
theorem RdF.drew (h : RdF w f A cs) (hd : Drew w w') : RdF w' f A cs := Rd.drew h hd
theorem RdF.alloc (h : RdF w f A cs) (o : Obj) : RdF (w.alloc o) f A cs := Rd.alloc h o
theorem RdF.at_ {m : Nat} (hf : ∀ c, (f c).length = m) (hm : 0 < m) (h : RdF w f A cs) {i : Nat} (hi : i < cs.length) :
    ∃ ad c, A = some ad ∧ cs[i]? = some c ∧ ∀ (j : Nat) (u : Value), (f c)[j]? = some u → w.cell? ((ad.add (i * m)).add j) = some u := by
  have hc := List.getElem?_eq_getElem hi
  have key : ∀ (j : Nat) (u : Value), (f cs[i])[j]? = some u → ∃ ad, A = some ad ∧ w.cell? ((ad.add (i * m)).add j) = some u := by
    intro j u hu
    have hj : j < m := by rw [← hf cs[i]]; exact (List.getElem?_eq_some_iff.1 hu).1
    obtain ⟨ad, h1, h2⟩ := h (i * m + j) u (by rw [flat_get hf cs i cs[i] j hc hj]; exact hu)
    exact ⟨ad, h1, by rw [add_addW]; exact h2⟩
  obtain ⟨ad, h1, _⟩ := key 0 ((f cs[i])[0]'(by rw [hf]; exact hm)) (List.getElem?_eq_getElem _)
  refine ⟨ad, cs[i], h1, hc, fun j u hu => ?_⟩
  obtain ⟨ad', h2, h3⟩ := key j u hu
  rw [h1] at h2
  injection h2 with h2
  subst h2
  exact h3
end

/-- the call owns the slice v (its blocks from base on), which reads as xs -/
theorem Rd.of_own {w : World} {base : Nat} {e : TypeId} {size n : Nat} {v : Value} {xs : List Value} (h : w.ownsRow base e size v n xs) : ∃ A c, v = .slice A n c ∧ Rd w A xs := by
  rcases h.2 with ⟨rfl, rfl⟩ | ⟨g, cap, cur, rfl, hr⟩
  · have : xs = [] := List.eq_nil_of_length_eq_zero (by simpa using h.1)
    subst this
    exact ⟨_, _, rfl, Rd.nil _ _⟩
  · exact ⟨_, _, rfl, fun j u hu => ⟨_, rfl, h.cells (g := g) rfl j u hu⟩⟩
theorem RdI.of_own {w : World} {base : Nat} {e : TypeId} {n : Nat} {v : Value} {k : IntKind} {zs : List Int} (h : w.ownsRow base e 1 v n (zs.map (Value.int k))) : ∃ A c, v = .slice A zs.length c ∧ RdI w k A zs := by
  obtain ⟨A, c, rfl, hr⟩ := Rd.of_own h
  have : n = zs.length := by have := h.1; simpa using this.symm
  subst this
  exact ⟨A, c, rfl, hr⟩

section
variable {P : Program} (w : World)
theorem run_append_none (base : Nat) (t ty e : TypeId) (i : TypeInfo) (size : Nat) (ht : P.underlying t = some (.slice e)) (hi : P.info? e = some i)
    (v : Value) (n : Nat) (xs : List Value) (hown : w.ownsRow base e size v n xs) (c : Nat) : (Builtin.append_ #[t, t] ty #[v, .slice none 0 c]).run P w = .ok v w := by
  rcases hown.2 with ⟨rfl, rfl⟩ | ⟨g, cap, cur, rfl, _, _, hnc, _⟩
  · simp [Builtin.append_, run_underlying ht, sizeOf, typeInfo, hi, Builtin.lenOf, Builtin.firstCells]
  · simp [Builtin.append_, run_underlying ht, sizeOf, typeInfo, hi, Builtin.lenOf, Builtin.firstCells, hnc, storeCells]

theorem run_app (base : Nat) (t ty e : TypeId) (i : TypeInfo) (z : Value) (size bytes : Nat) (ht : P.underlying t = some (.slice e)) (hi : P.info? e = some i) (hz : i.zero = some z)
    (hsize : i.size = size) (hby : i.bytes = bytes) (hzs : z.cells.size = size) (hsz : 0 < size)
    (v : Value) (n : Nat) (xs : List Value) (hown : w.ownsRow base e size v n xs)
    (A : Option Addr) (m c : Nat) (news : List Value) (hl : news.length = m * size) (hr : Rd w A news) (h1 : ∀ u ∈ news, u.oneCell' = true)
    (h63 : n + m ≤ maxLen) (hbytes : (n + m) * bytes ≤ 140737488355328) (hbase : base ≤ w.heap.size) :
    ∃ v' w', (Builtin.append_ #[t, t] ty #[v, .slice A m c]).run P w = .ok v' w' ∧ w'.ownsRow base e size v' (n + m) (xs ++ news) ∧ w.grownBy w' v.ownBlock ∧
      (v'.ownBlock = v.ownBlock ∨ v'.ownBlock = some w.heap.size) := by
  rcases A with _ | ad
  · have hn : news = [] := by
      rcases news with _ | ⟨u, l⟩
      · rfl
      · obtain ⟨ad, h, _⟩ := hr 0 u rfl
        cases h
    subst hn
    have hm : m = 0 := by
      rcases Nat.eq_zero_or_pos m with h0 | h0
      · exact h0
      · have := Nat.mul_pos h0 hsz
        simp at hl
        omega
    subst hm
    exact ⟨v, w, run_append_none w base t ty e i size ht hi v n xs hown c, by simpa using hown, World.grownBy.refl w _, .inl rfl⟩
  · have hcells : ∀ j u, news[j]? = some u → w.cell? (ad.add j) = some u := by
      intro j u hu
      obtain ⟨ad', h, hc⟩ := hr j u hu
      injection h with h
      subst h
      exact hc
    obtain ⟨v', w', hrun, h2, h3, _, h5⟩ := run_append_own_at (P := P) w base t ty e i z size bytes ht hi hz hsize hby hzs hsz v n xs hown ad m c news hl hcells h1 h63 hbytes hbase
    exact ⟨v', w', hrun, h2, h3, h5⟩

theorem wp_app {o : Oper} {a : Act} {K : Act → World → Prop} {Q : Exit → Act → World → Prop} (s x : Operand) (t : TypeId)
    (ho : o.op = .call { callee := .builtin .append, args := #[s, x], argTypes := #[t, t] })
    (base : Nat) (e : TypeId) (i : TypeInfo) (z : Value) (size bytes : Nat) (ht : P.underlying t = some (.slice e)) (hi : P.info? e = some i) (hz : i.zero = some z)
    (hsize : i.size = size) (hby : i.bytes = bytes) (hzs : z.cells.size = size) (hsz : 0 < size)
    (v : Value) (n : Nat) (xs : List Value) (hs : a.eval s = v) (hown : w.ownsRow base e size v n xs)
    (A : Option Addr) (m c : Nat) (news : List Value) (hx : a.eval x = .slice A m c) (hl : news.length = m * size) (hr : Rd w A news) (h1 : ∀ u ∈ news, u.oneCell' = true)
    (h63 : n + m ≤ maxLen) (hbytes : (n + m) * bytes ≤ 140737488355328) (hbase : base ≤ w.heap.size)
    (h : ∀ v' w', w'.ownsRow base e size v' (n + m) (xs ++ news) → w.grownBy w' v.ownBlock → (v'.ownBlock = v.ownBlock ∨ v'.ownBlock = some w.heap.size) → K (a.put o.dst v') w') : o.wp P a w K Q := by
  obtain ⟨v', w', hrun, h2, h3, h4⟩ := run_app (P := P) w base t o.type e i z size bytes ht hi hz hsize hby hzs hsz v n xs hown A m c news hl hr h1 h63 hbytes hbase
  unfold Oper.wp execOp
  simp only [ho, resolve, invoke, builtin, Sem.run_bind, Sem.run_pure, Result.andThen_ok, List.map_toArray, List.map_cons, List.map_nil, hs, hx, hrun]
  exact h v' w' h2 h3 h4

theorem wpList_app {ops : Array Oper} {rest : List Oper} {o : Oper} {a : Act} {Q : Exit → Act → World → Prop} (hgd : o.guard = none) (s x : Operand) (t : TypeId)
    (ho : o.op = .call { callee := .builtin .append, args := #[s, x], argTypes := #[t, t] })
    (base : Nat) (e : TypeId) (i : TypeInfo) (z : Value) (size bytes : Nat) (ht : P.underlying t = some (.slice e)) (hi : P.info? e = some i) (hz : i.zero = some z)
    (hsize : i.size = size) (hby : i.bytes = bytes) (hzs : z.cells.size = size) (hsz : 0 < size)
    (v : Value) (n : Nat) (xs : List Value) (hs : a.eval s = v) (hown : w.ownsRow base e size v n xs)
    (A : Option Addr) (m c : Nat) (news : List Value) (hx : a.eval x = .slice A m c) (hl : news.length = m * size) (hr : Rd w A news) (h1 : ∀ u ∈ news, u.oneCell' = true)
    (h63 : n + m ≤ maxLen) (hbytes : (n + m) * bytes ≤ 140737488355328) (hbase : base ≤ w.heap.size)
    (h : ∀ v' w', w'.ownsRow base e size v' (n + m) (xs ++ news) → w.grownBy w' v.ownBlock → (v'.ownBlock = v.ownBlock ∨ v'.ownBlock = some w.heap.size) → wpList P ops Q rest (a.put o.dst v') w') : wpList P ops Q (o :: rest) a w :=
  wpList_plain hgd fun _ hK => wp_app w s x t ho base e i z size bytes ht hi hz hsize hby hzs hsz v n xs hs hown A m c news hx hl hr h1 h63 hbytes hbase fun v' w' h2 h3 h4 => hK _ _ (h v' w' h2 h3 h4)
end

theorem below_own {B base : Nat} {a w w' : World} {e : TypeId} {size n : Nat} {v : Value} {xs : List Value} (h : Below B a w) (hown : w.ownsRow base e size v n xs) (hg : w.grownBy w' v.ownBlock) (hB : B ≤ w.heap.size) (hb : B ≤ base) : Below B a w' :=
  h.grown hg hB fun k hk => Nat.le_trans hb (hown.lt k hk).1

theorem ints_one (k : IntKind) (zs : List Int) : ∀ u ∈ zs.map (Value.int k), u.oneCell' = true := by
  intro u hu
  obtain ⟨z, _, rfl⟩ := List.mem_map.1 hu
  rfl

/-- the call owns the slice v, of the numbers zs -/
def OwnI (w : World) (base : Nat) (e : TypeId) (k : IntKind) (v : Value) (zs : List Int) : Prop := w.ownsRow base e 1 v zs.length (zs.map (Value.int k))

section
variable {w w' : World} {base : Nat} {e : TypeId} {k : IntKind} {v : Value} {zs : List Int}
theorem OwnI.nil (w : World) (base : Nat) (e : TypeId) (k : IntKind) : OwnI w base e k (.slice none 0 0) [] := World.ownsRow_nil _ _ _ _
theorem OwnI.empty (w : World) (e : TypeId) (k : IntKind) : OwnI (w.alloc (.cells #[] e)) w.heap.size e k (.slice (some ⟨w.heap.size, 0, none⟩) 0 0) [] := World.ownsRow_lit w #[] 0 (Nat.le_refl _) (Nat.zero_le _) rfl
theorem OwnI.lit (w : World) (e : TypeId) (k : IntKind) (zs : List Int) (hl : zs.length ≤ 9223372036854775807) : OwnI (w.alloc (.cells (zs.map (Value.int k)).toArray e)) w.heap.size e k (.slice (some ⟨w.heap.size, 0, none⟩) zs.length zs.length) zs :=
  World.ownsRow_lit w (zs.map (Value.int k)).toArray zs.length (Nat.le_refl _) (by unfold maxLen; omega) (by simp)
theorem OwnI.rd (h : OwnI w base e k v zs) : ∃ A c, v = .slice A zs.length c ∧ RdI w k A zs := RdI.of_own h
theorem OwnI.alloc (h : OwnI w base e k v zs) (o : Obj) : OwnI (w.alloc o) base e k v zs := World.ownsRow.alloc h o
theorem OwnI.below_step {B : Nat} {a : World} (hown : OwnI w base e k v zs) (h : Below B a w) (hg : w.grownBy w' v.ownBlock) (hB : B ≤ w.heap.size) (hb : B ≤ base) : Below B a w' := below_own h hown hg hB hb
/-- of a slice with an element: its block, its cells, and what a store makes of it -/
theorem OwnI.form (h : OwnI w base e k v zs) (hne : zs ≠ []) : ∃ g c, v = .slice (some ⟨g, 0, none⟩) zs.length c ∧ base ≤ g ∧ g < w.heap.size := by
  rcases h.2 with ⟨_, h0⟩ | ⟨g, cap, cur, hv, hb, hh, _⟩
  · exact absurd (List.eq_nil_of_length_eq_zero h0) hne
  · refine ⟨g, cap, hv, hb, ?_⟩
    rcases Nat.lt_or_ge g w.heap.size with h1 | h1
    · exact h1
    · rw [Array.getElem?_eq_none h1] at hh; cases hh
theorem OwnI.cell {g c n : Nat} (h : OwnI w base e k (.slice (some ⟨g, 0, none⟩) n c) zs) {i : Nat} {z : Int} (hz : zs[i]? = some z) : w.cell? ⟨g, i, none⟩ = some (.int k z) := by
  have hn : n = zs.length := by
    rcases h.2 with ⟨h', _⟩ | ⟨g', cap', cur, h', _⟩
    · cases h'
    · injection h'
  subst hn
  have hi := (List.getElem?_eq_some_iff.1 hz).1
  rw [World.ownsRow.cellAt h i (by simpa using hi)]
  simp [hz]
theorem OwnI.frozen {g c n : Nat} (h : OwnI w base e k (.slice (some ⟨g, 0, none⟩) n c) zs) (i : Nat) : w.frozen? ⟨g, i, none⟩ = false := by
  have hn : n = zs.length := by
    rcases h.2 with ⟨h', _⟩ | ⟨g', cap', cur, h', _⟩
    · cases h'
    · injection h'
  subst hn
  exact World.ownsRow.frozenAt h i
theorem OwnI.stored {g c n : Nat} (h : OwnI w base e k (.slice (some ⟨g, 0, none⟩) n c) zs) (i : Nat) (z : Int) :
    OwnI (w.setCell ⟨g, i, none⟩ (.int k z)) base e k (.slice (some ⟨g, 0, none⟩) n c) (zs.set i z) := by
  have hn : n = zs.length := by
    rcases h.2 with ⟨h', _⟩ | ⟨g', cap', cur, h', _⟩
    · cases h'
    · injection h'
  subst hn
  have := (World.ownsRow.stored h i (.int k z)).1
  unfold OwnI
  rw [List.length_set, List.map_set]
  exact this
end

/-- the call returns a slice that reads as zs, and has changed nothing that was there -/
def RetI (k : IntKind) (zs : List Int) (w : World) (e : Ending) (w' : World) : Prop := (∃ B d, e = .returned (.slice B zs.length d) ∧ RdI w' k B zs) ∧ Below w.heap.size w w'
theorem OwnI.ret {a w : World} {base : Nat} {e : TypeId} {k : IntKind} {v : Value} {zs : List Int} (h : OwnI w base e k v zs) (hb : Below a.heap.size a w) : RetI k zs a (.returned v) w := by
  obtain ⟨B, d, rfl, hr⟩ := h.rd
  exact ⟨⟨B, d, rfl, hr⟩, hb⟩

/-- the call owns the slice v, of the rows cs -/
def OwnF {α : Type} (w : World) (base : Nat) (e : TypeId) (m : Nat) (f : α → List Value) (v : Value) (cs : List α) : Prop := w.ownsRow base e m v cs.length (cs.flatMap f)
section
variable {α : Type} {w w' : World} {base : Nat} {e : TypeId} {m : Nat} {f : α → List Value} {v : Value} {cs : List α}
theorem OwnF.nil (w : World) (base : Nat) (e : TypeId) (m : Nat) (f : α → List Value) : OwnF w base e m f (.slice none 0 0) [] := ⟨by simp, .inl ⟨rfl, rfl⟩⟩
theorem OwnF.rd (h : OwnF w base e m f v cs) : ∃ A c, v = .slice A cs.length c ∧ RdF w f A cs := Rd.of_own h
theorem OwnF.alloc (h : OwnF w base e m f v cs) (o : Obj) : OwnF (w.alloc o) base e m f v cs := World.ownsRow.alloc h o
theorem OwnF.below_step {B : Nat} {a : World} (hown : OwnF w base e m f v cs) (h : Below B a w) (hg : w.grownBy w' v.ownBlock) (hB : B ≤ w.heap.size) (hb : B ≤ base) : Below B a w' := below_own h hown hg hB hb
theorem OwnF.extW (h : OwnF w base e m f v cs) (hb : Below w.heap.size w w') : OwnF w' base e m f v cs := by
  obtain ⟨h1, h2⟩ := h
  refine ⟨h1, ?_⟩
  rcases h2 with h2 | ⟨g', cap, cur, hv, hbs, hh, r⟩
  · exact Or.inl h2
  · refine Or.inr ⟨g', cap, cur, hv, hbs, ?_, r⟩
    rw [hb.block g' (Blk.lt hh)]
    exact hh
theorem OwnF.far (h : OwnF w base e m f v cs) {g : Nat} {t : TypeId} {xs : Array Value} (hg : Blk w g t xs) (hne : e ≠ t) (i : Nat) (u : Value) : OwnF (w.setCell ⟨g, i, none⟩ u) base e m f v cs := by
  obtain ⟨h1, h2⟩ := h
  refine ⟨h1, ?_⟩
  rcases h2 with h2 | ⟨g', cap, cur, hv, hb, hh, r⟩
  · exact Or.inl h2
  · refine Or.inr ⟨g', cap, cur, hv, hb, ?_, r⟩
    rw [Below.heap_setCell _ _ _ _ ?_]
    · exact hh
    · rintro rfl
      unfold Blk at hg
      rw [hh] at hg
      injection hg with hg
      injection hg with _ ht
      exact hne ht
/-- no block of another element type is its block -/
theorem OwnF.other (h : OwnF w base e m f v cs) {g : Nat} {t : TypeId} {xs : Array Value} {fr : Nat × Nat} (hg : w.heap[g]? = some (.cells xs t fr)) (hne : e ≠ t) : some g ≠ v.ownBlock := by
  rcases h.2 with ⟨rfl, _⟩ | ⟨g', cap, cur, rfl, _, hh, _⟩
  · simp [Value.ownBlock]
  · intro he
    have : g = g' := by simpa [Value.ownBlock] using he
    subst this
    rw [hh] at hg
    injection hg with hg
    injection hg with _ ht
    exact hne ht
end

/-- the same, and the slice's room is no less than its length -/
def RetJ (k : IntKind) (zs : List Int) (w : World) (e : Ending) (w' : World) : Prop := (∃ B d, e = .returned (.slice B zs.length d) ∧ zs.length ≤ d ∧ RdI w' k B zs) ∧ Below w.heap.size w w'
theorem RetJ.weak {k : IntKind} {zs : List Int} {w : World} {e : Ending} {w' : World} (h : RetJ k zs w e w') : RetI k zs w e w' := by
  obtain ⟨⟨B, d, h1, _, h2⟩, h3⟩ := h
  exact ⟨⟨B, d, h1, h2⟩, h3⟩
theorem OwnI.retJ {a w : World} {base : Nat} {e : TypeId} {k : IntKind} {v : Value} {zs : List Int} (h : OwnI w base e k v zs) (hb : Below a.heap.size a w) : RetJ k zs a (.returned v) w := by
  rcases h.2 with ⟨rfl, h0⟩ | ⟨g, cap, cur, rfl, _, _, hc, _⟩
  · have : zs = [] := List.eq_nil_of_length_eq_zero h0
    subst this
    exact ⟨⟨_, _, rfl, Nat.le_refl _, RdI.nil _ _ _⟩, hb⟩
  · obtain ⟨A, c, hv, hr⟩ := h.rd
    injection hv with h1 _ h2
    subst h1; subst h2
    exact ⟨⟨_, _, rfl, hc, hr⟩, hb⟩

section
variable {P : Program} (w : World)
theorem wpList_appF {α : Type} {ops : Array Oper} {rest : List Oper} {o : Oper} {a : Act} {Q : Exit → Act → World → Prop} (hgd : o.guard = none) (s x : Operand) (t : TypeId)
    (ho : o.op = .call { callee := .builtin .append, args := #[s, x], argTypes := #[t, t] })
    (base : Nat) (e : TypeId) (m bytes : Nat) (z : Value) (f : α → List Value) (hf : ∀ c, (f c).length = m) (h1 : ∀ c, ∀ u ∈ f c, u.oneCell' = true) (ht : P.underlying t = some (.slice e))
    (hi : (P.info? e).map (fun i => (i.zero, i.size, i.bytes)) = some (some z, m, bytes)) (hzs : z.cells.size = m) (hm : 0 < m)
    (v : Value) (cs : List α) (hs : a.eval s = v) (hown : OwnF w base e m f v cs)
    (A : Option Addr) (n c : Nat) (news : List α) (hx : a.eval x = .slice A n c) (hl : news.length = n) (hr : RdF w f A news)
    (hbytes : (cs.length + news.length) * bytes ≤ 140737488355328) (h63 : cs.length + news.length ≤ 9223372036854775807) (hbase : base ≤ w.heap.size)
    (h : ∀ v' w', OwnF w' base e m f v' (cs ++ news) → w.grownBy w' v.ownBlock → (v'.ownBlock = v.ownBlock ∨ v'.ownBlock = some w.heap.size) → wpList P ops Q rest (a.put o.dst v') w') : wpList P ops Q (o :: rest) a w := by
  obtain ⟨i, hi0, hz0, hz1, hz2⟩ := info_parts hi
  subst hl
  refine wpList_app w hgd s x t ho base e i z m bytes ht hi0 hz0 hz1 hz2 hzs hm v cs.length _ hs hown A news.length c (news.flatMap f) hx (flat_len hf _) hr (fun u hu => ?_) (by unfold maxLen; omega) hbytes hbase
    fun v' w' h1 h2 h3 => h v' w' ?_ h2 h3
  · obtain ⟨x, _, hux⟩ := List.mem_flatMap.1 hu
    exact h1 x u hux
  · unfold OwnF
    rw [List.length_append, List.flatMap_append]
    exact h1

theorem wp_appI {o : Oper} {a : Act} {K : Act → World → Prop} {Q : Exit → Act → World → Prop} (s x : Operand) (t : TypeId)
    (ho : o.op = .call { callee := .builtin .append, args := #[s, x], argTypes := #[t, t] })
    (base : Nat) (e : TypeId) (k : IntKind) (ht : P.underlying t = some (.slice e)) (hi : (P.info? e).map (fun i => (i.zero, i.size, i.bytes)) = some (some (.int k 0), 1, 8))
    (v : Value) (zs : List Int) (hs : a.eval s = v) (hown : OwnI w base e k v zs)
    (A : Option Addr) (m c : Nat) (news : List Int) (hx : a.eval x = .slice A m c) (hl : news.length = m) (hr : RdI w k A news)
    (hbytes : (zs.length + news.length) * 8 ≤ 140737488355328) (hbase : base ≤ w.heap.size)
    (h : ∀ v' w', OwnI w' base e k v' (zs ++ news) → w.grownBy w' v.ownBlock → (v'.ownBlock = v.ownBlock ∨ v'.ownBlock = some w.heap.size) → K (a.put o.dst v') w') : o.wp P a w K Q := by
  obtain ⟨i, hi0, hz0, hz1, hz2⟩ := info_parts hi
  subst hl
  refine wp_app w s x t ho base e i (.int k 0) 1 8 ht hi0 hz0 hz1 hz2 rfl (by decide) v zs.length _ hs hown A news.length c (news.map (Value.int k)) hx (by simp) hr (ints_one _ _) (by unfold maxLen; omega) hbytes hbase
    fun v' w' h1 h2 h3 => h v' w' ?_ h2 h3
  unfold OwnI
  rw [List.length_append, List.map_append]
  exact h1

theorem wpList_appI {ops : Array Oper} {rest : List Oper} {o : Oper} {a : Act} {Q : Exit → Act → World → Prop} (hgd : o.guard = none) (s x : Operand) (t : TypeId)
    (ho : o.op = .call { callee := .builtin .append, args := #[s, x], argTypes := #[t, t] })
    (base : Nat) (e : TypeId) (k : IntKind) (ht : P.underlying t = some (.slice e)) (hi : (P.info? e).map (fun i => (i.zero, i.size, i.bytes)) = some (some (.int k 0), 1, 8))
    (v : Value) (zs : List Int) (hs : a.eval s = v) (hown : OwnI w base e k v zs)
    (A : Option Addr) (m c : Nat) (news : List Int) (hx : a.eval x = .slice A m c) (hl : news.length = m) (hr : RdI w k A news)
    (hbytes : (zs.length + news.length) * 8 ≤ 140737488355328) (hbase : base ≤ w.heap.size)
    (h : ∀ v' w', OwnI w' base e k v' (zs ++ news) → w.grownBy w' v.ownBlock → (v'.ownBlock = v.ownBlock ∨ v'.ownBlock = some w.heap.size) → wpList P ops Q rest (a.put o.dst v') w') : wpList P ops Q (o :: rest) a w :=
  wpList_plain hgd fun _ hK => wp_appI w s x t ho base e k ht hi v zs hs hown A m c news hx hl hr hbytes hbase fun v' w' h2 h3 h4 => hK _ _ (h v' w' h2 h3 h4)
theorem wpList_makeI {ops : Array Oper} {rest : List Oper} {o : Oper} {a : Act} {Q : Exit → Act → World → Prop}
    (hg : o.guard = none) (l c : Operand) (t : TypeId) (hop : o.op = Op.makeSlice t l c)
    (base : Nat) (e : TypeId) (k : IntKind) (ht : P.underlying t = some (.slice e)) (hi : (P.info? e).map (fun i => (i.zero, i.size, i.bytes)) = some (some (.int k 0), 1, 8))
    (kl kc : IntKind) (L C : Int) (n : Nat) (hl : a.eval l = .int kl L) (hc : a.eval c = .int kc C) (hL : L = (n : Int)) (hC : C = (n : Int)) (b2 : 8 * n ≤ 281474976710656) (b4 : base ≤ w.heap.size)
    (hK : ∀ w', OwnI w' base e k (.slice (some ⟨w.heap.size, 0, none⟩) n n) (List.replicate n 0) → Below w.heap.size w w' → wpList P ops Q rest (a.put o.dst (.slice (some ⟨w.heap.size, 0, none⟩) n n)) w') :
    wpList P ops Q (o :: rest) a w := by
  obtain ⟨i, hi0, hz0, hz1, hz2⟩ := info_parts hi
  refine wpList_make_full w hg l c t hop base e i (.int k 0) 1 ht hi0 hz0 hz1 kl kc L C n hl hc hL hC (by rw [hz2]; exact b2) (by unfold maxLen; omega) b4 fun w' h1 h2 => hK w' ?_ ((Below.refl _ _).grown h2 (Nat.le_refl _) (fun k hk => by cases hk))
  unfold OwnI
  have e1 : (madeCells (Value.int k 0).cells (n * 1)).toList = List.replicate n (Value.int k 0) := by rw [Nat.mul_one]; exact toList_madeCells_one _ _
  rw [e1] at h1
  rw [List.length_replicate, List.map_replicate]
  exact h1
theorem RdI.oneAt (k : IntKind) (z : Int) (e : TypeId) {g : Nat} (h : g = w.heap.size) : RdI (w.alloc (.cells #[.int k z] e)) k (some ⟨g, 0, none⟩) [z] := by subst h; exact Rd.one w _ e
theorem RdI.one (k : IntKind) (z : Int) (e : TypeId) : RdI (w.alloc (.cells #[.int k z] e)) k (some ⟨w.heap.size, 0, none⟩) [z] := Rd.one w _ e
end

end Go.Proofs.Ythghghoikaincaa
