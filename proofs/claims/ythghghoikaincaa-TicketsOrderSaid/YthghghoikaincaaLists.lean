/- Small laws of lists. -/
import Derived.Test.YthghghoikaincaaMem
namespace Go.Proofs.Ythghghoikaincaa
open Go.RowKit

theorem len_of {α : Type} {zs : List α} {k : Nat} {z : α} (h : zs[k]? = some z) : k < zs.length := (List.getElem?_eq_some_iff.1 h).1
theorem take_of {α : Type} {zs : List α} {k : Nat} {z : α} (h : zs[k]? = some z) : zs.take (k + 1) = zs.take k ++ [z] := by
  rw [List.take_succ_eq_append_getElem (len_of h)]
  congr 2
  exact (List.getElem?_eq_some_iff.1 h).2
theorem take_all {α : Type} {zs : List α} {k n : Nat} (hn : n = zs.length) (h : n ≤ k) : zs.take k = zs := List.take_of_length_le (by omega)

/-- two lists, the same so far -/
theorem same_all {α : Type} {xs ys : List α} {n k : Nat} (hx : n = xs.length) (hy : n = ys.length) (hk : ¬ k < n) (h : ∀ (j : Nat) (x y : α), j < k → xs[j]? = some x → ys[j]? = some y → x = y) : xs = ys := by
  apply List.ext_getElem (by omega)
  intro i h1 h2
  exact h i _ _ (by omega) (List.getElem?_eq_getElem h1) (List.getElem?_eq_getElem h2)
theorem drop_of {α : Type} {zs : List α} {k : Nat} {z : α} (h : zs[k]? = some z) : zs.drop k = z :: zs.drop (k + 1) := by
  rw [List.drop_eq_getElem_cons (len_of h), (List.getElem?_eq_some_iff.1 h).2]
theorem RdI.take {w : World} {k : IntKind} {A : Option Addr} {zs : List Int} (h : RdI w k A zs) (m : Nat) : RdI w k A (zs.take m) := by
  intro j u hu
  refine h j u ?_
  rw [List.map_take] at hu
  have hj : j < m := by have := (List.getElem?_eq_some_iff.1 hu).1; rw [List.length_take] at this; omega
  rwa [List.getElem?_take_of_lt hj] at hu
theorem OwnI.cap {w : World} {base : Nat} {e : TypeId} {k : IntKind} {A : Option Addr} {n c : Nat} {zs : List Int} (h : OwnI w base e k (.slice A n c) zs) : n = zs.length ∧ n ≤ c := by
  rcases h.2 with ⟨h', h0⟩ | ⟨g', cap', cur, h', _, _, hc, _⟩
  · injection h' with _ h1 h2; subst h1; subst h2; exact ⟨h0.symm, Nat.le_refl _⟩
  · injection h' with _ h1 h2; subst h1; subst h2; exact ⟨rfl, hc⟩
theorem RdI.of_none {w : World} {k : IntKind} {zs : List Int} (h : RdI w k none zs) : zs = [] := by
  rcases zs with _ | ⟨z, l⟩
  · rfl
  · obtain ⟨_, h, _⟩ := h 0 _ rfl
    cases h
theorem RdI.drop {w : World} {k : IntKind} {ad : Addr} {zs : List Int} (h : RdI w k (some ad) zs) (m : Nat) : RdI w k (some (ad.add m)) (zs.drop m) := by
  intro j u hu
  obtain ⟨ad', h1, h2⟩ := h (m + j) u (by rw [List.map_drop, List.getElem?_drop] at hu; exact hu)
  injection h1 with h1
  subst h1
  exact ⟨_, rfl, by rw [add_addW]; exact h2⟩
theorem OwnI.extW {w w' : World} {base : Nat} {e : TypeId} {k : IntKind} {v : Value} {zs : List Int} (h : OwnI w base e k v zs) (hb : Below w.heap.size w w') : OwnI w' base e k v zs := by
  obtain ⟨h1, h2⟩ := h
  refine ⟨h1, ?_⟩
  rcases h2 with h2 | ⟨g', cap, cur, hv, hbs, hh, r⟩
  · exact Or.inl h2
  · refine Or.inr ⟨g', cap, cur, hv, hbs, ?_, r⟩
    rw [hb.block g' (Blk.lt hh)]
    exact hh
theorem OwnI.weak {w : World} {base base' : Nat} {e : TypeId} {k : IntKind} {v : Value} {zs : List Int} (h : OwnI w base e k v zs) (hb : base' ≤ base) : OwnI w base' e k v zs := by
  obtain ⟨h1, h2⟩ := h
  refine ⟨h1, ?_⟩
  rcases h2 with h2 | ⟨g', cap, cur, hv, hbs, r⟩
  · exact Or.inl h2
  · exact Or.inr ⟨g', cap, cur, hv, by omega, r⟩
theorem OwnI.shape {w : World} {base : Nat} {e : TypeId} {k : IntKind} {v : Value} {zs : List Int} (h : OwnI w base e k v zs) : ∃ A c, v = .slice A zs.length c := by
  obtain ⟨A', c', hv, _⟩ := h.rd
  exact ⟨A', c', hv⟩
/-- append's law at a step of a region that draws -/
theorem step_appI {P : Program} {w : World} {ops : Array Oper} {o : Oper} {a : Act} {K : Act → World → Prop} {Q : Exit → Act → World → Prop} {E : Prop} (hgd : o.guard = none) (s x : Operand) (t : TypeId)
    (ho : o.op = .call { callee := .builtin .append, args := #[s, x], argTypes := #[t, t] })
    (base : Nat) (e : TypeId) (k : IntKind) (ht : P.underlying t = some (.slice e)) (hi : (P.info? e).map (fun i => (i.zero, i.size, i.bytes)) = some (some (.int k 0), 1, 8))
    (v : Value) (zs : List Int) (hs : a.eval s = v) (hown : OwnI w base e k v zs)
    (A : Option Addr) (m c : Nat) (news : List Int) (hx : a.eval x = .slice A m c) (hl : news.length = m) (hr : RdI w k A news)
    (hbytes : (zs.length + news.length) * 8 ≤ 140737488355328) (hbase : base ≤ w.heap.size)
    (h : ∀ v' w', OwnI w' base e k v' (zs ++ news) → w.grownBy w' v.ownBlock → (v'.ownBlock = v.ownBlock ∨ v'.ownBlock = some w.heap.size) → K (a.put o.dst v') w') :
    if Region.wanted o (yielded ops a.tmps) = true then Oper.wp P o a w K Q else E := by
  have hw : Region.wanted o (yielded ops a.tmps) = true := by simp [Region.wanted, hgd]
  rw [if_pos hw]
  exact wp_appI w s x t ho base e k ht hi v zs hs hown A m c news hx hl hr hbytes hbase h
/-- the same, of rows -/
theorem step_appF {α : Type} {P : Program} {w : World} {ops : Array Oper} {o : Oper} {a : Act} {K : Act → World → Prop} {Q : Exit → Act → World → Prop} {E : Prop} (hgd : o.guard = none) (s x : Operand) (t : TypeId)
    (ho : o.op = .call { callee := .builtin .append, args := #[s, x], argTypes := #[t, t] })
    (base : Nat) (e : TypeId) (m bytes : Nat) (z : Value) (f : α → List Value) (hf : ∀ c, (f c).length = m) (h1 : ∀ c, ∀ u ∈ f c, u.oneCell' = true) (ht : P.underlying t = some (.slice e))
    (hi : (P.info? e).map (fun i => (i.zero, i.size, i.bytes)) = some (some z, m, bytes)) (hzs : z.cells.size = m) (hm : 0 < m)
    (v : Value) (cs : List α) (hs : a.eval s = v) (hown : OwnF w base e m f v cs)
    (A : Option Addr) (n c : Nat) (news : List α) (hx : a.eval x = .slice A n c) (hl : news.length = n) (hr : RdF w f A news)
    (hbytes : (cs.length + news.length) * bytes ≤ 140737488355328) (h63 : cs.length + news.length ≤ 9223372036854775807) (hbase : base ≤ w.heap.size)
    (h : ∀ v' w', OwnF w' base e m f v' (cs ++ news) → w.grownBy w' v.ownBlock → (v'.ownBlock = v.ownBlock ∨ v'.ownBlock = some w.heap.size) → K (a.put o.dst v') w') :
    if Region.wanted o (yielded ops a.tmps) = true then Oper.wp P o a w K Q else E := by
  have hw : Region.wanted o (yielded ops a.tmps) = true := by simp [Region.wanted, hgd]
  rw [if_pos hw]
  obtain ⟨i, hi0, hz0, hz1, hz2⟩ := info_parts hi
  subst hl
  refine wp_app w s x t ho base e i z m bytes ht hi0 hz0 hz1 hz2 hzs hm v cs.length _ hs hown A news.length c (news.flatMap f) hx (flat_len hf _) hr (fun u hu => ?_) (by unfold maxLen; omega) hbytes hbase
    fun v' w' h1 h2 h3 => h v' w' ?_ h2 h3
  · obtain ⟨x, _, hux⟩ := List.mem_flatMap.1 hu
    exact h1 x u hux
  · unfold OwnF
    rw [List.length_append, List.flatMap_append]
    exact h1
theorem run_sliceTo {P : Program} (t e : TypeId) (ht : P.underlying t = some (.slice e)) (hi : (P.info? e).map (fun i => (i.zero, i.size, i.bytes)) = some (some (.int .i64 0), 1, 8)) (A : Option Addr) (n c m : Nat) (X : Int) (hX : X = (m : Int)) (hm : m ≤ c) (w : World) :
    (Instr.slice t (.slice A n c) none (some (.int .i64 X)) none).run P w = .ok (.slice A m c) w := by
  subst hX
  obtain ⟨i, hi0, _, hi1, _⟩ := info_parts hi
  have h0 : 0 ≤ (m : Int) ∧ (m : Int) ≤ (c : Int) := by omega
  by_cases hcm : c = 0
  · have : m = 0 := by omega
    subst this; subst hcm
    cases A <;> simp [Instr.slice, Instr.sliceBounds, run_underlying ht, sizeOf, typeInfo, hi0, run_sliceBound_if]
  · simp [Instr.slice, Instr.sliceBounds, run_underlying ht, sizeOf, typeInfo, hi0, run_sliceBound_if, h0, hcm]
    cases A <;> simp [add_zero]
/-- where a slice stands from a place on -/
def dropA (A : Option Addr) (c m : Nat) : Option Addr := if c = m then A else A.map (·.add m)
theorem run_sliceFrom {P : Program} (t e : TypeId) (ht : P.underlying t = some (.slice e)) (hi : (P.info? e).map (fun i => (i.zero, i.size, i.bytes)) = some (some (.int .i64 0), 1, 8)) (A : Option Addr) (n c m : Nat) (X : Int) (hX : X = (m : Int)) (hm : m ≤ n) (w : World) :
    (Instr.slice t (.slice A n c) (some (.int .i64 X)) none none).run P w = .ok (.slice (dropA A c m) (n - m) (c - m)) w := by
  subst hX
  obtain ⟨i, hi0, _, hi1, _⟩ := info_parts hi
  have h0 : 0 ≤ (m : Int) ∧ (m : Int) ≤ (n : Int) := by omega
  simp [Instr.slice, Instr.sliceBounds, run_underlying ht, sizeOf, typeInfo, hi0, run_sliceBound_if, h0, hi1, dropA]
theorem RdI.from {w : World} {k : IntKind} {A : Option Addr} {c : Nat} {zs : List Int} (h : RdI w k A zs) (hc : zs.length ≤ c) (m : Nat) : RdI w k (dropA A c m) (zs.drop m) := by
  unfold dropA
  by_cases hcm : c = m
  · rw [List.drop_of_length_le (by omega)]; exact RdI.nil _ _ _
  · rw [if_neg hcm]
    rcases A with _ | ad
    · rw [h.of_none]; simp; exact RdI.nil _ _ _
    · exact h.drop m
end Go.Proofs.Ythghghoikaincaa
