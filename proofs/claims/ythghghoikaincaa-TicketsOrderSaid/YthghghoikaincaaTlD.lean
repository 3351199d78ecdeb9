/- Tickets: what is taken and left is what was put, and in its order. Plain Lean. -/
import Derived.Test.YthghghoikaincaaTlC
namespace Go.Proofs.Ythghghoikaincaa
open Go.RowKit

theorem nodup_len : ∀ {l1 l2 : List Nat}, l1.Nodup → (∀ a ∈ l1, a ∈ l2) → l1.length ≤ l2.length := by
  intro l1
  induction l1 with
  | nil => intro l2 _ _; exact Nat.zero_le _
  | cons a l ih =>
    intro l2 hn hs
    obtain ⟨h1, h2⟩ := List.nodup_cons.1 hn
    have ha := hs a (List.mem_cons_self ..)
    have hle := ih (l2 := l2.erase a) h2 (fun b hb => (List.mem_erase_of_ne (fun e => h1 (by rw [← e]; exact hb))).2 (hs b (List.mem_cons_of_mem _ hb)))
    rw [List.length_erase_of_mem ha] at hle
    have := List.length_pos_of_mem ha
    simp only [List.length_cons]
    omega
theorem nodup_take {l : List Int} {i : Nat} {x : Int} (hn : l.Nodup) (hx : l[i]? = some x) : x ∉ l.take i := by
  intro hm
  rw [← List.take_append_drop i l, List.nodup_append] at hn
  exact hn.2.2 x hm x (by rw [drop_of hx]; exact List.mem_cons_self ..) rfl
/-- the cells that are left, ahead of one -/
def leftP (q : QT) : Nat → List Nat
  | 0 => []
  | k + 1 => leftP q k ++ (if 2 + min (q.word 0) 4096 ≤ (k : Int) ∧ 2 ≤ q.word k then [k - 2] else [])
section
variable {q : QT} {I : Int} {w n t s : Int}
theorem left_val (h0 : 0 ≤ q.word 0) (k : Nat) : leftTo q k = (leftP q k).map q.val := by
  induction k with
  | zero => rfl
  | succ k ih =>
    unfold leftTo leftP
    rw [List.map_append, ← ih]
    congr 1
    split
    · rename_i h
      show [_] = [q.val (k - 2)]
      unfold QT.val
      rw [show 2 + (k - 2) = k by omega]
    · rfl
theorem leftP_mem (h0 : 0 ≤ q.word 0) (k p : Nat) : p ∈ leftP q k ↔ 2 + p < k ∧ min (q.word 0) 4096 ≤ (p : Int) ∧ 2 ≤ q.word (2 + p) := by
  induction k with
  | zero => unfold leftP; simp
  | succ k ih =>
    unfold leftP
    rw [List.mem_append, ih]
    split
    · rename_i h
      rw [List.mem_singleton]
      constructor
      · rintro (h1 | rfl)
        · exact ⟨by omega, h1.2⟩
        · rw [show 2 + (k - 2) = k by omega]; exact ⟨by omega, by omega, h.2⟩
      · rintro ⟨h1, h2, h3⟩
        by_cases e : 2 + p = k
        · right; omega
        · left; exact ⟨by omega, h2, h3⟩
    · rename_i h
      constructor
      · rintro (h1 | h1)
        · exact ⟨by omega, h1.2⟩
        · simp at h1
      · rintro ⟨h1, h2, h3⟩
        left
        refine ⟨?_, h2, h3⟩
        by_cases e : 2 + p = k
        · exfalso; rw [e] at h3; exact h ⟨by omega, h3⟩
        · omega
theorem leftP_nodup (h0 : 0 ≤ q.word 0) (k : Nat) : (leftP q k).Nodup := by
  induction k with
  | zero => unfold leftP; simp
  | succ k ih =>
    unfold leftP
    rw [List.nodup_append]
    refine ⟨ih, by split <;> simp, ?_⟩
    intro a ha b hb e
    rw [leftP_mem h0] at ha
    split at hb
    · rw [List.mem_singleton] at hb; omega
    · simp at hb
theorem sp_v (P : List Rec) (h : spL q.N 8 = P.map (Rec.sp q)) : takenL q.N 8 = (P.map Rec.p).map q.val := by
  unfold takenL
  rw [taken_sp]
  show (spL q.N 8).map SpT.v = _
  rw [h, List.map_map, List.map_map]
  rfl
theorem sp_v9 (P : List Rec) (h : spL q.N 9 = P.map (Rec.sp q)) : takenL q.N 9 = (P.map Rec.p).map q.val := by
  unfold takenL
  rw [taken_sp]
  show (spL q.N 9).map SpT.v = _
  rw [h, List.map_map, List.map_map]
  rfl
/-- what was taken, and what is left, is what was put -/
theorem once_law (h : OInv q I) (hi : QInv q w n t s) (hidle : ∀ (i : Nat) (x : CmT), q.T[i]? = some x → x.pc = 0) :
    (takenL q.N 9 ++ leftTo q q.L.length).length = (takenL q.N 8).length ∧
    ∀ (i : Nat) (x : Int), (takenL q.N 9 ++ leftTo q q.L.length)[i]? = some x → x ∈ takenL q.N 8 ∧ x ∉ (takenL q.N 9 ++ leftTo q q.L.length).take i := by
  obtain ⟨hI0, P, R, D1, D0, hP, hR, hB⟩ := h
  have h0 := (hi.w0 0 (by decide)).1
  have hs1 := hi.s1
  have hs0 := hi.s0
  have hlen := hi.len
  obtain ⟨A, hA⟩ : ∃ A, A = R.map Rec.p ++ leftP q q.L.length := ⟨_, rfl⟩
  have eA : takenL q.N 9 ++ leftTo q q.L.length = A.map q.val := by rw [hA, List.map_append, sp_v9 R hR.sp, left_val h0]
  obtain ⟨B, hB'⟩ : ∃ B, B = P.map Rec.p := ⟨_, rfl⟩
  have eB : takenL q.N 8 = B.map q.val := by rw [hB', sp_v P hP.sp]
  have nB : B.Nodup := by rw [hB']; exact hP.nd
  have nA : A.Nodup := by
    rw [hA, List.nodup_append]
    refine ⟨hR.nd, leftP_nodup h0 _, ?_⟩
    intro a ha b hb e
    obtain ⟨r, hr, rfl⟩ := List.mem_map.1 ha
    rw [leftP_mem h0] at hb
    have := hR.ok r hr
    omega
  have mB : ∀ p : Nat, p ∈ B ↔ (p : Int) < q.size ∧ 2 ≤ q.word (2 + p) := by
    intro p
    rw [hB', List.mem_map]
    constructor
    · rintro ⟨r, hr, rfl⟩
      have := hP.ok r hr
      exact ⟨this.1, this.2.1⟩
    · rintro ⟨h1, h2⟩
      obtain ⟨r, hr, h3⟩ := hP.cov p h1 h2
      exact ⟨r, hr, h3⟩
  have mA : ∀ p : Nat, p ∈ A ↔ (p : Int) < q.size ∧ 2 ≤ q.word (2 + p) := by
    intro p
    rw [hA, List.mem_append, List.mem_map, leftP_mem h0]
    constructor
    · rintro (⟨r, hr, rfl⟩ | ⟨h1, h2, h3⟩)
      · have := hR.ok r hr
        exact ⟨this.1, this.2.1⟩
      · exact ⟨by omega, h3⟩
    · rintro ⟨h1, h2⟩
      by_cases hlt : (p : Int) < q.word 0
      · rcases hR.cov p h1 hlt (by omega) with ⟨r, hr, h3⟩ | ⟨i, x, hx, hp, _⟩
        · exact .inl ⟨r, hr, h3⟩
        · have := hidle i x hx; omega
      · exact .inr ⟨by omega, by omega, h2⟩
  rw [eA, eB]
  have nV : (A.map q.val).Nodup := by
    unfold List.Nodup
    rw [List.pairwise_map]
    refine List.Pairwise.imp_of_mem ?_ nA
    intro a b ha hb hab e
    have h1 := (mA a).1 ha
    have h2 := (mA b).1 hb
    refine hab (hP.cd a b h1.1 h2.1 h1.2 ?_)
    unfold QT.val at e
    omega
  refine ⟨?_, fun i x hx => ⟨?_, nodup_take nV hx⟩⟩
  · rw [List.length_map, List.length_map]
    exact Nat.le_antisymm (nodup_len nA fun a ha => (mB a).2 ((mA a).1 ha)) (nodup_len nB fun a ha => (mA a).2 ((mB a).1 ha))
  · obtain ⟨p, hp, rfl⟩ := List.mem_map.1 (List.mem_of_getElem? hx)
    exact List.mem_map.2 ⟨p, (mB p).2 ((mA p).1 hp), rfl⟩
/-- of two values, the second one is not taken ahead of the first one -/
theorem order_law (h : OInv q I) (hi : QInv q w n t s) {a b y : SpT} (ha : a ∈ spL q.N 8) (hb : b ∈ spL q.N 8) (hab : a.e < b.b) (hy : y ∈ spL q.N 9) (hyv : y.v = b.v) :
    a.v ∉ leftTo q q.L.length ∧ ∀ x ∈ spL q.N 9, x.v = a.v → ¬ y.e < x.b := by
  obtain ⟨hI0, P, R, D1, D0, hP, hR, hB⟩ := h
  have h0 := (hi.w0 0 (by decide)).1
  have hs1 := hi.s1
  rw [hP.sp] at ha hb
  rw [hR.sp] at hy ⊢
  obtain ⟨ra, hra, rfl⟩ := List.mem_map.1 ha
  obtain ⟨rb, hrb, rfl⟩ := List.mem_map.1 hb
  obtain ⟨ry, hry, rfl⟩ := List.mem_map.1 hy
  obtain ⟨a1, a2, a3, a4, a5⟩ := hP.ok ra hra
  obtain ⟨b1, b2, b3, b4, b5⟩ := hP.ok rb hrb
  obtain ⟨y1, y2, y3, y4, y5⟩ := hR.ok ry hry
  have hab' : ra.e < rb.b := hab
  have hpab : ra.p < rb.p := by
    rcases Nat.lt_or_ge ra.p rb.p with h1 | h1
    · exact h1
    · exfalso
      rcases Nat.lt_or_ge rb.p ra.p with h2 | h2
      · have := hP.dm rb.p ra.p h2 a3; omega
      · have : ra.p = rb.p := by omega
        rw [this] at a5; omega
  have eyb : ry.p = rb.p := by
    refine hP.cd _ _ y1 b1 y2 ?_
    have : q.val ry.p = q.val rb.p := hyv
    unfold QT.val at this
    omega
  rw [eyb] at y1 y2 y3 y4 y5
  refine ⟨fun hm => ?_, fun x hx hxv hlt => ?_⟩
  · rw [left_val h0] at hm
    obtain ⟨p, hp, hpv⟩ := List.mem_map.1 hm
    rw [leftP_mem h0] at hp
    have hlen := hi.len; have hs0 := hi.s0
    have e : p = ra.p := by
      refine hP.cd _ _ (by omega) a1 hp.2.2 ?_
      have : q.val p = q.val ra.p := hpv
      unfold QT.val at this
      omega
    omega
  · obtain ⟨rx, hrx, rfl⟩ := List.mem_map.1 hx
    obtain ⟨x1, x2, x3, x4, x5⟩ := hR.ok rx hrx
    have e : rx.p = ra.p := by
      refine hP.cd _ _ x1 a1 x2 ?_
      have : q.val rx.p = q.val ra.p := hxv
      unfold QT.val at this
      omega
    rw [e] at x3 x4
    have hlt' : ry.e < rx.b := hlt
    have := hR.dm ra.p rb.p hpab y3
    omega
end
end Go.Proofs.Ythghghoikaincaa
