/- The walks of mem.(*Mem)'s Load, Swap, Add, on a row that was made and is not noted. -/
import Derived.Test.YthghghoikaincaaTkC
namespace Go.Proofs.Ythghghoikaincaa
open Go.RowKit

/-- blocks of other types are as they were -/
def Keeps (w w' : World) : Prop := ∀ (b : Nat) (xs : Array Value) (t : TypeId) (fr : Nat × Nat), w.heap[b]? = some (.cells xs t fr) → t ≠ 71 → t ≠ 67 → t ≠ 83 → t ≠ 3 → w'.heap[b]? = some (.cells xs t fr)
theorem Keeps.trans {a b c : World} (h : Keeps a b) (k : Keeps b c) : Keeps a c := fun x xs t fr h0 h1 h2 h3 h4 => k x xs t fr (h x xs t fr h0 h1 h2 h3 h4) h1 h2 h3 h4
theorem Keeps.refl (w : World) : Keeps w w := fun _ _ _ _ h _ _ _ _ => h
theorem Keeps.of_ext {w w' : World} (hb : Below w.heap.size w w') : Keeps w w' := fun b _ _ _ h _ _ _ _ => (hb.block b (Blk.lt' h)).trans h
theorem Keeps.of_rest {w w' : World} {base g : Nat} {vl vg vc : Value} {L : List Int} {G : List Acc} {C : List Int} {kp : Bool} (h : MemV w base g vl vg vc L G C kp) (r : Rest w w' g vl vg vc) : Keeps w w' := by
  intro b xs t fr hb h1 h2 h3 h4
  refine (r b (Blk.lt' hb) ?_ ?_ ?_ ?_).trans hb
  · rintro rfl
    have := h.blk
    unfold Blk at this
    rw [hb] at this
    injection this with this
    injection this with _ ht
    exact h1 ht
  · intro he; exact own_other' h.words hb (Ne.symm h2) he.symm
  · intro he; exact own_other' h.log hb (Ne.symm h3) he.symm
  · intro he; exact own_other' h.counts hb (Ne.symm h4) he.symm
/-- what a call leaves of a row -/
def MemTo (w : World) (base g : Nat) (vl vg vc : Value) (L : List Int) (G : List Acc) (C : List Int) (w' : World) : Prop :=
  (∃ vc', MemV w' base g vl vg vc' L G C false ∧ NewOr w vc vc') ∧ Rest w w' g vl vg vc ∧ Keeps w w' ∧ Below base w w'
theorem Rest.from {w wb w1 : World} {g : Nat} {vl vg vc : Value} (hb : Below w.heap.size w wb) (h : Rest wb w1 g vl vg vc) : Rest w w1 g vl vg vc :=
  fun b hb0 h0 h1 h2 h3 => (h b (Nat.lt_of_lt_of_le hb0 hb.size) h0 h1 h2 h3).trans (hb.block b hb0)

section
variable (w : World) (base g : Nat) (vl vg vc : Value) (L : List Int) (G : List Acc) (C : List Int)

set_option maxHeartbeats 1000000 in
theorem load_any (th : Int) (k : Nat) (x : Int)  (h : MemV w base g vl vg vc L G C false) (hC : C.length ≤ 64) (hL : L.length ≤ 2000000) (hx : L[k]? = some x) :
    Calls Try.prog 31 #[.pointer (some ⟨g, 0, none⟩), .int .i64 th, .int .i64 k] w fun e w' =>
      e = .returned (.tuple #[.int .u64 x, .int .i64 0]) ∧ MemTo w base g vl vg vc (L.set k (x)) G (cntAdd C th) w' := by
  have hbw : Below w.heap.size w w := selfW w

  have hD := do_load w base g vl vg vc L G C th 1 0 0 0 k false x  (h.extW hbw) hC hL hx 
  have HD := hide hD
  have HB := hide hbw
  have H := hide h
  have hbs : base ≤ w.heap.size := Nat.le_trans h.low (Nat.le_of_lt h.blk.lt)
  have hmf : ∀ (fn : Fn) (first cap : Array Value) (w : World), (Instr.makeFunc fn first cap).run Try.prog w = .ok (.func fn first cap) w := fun _ _ _ _ => rfl
  clear hD h hx hbw 
  go_enter Try.func31, Try.ntmps31
  go_wp2_with fail
  refine HD.out.mono ?_
  rintro e w1 ⟨rfl, ⟨vc', hM, hN⟩, hR, hB⟩
  have HM := hide hM
  have HN := hide (NewOr.trans (NewOr.refl w vc) HB.out.size hN)
  have HR := hide (Rest.from HB.out hR)
  have HK := hide ((Keeps.of_ext HB.out).trans (Keeps.of_rest (H.out.extW HB.out) hR))
  have HB1 := hide ((HB.out.mono hbs).trans hB)
  clear hM hR hB hN
  go_wp2_with fail
  go_ret2
  exact ⟨rfl, ⟨vc', HM.out.alloc _, HN.out⟩, HR.out.alloc HB1.out.size _, HK.out.trans (Keeps.of_ext (moreW (selfW _) _)), HB1.out.alloc (by have := HB1.out.size; omega) _⟩

set_option maxHeartbeats 1000000 in
theorem add_any (th : Int) (k : Nat) (x : Int) (y : Int) (h : MemV w base g vl vg vc L G C false) (hC : C.length ≤ 64) (hL : L.length ≤ 2000000) (hx : L[k]? = some x) :
    Calls Try.prog 34 #[.pointer (some ⟨g, 0, none⟩), .int .i64 th, .int .i64 k, .int .u64 y] w fun e w' =>
      e = .returned (.tuple #[.int .u64 x, .int .i64 0]) ∧ MemTo w base g vl vg vc (L.set k ((IntKind.u64.wrap (x + y)))) G (cntAdd C th) w' := by
  have hbw : Below w.heap.size w (w.alloc (.cells #[.int .u64 y] 67)) := (moreW (selfW w) (.cells #[.int .u64 y] 67))
  have hy0 : (w.alloc (.cells #[.int .u64 y] 67)).cell? ⟨w.heap.size, 0, none⟩ = some (.int .u64 y) := by simp
  have hD := do_add (w.alloc (.cells #[.int .u64 y] 67)) base g vl vg vc L G C th 4 0 0 0 k false x w.heap.size y (h.extW hbw) hC hL hx hy0
  have HD := hide hD
  have HB := hide hbw
  have H := hide h
  have hbs : base ≤ w.heap.size := Nat.le_trans h.low (Nat.le_of_lt h.blk.lt)
  have hmf : ∀ (fn : Fn) (first cap : Array Value) (w : World), (Instr.makeFunc fn first cap).run Try.prog w = .ok (.func fn first cap) w := fun _ _ _ _ => rfl
  clear hD h hx hbw hy0
  go_enter Try.func34, Try.ntmps34
  go_wp2_with fail
  refine HD.out.mono ?_
  rintro e w1 ⟨rfl, ⟨vc', hM, hN⟩, hR, hB⟩
  have HM := hide hM
  have HN := hide (NewOr.trans (NewOr.refl w vc) HB.out.size hN)
  have HR := hide (Rest.from HB.out hR)
  have HK := hide ((Keeps.of_ext HB.out).trans (Keeps.of_rest (H.out.extW HB.out) hR))
  have HB1 := hide ((HB.out.mono hbs).trans hB)
  clear hM hR hB hN
  go_wp2_with fail
  go_ret2
  exact ⟨rfl, ⟨vc', HM.out.alloc _, HN.out⟩, HR.out.alloc HB1.out.size _, HK.out.trans (Keeps.of_ext (moreW (selfW _) _)), HB1.out.alloc (by have := HB1.out.size; omega) _⟩

set_option maxHeartbeats 1000000 in
theorem swap_any (th : Int) (k : Nat) (x : Int) (wb y nw1 : Int) (ok1 : Bool) (h : MemV w base g vl vg vc L G C false) (hC : C.length ≤ 64) (hL : L.length ≤ 2000000) (hx : L[k]? = some x) (hnw : Hid ((if x = wb then y else x) = nw1 ∧ (x == wb) = ok1)):
    Calls Try.prog 28 #[.pointer (some ⟨g, 0, none⟩), .int .i64 th, .int .i64 k, .int .u64 wb, .int .u64 y] w fun e w' =>
      e = .returned (.tuple #[.bool ok1, .int .i64 0]) ∧ MemTo w base g vl vg vc (L.set k (nw1)) G (cntAdd C th) w' := by
  have hbw : Below w.heap.size w ((w.alloc (.cells #[.int .u64 wb] 67)).alloc (.cells #[.int .u64 y] 67)) := (moreW ((moreW (selfW w) (.cells #[.int .u64 wb] 67))) (.cells #[.int .u64 y] 67))
  have hy0 : ((w.alloc (.cells #[.int .u64 wb] 67)).alloc (.cells #[.int .u64 y] 67)).cell? ⟨w.heap.size, 0, none⟩ = some (.int .u64 wb) := by simp
  have hy1 : ((w.alloc (.cells #[.int .u64 wb] 67)).alloc (.cells #[.int .u64 y] 67)).cell? ⟨w.heap.size + 1, 0, none⟩ = some (.int .u64 y) := by simp
  have hD := do_swap ((w.alloc (.cells #[.int .u64 wb] 67)).alloc (.cells #[.int .u64 y] 67)) base g vl vg vc L G C th 3 wb 0 0 k false x w.heap.size (w.heap.size + 1) wb y nw1 ok1 (h.extW hbw) hC hL hx hy0 hy1 hnw
  have HD := hide hD
  have HB := hide hbw
  have H := hide h
  have hbs : base ≤ w.heap.size := Nat.le_trans h.low (Nat.le_of_lt h.blk.lt)
  have hmf : ∀ (fn : Fn) (first cap : Array Value) (w : World), (Instr.makeFunc fn first cap).run Try.prog w = .ok (.func fn first cap) w := fun _ _ _ _ => rfl
  clear hD h hx hbw hy0 hy1
  go_enter Try.func28, Try.ntmps28
  go_wp2_with fail
  refine HD.out.mono ?_
  rintro e w1 ⟨rfl, ⟨vc', hM, hN⟩, hR, hB⟩
  have HM := hide hM
  have HN := hide (NewOr.trans (NewOr.refl w vc) HB.out.size hN)
  have HR := hide (Rest.from HB.out hR)
  have HK := hide ((Keeps.of_ext HB.out).trans (Keeps.of_rest (H.out.extW HB.out) hR))
  have HB1 := hide ((HB.out.mono hbs).trans hB)
  clear hM hR hB hN
  go_wp2_with fail
  go_ret2
  exact ⟨rfl, ⟨vc', HM.out.alloc _, HN.out⟩, HR.out.alloc HB1.out.size _, HK.out.trans (Keeps.of_ext (moreW (selfW _) _)), HB1.out.alloc (by have := HB1.out.size; omega) _⟩

end
end Go.Proofs.Ythghghoikaincaa
