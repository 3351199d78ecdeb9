/- The walks of mem.(*Mem).do, by each of the four ways an access turns a word. -/
import Derived.Test.YthghghoikaincaaMemB
import Derived.RegionTactic
import Derived.Deep.RegionLaw
namespace Go.Proofs.Ythghghoikaincaa
open Go.RowKit

/-- a slice that is where it was, or in new memory -/
def NewOr (w : World) (v v' : Value) : Prop := ∀ b, v'.ownBlock = some b → v.ownBlock = some b ∨ w.heap.size ≤ b
theorem NewOr.refl (w : World) (v : Value) : NewOr w v v := fun _ h => .inl h
theorem NewOr.trans {w w1 : World} {v v1 v2 : Value} (h : NewOr w v v1) (hs : w.heap.size ≤ w1.heap.size) (k : NewOr w1 v1 v2) : NewOr w v v2 := fun b hb => by
  rcases k b hb with k | k
  · exact h b k
  · exact .inr (Nat.le_trans hs k)

section
variable (w : World)
set_option maxHeartbeats 400000 in
theorem load1_any (x : Int) : Calls Try.prog 37 #[.int .u64 x] w fun e w' => e = .returned (.tuple #[.int .u64 x, .bool true]) ∧ w = w' := by
  go_enter Try.func37, Try.ntmps37
  go_wp2
  go_ret2
  exact ⟨rfl, rfl⟩
set_option maxHeartbeats 400000 in
theorem add1_any (x y : Int) (b : Nat) (hc : w.cell? ⟨b, 0, none⟩ = some (.int .u64 y)) : Calls Try.prog 39 #[.int .u64 x, .pointer (some ⟨b, 0, none⟩)] w fun e w' => e = .returned (.tuple #[.int .u64 (IntKind.u64.wrap (x + y)), .bool true]) ∧ w = w' := by
  go_enter Try.func39, Try.ntmps39
  go_wp2
  go_ret2
  exact ⟨rfl, rfl⟩
set_option maxHeartbeats 400000 in
theorem swap1_any (x wa y : Int) (b c : Nat) (hb : w.cell? ⟨b, 0, none⟩ = some (.int .u64 wa)) (hc : w.cell? ⟨c, 0, none⟩ = some (.int .u64 y)) : Calls Try.prog 36 #[.int .u64 x, .pointer (some ⟨b, 0, none⟩), .pointer (some ⟨c, 0, none⟩)] w fun e w' =>
    e = .returned (.tuple #[.int .u64 (if x = wa then y else x), .bool (x == wa)]) ∧ w = w' := by
  by_cases h : x = wa
  · subst h
    go_enter Try.func36, Try.ntmps36
    go_wp2
    go_ret2
    exact ⟨by simp, rfl⟩
  · have h1 : (x != wa) = true := by simpa using h
    have H := hide h; clear h
    go_enter Try.func36, Try.ntmps36
    go_wp2
    go_ret2
    have := H.out
    exact ⟨by simp [this], rfl⟩
theorem swap1_as (x wa y : Int) (b c : Nat) (nw : Int) (ok : Bool) (h : Hid ((if x = wa then y else x) = nw ∧ (x == wa) = ok)) (hb : w.cell? ⟨b, 0, none⟩ = some (.int .u64 wa)) (hc : w.cell? ⟨c, 0, none⟩ = some (.int .u64 y)) : Calls Try.prog 36 #[.int .u64 x, .pointer (some ⟨b, 0, none⟩), .pointer (some ⟨c, 0, none⟩)] w fun e w' =>
    e = .returned (.tuple #[.int .u64 nw, .bool ok]) ∧ w = w' := by
  have k := swap1_any w x wa y b c hb hc
  rw [h.out.1, h.out.2] at k
  exact k

set_option maxHeartbeats 2000000 in
theorem do_load (base g : Nat) (vl vg vc : Value) (L : List Int) (G : List Acc) (C : List Int) (th ki wa ol nw0 : Int) (k : Nat) (ok0 : Bool) (x : Int)  (h : MemV w base g vl vg vc L G C false) (hC : C.length ≤ 64) (hL : L.length ≤ 2000000) (hx : L[k]? = some x)  :
    Calls Try.prog 35 #[.pointer (some ⟨g, 0, none⟩), .agg #[.int .i64 th, .int .i64 ki, .int .i64 k, .int .u64 wa, .int .u64 ol, .int .u64 nw0, .bool ok0], .func (.func 37) #[] #[]] w fun e w' =>
      e = .returned (.tuple #[.agg #[.int .i64 th, .int .i64 ki, .int .i64 k, .int .u64 wa, .int .u64 x, .int .u64 x, .bool true], .int .i64 0]) ∧
        (∃ vc', MemV w' base g vl vg vc' (L.set k (x)) G (cntAdd C th) false ∧ NewOr w vc vc') ∧ Rest w w' g vl vg vc ∧ Below base w w' := by
  have hne : L ≠ [] := by rintro rfl; simp at hx
  obtain ⟨gl, cl, rfl, hgl1, hgl2⟩ := h.form hne
  obtain ⟨n, hn⟩ : ∃ n, n = L.length := ⟨_, rfl⟩
  have hkn : k < n := by rw [hn]; exact (List.getElem?_eq_some_iff.1 hx).1
  rw [← hn] at h hL ⊢
  have hcx := h.words.cell hx
  have hfx := h.words.frozen k
  have hcm := fun i => Blk.cell h.blk i
  have hfm := fun i => Blk.free h.blk i
  have hgs := h.blk.lt
  have H := hide h; have HX := hide hx; have HN := hide hn
  have HLOW := hide h.lows
  have hbs : base ≤ w.heap.size := Nat.le_trans h.low (Nat.le_of_lt hgs)
  clear h hx hn hne
  have hd0 : decide ((k : Int) < 0) = false := decide_eq_false (by omega)
  have hd1 : decide ((n : Int) ≤ (k : Int)) = false := decide_eq_false (by omega)
  have hd2 : decide (n ≤ k) = false := decide_eq_false (by omega)
  generalize hAC : (Obj.cells #[.int .i64 th, .int .i64 ki, .int .i64 k, .int .u64 wa, .int .u64 ol, .int .u64 nw0, .bool ok0] 83) = oA
  clear hAC
  have HMY := hide (made_yes ((w.alloc (.cells #[.int .i64 th, .int .i64 ki, .int .i64 k, .int .u64 wa, .int .u64 ol, .int .u64 nw0, .bool ok0] 83)).alloc (.cells #[.int .i64 0, .int .i64 0, .int .i64 0, .int .u64 0, .int .u64 0, .int .u64 0, .bool false] 83)) g ⟨gl, 0, none⟩ n cl (((H.out.blk.alloc _).alloc _).cell 0))
  go_enter Try.func35, Try.ntmps35
  go_wp2_with fail
  refine HMY.out.mono ?_
  rintro e w' ⟨rfl, rfl⟩
  go_wp2_with fail
  go_quiet (fail)
  go_wp2_with fail
  go_region
  go_wp2_with fail
  refine ((load1_any _ x).mono fun _ _ h => (⟨h.1, h.2⟩ : _ ∧ Same _ _)).mono ?_
  rintro e W1 ⟨rfl, hS⟩
  have HM1 : Hid (MemV W1 base g (.slice (some ⟨gl, 0, none⟩) n cl) vg vc L G C false) := hS.to (Q := fun W => MemV W base g (.slice (some ⟨gl, 0, none⟩) n cl) vg vc L G C false) ((((H.out.alloc _).alloc _).drew _).far HLOW.out (Nat.le_refl _) _)
  have HA1 : Hid (Blk W1 w.heap.size 83 #[.int .i64 th, .int .i64 ki, .int .i64 k, .int .u64 wa, .int .u64 x, .int .u64 nw0, .bool ok0]) := hS.to (Q := fun W => Blk W w.heap.size 83 #[.int .i64 th, .int .i64 ki, .int .i64 k, .int .u64 wa, .int .u64 x, .int .u64 nw0, .bool ok0]) ((((Blk.new w _ _).alloc _).drewN _).set_ 4 (.int .u64 x))
  have HZ1 : Hid (Blk W1 (w.heap.size + 1) 83 #[.int .i64 0, .int .i64 0, .int .i64 0, .int .u64 0, .int .u64 0, .int .u64 0, .bool false]) := hS.to (Q := fun W => Blk W (w.heap.size + 1) 83 #[.int .i64 0, .int .i64 0, .int .i64 0, .int .u64 0, .int .u64 0, .int .u64 0, .bool false]) (((Blk.newAt _ _ _ (by simp)).drewN _).far (by simp) _)
  have HR1 : Hid (Rest w W1 g (.slice (some ⟨gl, 0, none⟩) n cl) vg vc) := hS.to (Q := fun W => Rest w W g (.slice (some ⟨gl, 0, none⟩) n cl) vg vc) (((((Rest.refl w g _ vg vc).alloc (Nat.le_refl _) _).alloc (by simp) _).drew _).set_new (Nat.le_refl _) _)
  have HB1 : Hid (Below base w W1) := hS.to (Q := fun W => Below base w W) ((below_drewN (((Below.refl base w).alloc hbs _).alloc (by simp; omega) _) _).setCell (p := ⟨w.heap.size, 4, none⟩) hbs _)
  have hs1 : w.heap.size + 1 < W1.heap.size := HZ1.out.lt
  clear hS hcx hfx hcm hfm
  have hcx := HM1.out.words.cell HX.out
  have hfx := HM1.out.words.frozen k
  have hcm := fun i => Blk.cell HM1.out.blk i
  have hca := fun i => Blk.cell HA1.out i
  have hfa := fun i => Blk.free HA1.out i
  have hne1 : g ≠ w.heap.size := by omega
  have hne2 : gl ≠ w.heap.size := by omega
  go_wp2_with fail
  go_region
  go_wp2_with fail
  refine (count_any _ base g (.slice (some ⟨gl, 0, none⟩) n cl) vg vc (L.set k (x)) G C false th ?hM hC).mono ?_
  case hM => exact (((HM1.out.far HLOW.out (Nat.le_refl _) _).far HLOW.out (Nat.le_refl _) _).drew _).store k _
  rintro e W3 ⟨rfl, ⟨vc', hM3, hvc⟩, hR3, hB3⟩
  have hbA : w.heap.size ≠ gl := by omega
  have hbZ : w.heap.size + 1 ≠ gl := by omega
  have HA3 : Hid (Blk W3 w.heap.size 83 #[.int .i64 th, .int .i64 ki, .int .i64 k, .int .u64 wa, .int .u64 x, .int .u64 x, .bool true]) := MemV.free hR3 HLOW.out ((((HA1.out.set_ 5 _).set_ 6 _).far (p := ⟨gl, k, none⟩) hbA _).drewN 1) (Nat.le_refl _)
  have HZ3 : Hid (Blk W3 (w.heap.size + 1) 83 #[.int .i64 0, .int .i64 0, .int .i64 0, .int .u64 0, .int .u64 0, .int .u64 0, .bool false]) := MemV.free hR3 HLOW.out ((((HZ1.out.far (p := ⟨w.heap.size, 5, none⟩) (by simp) _).far (p := ⟨w.heap.size, 6, none⟩) (by simp) _).far (p := ⟨gl, k, none⟩) hbZ _).drewN 1) (by omega)
  have hvc2 : ∀ b, vc'.ownBlock = some b → vc.ownBlock = some b ∨ w.heap.size + 1 < b := fun b hb => (hvc b hb).imp id (fun h => by simp at h; omega)
  have hs3 : w.heap.size + 1 < W3.heap.size := HZ3.out.lt
  have HR3 : Hid (Rest w W3 g (.slice (some ⟨gl, 0, none⟩) n cl) vg vc) := Rest.trans ((((HR1.out.set_new (p := ⟨w.heap.size, 5, none⟩) (Nat.le_refl _) _).set_new (p := ⟨w.heap.size, 6, none⟩) (Nat.le_refl _) _).set_words (p := ⟨gl, k, none⟩) rfl _).drew 1) (by simp; omega) hR3 (fun b hb => .inl hb) (fun b hb => .inl hb)
  have HB3 : Hid (Below base w W3) := (below_drewN (n := 1) (((HB1.out.setCell (p := ⟨w.heap.size, 5, none⟩) hbs _).setCell (p := ⟨w.heap.size, 6, none⟩) hbs _).setCell (p := ⟨gl, k, none⟩) hgl1 _)).trans hB3
  have HM3 := hide hM3; have HVC := hide hvc2
  have n1 : g ≠ w.heap.size + 1 := by omega
  have n2 : (Value.slice (some ⟨gl, 0, none⟩) n cl).ownBlock ≠ some (w.heap.size + 1) := by
    intro he; simp [Value.ownBlock] at he; omega
  have n3 : vg.ownBlock ≠ some (w.heap.size + 1) := by
    intro he; have := HLOW.out.2.2.1 _ he; omega
  have n4 : vc'.ownBlock ≠ some (w.heap.size + 1) := by
    intro he
    rcases HVC.out _ he with h | h
    · have := HLOW.out.2.2.2 _ h; omega
    · omega
  have N1 := hide n1; have N2 := hide n2; have N3 := hide n3; have N4 := hide n4
  clear hcx hfx hcm hca hfa hM3 hvc hvc2 hR3 hB3 n1 n2 n3 n4
  have hgs3 : g < W3.heap.size := HM3.out.blk.lt
  have hcm := fun i => Blk.cell HM3.out.blk i
  have hca := fun i => Blk.cell HA3.out i
  have hcz := fun i => Blk.cell HZ3.out i
  have hfz := fun i => Blk.free HZ3.out i
  go_wp2_with fail
  refine bodyPost_ret (v := ?_) ?_ rfl ?_
  rotate_left
  · obtain ⟨k0, k1, k2, k3, k4, k5, k6⟩ := set7_cells HZ3.out (.int .i64 th) (.int .i64 ki) (.int .i64 k) (.int .u64 wa) (.int .u64 x) (.int .u64 (x)) (.bool (true))
    unfold set7 at k6
    simp [results, Try.results35, go_sem, k0, k1, k2, k3, k4, k5, k6]
    rfl
  · exact ⟨rfl, ⟨vc', set7_memV HM3.out N1.out N2.out N3.out N4.out (.int .i64 th) (.int .i64 ki) (.int .i64 k) (.int .u64 wa) (.int .u64 x) (.int .u64 (x)) (.bool (true)), fun b hb => (HVC.out b hb).imp id (fun h => by omega)⟩, set7_rest HR3.out (by omega) (.int .i64 th) (.int .i64 ki) (.int .i64 k) (.int .u64 wa) (.int .u64 x) (.int .u64 (x)) (.bool (true)), set7_below HB3.out (by omega) (.int .i64 th) (.int .i64 ki) (.int .i64 k) (.int .u64 wa) (.int .u64 x) (.int .u64 (x)) (.bool (true))⟩
set_option maxHeartbeats 2000000 in
theorem do_add (base g : Nat) (vl vg vc : Value) (L : List Int) (G : List Acc) (C : List Int) (th ki wa ol nw0 : Int) (k : Nat) (ok0 : Bool) (x : Int) (b : Nat) (y : Int) (h : MemV w base g vl vg vc L G C false) (hC : C.length ≤ 64) (hL : L.length ≤ 2000000) (hx : L[k]? = some x) (hy : w.cell? ⟨b, 0, none⟩ = some (.int .u64 y)) :
    Calls Try.prog 35 #[.pointer (some ⟨g, 0, none⟩), .agg #[.int .i64 th, .int .i64 ki, .int .i64 k, .int .u64 wa, .int .u64 ol, .int .u64 nw0, .bool ok0], .func (.func 39) #[] #[.pointer (some ⟨b, 0, none⟩)]] w fun e w' =>
      e = .returned (.tuple #[.agg #[.int .i64 th, .int .i64 ki, .int .i64 k, .int .u64 wa, .int .u64 x, .int .u64 (IntKind.u64.wrap (x + y)), .bool true], .int .i64 0]) ∧
        (∃ vc', MemV w' base g vl vg vc' (L.set k ((IntKind.u64.wrap (x + y)))) G (cntAdd C th) false ∧ NewOr w vc vc') ∧ Rest w w' g vl vg vc ∧ Below base w w' := by
  have hne : L ≠ [] := by rintro rfl; simp at hx
  obtain ⟨gl, cl, rfl, hgl1, hgl2⟩ := h.form hne
  obtain ⟨n, hn⟩ : ∃ n, n = L.length := ⟨_, rfl⟩
  have hkn : k < n := by rw [hn]; exact (List.getElem?_eq_some_iff.1 hx).1
  rw [← hn] at h hL ⊢
  have hcx := h.words.cell hx
  have hfx := h.words.frozen k
  have hcm := fun i => Blk.cell h.blk i
  have hfm := fun i => Blk.free h.blk i
  have hgs := h.blk.lt
  have H := hide h; have HX := hide hx; have HN := hide hn
  have HLOW := hide h.lows
  have hbs : base ≤ w.heap.size := Nat.le_trans h.low (Nat.le_of_lt hgs)
  clear h hx hn hne
  have hbl := cell_lt hy
  have hd0 : decide ((k : Int) < 0) = false := decide_eq_false (by omega)
  have hd1 : decide ((n : Int) ≤ (k : Int)) = false := decide_eq_false (by omega)
  have hd2 : decide (n ≤ k) = false := decide_eq_false (by omega)
  generalize hAC : (Obj.cells #[.int .i64 th, .int .i64 ki, .int .i64 k, .int .u64 wa, .int .u64 ol, .int .u64 nw0, .bool ok0] 83) = oA
  clear hAC
  have HMY := hide (made_yes ((w.alloc (.cells #[.int .i64 th, .int .i64 ki, .int .i64 k, .int .u64 wa, .int .u64 ol, .int .u64 nw0, .bool ok0] 83)).alloc (.cells #[.int .i64 0, .int .i64 0, .int .i64 0, .int .u64 0, .int .u64 0, .int .u64 0, .bool false] 83)) g ⟨gl, 0, none⟩ n cl (((H.out.blk.alloc _).alloc _).cell 0))
  go_enter Try.func35, Try.ntmps35
  go_wp2_with fail
  refine HMY.out.mono ?_
  rintro e w' ⟨rfl, rfl⟩
  go_wp2_with fail
  go_quiet (fail)
  go_wp2_with fail
  go_region
  go_wp2_with fail
  refine ((add1_any _ x y b (by exact (World.cell?_setCell_other _ _ _ _ (by first | (simp; done) | (simp; omega))).trans (((World.cell?_alloc_lt _ _ _ (by first | (simp; done) | (simp; omega) | omega)).trans (World.cell?_alloc_lt _ _ _ (by first | (simp; done) | (simp; omega) | omega))).trans hy))).mono fun _ _ h => (⟨h.1, h.2⟩ : _ ∧ Same _ _)).mono ?_
  rintro e W1 ⟨rfl, hS⟩
  have HM1 : Hid (MemV W1 base g (.slice (some ⟨gl, 0, none⟩) n cl) vg vc L G C false) := hS.to (Q := fun W => MemV W base g (.slice (some ⟨gl, 0, none⟩) n cl) vg vc L G C false) ((((H.out.alloc _).alloc _).drew _).far HLOW.out (Nat.le_refl _) _)
  have HA1 : Hid (Blk W1 w.heap.size 83 #[.int .i64 th, .int .i64 ki, .int .i64 k, .int .u64 wa, .int .u64 x, .int .u64 nw0, .bool ok0]) := hS.to (Q := fun W => Blk W w.heap.size 83 #[.int .i64 th, .int .i64 ki, .int .i64 k, .int .u64 wa, .int .u64 x, .int .u64 nw0, .bool ok0]) ((((Blk.new w _ _).alloc _).drewN _).set_ 4 (.int .u64 x))
  have HZ1 : Hid (Blk W1 (w.heap.size + 1) 83 #[.int .i64 0, .int .i64 0, .int .i64 0, .int .u64 0, .int .u64 0, .int .u64 0, .bool false]) := hS.to (Q := fun W => Blk W (w.heap.size + 1) 83 #[.int .i64 0, .int .i64 0, .int .i64 0, .int .u64 0, .int .u64 0, .int .u64 0, .bool false]) (((Blk.newAt _ _ _ (by simp)).drewN _).far (by simp) _)
  have HR1 : Hid (Rest w W1 g (.slice (some ⟨gl, 0, none⟩) n cl) vg vc) := hS.to (Q := fun W => Rest w W g (.slice (some ⟨gl, 0, none⟩) n cl) vg vc) (((((Rest.refl w g _ vg vc).alloc (Nat.le_refl _) _).alloc (by simp) _).drew _).set_new (Nat.le_refl _) _)
  have HB1 : Hid (Below base w W1) := hS.to (Q := fun W => Below base w W) ((below_drewN (((Below.refl base w).alloc hbs _).alloc (by simp; omega) _) _).setCell (p := ⟨w.heap.size, 4, none⟩) hbs _)
  have hs1 : w.heap.size + 1 < W1.heap.size := HZ1.out.lt
  clear hS hcx hfx hcm hfm
  have hcx := HM1.out.words.cell HX.out
  have hfx := HM1.out.words.frozen k
  have hcm := fun i => Blk.cell HM1.out.blk i
  have hca := fun i => Blk.cell HA1.out i
  have hfa := fun i => Blk.free HA1.out i
  have hne1 : g ≠ w.heap.size := by omega
  have hne2 : gl ≠ w.heap.size := by omega
  go_wp2_with fail
  go_region
  go_wp2_with fail
  refine (count_any _ base g (.slice (some ⟨gl, 0, none⟩) n cl) vg vc (L.set k ((IntKind.u64.wrap (x + y)))) G C false th ?hM hC).mono ?_
  case hM => exact (((HM1.out.far HLOW.out (Nat.le_refl _) _).far HLOW.out (Nat.le_refl _) _).drew _).store k _
  rintro e W3 ⟨rfl, ⟨vc', hM3, hvc⟩, hR3, hB3⟩
  have hbA : w.heap.size ≠ gl := by omega
  have hbZ : w.heap.size + 1 ≠ gl := by omega
  have HA3 : Hid (Blk W3 w.heap.size 83 #[.int .i64 th, .int .i64 ki, .int .i64 k, .int .u64 wa, .int .u64 x, .int .u64 (IntKind.u64.wrap (x + y)), .bool true]) := MemV.free hR3 HLOW.out ((((HA1.out.set_ 5 _).set_ 6 _).far (p := ⟨gl, k, none⟩) hbA _).drewN 1) (Nat.le_refl _)
  have HZ3 : Hid (Blk W3 (w.heap.size + 1) 83 #[.int .i64 0, .int .i64 0, .int .i64 0, .int .u64 0, .int .u64 0, .int .u64 0, .bool false]) := MemV.free hR3 HLOW.out ((((HZ1.out.far (p := ⟨w.heap.size, 5, none⟩) (by simp) _).far (p := ⟨w.heap.size, 6, none⟩) (by simp) _).far (p := ⟨gl, k, none⟩) hbZ _).drewN 1) (by omega)
  have hvc2 : ∀ b, vc'.ownBlock = some b → vc.ownBlock = some b ∨ w.heap.size + 1 < b := fun b hb => (hvc b hb).imp id (fun h => by simp at h; omega)
  have hs3 : w.heap.size + 1 < W3.heap.size := HZ3.out.lt
  have HR3 : Hid (Rest w W3 g (.slice (some ⟨gl, 0, none⟩) n cl) vg vc) := Rest.trans ((((HR1.out.set_new (p := ⟨w.heap.size, 5, none⟩) (Nat.le_refl _) _).set_new (p := ⟨w.heap.size, 6, none⟩) (Nat.le_refl _) _).set_words (p := ⟨gl, k, none⟩) rfl _).drew 1) (by simp; omega) hR3 (fun b hb => .inl hb) (fun b hb => .inl hb)
  have HB3 : Hid (Below base w W3) := (below_drewN (n := 1) (((HB1.out.setCell (p := ⟨w.heap.size, 5, none⟩) hbs _).setCell (p := ⟨w.heap.size, 6, none⟩) hbs _).setCell (p := ⟨gl, k, none⟩) hgl1 _)).trans hB3
  have HM3 := hide hM3; have HVC := hide hvc2
  have n1 : g ≠ w.heap.size + 1 := by omega
  have n2 : (Value.slice (some ⟨gl, 0, none⟩) n cl).ownBlock ≠ some (w.heap.size + 1) := by
    intro he; simp [Value.ownBlock] at he; omega
  have n3 : vg.ownBlock ≠ some (w.heap.size + 1) := by
    intro he; have := HLOW.out.2.2.1 _ he; omega
  have n4 : vc'.ownBlock ≠ some (w.heap.size + 1) := by
    intro he
    rcases HVC.out _ he with h | h
    · have := HLOW.out.2.2.2 _ h; omega
    · omega
  have N1 := hide n1; have N2 := hide n2; have N3 := hide n3; have N4 := hide n4
  clear hcx hfx hcm hca hfa hM3 hvc hvc2 hR3 hB3 n1 n2 n3 n4
  have hgs3 : g < W3.heap.size := HM3.out.blk.lt
  have hcm := fun i => Blk.cell HM3.out.blk i
  have hca := fun i => Blk.cell HA3.out i
  have hcz := fun i => Blk.cell HZ3.out i
  have hfz := fun i => Blk.free HZ3.out i
  go_wp2_with fail
  refine bodyPost_ret (v := ?_) ?_ rfl ?_
  rotate_left
  · obtain ⟨k0, k1, k2, k3, k4, k5, k6⟩ := set7_cells HZ3.out (.int .i64 th) (.int .i64 ki) (.int .i64 k) (.int .u64 wa) (.int .u64 x) (.int .u64 ((IntKind.u64.wrap (x + y)))) (.bool (true))
    unfold set7 at k6
    simp [results, Try.results35, go_sem, k0, k1, k2, k3, k4, k5, k6]
    rfl
  · exact ⟨rfl, ⟨vc', set7_memV HM3.out N1.out N2.out N3.out N4.out (.int .i64 th) (.int .i64 ki) (.int .i64 k) (.int .u64 wa) (.int .u64 x) (.int .u64 ((IntKind.u64.wrap (x + y)))) (.bool (true)), fun b hb => (HVC.out b hb).imp id (fun h => by omega)⟩, set7_rest HR3.out (by omega) (.int .i64 th) (.int .i64 ki) (.int .i64 k) (.int .u64 wa) (.int .u64 x) (.int .u64 ((IntKind.u64.wrap (x + y)))) (.bool (true)), set7_below HB3.out (by omega) (.int .i64 th) (.int .i64 ki) (.int .i64 k) (.int .u64 wa) (.int .u64 x) (.int .u64 ((IntKind.u64.wrap (x + y)))) (.bool (true))⟩
set_option maxHeartbeats 2000000 in
theorem do_swap (base g : Nat) (vl vg vc : Value) (L : List Int) (G : List Acc) (C : List Int) (th ki wa ol nw0 : Int) (k : Nat) (ok0 : Bool) (x : Int) (b c : Nat) (wb y nw1 : Int) (ok1 : Bool) (h : MemV w base g vl vg vc L G C false) (hC : C.length ≤ 64) (hL : L.length ≤ 2000000) (hx : L[k]? = some x) (hy : w.cell? ⟨b, 0, none⟩ = some (.int .u64 wb)) (hz : w.cell? ⟨c, 0, none⟩ = some (.int .u64 y)) (hnw : Hid ((if x = wb then y else x) = nw1 ∧ (x == wb) = ok1)) :
    Calls Try.prog 35 #[.pointer (some ⟨g, 0, none⟩), .agg #[.int .i64 th, .int .i64 ki, .int .i64 k, .int .u64 wa, .int .u64 ol, .int .u64 nw0, .bool ok0], .func (.func 36) #[] #[.pointer (some ⟨b, 0, none⟩), .pointer (some ⟨c, 0, none⟩)]] w fun e w' =>
      e = .returned (.tuple #[.agg #[.int .i64 th, .int .i64 ki, .int .i64 k, .int .u64 wa, .int .u64 x, .int .u64 nw1, .bool ok1], .int .i64 0]) ∧
        (∃ vc', MemV w' base g vl vg vc' (L.set k (nw1)) G (cntAdd C th) false ∧ NewOr w vc vc') ∧ Rest w w' g vl vg vc ∧ Below base w w' := by
  have hne : L ≠ [] := by rintro rfl; simp at hx
  obtain ⟨gl, cl, rfl, hgl1, hgl2⟩ := h.form hne
  obtain ⟨n, hn⟩ : ∃ n, n = L.length := ⟨_, rfl⟩
  have hkn : k < n := by rw [hn]; exact (List.getElem?_eq_some_iff.1 hx).1
  rw [← hn] at h hL ⊢
  have hcx := h.words.cell hx
  have hfx := h.words.frozen k
  have hcm := fun i => Blk.cell h.blk i
  have hfm := fun i => Blk.free h.blk i
  have hgs := h.blk.lt
  have H := hide h; have HX := hide hx; have HN := hide hn
  have HLOW := hide h.lows
  have hbs : base ≤ w.heap.size := Nat.le_trans h.low (Nat.le_of_lt hgs)
  clear h hx hn hne
  have hbl := cell_lt hy
  have hcl := cell_lt hz
  have hd0 : decide ((k : Int) < 0) = false := decide_eq_false (by omega)
  have hd1 : decide ((n : Int) ≤ (k : Int)) = false := decide_eq_false (by omega)
  have hd2 : decide (n ≤ k) = false := decide_eq_false (by omega)
  generalize hAC : (Obj.cells #[.int .i64 th, .int .i64 ki, .int .i64 k, .int .u64 wa, .int .u64 ol, .int .u64 nw0, .bool ok0] 83) = oA
  clear hAC
  have HMY := hide (made_yes ((w.alloc (.cells #[.int .i64 th, .int .i64 ki, .int .i64 k, .int .u64 wa, .int .u64 ol, .int .u64 nw0, .bool ok0] 83)).alloc (.cells #[.int .i64 0, .int .i64 0, .int .i64 0, .int .u64 0, .int .u64 0, .int .u64 0, .bool false] 83)) g ⟨gl, 0, none⟩ n cl (((H.out.blk.alloc _).alloc _).cell 0))
  go_enter Try.func35, Try.ntmps35
  go_wp2_with fail
  refine HMY.out.mono ?_
  rintro e w' ⟨rfl, rfl⟩
  go_wp2_with fail
  go_quiet (fail)
  go_wp2_with fail
  go_region
  go_wp2_with fail
  refine ((swap1_as _ x wb y b c nw1 ok1 hnw (by exact (World.cell?_setCell_other _ _ _ _ (by first | (simp; done) | (simp; omega))).trans (((World.cell?_alloc_lt _ _ _ (by first | (simp; done) | (simp; omega) | omega)).trans (World.cell?_alloc_lt _ _ _ (by first | (simp; done) | (simp; omega) | omega))).trans hy)) (by exact (World.cell?_setCell_other _ _ _ _ (by first | (simp; done) | (simp; omega))).trans (((World.cell?_alloc_lt _ _ _ (by first | (simp; done) | (simp; omega) | omega)).trans (World.cell?_alloc_lt _ _ _ (by first | (simp; done) | (simp; omega) | omega))).trans hz))).mono fun _ _ h => (⟨h.1, h.2⟩ : _ ∧ Same _ _)).mono ?_
  rintro e W1 ⟨rfl, hS⟩
  have HM1 : Hid (MemV W1 base g (.slice (some ⟨gl, 0, none⟩) n cl) vg vc L G C false) := hS.to (Q := fun W => MemV W base g (.slice (some ⟨gl, 0, none⟩) n cl) vg vc L G C false) ((((H.out.alloc _).alloc _).drew _).far HLOW.out (Nat.le_refl _) _)
  have HA1 : Hid (Blk W1 w.heap.size 83 #[.int .i64 th, .int .i64 ki, .int .i64 k, .int .u64 wa, .int .u64 x, .int .u64 nw0, .bool ok0]) := hS.to (Q := fun W => Blk W w.heap.size 83 #[.int .i64 th, .int .i64 ki, .int .i64 k, .int .u64 wa, .int .u64 x, .int .u64 nw0, .bool ok0]) ((((Blk.new w _ _).alloc _).drewN _).set_ 4 (.int .u64 x))
  have HZ1 : Hid (Blk W1 (w.heap.size + 1) 83 #[.int .i64 0, .int .i64 0, .int .i64 0, .int .u64 0, .int .u64 0, .int .u64 0, .bool false]) := hS.to (Q := fun W => Blk W (w.heap.size + 1) 83 #[.int .i64 0, .int .i64 0, .int .i64 0, .int .u64 0, .int .u64 0, .int .u64 0, .bool false]) (((Blk.newAt _ _ _ (by simp)).drewN _).far (by simp) _)
  have HR1 : Hid (Rest w W1 g (.slice (some ⟨gl, 0, none⟩) n cl) vg vc) := hS.to (Q := fun W => Rest w W g (.slice (some ⟨gl, 0, none⟩) n cl) vg vc) (((((Rest.refl w g _ vg vc).alloc (Nat.le_refl _) _).alloc (by simp) _).drew _).set_new (Nat.le_refl _) _)
  have HB1 : Hid (Below base w W1) := hS.to (Q := fun W => Below base w W) ((below_drewN (((Below.refl base w).alloc hbs _).alloc (by simp; omega) _) _).setCell (p := ⟨w.heap.size, 4, none⟩) hbs _)
  have hs1 : w.heap.size + 1 < W1.heap.size := HZ1.out.lt
  clear hS hcx hfx hcm hfm
  have hcx := HM1.out.words.cell HX.out
  have hfx := HM1.out.words.frozen k
  have hcm := fun i => Blk.cell HM1.out.blk i
  have hca := fun i => Blk.cell HA1.out i
  have hfa := fun i => Blk.free HA1.out i
  have hne1 : g ≠ w.heap.size := by omega
  have hne2 : gl ≠ w.heap.size := by omega
  go_wp2_with fail
  go_region
  go_wp2_with fail
  refine (count_any _ base g (.slice (some ⟨gl, 0, none⟩) n cl) vg vc (L.set k (nw1)) G C false th ?hM hC).mono ?_
  case hM => exact (((HM1.out.far HLOW.out (Nat.le_refl _) _).far HLOW.out (Nat.le_refl _) _).drew _).store k _
  rintro e W3 ⟨rfl, ⟨vc', hM3, hvc⟩, hR3, hB3⟩
  have hbA : w.heap.size ≠ gl := by omega
  have hbZ : w.heap.size + 1 ≠ gl := by omega
  have HA3 : Hid (Blk W3 w.heap.size 83 #[.int .i64 th, .int .i64 ki, .int .i64 k, .int .u64 wa, .int .u64 x, .int .u64 nw1, .bool ok1]) := MemV.free hR3 HLOW.out ((((HA1.out.set_ 5 _).set_ 6 _).far (p := ⟨gl, k, none⟩) hbA _).drewN 1) (Nat.le_refl _)
  have HZ3 : Hid (Blk W3 (w.heap.size + 1) 83 #[.int .i64 0, .int .i64 0, .int .i64 0, .int .u64 0, .int .u64 0, .int .u64 0, .bool false]) := MemV.free hR3 HLOW.out ((((HZ1.out.far (p := ⟨w.heap.size, 5, none⟩) (by simp) _).far (p := ⟨w.heap.size, 6, none⟩) (by simp) _).far (p := ⟨gl, k, none⟩) hbZ _).drewN 1) (by omega)
  have hvc2 : ∀ b, vc'.ownBlock = some b → vc.ownBlock = some b ∨ w.heap.size + 1 < b := fun b hb => (hvc b hb).imp id (fun h => by simp at h; omega)
  have hs3 : w.heap.size + 1 < W3.heap.size := HZ3.out.lt
  have HR3 : Hid (Rest w W3 g (.slice (some ⟨gl, 0, none⟩) n cl) vg vc) := Rest.trans ((((HR1.out.set_new (p := ⟨w.heap.size, 5, none⟩) (Nat.le_refl _) _).set_new (p := ⟨w.heap.size, 6, none⟩) (Nat.le_refl _) _).set_words (p := ⟨gl, k, none⟩) rfl _).drew 1) (by simp; omega) hR3 (fun b hb => .inl hb) (fun b hb => .inl hb)
  have HB3 : Hid (Below base w W3) := (below_drewN (n := 1) (((HB1.out.setCell (p := ⟨w.heap.size, 5, none⟩) hbs _).setCell (p := ⟨w.heap.size, 6, none⟩) hbs _).setCell (p := ⟨gl, k, none⟩) hgl1 _)).trans hB3
  have HM3 := hide hM3; have HVC := hide hvc2
  have n1 : g ≠ w.heap.size + 1 := by omega
  have n2 : (Value.slice (some ⟨gl, 0, none⟩) n cl).ownBlock ≠ some (w.heap.size + 1) := by
    intro he; simp [Value.ownBlock] at he; omega
  have n3 : vg.ownBlock ≠ some (w.heap.size + 1) := by
    intro he; have := HLOW.out.2.2.1 _ he; omega
  have n4 : vc'.ownBlock ≠ some (w.heap.size + 1) := by
    intro he
    rcases HVC.out _ he with h | h
    · have := HLOW.out.2.2.2 _ h; omega
    · omega
  have N1 := hide n1; have N2 := hide n2; have N3 := hide n3; have N4 := hide n4
  clear hcx hfx hcm hca hfa hM3 hvc hvc2 hR3 hB3 n1 n2 n3 n4
  have hgs3 : g < W3.heap.size := HM3.out.blk.lt
  have hcm := fun i => Blk.cell HM3.out.blk i
  have hca := fun i => Blk.cell HA3.out i
  have hcz := fun i => Blk.cell HZ3.out i
  have hfz := fun i => Blk.free HZ3.out i
  go_wp2_with fail
  refine bodyPost_ret (v := ?_) ?_ rfl ?_
  rotate_left
  · obtain ⟨k0, k1, k2, k3, k4, k5, k6⟩ := set7_cells HZ3.out (.int .i64 th) (.int .i64 ki) (.int .i64 k) (.int .u64 wa) (.int .u64 x) (.int .u64 (nw1)) (.bool (ok1))
    unfold set7 at k6
    simp [results, Try.results35, go_sem, k0, k1, k2, k3, k4, k5, k6]
    rfl
  · exact ⟨rfl, ⟨vc', set7_memV HM3.out N1.out N2.out N3.out N4.out (.int .i64 th) (.int .i64 ki) (.int .i64 k) (.int .u64 wa) (.int .u64 x) (.int .u64 (nw1)) (.bool (ok1)), fun b hb => (HVC.out b hb).imp id (fun h => by omega)⟩, set7_rest HR3.out (by omega) (.int .i64 th) (.int .i64 ki) (.int .i64 k) (.int .u64 wa) (.int .u64 x) (.int .u64 (nw1)) (.bool (ok1)), set7_below HB3.out (by omega) (.int .i64 th) (.int .i64 ki) (.int .i64 k) (.int .u64 wa) (.int .u64 x) (.int .u64 (nw1)) (.bool (ok1))⟩
end
end Go.Proofs.Ythghghoikaincaa
