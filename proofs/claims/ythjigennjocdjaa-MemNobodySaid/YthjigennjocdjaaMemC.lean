/- The walks of mem.(*Mem).do, by each of the four ways an access turns a word. -/
import Derived.Test.YthjigennjocdjaaMemB
import Derived.RegionTactic
import Derived.Deep.RegionLaw
namespace Go.Proofs.Ythjigennjocdjaa
open Go.RowKit

section
variable (w : World)
set_option maxHeartbeats 400000 in
theorem load1_any (x : Int) : Calls Try.prog 24 #[.int .u64 x] w fun e w' => e = .returned (.tuple #[.int .u64 x, .bool true]) ∧ w = w' := by
  go_enter Try.func24, Try.ntmps24
  go_wp2
  go_ret2
  exact ⟨rfl, rfl⟩
set_option maxHeartbeats 400000 in
theorem store1_any (x y : Int) (b : Nat) (hc : w.cell? ⟨b, 0, none⟩ = some (.int .u64 y)) : Calls Try.prog 25 #[.int .u64 x, .pointer (some ⟨b, 0, none⟩)] w fun e w' => e = .returned (.tuple #[.int .u64 y, .bool true]) ∧ w = w' := by
  go_enter Try.func25, Try.ntmps25
  go_wp2
  go_ret2
  exact ⟨rfl, rfl⟩
set_option maxHeartbeats 400000 in
theorem add1_any (x y : Int) (b : Nat) (hc : w.cell? ⟨b, 0, none⟩ = some (.int .u64 y)) : Calls Try.prog 23 #[.int .u64 x, .pointer (some ⟨b, 0, none⟩)] w fun e w' => e = .returned (.tuple #[.int .u64 (IntKind.u64.wrap (x + y)), .bool true]) ∧ w = w' := by
  go_enter Try.func23, Try.ntmps23
  go_wp2
  go_ret2
  exact ⟨rfl, rfl⟩
set_option maxHeartbeats 400000 in
theorem swap1_any (x wa y : Int) (b c : Nat) (hb : w.cell? ⟨b, 0, none⟩ = some (.int .u64 wa)) (hc : w.cell? ⟨c, 0, none⟩ = some (.int .u64 y)) : Calls Try.prog 22 #[.int .u64 x, .pointer (some ⟨b, 0, none⟩), .pointer (some ⟨c, 0, none⟩)] w fun e w' =>
    e = .returned (.tuple #[.int .u64 (if x = wa then y else x), .bool (x == wa)]) ∧ w = w' := by
  by_cases h : x = wa
  · subst h
    go_enter Try.func22, Try.ntmps22
    go_wp2
    go_ret2
    exact ⟨by simp, rfl⟩
  · have h1 : (x != wa) = true := by simpa using h
    have H := hide h; clear h
    go_enter Try.func22, Try.ntmps22
    go_wp2
    go_ret2
    have := H.out
    exact ⟨by simp [this], rfl⟩
theorem swap1_as (x wa y : Int) (b c : Nat) (nw : Int) (ok : Bool) (h : Hid ((if x = wa then y else x) = nw ∧ (x == wa) = ok)) (hb : w.cell? ⟨b, 0, none⟩ = some (.int .u64 wa)) (hc : w.cell? ⟨c, 0, none⟩ = some (.int .u64 y)) : Calls Try.prog 22 #[.int .u64 x, .pointer (some ⟨b, 0, none⟩), .pointer (some ⟨c, 0, none⟩)] w fun e w' =>
    e = .returned (.tuple #[.int .u64 nw, .bool ok]) ∧ w = w' := by
  have k := swap1_any w x wa y b c hb hc
  rw [h.out.1, h.out.2] at k
  exact k

set_option maxHeartbeats 2000000 in
theorem do_load (base g : Nat) (vl vg vc : Value) (L : List Int) (G : List Acc) (C : List Int) (kp : Bool) (th ki wa ol nw0 : Int) (k : Nat) (ok0 : Bool) (x : Int)  (h : MemV w base g vl vg vc L G C kp) (hC : C.length ≤ 64) (hG : G.length ≤ 1000000) (hL : L.length ≤ 2000000) (hx : L[k]? = some x)  :
    Calls Try.prog 21 #[.pointer (some ⟨g, 0, none⟩), .agg #[.int .i64 th, .int .i64 ki, .int .i64 k, .int .u64 wa, .int .u64 ol, .int .u64 nw0, .bool ok0], .func (.func 24) #[] #[]] w fun e w' =>
      e = .returned (.tuple #[.agg #[.int .i64 th, .int .i64 ki, .int .i64 k, .int .u64 wa, .int .u64 x, .int .u64 x, .bool true], .int .i64 0]) ∧
        (∃ vg' vc', MemV w' base g vl vg' vc' (L.set k (x)) (if kp = true then G ++ [⟨th, ki, k, wa, x, x, true⟩] else G) (cntAdd C th) kp) ∧ Rest w w' g vl vg vc ∧ Below base w w' := by
  have hne : L ≠ [] := by rintro rfl; simp at hx
  obtain ⟨gl, cl, rfl, hgl1, hgl2⟩ := h.form hne
  obtain ⟨n, hn⟩ : ∃ n, n = L.length := ⟨_, rfl⟩
  have hkn : k < n := by rw [hn]; exact (List.getElem?_eq_some_iff.1 hx).1
  rw [← hn] at h hL ⊢
  have hcx := h.words.cell hx
  have hfx := h.words.frozen k
  have hcm := fun i => Blk.cell h.blk i
  have hfm := fun i => Blk.free h.blk i
  have hgs := h.blk.lt
  have H := hide h; have HX := hide hx; have HN := hide hn
  have HLOW := hide h.lows
  have hbs : base ≤ w.heap.size := Nat.le_trans h.low (Nat.le_of_lt hgs)
  clear h hx hn hne
  have hd0 : decide ((k : Int) < 0) = false := decide_eq_false (by omega)
  have hd1 : decide ((n : Int) ≤ (k : Int)) = false := decide_eq_false (by omega)
  have hd2 : decide (n ≤ k) = false := decide_eq_false (by omega)
  generalize hAC : (Obj.cells #[.int .i64 th, .int .i64 ki, .int .i64 k, .int .u64 wa, .int .u64 ol, .int .u64 nw0, .bool ok0] 51) = oA
  clear hAC
  have HMY := hide (made_yes ((w.alloc (.cells #[.int .i64 th, .int .i64 ki, .int .i64 k, .int .u64 wa, .int .u64 ol, .int .u64 nw0, .bool ok0] 51)).alloc (.cells #[.int .i64 0, .int .i64 0, .int .i64 0, .int .u64 0, .int .u64 0, .int .u64 0, .bool false] 51)) g ⟨gl, 0, none⟩ n cl (((H.out.blk.alloc _).alloc _).cell 0))
  go_enter Try.func21, Try.ntmps21
  go_wp2_with fail
  refine HMY.out.mono ?_
  rintro e w' ⟨rfl, rfl⟩
  go_wp2_with fail
  go_quiet (fail)
  go_wp2_with fail
  go_region
  go_wp2_with fail
  refine ((load1_any _ x).mono fun _ _ h => (⟨h.1, h.2⟩ : _ ∧ Same _ _)).mono ?_
  rintro e W1 ⟨rfl, hS⟩
  have HM1 : Hid (MemV W1 base g (.slice (some ⟨gl, 0, none⟩) n cl) vg vc L G C kp) := hS.to (Q := fun W => MemV W base g (.slice (some ⟨gl, 0, none⟩) n cl) vg vc L G C kp) ((((H.out.alloc _).alloc _).drew _).far HLOW.out (Nat.le_refl _) _)
  have HA1 : Hid (Blk W1 w.heap.size 51 #[.int .i64 th, .int .i64 ki, .int .i64 k, .int .u64 wa, .int .u64 x, .int .u64 nw0, .bool ok0]) := hS.to (Q := fun W => Blk W w.heap.size 51 #[.int .i64 th, .int .i64 ki, .int .i64 k, .int .u64 wa, .int .u64 x, .int .u64 nw0, .bool ok0]) ((((Blk.new w _ _).alloc _).drewN _).set_ 4 (.int .u64 x))
  have HZ1 : Hid (Blk W1 (w.heap.size + 1) 51 #[.int .i64 0, .int .i64 0, .int .i64 0, .int .u64 0, .int .u64 0, .int .u64 0, .bool false]) := hS.to (Q := fun W => Blk W (w.heap.size + 1) 51 #[.int .i64 0, .int .i64 0, .int .i64 0, .int .u64 0, .int .u64 0, .int .u64 0, .bool false]) (((Blk.newAt _ _ _ (by simp)).drewN _).far (by simp) _)
  have HR1 : Hid (Rest w W1 g (.slice (some ⟨gl, 0, none⟩) n cl) vg vc) := hS.to (Q := fun W => Rest w W g (.slice (some ⟨gl, 0, none⟩) n cl) vg vc) (((((Rest.refl w g _ vg vc).alloc (Nat.le_refl _) _).alloc (by simp) _).drew _).set_new (Nat.le_refl _) _)
  have HB1 : Hid (Below base w W1) := hS.to (Q := fun W => Below base w W) ((below_drewN (((Below.refl base w).alloc hbs _).alloc (by simp; omega) _) _).setCell (p := ⟨w.heap.size, 4, none⟩) hbs _)
  have hs1 : w.heap.size + 1 < W1.heap.size := HZ1.out.lt
  clear hS hcx hfx hcm hfm
  have hcx := HM1.out.words.cell HX.out
  have hfx := HM1.out.words.frozen k
  have hcm := fun i => Blk.cell HM1.out.blk i
  have hca := fun i => Blk.cell HA1.out i
  have hfa := fun i => Blk.free HA1.out i
  have hne1 : g ≠ w.heap.size := by omega
  have hne2 : gl ≠ w.heap.size := by omega
  go_wp2_with fail
  go_region
  go_wp2_with fail
  refine (count_any _ base g (.slice (some ⟨gl, 0, none⟩) n cl) vg vc (L.set k (x)) G C kp th ?hM hC).mono ?_
  case hM => exact (((HM1.out.far HLOW.out (Nat.le_refl _) _).far HLOW.out (Nat.le_refl _) _).drew _).store k _
  rintro e W3 ⟨rfl, ⟨vc', hM3, hvc⟩, hR3, hB3⟩
  have hbA : w.heap.size ≠ gl := by omega
  have hbZ : w.heap.size + 1 ≠ gl := by omega
  have HA3 : Hid (Blk W3 w.heap.size 51 #[.int .i64 th, .int .i64 ki, .int .i64 k, .int .u64 wa, .int .u64 x, .int .u64 x, .bool true]) := MemV.free hR3 HLOW.out ((((HA1.out.set_ 5 _).set_ 6 _).far (p := ⟨gl, k, none⟩) hbA _).drewN 1) (Nat.le_refl _)
  have HZ3 : Hid (Blk W3 (w.heap.size + 1) 51 #[.int .i64 0, .int .i64 0, .int .i64 0, .int .u64 0, .int .u64 0, .int .u64 0, .bool false]) := MemV.free hR3 HLOW.out ((((HZ1.out.far (p := ⟨w.heap.size, 5, none⟩) (by simp) _).far (p := ⟨w.heap.size, 6, none⟩) (by simp) _).far (p := ⟨gl, k, none⟩) hbZ _).drewN 1) (by omega)
  have hvc2 : ∀ b, vc'.ownBlock = some b → vc.ownBlock = some b ∨ w.heap.size + 1 < b := fun b hb => (hvc b hb).imp id (fun h => by simp at h; omega)
  have hs3 : w.heap.size + 1 < W3.heap.size := HZ3.out.lt
  have HR3 : Hid (Rest w W3 g (.slice (some ⟨gl, 0, none⟩) n cl) vg vc) := Rest.trans ((((HR1.out.set_new (p := ⟨w.heap.size, 5, none⟩) (Nat.le_refl _) _).set_new (p := ⟨w.heap.size, 6, none⟩) (Nat.le_refl _) _).set_words (p := ⟨gl, k, none⟩) rfl _).drew 1) (by simp; omega) hR3 (fun b hb => .inl hb) (fun b hb => .inl hb)
  have HB3 : Hid (Below base w W3) := (below_drewN (n := 1) (((HB1.out.setCell (p := ⟨w.heap.size, 5, none⟩) hbs _).setCell (p := ⟨w.heap.size, 6, none⟩) hbs _).setCell (p := ⟨gl, k, none⟩) hgl1 _)).trans hB3
  have HM3 := hide hM3; have HVC := hide hvc2
  have n1 : g ≠ w.heap.size + 1 := by omega
  have n2 : (Value.slice (some ⟨gl, 0, none⟩) n cl).ownBlock ≠ some (w.heap.size + 1) := by
    intro he; simp [Value.ownBlock] at he; omega
  have n3 : vg.ownBlock ≠ some (w.heap.size + 1) := by
    intro he; have := HLOW.out.2.2.1 _ he; omega
  have n4 : vc'.ownBlock ≠ some (w.heap.size + 1) := by
    intro he
    rcases HVC.out _ he with h | h
    · have := HLOW.out.2.2.2 _ h; omega
    · omega
  have N1 := hide n1; have N2 := hide n2; have N3 := hide n3; have N4 := hide n4
  clear hcx hfx hcm hca hfa hM3 hvc hvc2 hR3 hB3 n1 n2 n3 n4
  have hgs3 : g < W3.heap.size := HM3.out.blk.lt
  have hcm := fun i => Blk.cell HM3.out.blk i
  have hca := fun i => Blk.cell HA3.out i
  have hcz := fun i => Blk.cell HZ3.out i
  have hfz := fun i => Blk.free HZ3.out i
  rcases kp with _ | _
  · go_wp2_with fail
    refine bodyPost_ret (v := ?_) ?_ rfl ?_
    rotate_left
    · obtain ⟨k0, k1, k2, k3, k4, k5, k6⟩ := set7_cells HZ3.out (.int .i64 th) (.int .i64 ki) (.int .i64 k) (.int .u64 wa) (.int .u64 x) (.int .u64 (x)) (.bool (true))
      unfold set7 at k6
      simp [results, Try.results21, go_sem, k0, k1, k2, k3, k4, k5, k6]
      rfl
    · exact ⟨rfl, ⟨vg, vc', set7_memV HM3.out N1.out N2.out N3.out N4.out (.int .i64 th) (.int .i64 ki) (.int .i64 k) (.int .u64 wa) (.int .u64 x) (.int .u64 (x)) (.bool (true))⟩, set7_rest HR3.out (by omega) (.int .i64 th) (.int .i64 ki) (.int .i64 k) (.int .u64 wa) (.int .u64 x) (.int .u64 (x)) (.bool (true)), set7_below HB3.out (by omega) (.int .i64 th) (.int .i64 ki) (.int .i64 k) (.int .u64 wa) (.int .u64 x) (.int .u64 (x)) (.bool (true))⟩
  · go_wp2_with fail
    go_region_law (first
      | (refine step_appF rfl _ _ 37 rfl base 51 7 56 (.agg #[.int .i64 0, .int .i64 0, .int .i64 0, .int .u64 0, .int .u64 0, .int .u64 0, .bool false]) accC accC_len accC_one Try.underlying37 info_acc rfl (by decide) vg G rfl ?_ (some ⟨W3.heap.size, 0, none⟩) 1 1 [⟨th, ki, k, wa, x, x, true⟩] rfl rfl ?_ ?_ ?_ ?_ ?_; (exact HM3.out.log.alloc _); (exact Rd.lit W3 [.int .i64 th, .int .i64 ki, .int .i64 k, .int .u64 wa, .int .u64 x, .int .u64 (x), .bool (true)] _); (simp; omega); (simp; omega); (have := HB3.out.size; simp; omega); intro v4 W4 hown4 hgrow4 hat4; obtain ⟨A4, c4, hv4, _⟩ := hown4.rd; rw [List.length_append, List.length_singleton] at hv4; subst hv4; have hbk4 : Blk W4 g 39 #[.slice (some ⟨gl, 0, none⟩) n cl, vg, vc', .bool true] := Blk.grown (by exact HM3.out.blk.alloc _) hgrow4 (by exact own_other (HM3.out.log.alloc (.cells #[.int .i64 th, .int .i64 ki, .int .i64 k, .int .u64 wa, .int .u64 x, .int .u64 x, .bool true] 51)) (HM3.out.blk.alloc _) (by decide)); have hcm4 := fun i => Blk.cell hbk4 i; have hfm4 := fun i => Blk.free hbk4 i; have hgs4 := hbk4.lt))
    all_goals
      have hvA : some w.heap.size ≠ vg.ownBlock := fun he => by have := HLOW.out.2.2.1 _ he.symm; omega
      have hvZ : some (w.heap.size + 1) ≠ vg.ownBlock := fun he => by have := HLOW.out.2.2.1 _ he.symm; omega
      have hA4 : Blk W4 w.heap.size 51 #[.int .i64 th, .int .i64 ki, .int .i64 k, .int .u64 wa, .int .u64 x, .int .u64 x, .bool true] := Blk.grown (by exact HA3.out.alloc _) hgrow4 hvA
      have hZ4 : Blk W4 (w.heap.size + 1) 51 #[.int .i64 0, .int .i64 0, .int .i64 0, .int .u64 0, .int .u64 0, .int .u64 0, .bool false] := Blk.grown (by exact HZ3.out.alloc _) hgrow4 hvZ
      have hM4 := ((HM3.out.alloc (.cells #[.int .i64 th, .int .i64 ki, .int .i64 k, .int .u64 wa, .int .u64 x, .int .u64 x, .bool true] 51)).drew 1).log_more hown4 hgrow4
      have HA5 := hide (hA4.far (p := ⟨g, 1, none⟩) (by simp; omega) (.slice A4 (G.length + 1) c4))
      have HZ5 := hide (hZ4.far (p := ⟨g, 1, none⟩) (by simp; omega) (.slice A4 (G.length + 1) c4))
      have HM5 := hide hM4
      have HB5 : Hid (Below base w (W4.setCell ⟨g, 1, none⟩ (.slice A4 (G.length + 1) c4))) := (((below_drewN (n := 1) (HB3.out.alloc (by have := HB3.out.size; omega) _)).grown hgrow4 (by have := HB3.out.size; simp; omega) (fun b hb => (own_lt HM3.out.log hb).1))).setCell (p := ⟨g, 1, none⟩) HM3.out.low _
      have hv5 : ∀ b, (Value.slice A4 (G.length + 1) c4).ownBlock = some b → vg.ownBlock = some b ∨ w.heap.size + 1 < b := by
        intro b hb
        rcases hat4 with h | h
        · exact .inl (h.symm.trans hb)
        · rw [h] at hb; injection hb with hb; right; rw [← hb]; simp; omega
      have HR5 : Hid (Rest w (W4.setCell ⟨g, 1, none⟩ (.slice A4 (G.length + 1) c4)) g (.slice (some ⟨gl, 0, none⟩) n cl) vg vc) := (Rest.grown (vg' := vg) (((HR3.out.alloc HB3.out.size _).drew 1)) (by have := HB3.out.size; simp; omega) hgrow4 (fun b hb => .inl hb)).set_row _
      have n3 : (Value.slice A4 (G.length + 1) c4).ownBlock ≠ some (w.heap.size + 1) := by
        intro he
        rcases hv5 _ he with h | h
        · have := HLOW.out.2.2.1 _ h; omega
        · omega
      have N5 := hide n3
      have hca4 := fun i => Blk.cell hA4 i
      have hcz4 := fun i => Blk.cell hZ4 i
      have hfz4 := fun i => Blk.free hZ4 i
      have hsz4 := hZ4.lt
      clear hgrow4 hown4 hat4 hA4 hZ4 hM4 hv5 n3 hvA hvZ hcm hca hcz hfz hbk4
      go_wp2_with fail
      refine bodyPost_ret (v := ?_) ?_ rfl ?_
      rotate_left
      · obtain ⟨k0, k1, k2, k3, k4, k5, k6⟩ := set7_cells HZ5.out (.int .i64 th) (.int .i64 ki) (.int .i64 k) (.int .u64 wa) (.int .u64 x) (.int .u64 (x)) (.bool (true))
        unfold set7 at k6
        simp [results, Try.results21, go_sem, k0, k1, k2, k3, k4, k5, k6]
        rfl
      · exact ⟨rfl, ⟨.slice A4 (G.length + 1) c4, vc', set7_memV HM5.out N1.out N2.out N5.out N4.out (.int .i64 th) (.int .i64 ki) (.int .i64 k) (.int .u64 wa) (.int .u64 x) (.int .u64 (x)) (.bool (true))⟩, set7_rest HR5.out (by omega) (.int .i64 th) (.int .i64 ki) (.int .i64 k) (.int .u64 wa) (.int .u64 x) (.int .u64 (x)) (.bool (true)), set7_below HB5.out (by omega) (.int .i64 th) (.int .i64 ki) (.int .i64 k) (.int .u64 wa) (.int .u64 x) (.int .u64 (x)) (.bool (true))⟩

set_option maxHeartbeats 2000000 in
theorem do_store (base g : Nat) (vl vg vc : Value) (L : List Int) (G : List Acc) (C : List Int) (kp : Bool) (th ki wa ol nw0 : Int) (k : Nat) (ok0 : Bool) (x : Int) (b : Nat) (y : Int) (h : MemV w base g vl vg vc L G C kp) (hC : C.length ≤ 64) (hG : G.length ≤ 1000000) (hL : L.length ≤ 2000000) (hx : L[k]? = some x) (hy : w.cell? ⟨b, 0, none⟩ = some (.int .u64 y)) :
    Calls Try.prog 21 #[.pointer (some ⟨g, 0, none⟩), .agg #[.int .i64 th, .int .i64 ki, .int .i64 k, .int .u64 wa, .int .u64 ol, .int .u64 nw0, .bool ok0], .func (.func 25) #[] #[.pointer (some ⟨b, 0, none⟩)]] w fun e w' =>
      e = .returned (.tuple #[.agg #[.int .i64 th, .int .i64 ki, .int .i64 k, .int .u64 wa, .int .u64 x, .int .u64 y, .bool true], .int .i64 0]) ∧
        (∃ vg' vc', MemV w' base g vl vg' vc' (L.set k (y)) (if kp = true then G ++ [⟨th, ki, k, wa, x, y, true⟩] else G) (cntAdd C th) kp) ∧ Rest w w' g vl vg vc ∧ Below base w w' := by
  have hne : L ≠ [] := by rintro rfl; simp at hx
  obtain ⟨gl, cl, rfl, hgl1, hgl2⟩ := h.form hne
  obtain ⟨n, hn⟩ : ∃ n, n = L.length := ⟨_, rfl⟩
  have hkn : k < n := by rw [hn]; exact (List.getElem?_eq_some_iff.1 hx).1
  rw [← hn] at h hL ⊢
  have hcx := h.words.cell hx
  have hfx := h.words.frozen k
  have hcm := fun i => Blk.cell h.blk i
  have hfm := fun i => Blk.free h.blk i
  have hgs := h.blk.lt
  have H := hide h; have HX := hide hx; have HN := hide hn
  have HLOW := hide h.lows
  have hbs : base ≤ w.heap.size := Nat.le_trans h.low (Nat.le_of_lt hgs)
  clear h hx hn hne
  have hbl := cell_lt hy
  have hd0 : decide ((k : Int) < 0) = false := decide_eq_false (by omega)
  have hd1 : decide ((n : Int) ≤ (k : Int)) = false := decide_eq_false (by omega)
  have hd2 : decide (n ≤ k) = false := decide_eq_false (by omega)
  generalize hAC : (Obj.cells #[.int .i64 th, .int .i64 ki, .int .i64 k, .int .u64 wa, .int .u64 ol, .int .u64 nw0, .bool ok0] 51) = oA
  clear hAC
  have HMY := hide (made_yes ((w.alloc (.cells #[.int .i64 th, .int .i64 ki, .int .i64 k, .int .u64 wa, .int .u64 ol, .int .u64 nw0, .bool ok0] 51)).alloc (.cells #[.int .i64 0, .int .i64 0, .int .i64 0, .int .u64 0, .int .u64 0, .int .u64 0, .bool false] 51)) g ⟨gl, 0, none⟩ n cl (((H.out.blk.alloc _).alloc _).cell 0))
  go_enter Try.func21, Try.ntmps21
  go_wp2_with fail
  refine HMY.out.mono ?_
  rintro e w' ⟨rfl, rfl⟩
  go_wp2_with fail
  go_quiet (fail)
  go_wp2_with fail
  go_region
  go_wp2_with fail
  refine ((store1_any _ x y b (by exact (World.cell?_setCell_other _ _ _ _ (by first | (simp; done) | (simp; omega))).trans (((World.cell?_alloc_lt _ _ _ (by first | (simp; done) | (simp; omega) | omega)).trans (World.cell?_alloc_lt _ _ _ (by first | (simp; done) | (simp; omega) | omega))).trans hy))).mono fun _ _ h => (⟨h.1, h.2⟩ : _ ∧ Same _ _)).mono ?_
  rintro e W1 ⟨rfl, hS⟩
  have HM1 : Hid (MemV W1 base g (.slice (some ⟨gl, 0, none⟩) n cl) vg vc L G C kp) := hS.to (Q := fun W => MemV W base g (.slice (some ⟨gl, 0, none⟩) n cl) vg vc L G C kp) ((((H.out.alloc _).alloc _).drew _).far HLOW.out (Nat.le_refl _) _)
  have HA1 : Hid (Blk W1 w.heap.size 51 #[.int .i64 th, .int .i64 ki, .int .i64 k, .int .u64 wa, .int .u64 x, .int .u64 nw0, .bool ok0]) := hS.to (Q := fun W => Blk W w.heap.size 51 #[.int .i64 th, .int .i64 ki, .int .i64 k, .int .u64 wa, .int .u64 x, .int .u64 nw0, .bool ok0]) ((((Blk.new w _ _).alloc _).drewN _).set_ 4 (.int .u64 x))
  have HZ1 : Hid (Blk W1 (w.heap.size + 1) 51 #[.int .i64 0, .int .i64 0, .int .i64 0, .int .u64 0, .int .u64 0, .int .u64 0, .bool false]) := hS.to (Q := fun W => Blk W (w.heap.size + 1) 51 #[.int .i64 0, .int .i64 0, .int .i64 0, .int .u64 0, .int .u64 0, .int .u64 0, .bool false]) (((Blk.newAt _ _ _ (by simp)).drewN _).far (by simp) _)
  have HR1 : Hid (Rest w W1 g (.slice (some ⟨gl, 0, none⟩) n cl) vg vc) := hS.to (Q := fun W => Rest w W g (.slice (some ⟨gl, 0, none⟩) n cl) vg vc) (((((Rest.refl w g _ vg vc).alloc (Nat.le_refl _) _).alloc (by simp) _).drew _).set_new (Nat.le_refl _) _)
  have HB1 : Hid (Below base w W1) := hS.to (Q := fun W => Below base w W) ((below_drewN (((Below.refl base w).alloc hbs _).alloc (by simp; omega) _) _).setCell (p := ⟨w.heap.size, 4, none⟩) hbs _)
  have hs1 : w.heap.size + 1 < W1.heap.size := HZ1.out.lt
  clear hS hcx hfx hcm hfm
  have hcx := HM1.out.words.cell HX.out
  have hfx := HM1.out.words.frozen k
  have hcm := fun i => Blk.cell HM1.out.blk i
  have hca := fun i => Blk.cell HA1.out i
  have hfa := fun i => Blk.free HA1.out i
  have hne1 : g ≠ w.heap.size := by omega
  have hne2 : gl ≠ w.heap.size := by omega
  go_wp2_with fail
  go_region
  go_wp2_with fail
  refine (count_any _ base g (.slice (some ⟨gl, 0, none⟩) n cl) vg vc (L.set k (y)) G C kp th ?hM hC).mono ?_
  case hM => exact (((HM1.out.far HLOW.out (Nat.le_refl _) _).far HLOW.out (Nat.le_refl _) _).drew _).store k _
  rintro e W3 ⟨rfl, ⟨vc', hM3, hvc⟩, hR3, hB3⟩
  have hbA : w.heap.size ≠ gl := by omega
  have hbZ : w.heap.size + 1 ≠ gl := by omega
  have HA3 : Hid (Blk W3 w.heap.size 51 #[.int .i64 th, .int .i64 ki, .int .i64 k, .int .u64 wa, .int .u64 x, .int .u64 y, .bool true]) := MemV.free hR3 HLOW.out ((((HA1.out.set_ 5 _).set_ 6 _).far (p := ⟨gl, k, none⟩) hbA _).drewN 1) (Nat.le_refl _)
  have HZ3 : Hid (Blk W3 (w.heap.size + 1) 51 #[.int .i64 0, .int .i64 0, .int .i64 0, .int .u64 0, .int .u64 0, .int .u64 0, .bool false]) := MemV.free hR3 HLOW.out ((((HZ1.out.far (p := ⟨w.heap.size, 5, none⟩) (by simp) _).far (p := ⟨w.heap.size, 6, none⟩) (by simp) _).far (p := ⟨gl, k, none⟩) hbZ _).drewN 1) (by omega)
  have hvc2 : ∀ b, vc'.ownBlock = some b → vc.ownBlock = some b ∨ w.heap.size + 1 < b := fun b hb => (hvc b hb).imp id (fun h => by simp at h; omega)
  have hs3 : w.heap.size + 1 < W3.heap.size := HZ3.out.lt
  have HR3 : Hid (Rest w W3 g (.slice (some ⟨gl, 0, none⟩) n cl) vg vc) := Rest.trans ((((HR1.out.set_new (p := ⟨w.heap.size, 5, none⟩) (Nat.le_refl _) _).set_new (p := ⟨w.heap.size, 6, none⟩) (Nat.le_refl _) _).set_words (p := ⟨gl, k, none⟩) rfl _).drew 1) (by simp; omega) hR3 (fun b hb => .inl hb) (fun b hb => .inl hb)
  have HB3 : Hid (Below base w W3) := (below_drewN (n := 1) (((HB1.out.setCell (p := ⟨w.heap.size, 5, none⟩) hbs _).setCell (p := ⟨w.heap.size, 6, none⟩) hbs _).setCell (p := ⟨gl, k, none⟩) hgl1 _)).trans hB3
  have HM3 := hide hM3; have HVC := hide hvc2
  have n1 : g ≠ w.heap.size + 1 := by omega
  have n2 : (Value.slice (some ⟨gl, 0, none⟩) n cl).ownBlock ≠ some (w.heap.size + 1) := by
    intro he; simp [Value.ownBlock] at he; omega
  have n3 : vg.ownBlock ≠ some (w.heap.size + 1) := by
    intro he; have := HLOW.out.2.2.1 _ he; omega
  have n4 : vc'.ownBlock ≠ some (w.heap.size + 1) := by
    intro he
    rcases HVC.out _ he with h | h
    · have := HLOW.out.2.2.2 _ h; omega
    · omega
  have N1 := hide n1; have N2 := hide n2; have N3 := hide n3; have N4 := hide n4
  clear hcx hfx hcm hca hfa hM3 hvc hvc2 hR3 hB3 n1 n2 n3 n4
  have hgs3 : g < W3.heap.size := HM3.out.blk.lt
  have hcm := fun i => Blk.cell HM3.out.blk i
  have hca := fun i => Blk.cell HA3.out i
  have hcz := fun i => Blk.cell HZ3.out i
  have hfz := fun i => Blk.free HZ3.out i
  rcases kp with _ | _
  · go_wp2_with fail
    refine bodyPost_ret (v := ?_) ?_ rfl ?_
    rotate_left
    · obtain ⟨k0, k1, k2, k3, k4, k5, k6⟩ := set7_cells HZ3.out (.int .i64 th) (.int .i64 ki) (.int .i64 k) (.int .u64 wa) (.int .u64 x) (.int .u64 (y)) (.bool (true))
      unfold set7 at k6
      simp [results, Try.results21, go_sem, k0, k1, k2, k3, k4, k5, k6]
      rfl
    · exact ⟨rfl, ⟨vg, vc', set7_memV HM3.out N1.out N2.out N3.out N4.out (.int .i64 th) (.int .i64 ki) (.int .i64 k) (.int .u64 wa) (.int .u64 x) (.int .u64 (y)) (.bool (true))⟩, set7_rest HR3.out (by omega) (.int .i64 th) (.int .i64 ki) (.int .i64 k) (.int .u64 wa) (.int .u64 x) (.int .u64 (y)) (.bool (true)), set7_below HB3.out (by omega) (.int .i64 th) (.int .i64 ki) (.int .i64 k) (.int .u64 wa) (.int .u64 x) (.int .u64 (y)) (.bool (true))⟩
  · go_wp2_with fail
    go_region_law (first
      | (refine step_appF rfl _ _ 37 rfl base 51 7 56 (.agg #[.int .i64 0, .int .i64 0, .int .i64 0, .int .u64 0, .int .u64 0, .int .u64 0, .bool false]) accC accC_len accC_one Try.underlying37 info_acc rfl (by decide) vg G rfl ?_ (some ⟨W3.heap.size, 0, none⟩) 1 1 [⟨th, ki, k, wa, x, y, true⟩] rfl rfl ?_ ?_ ?_ ?_ ?_; (exact HM3.out.log.alloc _); (exact Rd.lit W3 [.int .i64 th, .int .i64 ki, .int .i64 k, .int .u64 wa, .int .u64 x, .int .u64 (y), .bool (true)] _); (simp; omega); (simp; omega); (have := HB3.out.size; simp; omega); intro v4 W4 hown4 hgrow4 hat4; obtain ⟨A4, c4, hv4, _⟩ := hown4.rd; rw [List.length_append, List.length_singleton] at hv4; subst hv4; have hbk4 : Blk W4 g 39 #[.slice (some ⟨gl, 0, none⟩) n cl, vg, vc', .bool true] := Blk.grown (by exact HM3.out.blk.alloc _) hgrow4 (by exact own_other (HM3.out.log.alloc (.cells #[.int .i64 th, .int .i64 ki, .int .i64 k, .int .u64 wa, .int .u64 x, .int .u64 y, .bool true] 51)) (HM3.out.blk.alloc _) (by decide)); have hcm4 := fun i => Blk.cell hbk4 i; have hfm4 := fun i => Blk.free hbk4 i; have hgs4 := hbk4.lt))
    all_goals
      have hvA : some w.heap.size ≠ vg.ownBlock := fun he => by have := HLOW.out.2.2.1 _ he.symm; omega
      have hvZ : some (w.heap.size + 1) ≠ vg.ownBlock := fun he => by have := HLOW.out.2.2.1 _ he.symm; omega
      have hA4 : Blk W4 w.heap.size 51 #[.int .i64 th, .int .i64 ki, .int .i64 k, .int .u64 wa, .int .u64 x, .int .u64 y, .bool true] := Blk.grown (by exact HA3.out.alloc _) hgrow4 hvA
      have hZ4 : Blk W4 (w.heap.size + 1) 51 #[.int .i64 0, .int .i64 0, .int .i64 0, .int .u64 0, .int .u64 0, .int .u64 0, .bool false] := Blk.grown (by exact HZ3.out.alloc _) hgrow4 hvZ
      have hM4 := ((HM3.out.alloc (.cells #[.int .i64 th, .int .i64 ki, .int .i64 k, .int .u64 wa, .int .u64 x, .int .u64 y, .bool true] 51)).drew 1).log_more hown4 hgrow4
      have HA5 := hide (hA4.far (p := ⟨g, 1, none⟩) (by simp; omega) (.slice A4 (G.length + 1) c4))
      have HZ5 := hide (hZ4.far (p := ⟨g, 1, none⟩) (by simp; omega) (.slice A4 (G.length + 1) c4))
      have HM5 := hide hM4
      have HB5 : Hid (Below base w (W4.setCell ⟨g, 1, none⟩ (.slice A4 (G.length + 1) c4))) := (((below_drewN (n := 1) (HB3.out.alloc (by have := HB3.out.size; omega) _)).grown hgrow4 (by have := HB3.out.size; simp; omega) (fun b hb => (own_lt HM3.out.log hb).1))).setCell (p := ⟨g, 1, none⟩) HM3.out.low _
      have hv5 : ∀ b, (Value.slice A4 (G.length + 1) c4).ownBlock = some b → vg.ownBlock = some b ∨ w.heap.size + 1 < b := by
        intro b hb
        rcases hat4 with h | h
        · exact .inl (h.symm.trans hb)
        · rw [h] at hb; injection hb with hb; right; rw [← hb]; simp; omega
      have HR5 : Hid (Rest w (W4.setCell ⟨g, 1, none⟩ (.slice A4 (G.length + 1) c4)) g (.slice (some ⟨gl, 0, none⟩) n cl) vg vc) := (Rest.grown (vg' := vg) (((HR3.out.alloc HB3.out.size _).drew 1)) (by have := HB3.out.size; simp; omega) hgrow4 (fun b hb => .inl hb)).set_row _
      have n3 : (Value.slice A4 (G.length + 1) c4).ownBlock ≠ some (w.heap.size + 1) := by
        intro he
        rcases hv5 _ he with h | h
        · have := HLOW.out.2.2.1 _ h; omega
        · omega
      have N5 := hide n3
      have hca4 := fun i => Blk.cell hA4 i
      have hcz4 := fun i => Blk.cell hZ4 i
      have hfz4 := fun i => Blk.free hZ4 i
      have hsz4 := hZ4.lt
      clear hgrow4 hown4 hat4 hA4 hZ4 hM4 hv5 n3 hvA hvZ hcm hca hcz hfz hbk4
      go_wp2_with fail
      refine bodyPost_ret (v := ?_) ?_ rfl ?_
      rotate_left
      · obtain ⟨k0, k1, k2, k3, k4, k5, k6⟩ := set7_cells HZ5.out (.int .i64 th) (.int .i64 ki) (.int .i64 k) (.int .u64 wa) (.int .u64 x) (.int .u64 (y)) (.bool (true))
        unfold set7 at k6
        simp [results, Try.results21, go_sem, k0, k1, k2, k3, k4, k5, k6]
        rfl
      · exact ⟨rfl, ⟨.slice A4 (G.length + 1) c4, vc', set7_memV HM5.out N1.out N2.out N5.out N4.out (.int .i64 th) (.int .i64 ki) (.int .i64 k) (.int .u64 wa) (.int .u64 x) (.int .u64 (y)) (.bool (true))⟩, set7_rest HR5.out (by omega) (.int .i64 th) (.int .i64 ki) (.int .i64 k) (.int .u64 wa) (.int .u64 x) (.int .u64 (y)) (.bool (true)), set7_below HB5.out (by omega) (.int .i64 th) (.int .i64 ki) (.int .i64 k) (.int .u64 wa) (.int .u64 x) (.int .u64 (y)) (.bool (true))⟩

set_option maxHeartbeats 2000000 in
theorem do_add (base g : Nat) (vl vg vc : Value) (L : List Int) (G : List Acc) (C : List Int) (kp : Bool) (th ki wa ol nw0 : Int) (k : Nat) (ok0 : Bool) (x : Int) (b : Nat) (y : Int) (h : MemV w base g vl vg vc L G C kp) (hC : C.length ≤ 64) (hG : G.length ≤ 1000000) (hL : L.length ≤ 2000000) (hx : L[k]? = some x) (hy : w.cell? ⟨b, 0, none⟩ = some (.int .u64 y)) :
    Calls Try.prog 21 #[.pointer (some ⟨g, 0, none⟩), .agg #[.int .i64 th, .int .i64 ki, .int .i64 k, .int .u64 wa, .int .u64 ol, .int .u64 nw0, .bool ok0], .func (.func 23) #[] #[.pointer (some ⟨b, 0, none⟩)]] w fun e w' =>
      e = .returned (.tuple #[.agg #[.int .i64 th, .int .i64 ki, .int .i64 k, .int .u64 wa, .int .u64 x, .int .u64 (IntKind.u64.wrap (x + y)), .bool true], .int .i64 0]) ∧
        (∃ vg' vc', MemV w' base g vl vg' vc' (L.set k ((IntKind.u64.wrap (x + y)))) (if kp = true then G ++ [⟨th, ki, k, wa, x, (IntKind.u64.wrap (x + y)), true⟩] else G) (cntAdd C th) kp) ∧ Rest w w' g vl vg vc ∧ Below base w w' := by
  have hne : L ≠ [] := by rintro rfl; simp at hx
  obtain ⟨gl, cl, rfl, hgl1, hgl2⟩ := h.form hne
  obtain ⟨n, hn⟩ : ∃ n, n = L.length := ⟨_, rfl⟩
  have hkn : k < n := by rw [hn]; exact (List.getElem?_eq_some_iff.1 hx).1
  rw [← hn] at h hL ⊢
  have hcx := h.words.cell hx
  have hfx := h.words.frozen k
  have hcm := fun i => Blk.cell h.blk i
  have hfm := fun i => Blk.free h.blk i
  have hgs := h.blk.lt
  have H := hide h; have HX := hide hx; have HN := hide hn
  have HLOW := hide h.lows
  have hbs : base ≤ w.heap.size := Nat.le_trans h.low (Nat.le_of_lt hgs)
  clear h hx hn hne
  have hbl := cell_lt hy
  have hd0 : decide ((k : Int) < 0) = false := decide_eq_false (by omega)
  have hd1 : decide ((n : Int) ≤ (k : Int)) = false := decide_eq_false (by omega)
  have hd2 : decide (n ≤ k) = false := decide_eq_false (by omega)
  generalize hAC : (Obj.cells #[.int .i64 th, .int .i64 ki, .int .i64 k, .int .u64 wa, .int .u64 ol, .int .u64 nw0, .bool ok0] 51) = oA
  clear hAC
  have HMY := hide (made_yes ((w.alloc (.cells #[.int .i64 th, .int .i64 ki, .int .i64 k, .int .u64 wa, .int .u64 ol, .int .u64 nw0, .bool ok0] 51)).alloc (.cells #[.int .i64 0, .int .i64 0, .int .i64 0, .int .u64 0, .int .u64 0, .int .u64 0, .bool false] 51)) g ⟨gl, 0, none⟩ n cl (((H.out.blk.alloc _).alloc _).cell 0))
  go_enter Try.func21, Try.ntmps21
  go_wp2_with fail
  refine HMY.out.mono ?_
  rintro e w' ⟨rfl, rfl⟩
  go_wp2_with fail
  go_quiet (fail)
  go_wp2_with fail
  go_region
  go_wp2_with fail
  refine ((add1_any _ x y b (by exact (World.cell?_setCell_other _ _ _ _ (by first | (simp; done) | (simp; omega))).trans (((World.cell?_alloc_lt _ _ _ (by first | (simp; done) | (simp; omega) | omega)).trans (World.cell?_alloc_lt _ _ _ (by first | (simp; done) | (simp; omega) | omega))).trans hy))).mono fun _ _ h => (⟨h.1, h.2⟩ : _ ∧ Same _ _)).mono ?_
  rintro e W1 ⟨rfl, hS⟩
  have HM1 : Hid (MemV W1 base g (.slice (some ⟨gl, 0, none⟩) n cl) vg vc L G C kp) := hS.to (Q := fun W => MemV W base g (.slice (some ⟨gl, 0, none⟩) n cl) vg vc L G C kp) ((((H.out.alloc _).alloc _).drew _).far HLOW.out (Nat.le_refl _) _)
  have HA1 : Hid (Blk W1 w.heap.size 51 #[.int .i64 th, .int .i64 ki, .int .i64 k, .int .u64 wa, .int .u64 x, .int .u64 nw0, .bool ok0]) := hS.to (Q := fun W => Blk W w.heap.size 51 #[.int .i64 th, .int .i64 ki, .int .i64 k, .int .u64 wa, .int .u64 x, .int .u64 nw0, .bool ok0]) ((((Blk.new w _ _).alloc _).drewN _).set_ 4 (.int .u64 x))
  have HZ1 : Hid (Blk W1 (w.heap.size + 1) 51 #[.int .i64 0, .int .i64 0, .int .i64 0, .int .u64 0, .int .u64 0, .int .u64 0, .bool false]) := hS.to (Q := fun W => Blk W (w.heap.size + 1) 51 #[.int .i64 0, .int .i64 0, .int .i64 0, .int .u64 0, .int .u64 0, .int .u64 0, .bool false]) (((Blk.newAt _ _ _ (by simp)).drewN _).far (by simp) _)
  have HR1 : Hid (Rest w W1 g (.slice (some ⟨gl, 0, none⟩) n cl) vg vc) := hS.to (Q := fun W => Rest w W g (.slice (some ⟨gl, 0, none⟩) n cl) vg vc) (((((Rest.refl w g _ vg vc).alloc (Nat.le_refl _) _).alloc (by simp) _).drew _).set_new (Nat.le_refl _) _)
  have HB1 : Hid (Below base w W1) := hS.to (Q := fun W => Below base w W) ((below_drewN (((Below.refl base w).alloc hbs _).alloc (by simp; omega) _) _).setCell (p := ⟨w.heap.size, 4, none⟩) hbs _)
  have hs1 : w.heap.size + 1 < W1.heap.size := HZ1.out.lt
  clear hS hcx hfx hcm hfm
  have hcx := HM1.out.words.cell HX.out
  have hfx := HM1.out.words.frozen k
  have hcm := fun i => Blk.cell HM1.out.blk i
  have hca := fun i => Blk.cell HA1.out i
  have hfa := fun i => Blk.free HA1.out i
  have hne1 : g ≠ w.heap.size := by omega
  have hne2 : gl ≠ w.heap.size := by omega
  go_wp2_with fail
  go_region
  go_wp2_with fail
  refine (count_any _ base g (.slice (some ⟨gl, 0, none⟩) n cl) vg vc (L.set k ((IntKind.u64.wrap (x + y)))) G C kp th ?hM hC).mono ?_
  case hM => exact (((HM1.out.far HLOW.out (Nat.le_refl _) _).far HLOW.out (Nat.le_refl _) _).drew _).store k _
  rintro e W3 ⟨rfl, ⟨vc', hM3, hvc⟩, hR3, hB3⟩
  have hbA : w.heap.size ≠ gl := by omega
  have hbZ : w.heap.size + 1 ≠ gl := by omega
  have HA3 : Hid (Blk W3 w.heap.size 51 #[.int .i64 th, .int .i64 ki, .int .i64 k, .int .u64 wa, .int .u64 x, .int .u64 (IntKind.u64.wrap (x + y)), .bool true]) := MemV.free hR3 HLOW.out ((((HA1.out.set_ 5 _).set_ 6 _).far (p := ⟨gl, k, none⟩) hbA _).drewN 1) (Nat.le_refl _)
  have HZ3 : Hid (Blk W3 (w.heap.size + 1) 51 #[.int .i64 0, .int .i64 0, .int .i64 0, .int .u64 0, .int .u64 0, .int .u64 0, .bool false]) := MemV.free hR3 HLOW.out ((((HZ1.out.far (p := ⟨w.heap.size, 5, none⟩) (by simp) _).far (p := ⟨w.heap.size, 6, none⟩) (by simp) _).far (p := ⟨gl, k, none⟩) hbZ _).drewN 1) (by omega)
  have hvc2 : ∀ b, vc'.ownBlock = some b → vc.ownBlock = some b ∨ w.heap.size + 1 < b := fun b hb => (hvc b hb).imp id (fun h => by simp at h; omega)
  have hs3 : w.heap.size + 1 < W3.heap.size := HZ3.out.lt
  have HR3 : Hid (Rest w W3 g (.slice (some ⟨gl, 0, none⟩) n cl) vg vc) := Rest.trans ((((HR1.out.set_new (p := ⟨w.heap.size, 5, none⟩) (Nat.le_refl _) _).set_new (p := ⟨w.heap.size, 6, none⟩) (Nat.le_refl _) _).set_words (p := ⟨gl, k, none⟩) rfl _).drew 1) (by simp; omega) hR3 (fun b hb => .inl hb) (fun b hb => .inl hb)
  have HB3 : Hid (Below base w W3) := (below_drewN (n := 1) (((HB1.out.setCell (p := ⟨w.heap.size, 5, none⟩) hbs _).setCell (p := ⟨w.heap.size, 6, none⟩) hbs _).setCell (p := ⟨gl, k, none⟩) hgl1 _)).trans hB3
  have HM3 := hide hM3; have HVC := hide hvc2
  have n1 : g ≠ w.heap.size + 1 := by omega
  have n2 : (Value.slice (some ⟨gl, 0, none⟩) n cl).ownBlock ≠ some (w.heap.size + 1) := by
    intro he; simp [Value.ownBlock] at he; omega
  have n3 : vg.ownBlock ≠ some (w.heap.size + 1) := by
    intro he; have := HLOW.out.2.2.1 _ he; omega
  have n4 : vc'.ownBlock ≠ some (w.heap.size + 1) := by
    intro he
    rcases HVC.out _ he with h | h
    · have := HLOW.out.2.2.2 _ h; omega
    · omega
  have N1 := hide n1; have N2 := hide n2; have N3 := hide n3; have N4 := hide n4
  clear hcx hfx hcm hca hfa hM3 hvc hvc2 hR3 hB3 n1 n2 n3 n4
  have hgs3 : g < W3.heap.size := HM3.out.blk.lt
  have hcm := fun i => Blk.cell HM3.out.blk i
  have hca := fun i => Blk.cell HA3.out i
  have hcz := fun i => Blk.cell HZ3.out i
  have hfz := fun i => Blk.free HZ3.out i
  rcases kp with _ | _
  · go_wp2_with fail
    refine bodyPost_ret (v := ?_) ?_ rfl ?_
    rotate_left
    · obtain ⟨k0, k1, k2, k3, k4, k5, k6⟩ := set7_cells HZ3.out (.int .i64 th) (.int .i64 ki) (.int .i64 k) (.int .u64 wa) (.int .u64 x) (.int .u64 ((IntKind.u64.wrap (x + y)))) (.bool (true))
      unfold set7 at k6
      simp [results, Try.results21, go_sem, k0, k1, k2, k3, k4, k5, k6]
      rfl
    · exact ⟨rfl, ⟨vg, vc', set7_memV HM3.out N1.out N2.out N3.out N4.out (.int .i64 th) (.int .i64 ki) (.int .i64 k) (.int .u64 wa) (.int .u64 x) (.int .u64 ((IntKind.u64.wrap (x + y)))) (.bool (true))⟩, set7_rest HR3.out (by omega) (.int .i64 th) (.int .i64 ki) (.int .i64 k) (.int .u64 wa) (.int .u64 x) (.int .u64 ((IntKind.u64.wrap (x + y)))) (.bool (true)), set7_below HB3.out (by omega) (.int .i64 th) (.int .i64 ki) (.int .i64 k) (.int .u64 wa) (.int .u64 x) (.int .u64 ((IntKind.u64.wrap (x + y)))) (.bool (true))⟩
  · go_wp2_with fail
    go_region_law (first
      | (refine step_appF rfl _ _ 37 rfl base 51 7 56 (.agg #[.int .i64 0, .int .i64 0, .int .i64 0, .int .u64 0, .int .u64 0, .int .u64 0, .bool false]) accC accC_len accC_one Try.underlying37 info_acc rfl (by decide) vg G rfl ?_ (some ⟨W3.heap.size, 0, none⟩) 1 1 [⟨th, ki, k, wa, x, (IntKind.u64.wrap (x + y)), true⟩] rfl rfl ?_ ?_ ?_ ?_ ?_; (exact HM3.out.log.alloc _); (exact Rd.lit W3 [.int .i64 th, .int .i64 ki, .int .i64 k, .int .u64 wa, .int .u64 x, .int .u64 ((IntKind.u64.wrap (x + y))), .bool (true)] _); (simp; omega); (simp; omega); (have := HB3.out.size; simp; omega); intro v4 W4 hown4 hgrow4 hat4; obtain ⟨A4, c4, hv4, _⟩ := hown4.rd; rw [List.length_append, List.length_singleton] at hv4; subst hv4; have hbk4 : Blk W4 g 39 #[.slice (some ⟨gl, 0, none⟩) n cl, vg, vc', .bool true] := Blk.grown (by exact HM3.out.blk.alloc _) hgrow4 (by exact own_other (HM3.out.log.alloc (.cells #[.int .i64 th, .int .i64 ki, .int .i64 k, .int .u64 wa, .int .u64 x, .int .u64 (IntKind.u64.wrap (x + y)), .bool true] 51)) (HM3.out.blk.alloc _) (by decide)); have hcm4 := fun i => Blk.cell hbk4 i; have hfm4 := fun i => Blk.free hbk4 i; have hgs4 := hbk4.lt))
    all_goals
      have hvA : some w.heap.size ≠ vg.ownBlock := fun he => by have := HLOW.out.2.2.1 _ he.symm; omega
      have hvZ : some (w.heap.size + 1) ≠ vg.ownBlock := fun he => by have := HLOW.out.2.2.1 _ he.symm; omega
      have hA4 : Blk W4 w.heap.size 51 #[.int .i64 th, .int .i64 ki, .int .i64 k, .int .u64 wa, .int .u64 x, .int .u64 (IntKind.u64.wrap (x + y)), .bool true] := Blk.grown (by exact HA3.out.alloc _) hgrow4 hvA
      have hZ4 : Blk W4 (w.heap.size + 1) 51 #[.int .i64 0, .int .i64 0, .int .i64 0, .int .u64 0, .int .u64 0, .int .u64 0, .bool false] := Blk.grown (by exact HZ3.out.alloc _) hgrow4 hvZ
      have hM4 := ((HM3.out.alloc (.cells #[.int .i64 th, .int .i64 ki, .int .i64 k, .int .u64 wa, .int .u64 x, .int .u64 (IntKind.u64.wrap (x + y)), .bool true] 51)).drew 1).log_more hown4 hgrow4
      have HA5 := hide (hA4.far (p := ⟨g, 1, none⟩) (by simp; omega) (.slice A4 (G.length + 1) c4))
      have HZ5 := hide (hZ4.far (p := ⟨g, 1, none⟩) (by simp; omega) (.slice A4 (G.length + 1) c4))
      have HM5 := hide hM4
      have HB5 : Hid (Below base w (W4.setCell ⟨g, 1, none⟩ (.slice A4 (G.length + 1) c4))) := (((below_drewN (n := 1) (HB3.out.alloc (by have := HB3.out.size; omega) _)).grown hgrow4 (by have := HB3.out.size; simp; omega) (fun b hb => (own_lt HM3.out.log hb).1))).setCell (p := ⟨g, 1, none⟩) HM3.out.low _
      have hv5 : ∀ b, (Value.slice A4 (G.length + 1) c4).ownBlock = some b → vg.ownBlock = some b ∨ w.heap.size + 1 < b := by
        intro b hb
        rcases hat4 with h | h
        · exact .inl (h.symm.trans hb)
        · rw [h] at hb; injection hb with hb; right; rw [← hb]; simp; omega
      have HR5 : Hid (Rest w (W4.setCell ⟨g, 1, none⟩ (.slice A4 (G.length + 1) c4)) g (.slice (some ⟨gl, 0, none⟩) n cl) vg vc) := (Rest.grown (vg' := vg) (((HR3.out.alloc HB3.out.size _).drew 1)) (by have := HB3.out.size; simp; omega) hgrow4 (fun b hb => .inl hb)).set_row _
      have n3 : (Value.slice A4 (G.length + 1) c4).ownBlock ≠ some (w.heap.size + 1) := by
        intro he
        rcases hv5 _ he with h | h
        · have := HLOW.out.2.2.1 _ h; omega
        · omega
      have N5 := hide n3
      have hca4 := fun i => Blk.cell hA4 i
      have hcz4 := fun i => Blk.cell hZ4 i
      have hfz4 := fun i => Blk.free hZ4 i
      have hsz4 := hZ4.lt
      clear hgrow4 hown4 hat4 hA4 hZ4 hM4 hv5 n3 hvA hvZ hcm hca hcz hfz hbk4
      go_wp2_with fail
      refine bodyPost_ret (v := ?_) ?_ rfl ?_
      rotate_left
      · obtain ⟨k0, k1, k2, k3, k4, k5, k6⟩ := set7_cells HZ5.out (.int .i64 th) (.int .i64 ki) (.int .i64 k) (.int .u64 wa) (.int .u64 x) (.int .u64 ((IntKind.u64.wrap (x + y)))) (.bool (true))
        unfold set7 at k6
        simp [results, Try.results21, go_sem, k0, k1, k2, k3, k4, k5, k6]
        rfl
      · exact ⟨rfl, ⟨.slice A4 (G.length + 1) c4, vc', set7_memV HM5.out N1.out N2.out N5.out N4.out (.int .i64 th) (.int .i64 ki) (.int .i64 k) (.int .u64 wa) (.int .u64 x) (.int .u64 ((IntKind.u64.wrap (x + y)))) (.bool (true))⟩, set7_rest HR5.out (by omega) (.int .i64 th) (.int .i64 ki) (.int .i64 k) (.int .u64 wa) (.int .u64 x) (.int .u64 ((IntKind.u64.wrap (x + y)))) (.bool (true)), set7_below HB5.out (by omega) (.int .i64 th) (.int .i64 ki) (.int .i64 k) (.int .u64 wa) (.int .u64 x) (.int .u64 ((IntKind.u64.wrap (x + y)))) (.bool (true))⟩

set_option maxHeartbeats 2000000 in
theorem do_swap (base g : Nat) (vl vg vc : Value) (L : List Int) (G : List Acc) (C : List Int) (kp : Bool) (th ki wa ol nw0 : Int) (k : Nat) (ok0 : Bool) (x : Int) (b c : Nat) (wb y nw1 : Int) (ok1 : Bool) (h : MemV w base g vl vg vc L G C kp) (hC : C.length ≤ 64) (hG : G.length ≤ 1000000) (hL : L.length ≤ 2000000) (hx : L[k]? = some x) (hy : w.cell? ⟨b, 0, none⟩ = some (.int .u64 wb)) (hz : w.cell? ⟨c, 0, none⟩ = some (.int .u64 y)) (hnw : Hid ((if x = wb then y else x) = nw1 ∧ (x == wb) = ok1)) :
    Calls Try.prog 21 #[.pointer (some ⟨g, 0, none⟩), .agg #[.int .i64 th, .int .i64 ki, .int .i64 k, .int .u64 wa, .int .u64 ol, .int .u64 nw0, .bool ok0], .func (.func 22) #[] #[.pointer (some ⟨b, 0, none⟩), .pointer (some ⟨c, 0, none⟩)]] w fun e w' =>
      e = .returned (.tuple #[.agg #[.int .i64 th, .int .i64 ki, .int .i64 k, .int .u64 wa, .int .u64 x, .int .u64 nw1, .bool ok1], .int .i64 0]) ∧
        (∃ vg' vc', MemV w' base g vl vg' vc' (L.set k (nw1)) (if kp = true then G ++ [⟨th, ki, k, wa, x, nw1, ok1⟩] else G) (cntAdd C th) kp) ∧ Rest w w' g vl vg vc ∧ Below base w w' := by
  have hne : L ≠ [] := by rintro rfl; simp at hx
  obtain ⟨gl, cl, rfl, hgl1, hgl2⟩ := h.form hne
  obtain ⟨n, hn⟩ : ∃ n, n = L.length := ⟨_, rfl⟩
  have hkn : k < n := by rw [hn]; exact (List.getElem?_eq_some_iff.1 hx).1
  rw [← hn] at h hL ⊢
  have hcx := h.words.cell hx
  have hfx := h.words.frozen k
  have hcm := fun i => Blk.cell h.blk i
  have hfm := fun i => Blk.free h.blk i
  have hgs := h.blk.lt
  have H := hide h; have HX := hide hx; have HN := hide hn
  have HLOW := hide h.lows
  have hbs : base ≤ w.heap.size := Nat.le_trans h.low (Nat.le_of_lt hgs)
  clear h hx hn hne
  have hbl := cell_lt hy
  have hcl := cell_lt hz
  have hd0 : decide ((k : Int) < 0) = false := decide_eq_false (by omega)
  have hd1 : decide ((n : Int) ≤ (k : Int)) = false := decide_eq_false (by omega)
  have hd2 : decide (n ≤ k) = false := decide_eq_false (by omega)
  generalize hAC : (Obj.cells #[.int .i64 th, .int .i64 ki, .int .i64 k, .int .u64 wa, .int .u64 ol, .int .u64 nw0, .bool ok0] 51) = oA
  clear hAC
  have HMY := hide (made_yes ((w.alloc (.cells #[.int .i64 th, .int .i64 ki, .int .i64 k, .int .u64 wa, .int .u64 ol, .int .u64 nw0, .bool ok0] 51)).alloc (.cells #[.int .i64 0, .int .i64 0, .int .i64 0, .int .u64 0, .int .u64 0, .int .u64 0, .bool false] 51)) g ⟨gl, 0, none⟩ n cl (((H.out.blk.alloc _).alloc _).cell 0))
  go_enter Try.func21, Try.ntmps21
  go_wp2_with fail
  refine HMY.out.mono ?_
  rintro e w' ⟨rfl, rfl⟩
  go_wp2_with fail
  go_quiet (fail)
  go_wp2_with fail
  go_region
  go_wp2_with fail
  refine ((swap1_as _ x wb y b c nw1 ok1 hnw (by exact (World.cell?_setCell_other _ _ _ _ (by first | (simp; done) | (simp; omega))).trans (((World.cell?_alloc_lt _ _ _ (by first | (simp; done) | (simp; omega) | omega)).trans (World.cell?_alloc_lt _ _ _ (by first | (simp; done) | (simp; omega) | omega))).trans hy)) (by exact (World.cell?_setCell_other _ _ _ _ (by first | (simp; done) | (simp; omega))).trans (((World.cell?_alloc_lt _ _ _ (by first | (simp; done) | (simp; omega) | omega)).trans (World.cell?_alloc_lt _ _ _ (by first | (simp; done) | (simp; omega) | omega))).trans hz))).mono fun _ _ h => (⟨h.1, h.2⟩ : _ ∧ Same _ _)).mono ?_
  rintro e W1 ⟨rfl, hS⟩
  have HM1 : Hid (MemV W1 base g (.slice (some ⟨gl, 0, none⟩) n cl) vg vc L G C kp) := hS.to (Q := fun W => MemV W base g (.slice (some ⟨gl, 0, none⟩) n cl) vg vc L G C kp) ((((H.out.alloc _).alloc _).drew _).far HLOW.out (Nat.le_refl _) _)
  have HA1 : Hid (Blk W1 w.heap.size 51 #[.int .i64 th, .int .i64 ki, .int .i64 k, .int .u64 wa, .int .u64 x, .int .u64 nw0, .bool ok0]) := hS.to (Q := fun W => Blk W w.heap.size 51 #[.int .i64 th, .int .i64 ki, .int .i64 k, .int .u64 wa, .int .u64 x, .int .u64 nw0, .bool ok0]) ((((Blk.new w _ _).alloc _).drewN _).set_ 4 (.int .u64 x))
  have HZ1 : Hid (Blk W1 (w.heap.size + 1) 51 #[.int .i64 0, .int .i64 0, .int .i64 0, .int .u64 0, .int .u64 0, .int .u64 0, .bool false]) := hS.to (Q := fun W => Blk W (w.heap.size + 1) 51 #[.int .i64 0, .int .i64 0, .int .i64 0, .int .u64 0, .int .u64 0, .int .u64 0, .bool false]) (((Blk.newAt _ _ _ (by simp)).drewN _).far (by simp) _)
  have HR1 : Hid (Rest w W1 g (.slice (some ⟨gl, 0, none⟩) n cl) vg vc) := hS.to (Q := fun W => Rest w W g (.slice (some ⟨gl, 0, none⟩) n cl) vg vc) (((((Rest.refl w g _ vg vc).alloc (Nat.le_refl _) _).alloc (by simp) _).drew _).set_new (Nat.le_refl _) _)
  have HB1 : Hid (Below base w W1) := hS.to (Q := fun W => Below base w W) ((below_drewN (((Below.refl base w).alloc hbs _).alloc (by simp; omega) _) _).setCell (p := ⟨w.heap.size, 4, none⟩) hbs _)
  have hs1 : w.heap.size + 1 < W1.heap.size := HZ1.out.lt
  clear hS hcx hfx hcm hfm
  have hcx := HM1.out.words.cell HX.out
  have hfx := HM1.out.words.frozen k
  have hcm := fun i => Blk.cell HM1.out.blk i
  have hca := fun i => Blk.cell HA1.out i
  have hfa := fun i => Blk.free HA1.out i
  have hne1 : g ≠ w.heap.size := by omega
  have hne2 : gl ≠ w.heap.size := by omega
  go_wp2_with fail
  go_region
  go_wp2_with fail
  refine (count_any _ base g (.slice (some ⟨gl, 0, none⟩) n cl) vg vc (L.set k (nw1)) G C kp th ?hM hC).mono ?_
  case hM => exact (((HM1.out.far HLOW.out (Nat.le_refl _) _).far HLOW.out (Nat.le_refl _) _).drew _).store k _
  rintro e W3 ⟨rfl, ⟨vc', hM3, hvc⟩, hR3, hB3⟩
  have hbA : w.heap.size ≠ gl := by omega
  have hbZ : w.heap.size + 1 ≠ gl := by omega
  have HA3 : Hid (Blk W3 w.heap.size 51 #[.int .i64 th, .int .i64 ki, .int .i64 k, .int .u64 wa, .int .u64 x, .int .u64 nw1, .bool ok1]) := MemV.free hR3 HLOW.out ((((HA1.out.set_ 5 _).set_ 6 _).far (p := ⟨gl, k, none⟩) hbA _).drewN 1) (Nat.le_refl _)
  have HZ3 : Hid (Blk W3 (w.heap.size + 1) 51 #[.int .i64 0, .int .i64 0, .int .i64 0, .int .u64 0, .int .u64 0, .int .u64 0, .bool false]) := MemV.free hR3 HLOW.out ((((HZ1.out.far (p := ⟨w.heap.size, 5, none⟩) (by simp) _).far (p := ⟨w.heap.size, 6, none⟩) (by simp) _).far (p := ⟨gl, k, none⟩) hbZ _).drewN 1) (by omega)
  have hvc2 : ∀ b, vc'.ownBlock = some b → vc.ownBlock = some b ∨ w.heap.size + 1 < b := fun b hb => (hvc b hb).imp id (fun h => by simp at h; omega)
  have hs3 : w.heap.size + 1 < W3.heap.size := HZ3.out.lt
  have HR3 : Hid (Rest w W3 g (.slice (some ⟨gl, 0, none⟩) n cl) vg vc) := Rest.trans ((((HR1.out.set_new (p := ⟨w.heap.size, 5, none⟩) (Nat.le_refl _) _).set_new (p := ⟨w.heap.size, 6, none⟩) (Nat.le_refl _) _).set_words (p := ⟨gl, k, none⟩) rfl _).drew 1) (by simp; omega) hR3 (fun b hb => .inl hb) (fun b hb => .inl hb)
  have HB3 : Hid (Below base w W3) := (below_drewN (n := 1) (((HB1.out.setCell (p := ⟨w.heap.size, 5, none⟩) hbs _).setCell (p := ⟨w.heap.size, 6, none⟩) hbs _).setCell (p := ⟨gl, k, none⟩) hgl1 _)).trans hB3
  have HM3 := hide hM3; have HVC := hide hvc2
  have n1 : g ≠ w.heap.size + 1 := by omega
  have n2 : (Value.slice (some ⟨gl, 0, none⟩) n cl).ownBlock ≠ some (w.heap.size + 1) := by
    intro he; simp [Value.ownBlock] at he; omega
  have n3 : vg.ownBlock ≠ some (w.heap.size + 1) := by
    intro he; have := HLOW.out.2.2.1 _ he; omega
  have n4 : vc'.ownBlock ≠ some (w.heap.size + 1) := by
    intro he
    rcases HVC.out _ he with h | h
    · have := HLOW.out.2.2.2 _ h; omega
    · omega
  have N1 := hide n1; have N2 := hide n2; have N3 := hide n3; have N4 := hide n4
  clear hcx hfx hcm hca hfa hM3 hvc hvc2 hR3 hB3 n1 n2 n3 n4
  have hgs3 : g < W3.heap.size := HM3.out.blk.lt
  have hcm := fun i => Blk.cell HM3.out.blk i
  have hca := fun i => Blk.cell HA3.out i
  have hcz := fun i => Blk.cell HZ3.out i
  have hfz := fun i => Blk.free HZ3.out i
  rcases kp with _ | _
  · go_wp2_with fail
    refine bodyPost_ret (v := ?_) ?_ rfl ?_
    rotate_left
    · obtain ⟨k0, k1, k2, k3, k4, k5, k6⟩ := set7_cells HZ3.out (.int .i64 th) (.int .i64 ki) (.int .i64 k) (.int .u64 wa) (.int .u64 x) (.int .u64 (nw1)) (.bool (ok1))
      unfold set7 at k6
      simp [results, Try.results21, go_sem, k0, k1, k2, k3, k4, k5, k6]
      rfl
    · exact ⟨rfl, ⟨vg, vc', set7_memV HM3.out N1.out N2.out N3.out N4.out (.int .i64 th) (.int .i64 ki) (.int .i64 k) (.int .u64 wa) (.int .u64 x) (.int .u64 (nw1)) (.bool (ok1))⟩, set7_rest HR3.out (by omega) (.int .i64 th) (.int .i64 ki) (.int .i64 k) (.int .u64 wa) (.int .u64 x) (.int .u64 (nw1)) (.bool (ok1)), set7_below HB3.out (by omega) (.int .i64 th) (.int .i64 ki) (.int .i64 k) (.int .u64 wa) (.int .u64 x) (.int .u64 (nw1)) (.bool (ok1))⟩
  · go_wp2_with fail
    go_region_law (first
      | (refine step_appF rfl _ _ 37 rfl base 51 7 56 (.agg #[.int .i64 0, .int .i64 0, .int .i64 0, .int .u64 0, .int .u64 0, .int .u64 0, .bool false]) accC accC_len accC_one Try.underlying37 info_acc rfl (by decide) vg G rfl ?_ (some ⟨W3.heap.size, 0, none⟩) 1 1 [⟨th, ki, k, wa, x, nw1, ok1⟩] rfl rfl ?_ ?_ ?_ ?_ ?_; (exact HM3.out.log.alloc _); (exact Rd.lit W3 [.int .i64 th, .int .i64 ki, .int .i64 k, .int .u64 wa, .int .u64 x, .int .u64 (nw1), .bool (ok1)] _); (simp; omega); (simp; omega); (have := HB3.out.size; simp; omega); intro v4 W4 hown4 hgrow4 hat4; obtain ⟨A4, c4, hv4, _⟩ := hown4.rd; rw [List.length_append, List.length_singleton] at hv4; subst hv4; have hbk4 : Blk W4 g 39 #[.slice (some ⟨gl, 0, none⟩) n cl, vg, vc', .bool true] := Blk.grown (by exact HM3.out.blk.alloc _) hgrow4 (by exact own_other (HM3.out.log.alloc (.cells #[.int .i64 th, .int .i64 ki, .int .i64 k, .int .u64 wa, .int .u64 x, .int .u64 nw1, .bool ok1] 51)) (HM3.out.blk.alloc _) (by decide)); have hcm4 := fun i => Blk.cell hbk4 i; have hfm4 := fun i => Blk.free hbk4 i; have hgs4 := hbk4.lt))
    all_goals
      have hvA : some w.heap.size ≠ vg.ownBlock := fun he => by have := HLOW.out.2.2.1 _ he.symm; omega
      have hvZ : some (w.heap.size + 1) ≠ vg.ownBlock := fun he => by have := HLOW.out.2.2.1 _ he.symm; omega
      have hA4 : Blk W4 w.heap.size 51 #[.int .i64 th, .int .i64 ki, .int .i64 k, .int .u64 wa, .int .u64 x, .int .u64 nw1, .bool ok1] := Blk.grown (by exact HA3.out.alloc _) hgrow4 hvA
      have hZ4 : Blk W4 (w.heap.size + 1) 51 #[.int .i64 0, .int .i64 0, .int .i64 0, .int .u64 0, .int .u64 0, .int .u64 0, .bool false] := Blk.grown (by exact HZ3.out.alloc _) hgrow4 hvZ
      have hM4 := ((HM3.out.alloc (.cells #[.int .i64 th, .int .i64 ki, .int .i64 k, .int .u64 wa, .int .u64 x, .int .u64 nw1, .bool ok1] 51)).drew 1).log_more hown4 hgrow4
      have HA5 := hide (hA4.far (p := ⟨g, 1, none⟩) (by simp; omega) (.slice A4 (G.length + 1) c4))
      have HZ5 := hide (hZ4.far (p := ⟨g, 1, none⟩) (by simp; omega) (.slice A4 (G.length + 1) c4))
      have HM5 := hide hM4
      have HB5 : Hid (Below base w (W4.setCell ⟨g, 1, none⟩ (.slice A4 (G.length + 1) c4))) := (((below_drewN (n := 1) (HB3.out.alloc (by have := HB3.out.size; omega) _)).grown hgrow4 (by have := HB3.out.size; simp; omega) (fun b hb => (own_lt HM3.out.log hb).1))).setCell (p := ⟨g, 1, none⟩) HM3.out.low _
      have hv5 : ∀ b, (Value.slice A4 (G.length + 1) c4).ownBlock = some b → vg.ownBlock = some b ∨ w.heap.size + 1 < b := by
        intro b hb
        rcases hat4 with h | h
        · exact .inl (h.symm.trans hb)
        · rw [h] at hb; injection hb with hb; right; rw [← hb]; simp; omega
      have HR5 : Hid (Rest w (W4.setCell ⟨g, 1, none⟩ (.slice A4 (G.length + 1) c4)) g (.slice (some ⟨gl, 0, none⟩) n cl) vg vc) := (Rest.grown (vg' := vg) (((HR3.out.alloc HB3.out.size _).drew 1)) (by have := HB3.out.size; simp; omega) hgrow4 (fun b hb => .inl hb)).set_row _
      have n3 : (Value.slice A4 (G.length + 1) c4).ownBlock ≠ some (w.heap.size + 1) := by
        intro he
        rcases hv5 _ he with h | h
        · have := HLOW.out.2.2.1 _ h; omega
        · omega
      have N5 := hide n3
      have hca4 := fun i => Blk.cell hA4 i
      have hcz4 := fun i => Blk.cell hZ4 i
      have hfz4 := fun i => Blk.free hZ4 i
      have hsz4 := hZ4.lt
      clear hgrow4 hown4 hat4 hA4 hZ4 hM4 hv5 n3 hvA hvZ hcm hca hcz hfz hbk4
      go_wp2_with fail
      refine bodyPost_ret (v := ?_) ?_ rfl ?_
      rotate_left
      · obtain ⟨k0, k1, k2, k3, k4, k5, k6⟩ := set7_cells HZ5.out (.int .i64 th) (.int .i64 ki) (.int .i64 k) (.int .u64 wa) (.int .u64 x) (.int .u64 (nw1)) (.bool (ok1))
        unfold set7 at k6
        simp [results, Try.results21, go_sem, k0, k1, k2, k3, k4, k5, k6]
        rfl
      · exact ⟨rfl, ⟨.slice A4 (G.length + 1) c4, vc', set7_memV HM5.out N1.out N2.out N5.out N4.out (.int .i64 th) (.int .i64 ki) (.int .i64 k) (.int .u64 wa) (.int .u64 x) (.int .u64 (nw1)) (.bool (ok1))⟩, set7_rest HR5.out (by omega) (.int .i64 th) (.int .i64 ki) (.int .i64 k) (.int .u64 wa) (.int .u64 x) (.int .u64 (nw1)) (.bool (ok1)), set7_below HB5.out (by omega) (.int .i64 th) (.int .i64 ki) (.int .i64 k) (.int .u64 wa) (.int .u64 x) (.int .u64 (nw1)) (.bool (ok1))⟩
end
end Go.Proofs.Ythjigennjocdjaa
