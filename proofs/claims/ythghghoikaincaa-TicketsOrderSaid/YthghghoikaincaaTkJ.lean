/- The walks of tickets' begin, Put, Take. -/
import Derived.Test.YthghghoikaincaaTkI
namespace Go.Proofs.Ythghghoikaincaa
open Go.RowKit

section
variable {w : World} {base gq gm : Nat} {vw vg vc vt vn : Value} {q : QT} {C : List Int}
/-- the time's store, ahead of a step -/
theorem QX.tick {w' : World} {q' : QT} (h : QV w base gq gm vw vg vc vt vn q C) (z : Int) (k : QX (w.setCell ⟨gq, 5, none⟩ (.int .i64 z)) base gq gm vw vg vc vt vn q' w') : QX w base gq gm vw vg vc vt vn q' w' :=
  QX.trans (NewOr.refl _ _) (NewOr.refl _ _) (fun b _ hno => Below.heap_setCell _ _ _ _ (fun e => hno (.inl e))) ((Below.refl _ _).setCell (p := ⟨gq, 5, none⟩) h.low _) k
set_option maxHeartbeats 1000000 in
theorem begin_out (t pc v : Int) (h : QV w base gq gm vw vg vc vt vn q C) (ho : t < 0 ∨ (q.T.length : Int) ≤ t) :
    Calls Try.prog 21 #[.pointer (some ⟨gq, 0, none⟩), .int .i64 t, .agg #[.int .i64 pc, .int .i64 0, .int .i64 v, .int .i64 0, .int .i64 0]] w fun e w' => e = .returned (.int .i64 1) ∧ Below w.heap.size w w' := by
  have HM := hide (tmade_any (w.alloc (.cells #[.int .i64 pc, .int .i64 0, .int .i64 v, .int .i64 0, .int .i64 0] 35)) t (h.ext (moreW (selfW w) _)))
  rw [if_pos ho] at HM
  clear h ho
  go_enter Try.func21, Try.ntmps21
  go_wp2_with fail
  refine HM.out.mono ?_
  rintro e w' ⟨rfl, rfl⟩
  go_wp2_with fail
  go_ret
  exact ⟨rfl, moreW (selfW w) _⟩
set_option maxHeartbeats 1000000 in
theorem begin_busy {t : Nat} {x : CmT} (pc v : Int) (h : QV w base gq gm vw vg vc vt vn q C) (hx : q.T[t]? = some x) (ho : x.pc ≠ 0 ∨ 1048575 ≤ x.seq) :
    Calls Try.prog 21 #[.pointer (some ⟨gq, 0, none⟩), .int .i64 t, .agg #[.int .i64 pc, .int .i64 0, .int .i64 v, .int .i64 0, .int .i64 0]] w fun e w' => e = .returned (.int .i64 13) ∧ Below w.heap.size w w' := by
  have htl := len_of hx
  have HM := hide (tmade_any (w.alloc (.cells #[.int .i64 pc, .int .i64 0, .int .i64 v, .int .i64 0, .int .i64 0] 35)) t (h.ext (moreW (selfW w) _)))
  rw [if_neg (by omega)] at HM
  obtain ⟨g1, c1, rfl⟩ := h.form hx
  obtain ⟨n, hn⟩ : ∃ n, n = q.T.length := ⟨_, rfl⟩
  rw [← hn] at h htl
  have hcs := fun i => Blk.cell h.blk i
  have hgs := h.blk.lt
  obtain ⟨k0, k1, k2, k3, k4⟩ := h.cell hx
  have hg1s := h.lt1.2
  have ht2 : (t : Int) < (n : Int) := by omega
  clear h hx hn
  by_cases h1 : x.pc = 0
  · have hd : (x.pc != 0) = false := by simpa using h1
    have h2 : 1048575 ≤ x.seq := by omega
    have H1 := hide h1; clear h1 ho
    go_enter Try.func21, Try.ntmps21
    go_wp2_with fail
    refine HM.out.mono ?_
    rintro e w' ⟨rfl, rfl⟩
    go_wp2_with fail
    go_ret
    exact ⟨rfl, moreW (selfW w) _⟩
  · have hd : (x.pc != 0) = true := by simpa using h1
    have H1 := hide h1; clear h1 ho
    go_enter Try.func21, Try.ntmps21
    go_wp2_with fail
    refine HM.out.mono ?_
    rintro e w' ⟨rfl, rfl⟩
    go_wp2_with fail
    go_ret
    exact ⟨rfl, moreW (selfW w) _⟩
set_option maxHeartbeats 2000000 in
theorem begin_ok {t : Nat} {x : CmT} (pc v : Int) (h : QV w base gq gm vw vg vc vt vn q C) (hx : q.T[t]? = some x) (h0 : x.pc = 0) (h1 : x.seq < 1048575) (h2 : 0 ≤ x.seq) (hl : q.N.length ≤ 9999) (ht0 : 0 ≤ q.time) (ht1 : q.time ≤ 10000) :
    Calls Try.prog 21 #[.pointer (some ⟨gq, 0, none⟩), .int .i64 t, .agg #[.int .i64 pc, .int .i64 0, .int .i64 v, .int .i64 0, .int .i64 0]] w fun e w' => e = .returned (.int .i64 0) ∧ QX w base gq gm vw vg vc vt vn (noteQ (q.setT t ⟨pc, x.seq + 1, v, 0, 0⟩).tick 1 t ⟨pc, x.seq + 1, v, 0, 0⟩ 0 0 0) w' := by
  have htl := len_of hx
  have HM := hide (tmade_any (w.alloc (.cells #[.int .i64 pc, .int .i64 0, .int .i64 v, .int .i64 0, .int .i64 0] 35)) t (h.ext (moreW (selfW w) _)))
  rw [if_neg (by omega)] at HM
  obtain ⟨g1, c1, rfl⟩ := h.form hx
  obtain ⟨n, hn⟩ : ∃ n, n = q.T.length := ⟨_, rfl⟩
  rw [← hn] at h htl
  have hcs := fun i => Blk.cell h.blk i
  have hgs := h.blk.lt
  obtain ⟨k0, k1, k2, k3, k4⟩ := h.cell hx
  have hg1s := h.lt1.2
  have hf1 := fun i => h.free1 i
  have ht2 : (t : Int) < (n : Int) := by omega
  have hd : (x.pc != 0) = false := by simpa using h0
  have hd2 : decide (1048575 ≤ x.seq) = false := decide_eq_false (by omega)
  have H0 := hide h0
  have H := hide h; have HX := hide hx
  have hbs := h.base_le
  rw [← hn]
  clear h hx hn h0
  go_enter Try.func21, Try.ntmps21
  go_wp2_with fail
  refine HM.out.mono ?_
  rintro e w' ⟨rfl, rfl⟩
  go_wp2_with fail
  go_region
  all_goals
    have HQ5 := hide ((QV.put5X H.out HX.out ⟨pc, x.seq + 1, v, 0, 0⟩).more ((moreW (selfW _) (.cells #[.int .i64 pc, .int .i64 (x.seq + 1), .int .i64 v, .int .i64 0, .int .i64 0] 35)).drew) (by simpa using hbs))
    dsimp only at HQ5
    generalize hw5 : World.drew (World.alloc (World.setCell _ _ _) _) = w5 at HQ5 ⊢
    clear hw5
    obtain ⟨vc5, vn5, C5, h5, hn5a, hn5b, hr5, hb5⟩ := HQ5.out
    have hcs5 := fun i => Blk.cell h5.blk i
    have hfs5 := fun i => Blk.free h5.blk i
    have hgs5 := h5.blk.lt
    have hct : w5.cell? ⟨gq, 5, none⟩ = some (.int .i64 q.time) := hcs5 5
    have htw : IntKind.i64.wrap (q.time + 1) = q.time + 1 := IntWalk.i64_in _ (by omega)
    have H6 := hide (h5.time (q.time + 1))
    have HN := hide (note_any (w := w5.setCell ⟨gq, 5, none⟩ (.int .i64 (q.time + 1))) (t := t) (x := ⟨pc, x.seq + 1, v, 0, 0⟩) 1 0 0 0 (h5.time (q.time + 1)) (get_set HX.out) (by unfold QT.setT; dsimp only; omega))
    have HN5a := hide hn5a; have HN5b := hide hn5b; have HR5 := hide hr5; have HB5 := hide hb5; have H5 := hide h5
    clear HQ5 h5 hn5a hn5b hr5 hb5 hcs hgs k0 k1 k2 k3 k4 hg1s hf1 hcs5 H6
    go_wp2_with fail
    refine HN.out.mono ?_
    rintro e w7 ⟨rfl, hq7⟩
    have HQ7 := hide hq7
    clear hq7 HN
    go_wp2_with fail
    go_ret
    refine ⟨rfl, ?_⟩
    exact QX.trans HN5a.out HN5b.out HR5.out HB5.out (QX.tick H5.out (q.time + 1) HQ7.out)
/-- what a call that begins answers and leaves -/
theorem begin_any (t : Int) (pc v : Int) (h : QV w base gq gm vw vg vc vt vn q C) (hs : ∀ x ∈ q.T, 0 ≤ x.seq) (hl : q.N.length ≤ 9999) (ht0 : 0 ≤ q.time) (ht1 : q.time ≤ 10000) :
    Calls Try.prog 21 #[.pointer (some ⟨gq, 0, none⟩), .int .i64 t, .agg #[.int .i64 pc, .int .i64 0, .int .i64 v, .int .i64 0, .int .i64 0]] w fun e w' => e = .returned (.int .i64 (beginE q t)) ∧ QX w base gq gm vw vg vc vt vn (beginQ q t ⟨pc, 0, v, 0, 0⟩) w' := by
  have hout : (t < 0 ∨ (q.T.length : Int) ≤ t) → beginE q t = 1 ∧ beginQ q t ⟨pc, 0, v, 0, 0⟩ = q := by
    intro ho
    unfold beginE beginQ
    by_cases h1 : t < 0
    · rw [if_pos h1, if_pos h1]; exact ⟨rfl, rfl⟩
    · have hn : q.T[t.toNat]? = none := List.getElem?_eq_none (by omega)
      rw [if_neg h1, if_neg h1, hn]; exact ⟨rfl, rfl⟩
  by_cases ho : t < 0 ∨ (q.T.length : Int) ≤ t
  · rw [(hout ho).1, (hout ho).2]
    exact (begin_out t pc v h ho).mono fun e w' ⟨h1, h2⟩ => ⟨h1, h.grew h2⟩
  · obtain ⟨k, rfl⟩ : ∃ k : Nat, t = k := ⟨t.toNat, by omega⟩
    obtain ⟨x, hx⟩ : ∃ x, q.T[k]? = some x := ⟨q.T[k]'(by omega), List.getElem?_eq_getElem _⟩
    unfold beginE beginQ
    rw [if_neg (by omega), if_neg (by omega), Int.toNat_natCast, hx]
    dsimp only
    by_cases hb : x.pc ≠ 0 ∨ 1048575 ≤ x.seq
    · rw [if_pos hb, if_pos hb]
      exact (begin_busy pc v h hx hb).mono fun e w' ⟨h1, h2⟩ => ⟨h1, h.grew h2⟩
    · rw [if_neg hb, if_neg hb]
      exact begin_ok pc v h hx (by omega) (by omega) (hs x (List.mem_of_getElem? hx)) hl ht0 ht1
end
end Go.Proofs.Ythghghoikaincaa
