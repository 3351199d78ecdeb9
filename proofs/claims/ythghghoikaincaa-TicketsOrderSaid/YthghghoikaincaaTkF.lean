/- The walks of tickets' New, Thread, Limit. -/
import Derived.Test.YthghghoikaincaaTkB
namespace Go.Proofs.Ythghghoikaincaa
open Go.RowKit

section
variable {P : Program}
theorem run_make_rowN (t e : TypeId) (i : TypeInfo) (z : Value) (ht : P.underlying t = some (.slice e)) (hi : P.info? e = some i) (hz : i.zero = some z)
    (kl kc : IntKind) (n c : Nat) (hnc : n ≤ c) (hbytes : i.bytes * c ≤ 281474976710656) (h63 : c ≤ 9223372036854775807) (w : World) :
    (Instr.makeSlice t (.int kl (n : Int)) (.int kc (c : Int))).run P w = .ok (.slice (some ⟨w.heap.size, 0, none⟩) n c) (w.alloc (.cells (madeCells z.cells (c * i.size)) e)) := by
  have hb : (i.bytes : Int) * (c : Int) ≤ 281474976710656 := by
    have h : ((i.bytes * c : Nat) : Int) ≤ 281474976710656 := by omega
    rwa [Int.natCast_mul] at h
  have hr := run_make (P := P) w t e i z ht hi hz kl kc n c (by omega) (by omega) hb (by omega)
  simp only [Int.toNat_natCast] at hr
  exact hr
end
/-- the threads of a new queue lie in memory -/
theorem own_new_cm (w : World) (n : Nat) (hn : n ≤ 64) : OwnF (w.alloc (.cells (madeCells #[.int .i64 0, .int .i64 0, .int .i64 0, .int .i64 0, .int .i64 0] (n * 5)) 35)) w.heap.size 35 5 cmC (.slice (some ⟨w.heap.size, 0, none⟩) n n) (List.replicate n ⟨0, 0, 0, 0, 0⟩) := by
  have h := World.ownsRow_lit (base := w.heap.size) (e := 35) (size := 5) w (madeCells #[.int .i64 0, .int .i64 0, .int .i64 0, .int .i64 0, .int .i64 0] (n * 5)) n (Nat.le_refl _) (by unfold maxLen; omega) (size_madeCells _ _)
  rw [cells_cm] at h
  unfold OwnF
  rw [List.length_replicate]
  exact h
theorem QV.lo {w : World} {base gq gm : Nat} {vw vg vc vt vn : Value} {q : QT} {C : List Int} (h : QV w base gq gm vw vg vc vt vn q C) : ∀ b, QOwns gq gm vw vg vc vt vn b → base ≤ b := by
  intro b hb
  have h1 := h.mem.words; unfold OwnI at h1
  have h2 := h.mem.log; unfold OwnF at h2
  have h3 := h.mem.counts; unfold OwnI at h3
  have h4 := h.men; unfold OwnF at h4
  have h5 := h.notes; unfold OwnF at h5
  rcases hb with rfl | rfl | hb | hb | hb | hb | hb
  · exact h.low
  · exact h.mem.low
  · exact (own_lt h1 hb).1
  · exact (own_lt h2 hb).1
  · exact (own_lt h3 hb).1
  · exact (own_lt h4 hb).1
  · exact (own_lt h5 hb).1

section
variable (w : World)
/-- a new queue -/
def NewQ (s n k : Nat) (w : World) (e : Ending) (w' : World) : Prop := ∃ gq, e = .returned (.tuple #[.pointer (some ⟨gq, 0, none⟩), .int .i64 0]) ∧ QAt w' w.heap.size gq (fun b => w.heap.size ≤ b) (newQ s n k) ∧ Below w.heap.size w w'
theorem new_q1 {w w1 : World} {s n k gm : Nat} {vl vg vc : Value} (hm : MemV w1 w.drew.heap.size gm vl vg vc (List.replicate (s + 2) 0) [] [] false) (hb : Below w.drew.heap.size w.drew w1)
    (ho : OwnF (w1.alloc (.cells (madeCells #[.int .i64 0, .int .i64 0, .int .i64 0, .int .i64 0, .int .i64 0] (n * 5)) 35)) w1.heap.size 35 5 cmC (.slice (some ⟨w1.heap.size, 0, none⟩) n n) (List.replicate n ⟨0, 0, 0, 0, 0⟩)) :
    NewQ s n k w (.returned (.tuple #[.pointer (some ⟨w1.heap.size + 1, 0, none⟩), .int .i64 0])) ((w1.alloc (.cells (madeCells #[.int .i64 0, .int .i64 0, .int .i64 0, .int .i64 0, .int .i64 0] (n * 5)) 35)).alloc (.cells #[.pointer (some ⟨gm, 0, none⟩), .int .i64 s, .int .i64 k, .slice (some ⟨w1.heap.size, 0, none⟩) n n, .slice none 0 0, .int .i64 0] 54)) := by
  have hz : w.heap.size ≤ w1.heap.size := hb.size
  have hv : QV ((w1.alloc (.cells (madeCells #[.int .i64 0, .int .i64 0, .int .i64 0, .int .i64 0, .int .i64 0] (n * 5)) 35)).alloc (.cells #[.pointer (some ⟨gm, 0, none⟩), .int .i64 s, .int .i64 k, .slice (some ⟨w1.heap.size, 0, none⟩) n n, .slice none 0 0, .int .i64 0] 54)) w.heap.size (w1.heap.size + 1) gm vl vg vc (.slice (some ⟨w1.heap.size, 0, none⟩) n n) (.slice none 0 0) (newQ s n k) [] :=
    ⟨Blk.newAt _ _ _ (by simp), (hm.alloc _).alloc _, (ho.weak hz).alloc _, OwnF.nil _ _ _ _ _, by omega, by simp⟩
  exact ⟨_, rfl, ⟨_, _, _, _, _, _, _, hv, hv.lo⟩, moreW (moreW (extW (below_drewN (n := 1) (selfW w)) hb) _) _⟩
theorem new_q2 {w w1 : World} {s n k gm : Nat} {vl vg vc : Value} (hm : MemV w1 (w.alloc (.cells (madeCells #[.int .i64 0, .int .i64 0, .int .i64 0, .int .i64 0, .int .i64 0] (n * 5)) 35)).drew.heap.size gm vl vg vc (List.replicate (s + 2) 0) [] [] false)
    (hb : Below (w.alloc (.cells (madeCells #[.int .i64 0, .int .i64 0, .int .i64 0, .int .i64 0, .int .i64 0] (n * 5)) 35)).drew.heap.size (w.alloc (.cells (madeCells #[.int .i64 0, .int .i64 0, .int .i64 0, .int .i64 0, .int .i64 0] (n * 5)) 35)).drew w1)
    (ho : OwnF (w.alloc (.cells (madeCells #[.int .i64 0, .int .i64 0, .int .i64 0, .int .i64 0, .int .i64 0] (n * 5)) 35)) w.heap.size 35 5 cmC (.slice (some ⟨w.heap.size, 0, none⟩) n n) (List.replicate n ⟨0, 0, 0, 0, 0⟩)) :
    NewQ s n k w (.returned (.tuple #[.pointer (some ⟨w1.heap.size, 0, none⟩), .int .i64 0])) (w1.alloc (.cells #[.pointer (some ⟨gm, 0, none⟩), .int .i64 s, .int .i64 k, .slice (some ⟨w.heap.size, 0, none⟩) n n, .slice none 0 0, .int .i64 0] 54)) := by
  have hz : w.heap.size ≤ w1.heap.size := by have := hb.size; simp at this; omega
  have hb2 := extW (moreW (selfW w) (.cells (madeCells #[.int .i64 0, .int .i64 0, .int .i64 0, .int .i64 0, .int .i64 0] (n * 5)) 35)).drew hb
  have hv : QV (w1.alloc (.cells #[.pointer (some ⟨gm, 0, none⟩), .int .i64 s, .int .i64 k, .slice (some ⟨w.heap.size, 0, none⟩) n n, .slice none 0 0, .int .i64 0] 54)) w.heap.size w1.heap.size gm vl vg vc (.slice (some ⟨w.heap.size, 0, none⟩) n n) (.slice none 0 0) (newQ s n k) [] :=
    ⟨Blk.new _ _ _, (hm.weak (by simp)).alloc _, (ho.extW (extW (selfW _).drew hb)).alloc _, OwnF.nil _ _ _ _ _, hz, by simp⟩
  exact ⟨_, rfl, ⟨_, _, _, _, _, _, _, hv, hv.lo⟩, moreW hb2 _⟩
set_option maxHeartbeats 1000000 in
theorem tnew_any (s n k : Nat) (hs1 : 1 ≤ s) (hs2 : s ≤ 4096) (hn1 : 1 ≤ n) (hn2 : n ≤ 64) (hk1 : 1 ≤ k) (hk2 : k ≤ 64) :
    Calls Try.prog 6 #[.int .i64 s, .int .i64 n, .int .i64 k] w (NewQ s n k w) := by
  have hmk : ∀ W : World, (Instr.makeSlice 52 (.int .i64 (n : Int)) (.int .i64 (n : Int))).run Try.prog W = .ok (.slice (some ⟨W.heap.size, 0, none⟩) n n) (W.alloc (.cells (madeCells #[.int .i64 0, .int .i64 0, .int .i64 0, .int .i64 0, .int .i64 0] (n * 5)) 35)) := by
    intro W
    obtain ⟨i, hi0, hz0, hz1, hz2⟩ := info_parts info_cm
    have h := run_make_rowN (P := Try.prog) 52 35 i _ Try.underlying52 hi0 hz0 .i64 .i64 n n (Nat.le_refl _) (by rw [hz2]; omega) (by omega) W
    rw [hz1] at h
    exact h
  have d1 : decide ((s : Int) < 1) = false := decide_eq_false (by omega)
  have d2 : decide (4096 < (s : Int)) = false := decide_eq_false (by omega)
  have d3 : decide ((n : Int) < 1) = false := decide_eq_false (by omega)
  have d4 : decide (64 < (n : Int)) = false := decide_eq_false (by omega)
  have d5 : decide ((k : Int) < 1) = false := decide_eq_false (by omega)
  have d6 : decide (64 < (k : Int)) = false := decide_eq_false (by omega)
  have HN := hide (fun wx => new_any wx (2 + (s : Int)) (by omega) (by omega))
  go_enter Try.func6, Try.ntmps6
  go_wp2_with fail
  have s1 : IntKind.i64.wrap (2 + (s : Int)) = 2 + (s : Int) := IntWalk.i64_in _ (by omega)
  go_region_law (first
    | (go_simp; go_at_call 19; (with_reducible refine (HN.out _).mono ?_); rintro e w1 ⟨⟨gm, rfl, hm1⟩, hb1⟩; go_wp2_with fail))
  all_goals
    obtain ⟨vl, vg, vc, hm⟩ := hm1
    rw [show (2 + (s : Int)).toNat = s + 2 by omega] at hm
    have HM := hide hm; have HB1 := hide hb1
    have HOC := hide (own_new_cm w n hn2); have HOC1 := hide (own_new_cm w1 n hn2)
    have hsz1 := hb1.size
    clear hm hb1 hmk
    go_wp2_with fail
    go_ret2
    first
      | exact new_q1 HM.out HB1.out HOC1.out
      | exact new_q2 HM.out HB1.out HOC.out
set_option maxHeartbeats 400000 in
theorem limit_any {base gq gm : Nat} {vw vg vc vt vn : Value} {q : QT} {C : List Int} (h : QV w base gq gm vw vg vc vt vn q C) (hl : 1 ≤ q.T.length) (h0 : 0 ≤ q.tries) (h1 : q.tries ≤ 64) :
    Calls Try.prog 12 #[.pointer (some ⟨gq, 0, none⟩)] w fun e w' => e = .returned (.int .i64 (3 * q.tries)) ∧ w = w' := by
  have HM := hide (tmade_any w 0 h)
  rw [if_neg (by omega)] at HM
  have hcs := fun i => Blk.cell h.blk i
  have hgs := h.blk.lt
  clear h
  go_enter Try.func12, Try.ntmps12
  go_wp2_with fail
  refine HM.out.mono ?_
  rintro e w' ⟨rfl, rfl⟩
  go_wp2_with fail
  go_ret
  exact ⟨rfl, rfl⟩
theorem RdF.cm {w : World} {A : Option Addr} {xs : List CmT} (h : RdF w cmC A xs) {i : Nat} {x : CmT} (hx : xs[i]? = some x) :
    ∃ ad, A = some ad ∧ w.cell? (ad.add (i * 5)) = some (.int .i64 x.pc) ∧ w.cell? ((ad.add (i * 5)).add 1) = some (.int .i64 x.seq) ∧ w.cell? ((ad.add (i * 5)).add 2) = some (.int .i64 x.value) ∧ w.cell? ((ad.add (i * 5)).add 3) = some (.int .i64 x.pos) ∧ w.cell? ((ad.add (i * 5)).add 4) = some (.int .i64 x.tri) := by
  obtain ⟨ad, y, h1, h2, h3⟩ := RdF.at_ cmC_len (by decide) h (len_of hx)
  rw [hx] at h2
  injection h2 with h2
  subst h2
  exact ⟨ad, h1, h3 0 _ rfl, h3 1 _ rfl, h3 2 _ rfl, h3 3 _ rfl, h3 4 _ rfl⟩
set_option maxHeartbeats 1000000 in
theorem thread_any {base gq gm : Nat} {vw vg vc vt vn : Value} {q : QT} {C : List Int} {t : Nat} {x : CmT} (h : QV w base gq gm vw vg vc vt vn q C) (hx : q.T[t]? = some x) :
    Calls Try.prog 10 #[.pointer (some ⟨gq, 0, none⟩), .int .i64 t] w fun e w' => e = .returned (.agg #[.int .i64 x.pc, .int .i64 x.seq, .int .i64 x.value, .int .i64 x.pos, .int .i64 x.tri]) ∧ Below w.heap.size w w' := by
  have hlt := len_of hx
  have HM := hide (tmade_any (w.alloc (.cells #[.int .i64 0, .int .i64 0, .int .i64 0, .int .i64 0, .int .i64 0] 35)) t (h.ext (moreW (selfW w) _)))
  rw [if_neg (by omega)] at HM
  obtain ⟨A, c, rfl⟩ := h.men.shape
  obtain ⟨ad, hA, c0, c1, c2, c3, c4⟩ := RdF.cm h.men.rdF.2 hx
  subst hA
  rw [add_lit _ _ (by decide)] at c1 c2 c3 c4
  have hz0 := cell_lt c0
  have hcs := fun i => Blk.cell h.blk i
  have hgs := h.blk.lt
  obtain ⟨n, hn⟩ : ∃ n, n = q.T.length := ⟨_, rfl⟩
  rw [← hn] at hcs hlt
  have ht2 : (t : Int) < (n : Int) := by omega
  clear h hx hn
  go_enter Try.func10, Try.ntmps10
  go_wp2_with fail
  refine HM.out.mono ?_
  rintro e w' ⟨rfl, rfl⟩
  go_wp2_with fail
  refine bodyPost_ret (v := .agg #[.int .i64 x.pc, .int .i64 x.seq, .int .i64 x.value, .int .i64 x.pos, .int .i64 x.tri]) ?_ rfl ?_
  · simp [results, Try.results10, go_sem]
  · exact ⟨rfl, moreW (selfW w) _⟩
end
end Go.Proofs.Ythghghoikaincaa
