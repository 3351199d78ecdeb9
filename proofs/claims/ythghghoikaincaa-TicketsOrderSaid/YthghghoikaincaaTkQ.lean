/- The walk of stopgatelaw41.awake. -/
import Derived.Test.YthghghoikaincaaTkN
namespace Go.Proofs.Ythghghoikaincaa
open Go.RowKit

theorem rep_word (n k : Nat) : (List.replicate n (0 : Int)).getD k 0 = 0 := by
  rw [List.getD_eq_getElem?_getD, List.getElem?_replicate]
  split <;> rfl
theorem new_inv (s n k : Int) (h1 : 1 ≤ s) (h2 : s ≤ 4096) (h3 : 1 ≤ k) (h4 : k ≤ 64) : QInv (newQ s n k) 0 0 0 0 := by
  have hw : ∀ j, (newQ s n k).word j = 0 := fun j => rep_word _ j
  refine ⟨h1, h2, h3, h4, by unfold newQ; simp, fun j _ => ?_, fun j _ => ?_, fun i x hx => ?_, fun i j x y hx _ _ h4 _ => ?_, fun j _ _ => ?_, by unfold newQ; simp, by unfold newQ; simp, by unfold newQ; simp⟩
  · rw [hw]; decide
  · rw [hw]; decide
  · unfold newQ at hx
    dsimp only at hx
    rw [List.getElem?_replicate] at hx
    split at hx
    · injection hx with hx
      subst hx
      exact ThOk.plain (by decide) ⟨by decide, by show (0 : Int) < s; omega⟩ ⟨by decide, by show (0 : Int) < k; omega⟩ (by decide) (by decide)
    · cases hx
  · unfold newQ at hx
    dsimp only at hx
    rw [List.getElem?_replicate] at hx
    split at hx
    · injection hx with hx; subst hx; exact absurd h4 (by decide)
    · cases hx
  · rw [hw]; decide
/-- picks of one thread -/
def pickN (q : QT) (t : Int) : Nat → QT
  | 0 => q
  | k + 1 => pickQ (pickN q t k) t
theorem QInv.up {q : QT} {m m' : Int} (h : QInv q m m m m) (hm : m ≤ m') : QInv q m' m' m' m' := h.mono hm hm hm hm
theorem QInv.pick1 {q : QT} {m : Int} (h : QInv q m m m m) (t : Int) : QInv (pickQ q t) (m + 1) (m + 1) (m + 1) (m + 1) := (h.pick t).mono (by omega) (by omega) (by omega) (by omega)
theorem QInv.put1 {q : QT} {m : Int} (h : QInv q m m m m) (t v : Int) : QInv (putQ q t v) (m + 1) (m + 1) (m + 1) (m + 1) := (h.put t v).mono (by omega) (by omega) (by omega) (by omega)
theorem QInv.take1 {q : QT} {m : Int} (h : QInv q m m m m) (t : Int) : QInv (takeQ q t) (m + 1) (m + 1) (m + 1) (m + 1) := (h.take t).mono (by omega) (by omega) (by omega) (by omega)
theorem QInv.pickN {q : QT} {m : Int} (h : QInv q m m m m) (t : Int) (k : Nat) : QInv (pickN q t k) (m + k) (m + k) (m + k) (m + k) := by
  induction k with
  | zero => exact h.up (by omega)
  | succ k ih => exact (ih.pick1 t).up (by omega)
def awQ0 : QT := putQ (takeQ (newQ 4 2 3) 0) 1 7
def awQ1 : QT := pickN awQ0 0 3
def awQ2 : QT := pickN awQ1 1 2
theorem awI0 : QInv awQ0 2 2 2 2 := ((new_inv 4 2 3 (by decide) (by decide) (by decide) (by decide)).take1 0).put1 1 7
theorem awI1 : QInv awQ1 5 5 5 5 := awI0.pickN 0 3
theorem awI2 : QInv awQ2 7 7 7 7 := awI1.pickN 1 2
theorem aw_t0 : (awQ2.T[0]?).map (fun x => x.pc) = some 0 := by decide
theorem aw_t1 : (awQ2.T[1]?).map (fun x => (x.pc, x.tri)) = some (1, 1) := by decide
theorem aw_n : awQ2.N.length = 3 := by decide
theorem aw_n2 : (awQ2.N[2]?).map (fun x => x.qc) = some 10 := by decide
theorem aw_e : beginE (newQ 4 2 3) 0 = 0 ∧ putE (takeQ (newQ 4 2 3) 0) 1 7 = 0 := by decide

theorem field_cm0 (a b c d e : Int) (w : World) : (Instr.field 35 (.agg #[.int .i64 a, .int .i64 b, .int .i64 c, .int .i64 d, .int .i64 e]) 0).run Try.prog w = .ok (.int .i64 a) w := by kernel_rfl
theorem field_cm4 (a b c d e : Int) (w : World) : (Instr.field 35 (.agg #[.int .i64 a, .int .i64 b, .int .i64 c, .int .i64 d, .int .i64 e]) 4).run Try.prog w = .ok (.int .i64 e) w := by kernel_rfl
/-- a queue that lies anywhere -/
def QAny (w : World) (base gq : Nat) (q : QT) : Prop := QAt w base gq (fun _ => True) q
section
variable {w : World} {base gq : Nat} {S : Nat → Prop} {q : QT}
theorem QAt.any (h : QAt w base gq S q) : QAny w base gq q := h.mono fun _ _ => trivial
theorem QAt.big (h : QAt w base gq S q) : base ≤ w.heap.size := by obtain ⟨_, _, _, _, _, _, _, h, _⟩ := h; exact h.base_le
theorem QAt.bigq (h : QAt w base gq S q) : gq < w.heap.size := by obtain ⟨_, _, _, _, _, _, _, h, _⟩ := h; exact h.blk.lt
end
section
variable (w : World)
set_option maxHeartbeats 2000000 in
theorem awake41 : Calls Try.prog 7 #[] w fun e w' => e = .returned (.bool true) ∧ Below w.heap.size w w' := by
  have HN := hide (tnew_any w 4 2 3 (by decide) (by decide) (by decide) (by decide) (by decide) (by decide))
  obtain ⟨base, hbase⟩ : ∃ base, base = w.heap.size := ⟨_, rfl⟩
  have HBA := hide hbase
  go_enter Try.func7, Try.ntmps7
  go_wp2_with fail
  refine HN.out.mono ?_
  rintro e w1 ⟨gq, rfl, hq1, hb1⟩
  rw [← hbase] at hq1 hb1
  have HE := aw_e
  have HC := hide (take_at (new_inv 4 2 3 (by decide) (by decide) (by decide) (by decide)) (by decide) 0 hq1.any)
  rw [aw_e.1] at HC
  have HB1 := hide hb1
  clear hq1 hb1 hbase HE HN
  go_wp2_with fail
  refine HC.out.mono ?_
  rintro e w2 ⟨rfl, hq2, _, hb2⟩
  have HP := hide (put_at ((new_inv 4 2 3 (by decide) (by decide) (by decide) (by decide)).take1 0) (by decide) 1 7 hq2.any)
  rw [aw_e.2] at HP
  have HB2 := hide (HB1.out.trans hb2)
  clear hq2 hb2 HC HB1
  go_wp2_with fail
  refine HP.out.mono ?_
  rintro e w3 ⟨rfl, hq3, _, hb3⟩
  have HQ3 := hide hq3.any
  have HB3 := hide (HB2.out.trans hb3)
  clear hq3 hb3 HP HB2
  go_wp2_with fail
  go_loopw [5] (fun i wr => ∃ k : Nat, k ≤ 3 ∧ i = .int .i64 k ∧ Hid (QAny wr base gq (pickN awQ0 0 k)) ∧ Hid (Below base w wr)) (fun i _ => 3 - (intOf i).toNat)
  case atStart => exact ⟨0, by decide, rfl, HQ3, HB3⟩
  case round =>
    obtain ⟨k, hk, rfl, HQ, HB⟩ := hrel
    by_cases hlt : k < 3
    · have HK := hide (pick_at (awI0.pickN 0 k) (by omega) 0 HQ.out)
      have hpe : pickE (pickN awQ0 0 k) 0 = 0 := by
        match k, hlt with
        | 0, _ => decide
        | 1, _ => decide
        | 2, _ => decide
      rw [hpe] at HK
      clear hpe
      go_wp2_with fail
      refine HK.out.mono ?_
      rintro e w4 ⟨rfl, hq4, _, hb4⟩
      have HQ4 := hide hq4.any
      have HB4 := hide (HB.out.trans hb4)
      clear hq4 hb4 HK
      go_wp2_with fail
      go_roundw
      case rel => exact ⟨k + 1, by omega, by go_num, HQ4, HB4⟩
      case measure => simp [intOf]; omega
    · have hk3 : k = 3 := by omega
      subst hk3
      rw [show ((3 : Nat) : Int) = 3 from rfl]
      go_wp2_with fail
      obtain ⟨wo, rfl⟩ : ∃ wo : World, wo = wr := ⟨_, rfl⟩
      go_loopw [6] (fun i wr => ∃ k : Nat, k ≤ 2 ∧ i = .int .i64 k ∧ Hid (QAny wr base gq (pickN awQ1 1 k)) ∧ Hid (Below base w wr)) (fun i _ => 2 - (intOf i).toNat)
      case atStart => exact ⟨0, by decide, rfl, HQ, HB⟩
      case round =>
        clear HQ HB
        obtain ⟨k, hk, rfl, HQ, HB⟩ := hrel
        by_cases hlt : k < 2
        · have HK := hide (pick_at (awI1.pickN 1 k) (by omega) 1 HQ.out)
          have hpe : pickE (pickN awQ1 1 k) 1 = 0 := by
            match k, hlt with
            | 0, _ => decide
            | 1, _ => decide
          rw [hpe] at HK
          clear hpe
          go_wp2_with fail
          refine HK.out.mono ?_
          rintro e w4 ⟨rfl, hq4, _, hb4⟩
          have HQ4 := hide hq4.any
          have HB4 := hide (HB.out.trans hb4)
          clear hq4 hb4 HK
          go_wp2_with fail
          go_roundw
          case rel => exact ⟨k + 1, by omega, by go_num, HQ4, HB4⟩
          case measure => simp [intOf]; omega
        · have hk3 : k = 2 := by omega
          subst hk3
          rw [show ((2 : Nat) : Int) = 2 from rfl]
          have HNO := hide (notes_at awI2 (by decide) HQ.out)
          go_wp2_with fail
          refine HNO.out.mono ?_
          rintro e w5 ⟨B, d, rfl, ho, hb5⟩
          have ho3 := aw_n
          rw [ho3] at ho ⊢
          obtain ⟨g5, hA, c10, hg5⟩ : ∃ g5 : Nat, B = some ⟨g5, 0, none⟩ ∧ w5.cell? ⟨g5, 37, none⟩ = some (.int .i64 10) ∧ g5 < w5.heap.size := by
            obtain ⟨g5, c5, hv, _, _⟩ := ho.form (by intro e; rw [e] at ho3; cases ho3)
            injection hv with hv1 _ _
            subst hv1
            obtain ⟨z, hz, hzc⟩ : ∃ z, awQ2.N[2]? = some z ∧ z.qc = 10 := by
              have := aw_n2
              cases h : awQ2.N[2]? with
              | none => rw [h] at this; cases this
              | some x => rw [h] at this; injection this with this; exact ⟨x, rfl, this⟩
            have hc := ho.cells ntC_len hz (j := 11) rfl
            rw [hzc] at hc
            exact ⟨g5, rfl, hc, cell_lt hc⟩
          subst hA
          have HQ5 := hide (HQ.out.ext hb5)
          have HB5 := hide (HB.out.trans (hb5.mono HQ.out.big))
          obtain ⟨x0, hx0, hp0⟩ : ∃ x0, (pickN awQ1 1 2).T[0]? = some x0 ∧ x0.pc = 0 := by
            have := aw_t0
            change ((pickN awQ1 1 2).T[0]?).map (fun x => x.pc) = some 0 at this
            cases h : (pickN awQ1 1 2).T[0]? with
            | none => rw [h] at this; cases this
            | some x => rw [h] at this; injection this with this; exact ⟨x, rfl, this⟩
          obtain ⟨x1, hx1, hp1, hr1⟩ : ∃ x1, (pickN awQ1 1 2).T[1]? = some x1 ∧ x1.pc = 1 ∧ x1.tri = 1 := by
            have := aw_t1
            change ((pickN awQ1 1 2).T[1]?).map (fun x => (x.pc, x.tri)) = some (1, 1) at this
            cases h : (pickN awQ1 1 2).T[1]? with
            | none => rw [h] at this; cases this
            | some x => rw [h] at this; injection this with this; injection this with t1 t2; exact ⟨x, rfl, t1, t2⟩
          obtain ⟨_, s0, v0, a0, r0⟩ := x0
          obtain ⟨_, s1, v1, a1, _⟩ := x1
          dsimp only at hp0 hp1 hr1
          subst hp0 hp1 hr1
          have HT0 := hide (thread_at HQ5.out hx0)
          clear ho ho3 hb5 HNO HQ HB
          go_wp2_with fail
          refine HT0.out.mono ?_
          have F0 := field_cm0
          have F4 := field_cm4
          rintro e w6 ⟨rfl, hb6⟩
          have c10' : w6.cell? ⟨g5, 37, none⟩ = some (.int .i64 10) := (hb6.cell (p := ⟨g5, 37, none⟩) hg5).trans c10
          have hg5' := Nat.lt_of_lt_of_le hg5 hb6.size
          have HQ6 := hide (HQ5.out.ext hb6)
          have HB6 := hide (HB5.out.trans (hb6.mono HQ5.out.big))
          have HT1 := hide (thread_at (t := 1) HQ6.out hx1)
          rw [show ((1 : Nat) : Int) = 1 from rfl] at HT1
          clear hb6 HQ5 HB5 HT0 c10 hg5
          go_wp2_with fail
          refine HT1.out.mono ?_
          rintro e w7 ⟨rfl, hb7⟩
          have HQ7 := hide (HQ6.out.ext hb7)
          have HB7 := hide (HB6.out.trans (hb7.mono HQ6.out.big))
          have HT2 := hide (thread_at (t := 1) HQ7.out hx1)
          rw [show ((1 : Nat) : Int) = 1 from rfl] at HT2
          clear hb7 HQ6 HB6 HT1 c10' hg5'
          go_wp2_with fail
          refine HT2.out.mono ?_
          rintro e w8 ⟨rfl, hb8⟩
          have HB8 := hide (HB7.out.trans (hb8.mono HQ7.out.big))
          clear hb8 HQ7 HB7 HT2
          go_wp2_with fail
          go_ret
          exact ⟨rfl, HBA.out ▸ HB8.out⟩
end
end Go.Proofs.Ythghghoikaincaa
