/- The walk of TicketsBound. -/
import Derived.Test.YthghghoikaincaaTkV
namespace Go.Proofs.Ythghghoikaincaa
open Go.RowKit

section
variable {w : World} {base gq gm : Nat} {vw vg vc vt vn : Value} {q : QT} {C : List Int} {S : Nat → Prop}
theorem QV.hi (h : QV w base gq gm vw vg vc vt vn q C) : ∀ b, QOwns gq gm vw vg vc vt vn b → b < w.heap.size := by
  intro b hb
  rcases hb with rfl | rfl | hb | hb | hb | hb | hb
  · exact h.blk.lt
  · exact h.mem.blk.lt
  · exact (own_lt h.mem.words hb).2
  · exact (own_lt h.mem.log hb).2
  · exact (own_lt h.mem.counts hb).2
  · exact (own_lt h.men' hb).2
  · exact (own_lt h.notes' hb).2
theorem QAt.beside (h : QAt w base gq S q) {w' : World} {gs : Nat} (hb : Below w.heap.size w w') (hg : w.heap.size ≤ gs) : QBeside w' base gq gs q := by
  obtain ⟨gm, vw, vg, vc, vt, vn, C, h, hs⟩ := h
  exact ⟨gm, vw, vg, vc, vt, vn, C, h.ext hb, fun b ho => by have := h.hi b ho; omega⟩
end
theorem RdF.ac {w : World} {A : Option Addr} {xs : List AcT} (h : RdF w acC A xs) {i : Nat} (hi : i < xs.length) :
    ∃ ad x, A = some ad ∧ xs[i]? = some x ∧ w.cell? (ad.add (i * 3)) = some (.int .i64 x.kind) ∧ w.cell? ((ad.add (i * 3)).add 1) = some (.int .i64 x.th) ∧ w.cell? ((ad.add (i * 3)).add 2) = some (.int .i64 x.x) := by
  obtain ⟨ad, x, h1, h2, h3⟩ := RdF.at_ acC_len (by decide) h hi
  exact ⟨ad, x, h1, h2, h3 0 _ rfl, h3 1 _ rfl, h3 2 _ rfl⟩
theorem begin_no {q : QT} {t : Int} (h : beginE q t ≠ 0) (y : CmT) : beginQ q t y = q := by
  unfold beginE at h
  unfold beginQ
  split
  · rfl
  · rename_i h1
    rw [if_neg h1] at h
    split
    · rfl
    · rename_i x hx
      rw [hx] at h
      dsimp only at h
      split
      · rfl
      · rename_i h2; rw [if_neg h2] at h; exact absurd rfl h
theorem begin_yes {q : QT} {t : Nat} (h : beginE q t = 0) (y : CmT) : ∃ z : Int, (beginQ q t y).T = q.T.set t { y with seq := z } := by
  unfold beginE at h
  unfold beginQ
  rw [if_neg (by omega), Int.toNat_natCast] at h ⊢
  cases hx : q.T[t]? with
  | none => rw [hx] at h; cases h
  | some x =>
    rw [hx] at h
    dsimp only at h ⊢
    split
    · rename_i h2; rw [if_pos h2] at h; cases h
    · exact ⟨x.seq + 1, rfl⟩
theorem put_no {q : QT} {t v : Int} (h : putE q t v ≠ 0) : putQ q t v = q := by
  unfold putE at h
  unfold putQ
  split
  · rfl
  · rename_i h2
    split at h
    · rename_i h1
      unfold beginQ
      split
      · rfl
      · rw [List.getElem?_eq_none (by omega)]
    · exact begin_no h _
theorem put_yes {q : QT} {t : Nat} {v : Int} (h : putE q t v = 0) : ∃ z : Int, (putQ q t v).T = q.T.set t ⟨1, z, v, 0, 0⟩ := by
  unfold putE at h
  unfold putQ
  split at h
  · cases h
  · split at h
    · cases h
    · rename_i h2; rw [if_neg h2]; exact begin_yes h _
theorem take_yes {q : QT} {t : Nat} (h : beginE q t = 0) : ∃ z : Int, (takeQ q t).T = q.T.set t ⟨3, z, 0, 0, 0⟩ := begin_yes h _
theorem take_no {q : QT} {t : Int} (h : beginE q t ≠ 0) : takeQ q t = q := begin_no h _
theorem new_bnd {tries : Int} (x : CmT) (h : x.tri = 0) (hk : 0 ≤ tries) : Bnd tries x 0 := by
  refine ⟨by decide, ?_⟩
  split
  · omega
  · rw [h]; unfold phase
    split
    · decide
    · split <;> decide
theorem bnd_tail {w : World} {base gq gs n k t : Nat} {q : QT} {ss : List Int} {m : Int} (hq : QBeside w base gq gs q) (hi : QInv q m m m m) (hb : BndAll q ss) (ht : q.T.length = n ∧ q.tries = k) (hs : Blk w gs 3 (ss.map (Value.int .i64)).toArray) (htn : t < n) :
    ∃ sv : Int, w.cell? ⟨gs, t, none⟩ = some (.int .i64 sv) ∧ decide (3 * (k : Int) < sv) = false ∧ gs < w.heap.size ∧ ∀ d, Calls Try.prog 12 #[.pointer (some ⟨gq, 0, none⟩)] (w.drewN d) fun e w' => e = .returned (.int .i64 (3 * (k : Int))) ∧ w' = w.drewN d := by
  have hl1 : t < q.T.length := by rw [ht.1]; exact htn
  have hl2 : t < ss.length := by rw [hb.1]; exact hl1
  have hx : q.T[t]? = some q.T[t] := List.getElem?_eq_getElem _
  have hv : ss[t]? = some ss[t] := List.getElem?_eq_getElem _
  have h1 := hb.2 t _ _ hx hv
  have h2 := h1.le (hi.th t _ hx)
  rw [ht.2] at h2
  refine ⟨ss[t], ?_, decide_eq_false (by omega), hs.lt, ?_⟩
  · rw [hs.cell t]; simp [hl2]
  · obtain ⟨gm, vw, vg, vc, vt, vn, C, h, _⟩ := hq
    intro d
    have := limit_any _ (h.ext (below_drewN (n := d) (selfW w))) (by omega) (by have := hi.k0; omega) hi.k1
    rw [ht.2] at this
    exact this.mono fun e w' ⟨h1, h2⟩ => ⟨h1, h2.symm⟩
section
variable (w : World)
set_option maxHeartbeats 4000000 in
theorem bound_law (s n k : Int) (A : Option Addr) (c : Nat) (l : List AcT) (hr : RdF w acC A l) (hl : l.length ≤ 9223372036854775807) :
    Calls Try.prog 3 #[.int .i64 s, .int .i64 n, .int .i64 k, .slice A l.length c] w fun e w' => e = .returned (.bool true) ∧ Below w.heap.size w w' := by
  obtain ⟨m, hm⟩ : ∃ m, m = l.length := ⟨_, rfl⟩
  rw [← hm] at hl ⊢
  have HM := hide hm; have HR := hide hr
  clear hm hr
  by_cases hok : newOk s n k
  case neg =>
    have HN := hide (tnew_bad w s n k hok)
    have HL := hide hl
    clear hl hok
    go_enter Try.func3, Try.ntmps3
    go_wp2_with fail
    refine HN.out.mono ?_
    rintro e w1 ⟨rfl, rfl⟩
    go_wp2_with fail
    refine (awake41 w).mono ?_
    rintro e w1 ⟨rfl, hb⟩
    have HB := hide hb
    clear hb
    go_wp2_with fail
    go_ret
    exact ⟨rfl, HB.out⟩
  obtain ⟨s1, s2, n1, n2, k1, k2⟩ := hok
  obtain ⟨s, rfl⟩ : ∃ z : Nat, s = z := ⟨s.toNat, by omega⟩
  obtain ⟨n, rfl⟩ : ∃ z : Nat, n = z := ⟨n.toNat, by omega⟩
  obtain ⟨k, rfl⟩ : ∃ z : Nat, k = z := ⟨k.toNat, by omega⟩
  have HNW := hide (tnew_any w s n k (by omega) (by omega) (by omega) (by omega) (by omega) (by omega))
  by_cases h600 : 600 < m
  · have hd : decide (600 < (m : Int)) = true := decide_eq_true (by omega)
    have hd2 : decide (600 < m) = true := decide_eq_true (by omega)
    have HL := hide hl
    clear hl s1 s2 n1 n2 k1 k2 h600
    go_enter Try.func3, Try.ntmps3
    go_wp2_with fail
    refine HNW.out.mono ?_
    rintro e w1 ⟨gq, rfl, hq1, hb1⟩
    have HB1 := hide hb1
    clear hq1 hb1 HNW
    go_wp2_with fail
    refine (awake41 w1).mono ?_
    rintro e w2 ⟨rfl, hb⟩
    have HB := hide (extW HB1.out hb)
    clear hb
    go_wp2_with fail
    go_ret
    exact ⟨rfl, HB.out⟩
  have hd : decide (600 < (m : Int)) = false := decide_eq_false (by omega)
  have hd2 : decide (600 < m) = false := decide_eq_false (by omega)
  have hl2 : m ≤ 600 := by omega
  have hmk := make_ints n (by omega)
  have HI0 := hide (new_inv s n k s1 s2 k1 k2)
  have HBN := hide (BndAll.new s n k k1)
  have hn64 : n ≤ 64 := by omega
  clear hl s1 s2 k1 k2 h600
  go_enter Try.func3, Try.ntmps3
  go_wp2_with fail
  refine HNW.out.mono ?_
  rintro e w1 ⟨gq, rfl, hq1, hb1⟩
  have HQ1 := hide hq1
  have HB1 := hide hb1
  obtain ⟨gs, hgs⟩ : ∃ gs, gs = w1.heap.size := ⟨_, rfl⟩
  have HGS := hide hgs
  clear hq1 hb1 HNW
  go_wp2_with fail
  rw [← hgs]
  clear hgs
  have hq1 := HQ1.out
  have hz := hq1.bigq
  go_loopw [13, 14, 47] (fun _ _ i wr => ∃ j : Nat, j ≤ m ∧ i = .int .i64 j ∧ ∃ q ss, Hid (QBeside wr w.heap.size gq gs q) ∧ Hid (QInv q j j j j) ∧ Hid (BndAll q ss) ∧ Hid (q.T.length = n ∧ q.tries = k) ∧ Hid (Blk wr gs 3 (ss.map (Value.int .i64)).toArray) ∧ Hid (Below w.heap.size w wr)) (fun _ _ i _ => m - (intOf i).toNat)
  case atStart =>
    refine ⟨0, Nat.zero_le _, rfl, _, _, HQ1.out.beside (moreW (selfW w1) _) (by rw [HGS.out]; exact Nat.le_refl _), HI0, HBN, ⟨by unfold newQ; simp, rfl⟩, ?_, moreW HB1.out _⟩
    show Hid (Blk _ gs _ _)
    have hz := zeros_cells n
    rw [Nat.mul_one] at hz
    rw [HGS.out, hz, Int.toNat_natCast]
    exact Blk.new w1 _ _
  case round =>
    obtain ⟨j, hj, rfl, q, ss, HQ, HI, HBA, HT, HS, HB⟩ := hrel
    by_cases hlt : j < m
    · obtain ⟨ad, a, hA, ha, ca, cb, cc⟩ := RdF.ac (HR.out.below HB.out) (i := j) (by rw [← HM.out]; exact hlt)
      subst hA
      rw [add_lit _ _ (by decide)] at cb cc
      clear ha
      obtain ⟨ki, th, xx⟩ := a
      dsimp only at ca cb cc
      have hzq := HQ.out.bigq
      have hbx := moreW (selfW wr) (.cells #[.int .i64 ki, .int .i64 th, .int .i64 xx] 30)
      have HBX := hide hbx
      clear hbx
      by_cases h1 : th < 0
      · have d1 : decide (th < 0) = true := decide_eq_true h1
        go_wp2_with fail
        go_roundw
        case rel => exact ⟨j + 1, by omega, by go_num, q, ss, HQ.out.ext HBX.out, HI.out.up (by omega), HBA, HT, HS.out.extW HBX.out, extW HB.out HBX.out⟩
        case measure => simp [intOf]; omega
      have d1 : decide (th < 0) = false := decide_eq_false h1
      by_cases h2 : (n : Int) ≤ th
      · have d2 : decide ((n : Int) ≤ th) = true := decide_eq_true h2
        go_wp2_with fail
        go_roundw
        case rel => exact ⟨j + 1, by omega, by go_num, q, ss, HQ.out.ext HBX.out, HI.out.up (by omega), HBA, HT, HS.out.extW HBX.out, extW HB.out HBX.out⟩
        case measure => simp [intOf]; omega
      have d2 : decide ((n : Int) ≤ th) = false := decide_eq_false h2
      obtain ⟨t, rfl⟩ : ∃ t : Nat, th = t := ⟨th.toNat, by omega⟩
      have htn : t < n := by omega
      have HZ : Hid (∃ x sv, q.T[t]? = some x ∧ ss[t]? = some sv) := by
        have hl1 : t < q.T.length := by rw [HT.out.1]; exact htn
        exact ⟨q.T[t], ss[t]'(by rw [HBA.out.1]; exact hl1), List.getElem?_eq_getElem _, List.getElem?_eq_getElem _⟩
      by_cases e0 : (IntKind.u64.wrap ki).tmod 8 = 0
      · have d3 : ((IntKind.u64.wrap ki).tmod 8 == 0) = true := by simpa using e0
        clear e0
        have hti : (t : Int) < (n : Int) := by omega
        have HP := hide (put_at HI.out (by omega) (t : Int) xx (HQ.out.ext HBX.out))
        have hk0 : 0 ≤ q.tries := by have := HI.out.k0; omega
        have htl : t < ss.length := by rw [HBA.out.1, HT.out.1]; exact htn
        have HYES := hide (fun e : putE q t xx = 0 => put_yes e)
        have HNO := hide (fun e : putE q t xx ≠ 0 => put_no e)
        have HK0 := hide hk0
        clear hk0
        obtain ⟨ec, hec⟩ : ∃ ec, ec = putE q t xx := ⟨_, rfl⟩
        rw [← hec] at HP HYES HNO
        have HI4 := hide (HI.out.put1 t xx)
        have HTR : Hid ((putQ q t xx).tries = q.tries) := putQ_tries _ _ _
        obtain ⟨q4, hq4e⟩ : ∃ q4, q4 = putQ q t xx := ⟨_, rfl⟩
        rw [← hq4e] at HP HYES HNO HI4 HTR
        clear hec hq4e
        by_cases he : ec = 0
        · have HZY := hide (HYES.out he)
          subst he
          clear HYES HNO
          go_wp2_with fail
          refine HP.out.mono ?_
          rintro e w3 ⟨rfl, hq3⟩
          obtain ⟨hq4, hs4, hb4⟩ := QBeside.to (Nat.lt_of_lt_of_le (HS.out.lt) HBX.out.size) hq3
          have hs5 := (HS.out.extW HBX.out).same hs4
          have hfs2 := hs5.free t
          have hgs2 := hs5.lt
          have hcs2 := hs5.cell t
          have HS4 : Hid (Blk (w3.setCell ⟨gs, t, none⟩ (.int .i64 0)) gs 3 ((ss.set t 0).map (Value.int .i64)).toArray) := by
            have e : ((ss.set t 0).map (Value.int .i64)).toArray = (ss.map (Value.int .i64)).toArray.setIfInBounds t (.int .i64 0) := by simp
            rw [e]; exact hs5.set_ t _
          have HQ4 := hide (QAt.away (i := t) hq4 (g := gs) (fun e => e rfl) (.int .i64 0))
          have HB4 := hide (((extW HB.out HBX.out).trans hb4).setCell (p := ⟨gs, t, none⟩) (by rw [HGS.out]; exact HB1.out.size) (.int .i64 0))
          obtain ⟨zq, hzq⟩ := HZY.out
          have HT4 : Hid (q4.T.length = n ∧ q4.tries = k) := ⟨by rw [hzq, List.length_set]; exact HT.out.1, by rw [HTR.out]; exact HT.out.2⟩
          have HBA4 : Hid (BndAll q4 (ss.set t 0)) := HBA.out.set HTR.out hzq (new_bnd _ rfl HK0.out)
          clear hq3 hq4 hs4 hb4 HP hzq HZY
          go_wp2_with fail
          obtain ⟨sf, hcf, hdf, hgf, hlf⟩ := bnd_tail HQ4.out HI4.out HBA4.out HT4.out HS4.out htn
          have HLF := hide hlf
          clear hlf
          go_wp2_with fail
          go_quiet ((go_at_call 12; exact Calls.quiet_of_same (HLF.out _)))
          go_wp2_with fail
          exact ⟨⟨j + 1, by omega, by go_num, _, _, HQ4.out.ext (below_drewN (n := _) (selfW _)), HI4.out.up (by omega), HBA4, HT4, HS4.out.extW (below_drewN (n := _) (selfW _)), extW HB4.out (below_drewN (n := _) (selfW _))⟩, by simp [intOf]; omega⟩
        · have HNQ := hide (HNO.out he)
          have hed : (ec == 0) = false := by simpa using he
          have HE := hide he
          clear HYES HNO he
          go_wp2_with fail
          refine HP.out.mono ?_
          rintro e w3 ⟨rfl, hq3⟩
          obtain ⟨hq4, hs4, hb4⟩ := QBeside.to (Nat.lt_of_lt_of_le (HS.out.lt) HBX.out.size) hq3
          have HQ4 := hide hq4
          have HS4 := hide ((HS.out.extW HBX.out).same hs4)
          have HB4 := hide ((extW HB.out HBX.out).trans hb4)
          have HT4 : Hid (q4.T.length = n ∧ q4.tries = k) := by rw [HNQ.out]; exact HT
          have HBA4 : Hid (BndAll q4 ss) := by rw [HNQ.out]; exact HBA
          clear hq3 hq4 hs4 hb4 HP
          go_wp2_with fail
          obtain ⟨sf, hcf, hdf, hgf, hlf⟩ := bnd_tail HQ4.out HI4.out HBA4.out HT4.out HS4.out htn
          have HLF := hide hlf
          clear hlf
          go_wp2_with fail
          go_quiet ((go_at_call 12; exact Calls.quiet_of_same (HLF.out _)))
          go_wp2_with fail
          exact ⟨⟨j + 1, by omega, by go_num, _, _, HQ4.out.ext (below_drewN (n := _) (selfW _)), HI4.out.up (by omega), HBA4, HT4, HS4.out.extW (below_drewN (n := _) (selfW _)), extW HB4.out (below_drewN (n := _) (selfW _))⟩, by simp [intOf]; omega⟩
      have d3 : ((IntKind.u64.wrap ki).tmod 8 == 0) = false := by simpa using e0
      by_cases e1 : (IntKind.u64.wrap ki).tmod 8 = 1
      · have d4 : ((IntKind.u64.wrap ki).tmod 8 == 1) = true := by simpa using e1
        clear e0 e1
        have hti : (t : Int) < (n : Int) := by omega
        have HP := hide (take_at HI.out (by omega) (t : Int) (HQ.out.ext HBX.out))
        have hk0 : 0 ≤ q.tries := by have := HI.out.k0; omega
        have htl : t < ss.length := by rw [HBA.out.1, HT.out.1]; exact htn
        have HYES := hide (fun e : beginE q t = 0 => take_yes e)
        have HNO := hide (fun e : beginE q t ≠ 0 => take_no e)
        have HK0 := hide hk0
        clear hk0
        obtain ⟨ec, hec⟩ : ∃ ec, ec = beginE q t := ⟨_, rfl⟩
        rw [← hec] at HP HYES HNO
        have HI4 := hide (HI.out.take1 t)
        have HTR : Hid ((takeQ q t).tries = q.tries) := beginQ_tries _ _ _
        obtain ⟨q4, hq4e⟩ : ∃ q4, q4 = takeQ q t := ⟨_, rfl⟩
        rw [← hq4e] at HP HYES HNO HI4 HTR
        clear hec hq4e
        by_cases he : ec = 0
        · have HZY := hide (HYES.out he)
          subst he
          clear HYES HNO
          go_wp2_with fail
          refine HP.out.mono ?_
          rintro e w3 ⟨rfl, hq3⟩
          obtain ⟨hq4, hs4, hb4⟩ := QBeside.to (Nat.lt_of_lt_of_le (HS.out.lt) HBX.out.size) hq3
          have hs5 := (HS.out.extW HBX.out).same hs4
          have hfs2 := hs5.free t
          have hgs2 := hs5.lt
          have hcs2 := hs5.cell t
          have HS4 : Hid (Blk (w3.setCell ⟨gs, t, none⟩ (.int .i64 0)) gs 3 ((ss.set t 0).map (Value.int .i64)).toArray) := by
            have e : ((ss.set t 0).map (Value.int .i64)).toArray = (ss.map (Value.int .i64)).toArray.setIfInBounds t (.int .i64 0) := by simp
            rw [e]; exact hs5.set_ t _
          have HQ4 := hide (QAt.away (i := t) hq4 (g := gs) (fun e => e rfl) (.int .i64 0))
          have HB4 := hide (((extW HB.out HBX.out).trans hb4).setCell (p := ⟨gs, t, none⟩) (by rw [HGS.out]; exact HB1.out.size) (.int .i64 0))
          obtain ⟨zq, hzq⟩ := HZY.out
          have HT4 : Hid (q4.T.length = n ∧ q4.tries = k) := ⟨by rw [hzq, List.length_set]; exact HT.out.1, by rw [HTR.out]; exact HT.out.2⟩
          have HBA4 : Hid (BndAll q4 (ss.set t 0)) := HBA.out.set HTR.out hzq (new_bnd _ rfl HK0.out)
          clear hq3 hq4 hs4 hb4 HP hzq HZY
          go_wp2_with fail
          obtain ⟨sf, hcf, hdf, hgf, hlf⟩ := bnd_tail HQ4.out HI4.out HBA4.out HT4.out HS4.out htn
          have HLF := hide hlf
          clear hlf
          go_wp2_with fail
          go_quiet ((go_at_call 12; exact Calls.quiet_of_same (HLF.out _)))
          go_wp2_with fail
          exact ⟨⟨j + 1, by omega, by go_num, _, _, HQ4.out.ext (below_drewN (n := _) (selfW _)), HI4.out.up (by omega), HBA4, HT4, HS4.out.extW (below_drewN (n := _) (selfW _)), extW HB4.out (below_drewN (n := _) (selfW _))⟩, by simp [intOf]; omega⟩
        · have HNQ := hide (HNO.out he)
          have hed : (ec == 0) = false := by simpa using he
          have HE := hide he
          clear HYES HNO he
          go_wp2_with fail
          refine HP.out.mono ?_
          rintro e w3 ⟨rfl, hq3⟩
          obtain ⟨hq4, hs4, hb4⟩ := QBeside.to (Nat.lt_of_lt_of_le (HS.out.lt) HBX.out.size) hq3
          have HQ4 := hide hq4
          have HS4 := hide ((HS.out.extW HBX.out).same hs4)
          have HB4 := hide ((extW HB.out HBX.out).trans hb4)
          have HT4 : Hid (q4.T.length = n ∧ q4.tries = k) := by rw [HNQ.out]; exact HT
          have HBA4 : Hid (BndAll q4 ss) := by rw [HNQ.out]; exact HBA
          clear hq3 hq4 hs4 hb4 HP
          go_wp2_with fail
          obtain ⟨sf, hcf, hdf, hgf, hlf⟩ := bnd_tail HQ4.out HI4.out HBA4.out HT4.out HS4.out htn
          have HLF := hide hlf
          clear hlf
          go_wp2_with fail
          go_quiet ((go_at_call 12; exact Calls.quiet_of_same (HLF.out _)))
          go_wp2_with fail
          exact ⟨⟨j + 1, by omega, by go_num, _, _, HQ4.out.ext (below_drewN (n := _) (selfW _)), HI4.out.up (by omega), HBA4, HT4, HS4.out.extW (below_drewN (n := _) (selfW _)), extW HB4.out (below_drewN (n := _) (selfW _))⟩, by simp [intOf]; omega⟩
      have d4 : ((IntKind.u64.wrap ki).tmod 8 == 1) = false := by simpa using e1
      clear e0 e1
      obtain ⟨x, sv, hx, hs⟩ := HZ.out
      have HX := hide hx; have HSV := hide hs
      have F0 := field_cm0
      have HTH := hide (thread_at (HQ.out.ext HBX.out) hx)
      clear hx hs
      by_cases e2 : x.pc = 0
      · have d5 : (x.pc != 0) = false := by simpa using e2
        have E2 := hide e2
        clear e2
        go_wp2_with fail
        refine HTH.out.mono ?_
        rintro e w2 ⟨rfl, hb2⟩
        have HB2 := hide (extW HBX.out hb2)
        clear hb2 HTH
        have HP := hide (pick_at HI.out (by omega) (t : Int) (HQ.out.ext HB2.out))
        go_wp2_with fail
        refine HP.out.mono ?_
        rintro e w3 ⟨rfl, hq3⟩
        obtain ⟨hq4, hs4, hb4⟩ := QBeside.to (Nat.lt_of_lt_of_le (HS.out.lt) HB2.out.size) hq3
        have HQ4 := hide hq4
        have HS4 := hide ((HS.out.extW HB2.out).same hs4)
        have HB4 := hide ((extW HB.out HB2.out).trans hb4)
        have HI4 := hide (HI.out.pick1 t)
        have HT4 : Hid ((pickQ q t).T.length = n ∧ (pickQ q t).tries = k) := ⟨by rw [pickQ_T HX.out, List.length_set]; exact HT.out.1, by rw [pickQ_tries]; exact HT.out.2⟩
        have HBA4 : Hid (BndAll (pickQ q t) ss) := by
          have := HBA.out.set (pickQ_tries q t) (pickQ_T HX.out) (s := sv) (by
            have e : stepX q.tick x = x := by unfold stepX; rw [E2.out]; rfl
            rw [e]; exact HBA.out.2 t x sv HX.out HSV.out)
          rw [set_self HSV.out] at this
          exact this
        clear hq3 hq4 hs4 hb4 HP
        obtain ⟨sf, hcf, hdf, hgf, hlf⟩ := bnd_tail HQ4.out HI4.out HBA4.out HT4.out HS4.out htn
        have HLF := hide hlf
        clear hlf
        go_wp2_with fail
        go_quiet ((go_at_call 12; exact Calls.quiet_of_same (HLF.out _)))
        go_wp2_with fail
        exact ⟨⟨j + 1, by omega, by go_num, _, _, HQ4.out.ext (below_drewN (n := _) (selfW _)), HI4.out.up (by omega), HBA4, HT4, HS4.out.extW (below_drewN (n := _) (selfW _)), extW HB4.out (below_drewN (n := _) (selfW _))⟩, by simp [intOf]; omega⟩
      · have d5 : (x.pc != 0) = true := by simpa using e2
        have E2 := hide e2
        clear e2
        have hti : (t : Int) < (n : Int) := by omega
        have htl : t < ss.length := by rw [HBA.out.1, HT.out.1]; exact htn
        have hbq := HBA.out.2 t x sv HX.out HSV.out
        have hsv1 := hbq.le (HI.out.th t x HX.out)
        have hsv0 := hbq.lo
        have hk64 := HI.out.k1
        have hwr : IntKind.i64.wrap (sv + 1) = sv + 1 := IntWalk.i64_in _ (by omega)
        clear hbq hsv1 hsv0 hk64
        go_wp2_with fail
        refine HTH.out.mono ?_
        rintro e w2 ⟨rfl, hb2⟩
        have HB2 := hide (extW HBX.out hb2)
        have hs2 := HS.out.extW HB2.out
        have hcs2 : w2.cell? ⟨gs, t, none⟩ = some (.int .i64 sv) := by
          rw [hs2.cell t]
          have := HSV.out
          simp [this]
        have hfs2 := hs2.free t
        have hgs2 := hs2.lt
        have hs3 := hs2.set_ t (.int .i64 (sv + 1))
        have HS3 : Hid (Blk (w2.setCell ⟨gs, t, none⟩ (.int .i64 (sv + 1))) gs 3 ((ss.set t (sv + 1)).map (Value.int .i64)).toArray) := by
          have e : ((ss.set t (sv + 1)).map (Value.int .i64)).toArray = (ss.map (Value.int .i64)).toArray.setIfInBounds t (.int .i64 (sv + 1)) := by simp
          rw [e]; exact hs3
        have HQ3 := hide (QAt.away (i := t) (HQ.out.ext HB2.out) (g := gs) (fun e => e rfl) (.int .i64 (sv + 1)))
        clear hb2 HTH hs2 hs3
        have HP := hide (pick_at HI.out (by omega) (t : Int) HQ3.out)
        go_wp2_with fail
        refine HP.out.mono ?_
        rintro e w3 ⟨rfl, hq3⟩
        obtain ⟨hq4, hs4, hb4⟩ := QBeside.to HS3.out.lt hq3
        have HQ4 := hide hq4
        have HS4 := hide (HS3.out.same hs4)
        have HB4 := hide (((extW HB.out HB2.out).setCell (p := ⟨gs, t, none⟩) (by rw [HGS.out]; exact HB1.out.size) (.int .i64 (sv + 1))).trans hb4)
        have HI4 := hide (HI.out.pick1 t)
        have HT4 : Hid ((pickQ q t).T.length = n ∧ (pickQ q t).tries = k) := ⟨by rw [pickQ_T HX.out, List.length_set]; exact HT.out.1, by rw [pickQ_tries]; exact HT.out.2⟩
        have HBA4 : Hid (BndAll (pickQ q t) (ss.set t (sv + 1))) :=
          HBA.out.set (pickQ_tries q t) (pickQ_T HX.out) (step_bnd (q := q.tick) (HI.out.tick.th t x HX.out) (HBA.out.2 t x sv HX.out HSV.out) E2.out)
        clear hq3 hq4 hs4 hb4 HP hcs2 hfs2 hgs2
        obtain ⟨sf, hcf, hdf, hgf, hlf⟩ := bnd_tail HQ4.out HI4.out HBA4.out HT4.out HS4.out htn
        have HLF := hide hlf
        clear hlf
        go_wp2_with fail
        go_quiet ((go_at_call 12; exact Calls.quiet_of_same (HLF.out _)))
        go_wp2_with fail
        exact ⟨⟨j + 1, by omega, by go_num, _, _, HQ4.out.ext (below_drewN (n := _) (selfW _)), HI4.out.up (by omega), HBA4, HT4, HS4.out.extW (below_drewN (n := _) (selfW _)), extW HB4.out (below_drewN (n := _) (selfW _))⟩, by simp [intOf]; omega⟩
    · have hjm : j = m := by omega
      subst hjm
      go_wp2_with fail
      refine (awake41 wr).mono ?_
      rintro e w2 ⟨rfl, hb⟩
      have HB2 := hide (extW HB.out hb)
      clear hb
      go_wp2_with fail
      go_ret
      exact ⟨rfl, HB2.out⟩
end
end Go.Proofs.Ythghghoikaincaa
