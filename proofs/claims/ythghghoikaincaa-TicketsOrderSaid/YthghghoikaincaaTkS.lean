/- The walks of tickets' step. (Printed by wip/tks.py.) -/
import Derived.Test.YthghghoikaincaaTkM
namespace Go.Proofs.Ythghghoikaincaa
open Go.RowKit

/-- what a step asks of the queue -/
structure StepOk (q : QT) (x : CmT) : Prop where
  s0 : 1 ≤ q.size
  s1 : q.size ≤ 4096
  len : q.L.length = q.size.toNat + 2
  w0 : ∀ (k : Nat) (z : Int), k < 2 → q.L[k]? = some z → 0 ≤ z ∧ z ≤ 1000000
  wc : ∀ z ∈ q.L, 0 ≤ z ∧ z ≤ 4294967297
  p0 : 0 ≤ x.pos
  p1 : x.pos < q.size
  five : x.pc = 5 → 2 ≤ q.word x.cell
  t0 : 0 ≤ x.tri
  t1 : x.tri ≤ 64
  v0 : 0 ≤ x.value
  v1 : x.value ≤ 4294967295
  nl : q.N.length ≤ 10000
theorem set_same {L : List Int} {k : Nat} {z : Int} (h : L[k]? = some z) : L.set k z = L := by
  refine List.ext_getElem? fun i => ?_
  rw [List.getElem?_set]
  split
  · rename_i h1; subst h1; rw [h]; simp [len_of h]
  · rfl
theorem QT.word_of {q : QT} {k : Nat} {z : Int} (h : q.L[k]? = some z) : q.word k = z := by unfold QT.word; rw [List.getD_eq_getElem?_getD, h]; rfl
theorem QT.setL_same {q : QT} {k : Nat} {z : Int} (h : q.L[k]? = some z) : ({ q with L := q.L.set k z } : QT) = q := by rw [set_same h]
section
variable {w : World} {base gq gm g1 n c1 : Nat} {vw vg vc vn : Value} {q : QT} {C : List Int} {t : Nat} {s v p r : Int}
set_option maxHeartbeats 4000000 in
theorem step_1 (h : QV w base gq gm vw vg vc (.slice (some ⟨g1, 0, none⟩) n c1) vn q C) (hx : q.T[t]? = some ⟨1, s, v, p, r⟩) (ok : StepOk q ⟨1, s, v, p, r⟩) :
    Calls Try.prog 22 #[.pointer (some ⟨gq, 0, none⟩), .int .i64 t] w fun e w' => e = .returned (.tuple #[]) ∧ QX w base gq gm vw vg vc (.slice (some ⟨g1, 0, none⟩) n c1) vn (stepQ q t ⟨1, s, v, p, r⟩) w' := by
  have hcs := fun i => Blk.cell h.blk i
  have hgs := h.blk.lt
  obtain ⟨k0, k1, k2, k3, k4⟩ := h.cell hx
  dsimp only at k0 k1 k2 k3 k4
  have hf1 := fun i => h.free1 i
  have hg1s := h.lt1.2
  have hngq := h.ne1
  have htn : t < n := by have := len_of hx; rw [h.men.rdF.1]; exact this
  have ht2 : (t : Int) < (n : Int) := by omega
  have hp0 : 0 ≤ p := ok.p0
  have hp1 : p < q.size := ok.p1
  have hss := ok.s1
  have hlen := ok.len
  have hpw : IntKind.i64.wrap (2 + p) = 2 + p := IntWalk.i64_in _ (by omega)
  have hcell : ((CmT.cell ⟨1, s, v, p, r⟩ : Nat) : Int) = 2 + p := by unfold CmT.cell; dsimp only; omega
  have hcl : CmT.cell ⟨1, s, v, p, r⟩ < q.L.length := by unfold CmT.cell; dsimp only; omega
  have hC' : (cntAdd C t).length ≤ 64 := cntAdd_len _ h.c64
  have H := hide h; have HX := hide hx; have OK := hide ok
  have es : stepQ q t ⟨1, s, v, p, r⟩ = ticketQ q t ⟨1, s, v, p, r⟩ 1 2 := rfl
  obtain ⟨z, hz⟩ : ∃ z, q.L[1]? = some z := ⟨q.L[1]'(by omega), List.getElem?_eq_getElem _⟩
  have HT := hide (ticket_any 1 2 z h hx ok.nl hz (ok.w0 _ _ (by decide) hz).1 (ok.w0 _ _ (by decide) hz).2 (by have := ok.s0; omega) ok.s1 (by omega))
  rw [es]
  clear h hx ok es hz hlen hcell hcl hC'
  go_enter Try.func22, Try.ntmps22
  go_wp2_with fail
  refine HT.out.mono ?_
  rintro e w3 ⟨rfl, hq3⟩
  have HQ3 := hide hq3
  clear hq3
  go_wp2_with fail
  go_end0
  exact ⟨rfl, HQ3.out⟩
set_option maxHeartbeats 4000000 in
theorem step_3 (h : QV w base gq gm vw vg vc (.slice (some ⟨g1, 0, none⟩) n c1) vn q C) (hx : q.T[t]? = some ⟨3, s, v, p, r⟩) (ok : StepOk q ⟨3, s, v, p, r⟩) :
    Calls Try.prog 22 #[.pointer (some ⟨gq, 0, none⟩), .int .i64 t] w fun e w' => e = .returned (.tuple #[]) ∧ QX w base gq gm vw vg vc (.slice (some ⟨g1, 0, none⟩) n c1) vn (stepQ q t ⟨3, s, v, p, r⟩) w' := by
  have hcs := fun i => Blk.cell h.blk i
  have hgs := h.blk.lt
  obtain ⟨k0, k1, k2, k3, k4⟩ := h.cell hx
  dsimp only at k0 k1 k2 k3 k4
  have hf1 := fun i => h.free1 i
  have hg1s := h.lt1.2
  have hngq := h.ne1
  have htn : t < n := by have := len_of hx; rw [h.men.rdF.1]; exact this
  have ht2 : (t : Int) < (n : Int) := by omega
  have hp0 : 0 ≤ p := ok.p0
  have hp1 : p < q.size := ok.p1
  have hss := ok.s1
  have hlen := ok.len
  have hpw : IntKind.i64.wrap (2 + p) = 2 + p := IntWalk.i64_in _ (by omega)
  have hcell : ((CmT.cell ⟨3, s, v, p, r⟩ : Nat) : Int) = 2 + p := by unfold CmT.cell; dsimp only; omega
  have hcl : CmT.cell ⟨3, s, v, p, r⟩ < q.L.length := by unfold CmT.cell; dsimp only; omega
  have hC' : (cntAdd C t).length ≤ 64 := cntAdd_len _ h.c64
  have H := hide h; have HX := hide hx; have OK := hide ok
  have es : stepQ q t ⟨3, s, v, p, r⟩ = ticketQ q t ⟨3, s, v, p, r⟩ 0 4 := rfl
  obtain ⟨z, hz⟩ : ∃ z, q.L[0]? = some z := ⟨q.L[0]'(by omega), List.getElem?_eq_getElem _⟩
  have HT := hide (ticket_any 0 4 z h hx ok.nl hz (ok.w0 _ _ (by decide) hz).1 (ok.w0 _ _ (by decide) hz).2 (by have := ok.s0; omega) ok.s1 (by omega))
  rw [es]
  clear h hx ok es hz hlen hcell hcl hC'
  go_enter Try.func22, Try.ntmps22
  go_wp2_with fail
  refine HT.out.mono ?_
  rintro e w3 ⟨rfl, hq3⟩
  have HQ3 := hide hq3
  clear hq3
  go_wp2_with fail
  go_end0
  exact ⟨rfl, HQ3.out⟩
set_option maxHeartbeats 4000000 in
theorem step_5 (h : QV w base gq gm vw vg vc (.slice (some ⟨g1, 0, none⟩) n c1) vn q C) (hx : q.T[t]? = some ⟨5, s, v, p, r⟩) (ok : StepOk q ⟨5, s, v, p, r⟩) :
    Calls Try.prog 22 #[.pointer (some ⟨gq, 0, none⟩), .int .i64 t] w fun e w' => e = .returned (.tuple #[]) ∧ QX w base gq gm vw vg vc (.slice (some ⟨g1, 0, none⟩) n c1) vn (stepQ q t ⟨5, s, v, p, r⟩) w' := by
  have hcs := fun i => Blk.cell h.blk i
  have hgs := h.blk.lt
  obtain ⟨k0, k1, k2, k3, k4⟩ := h.cell hx
  dsimp only at k0 k1 k2 k3 k4
  have hf1 := fun i => h.free1 i
  have hg1s := h.lt1.2
  have hngq := h.ne1
  have htn : t < n := by have := len_of hx; rw [h.men.rdF.1]; exact this
  have ht2 : (t : Int) < (n : Int) := by omega
  have hp0 : 0 ≤ p := ok.p0
  have hp1 : p < q.size := ok.p1
  have hss := ok.s1
  have hlen := ok.len
  have hpw : IntKind.i64.wrap (2 + p) = 2 + p := IntWalk.i64_in _ (by omega)
  have hcell : ((CmT.cell ⟨5, s, v, p, r⟩ : Nat) : Int) = 2 + p := by unfold CmT.cell; dsimp only; omega
  have hcl : CmT.cell ⟨5, s, v, p, r⟩ < q.L.length := by unfold CmT.cell; dsimp only; omega
  have hC' : (cntAdd C t).length ≤ 64 := cntAdd_len _ h.c64
  have H := hide h; have HX := hide hx; have OK := hide ok
  obtain ⟨z, hz⟩ : ∃ z, q.L[CmT.cell ⟨5, s, v, p, r⟩]? = some z := ⟨q.L[CmT.cell ⟨5, s, v, p, r⟩]'hcl, List.getElem?_eq_getElem _⟩
  have hword := QT.word_of hz
  have hz2 : 2 ≤ z := by rw [← hword]; exact ok.five rfl
  have hz3 := (ok.wc z (List.mem_of_getElem? hz)).2
  have es : stepQ q t ⟨5, s, v, p, r⟩ = endsQ q t ⟨5, s, v, p, r⟩ 0 (z - 2) := by rw [← hword]; rfl
  have hu : IntKind.u64.wrap (z - 2) = z - 2 := u64_in _ (by omega) (by omega)
  have hi : IntKind.i64.wrap (z - 2) = z - 2 := IntWalk.i64_in _ (by omega)
  have HA := hide (load_any w base gm vw vg vc q.L [] C t _ z h.mem h.c64 (by omega) hz)
  rw [hcell] at HA
  have HS := hide (QT.setL_same hz)
  have HL := hide ok.nl
  rw [es]
  clear h hx ok es hlen hcell hcl hword hz
  go_enter Try.func22, Try.ntmps22
  go_wp2_with fail
  refine HA.out.mono ?_
  rintro e w1 ⟨rfl, hm⟩
  obtain ⟨vc1, h1, hn1, hr1, hb1⟩ := QV.acc H.out hm hC'
  rw [HS.out] at h1
  have HE := hide (ends_any 0 (z - 2) h1 HX.out HL.out)
  have HN1 := hide hn1; have HR1 := hide hr1; have HB1 := hide hb1
  clear h1 hn1 hr1 hb1 hcs hgs HA hm k0 k1 k2 k3 k4 hf1 hg1s
  go_wp2_with fail
  refine HE.out.mono ?_
  rintro e w3 ⟨rfl, hq3⟩
  have HQ3 := hide hq3
  clear HE
  clear hq3
  go_wp2_with fail
  go_end0
  exact ⟨rfl, QX.trans HN1.out (NewOr.refl _ _) HR1.out HB1.out HQ3.out⟩
set_option maxHeartbeats 4000000 in
theorem step_6 (h : QV w base gq gm vw vg vc (.slice (some ⟨g1, 0, none⟩) n c1) vn q C) (hx : q.T[t]? = some ⟨6, s, v, p, r⟩) (ok : StepOk q ⟨6, s, v, p, r⟩) :
    Calls Try.prog 22 #[.pointer (some ⟨gq, 0, none⟩), .int .i64 t] w fun e w' => e = .returned (.tuple #[]) ∧ QX w base gq gm vw vg vc (.slice (some ⟨g1, 0, none⟩) n c1) vn (stepQ q t ⟨6, s, v, p, r⟩) w' := by
  have hcs := fun i => Blk.cell h.blk i
  have hgs := h.blk.lt
  obtain ⟨k0, k1, k2, k3, k4⟩ := h.cell hx
  dsimp only at k0 k1 k2 k3 k4
  have hf1 := fun i => h.free1 i
  have hg1s := h.lt1.2
  have hngq := h.ne1
  have htn : t < n := by have := len_of hx; rw [h.men.rdF.1]; exact this
  have ht2 : (t : Int) < (n : Int) := by omega
  have hp0 : 0 ≤ p := ok.p0
  have hp1 : p < q.size := ok.p1
  have hss := ok.s1
  have hlen := ok.len
  have hpw : IntKind.i64.wrap (2 + p) = 2 + p := IntWalk.i64_in _ (by omega)
  have hcell : ((CmT.cell ⟨6, s, v, p, r⟩ : Nat) : Int) = 2 + p := by unfold CmT.cell; dsimp only; omega
  have hcl : CmT.cell ⟨6, s, v, p, r⟩ < q.L.length := by unfold CmT.cell; dsimp only; omega
  have hC' : (cntAdd C t).length ≤ 64 := cntAdd_len _ h.c64
  have H := hide h; have HX := hide hx; have OK := hide ok
  obtain ⟨z, hz⟩ : ∃ z, q.L[1]? = some z := ⟨q.L[1]'(by omega), List.getElem?_eq_getElem _⟩
  have hword := QT.word_of hz
  have hu1 : IntKind.u64.wrap p = p := u64_in _ (by omega) (by omega)
  have hu2 : IntKind.u64.wrap (p + 1) = p + 1 := u64_in _ (by omega) (by omega)
  have es : stepQ q t ⟨6, s, v, p, r⟩ = if z ≤ p + 1 then endsQ q t ⟨6, s, v, p, r⟩ 10 0 else againQ q t ⟨6, s, v, p, r⟩ 3 := by rw [← hword]; rfl
  have HA := hide (load_any w base gm vw vg vc q.L [] C t 1 z h.mem h.c64 (by omega) hz)
  have HS := hide (QT.setL_same hz)
  have HL := hide ok.nl
  have HT0 := hide ok.t0; have HT1 := hide ok.t1
  by_cases hc : z ≤ p + 1
  · have hd : decide (z ≤ p + 1) = true := decide_eq_true hc
    have es2 : stepQ q t ⟨6, s, v, p, r⟩ = endsQ q t ⟨6, s, v, p, r⟩ 10 0 := by rw [es, if_pos hc]
    rw [es2]
    clear h hx ok es es2 hlen hcell hcl hword hz hc
    go_enter Try.func22, Try.ntmps22
    go_wp2_with fail
    refine HA.out.mono ?_
    rintro e w1 ⟨rfl, hm⟩
    obtain ⟨vc1, h1, hn1, hr1, hb1⟩ := QV.acc H.out hm hC'
    rw [HS.out] at h1
    have HE := hide (ends_any 10 0 h1 HX.out HL.out)
    have HN1 := hide hn1; have HR1 := hide hr1; have HB1 := hide hb1
    clear hcs hgs HA hm k0 k1 k2 k3 k4 hf1 hg1s
    have hcs := fun i => Blk.cell h1.blk i
    have hgs := h1.blk.lt
    obtain ⟨k0, k1, k2, k3, k4⟩ := h1.cell HX.out
    dsimp only at k0 k1 k2 k3 k4
    have hg1s := h1.lt1.2
    clear h1 hn1 hr1 hb1
    go_wp2_with fail
    refine HE.out.mono ?_
    rintro e w3 ⟨rfl, hq3⟩
    have HQ3 := hide hq3
    clear hq3 HE
    go_wp2_with fail
    refine ⟨rfl, _, results_none (by rfl) _ _ _, ?_⟩
    exact ⟨rfl, QX.trans HN1.out (NewOr.refl _ _) HR1.out HB1.out HQ3.out⟩
  · have hd : decide (z ≤ p + 1) = false := decide_eq_false hc
    have es2 : stepQ q t ⟨6, s, v, p, r⟩ = againQ q t ⟨6, s, v, p, r⟩ 3 := by rw [es, if_neg hc]
    rw [es2]
    clear h hx ok es es2 hlen hcell hcl hword hz hc
    go_enter Try.func22, Try.ntmps22
    go_wp2_with fail
    refine HA.out.mono ?_
    rintro e w1 ⟨rfl, hm⟩
    obtain ⟨vc1, h1, hn1, hr1, hb1⟩ := QV.acc H.out hm hC'
    rw [HS.out] at h1
    have HE := hide (again_any 3 h1 HX.out HL.out HT0.out HT1.out)
    have HN1 := hide hn1; have HR1 := hide hr1; have HB1 := hide hb1
    clear hcs hgs HA hm k0 k1 k2 k3 k4 hf1 hg1s
    have hcs := fun i => Blk.cell h1.blk i
    have hgs := h1.blk.lt
    obtain ⟨k0, k1, k2, k3, k4⟩ := h1.cell HX.out
    dsimp only at k0 k1 k2 k3 k4
    have hg1s := h1.lt1.2
    clear h1 hn1 hr1 hb1
    go_wp2_with fail
    refine HE.out.mono ?_
    rintro e w3 ⟨rfl, hq3⟩
    have HQ3 := hide hq3
    clear hq3 HE
    go_wp2_with fail
    go_end0
    exact ⟨rfl, QX.trans HN1.out (NewOr.refl _ _) HR1.out HB1.out HQ3.out⟩
set_option maxHeartbeats 4000000 in
theorem step_4 (h : QV w base gq gm vw vg vc (.slice (some ⟨g1, 0, none⟩) n c1) vn q C) (hx : q.T[t]? = some ⟨4, s, v, p, r⟩) (ok : StepOk q ⟨4, s, v, p, r⟩) :
    Calls Try.prog 22 #[.pointer (some ⟨gq, 0, none⟩), .int .i64 t] w fun e w' => e = .returned (.tuple #[]) ∧ QX w base gq gm vw vg vc (.slice (some ⟨g1, 0, none⟩) n c1) vn (stepQ q t ⟨4, s, v, p, r⟩) w' := by
  have hcs := fun i => Blk.cell h.blk i
  have hgs := h.blk.lt
  obtain ⟨k0, k1, k2, k3, k4⟩ := h.cell hx
  dsimp only at k0 k1 k2 k3 k4
  have hf1 := fun i => h.free1 i
  have hg1s := h.lt1.2
  have hngq := h.ne1
  have htn : t < n := by have := len_of hx; rw [h.men.rdF.1]; exact this
  have ht2 : (t : Int) < (n : Int) := by omega
  have hp0 : 0 ≤ p := ok.p0
  have hp1 : p < q.size := ok.p1
  have hss := ok.s1
  have hlen := ok.len
  have hpw : IntKind.i64.wrap (2 + p) = 2 + p := IntWalk.i64_in _ (by omega)
  have hcell : ((CmT.cell ⟨4, s, v, p, r⟩ : Nat) : Int) = 2 + p := by unfold CmT.cell; dsimp only; omega
  have hcl : CmT.cell ⟨4, s, v, p, r⟩ < q.L.length := by unfold CmT.cell; dsimp only; omega
  have hC' : (cntAdd C t).length ≤ 64 := cntAdd_len _ h.c64
  have H := hide h; have HX := hide hx; have OK := hide ok
  obtain ⟨z, hz⟩ : ∃ z, q.L[CmT.cell ⟨4, s, v, p, r⟩]? = some z := ⟨q.L[CmT.cell ⟨4, s, v, p, r⟩]'hcl, List.getElem?_eq_getElem _⟩
  have hword := QT.word_of hz
  have h5 := h.put hx (y := ⟨5, s, v, p, r⟩) (j := 0) (u := .int .i64 5) (by decide) rfl
  rw [show t * 5 + 0 = t * 5 from rfl] at h5
  have x5 : (q.setT t ⟨5, s, v, p, r⟩).T[t]? = some ⟨5, s, v, p, r⟩ := get_set hx
  have H5 := hide h5; have X5 := hide x5; have HC' := hide hC'
  have HZ := hide hz
  by_cases hc : z = 0
  · have HA := hide (swap_any (w.setCell ⟨g1, t * 5, none⟩ (.int .i64 5)) base gm vw vg vc q.L [] C t _ z 0 1 1 true h5.mem h5.c64 (by omega) hz ⟨if_pos hc, by simpa using hc⟩)
    rw [hcell] at HA
    have HES := hide (show stepQ q t ⟨4, s, v, p, r⟩ = (q.setL (CmT.cell ⟨4, s, v, p, r⟩) 1).setT t ⟨6, s, v, p, r⟩ by rw [← hword] at hc; show (if q.word _ = 0 then _ else _) = _; rw [if_pos hc])
    clear h hx ok hlen hcell hcl hword hz h5 x5 hc hC'
    go_enter Try.func22, Try.ntmps22
    go_wp2_with fail
    refine HA.out.mono ?_
    rintro e w1 ⟨rfl, hm⟩
    obtain ⟨vc1, h1, hn1, hr1, hb1⟩ := QV.acc H5.out hm HC'.out
    have HN1 := hide hn1; have HR1 := hide hr1; have HB1 := hide hb1
    clear hcs hgs HA hm k0 k1 k2 k3 k4 hf1 hg1s
    obtain ⟨k0, k1, k2, k3, k4⟩ := h1.cell X5.out
    dsimp only at k0 k1 k2 k3 k4
    have hf1 := fun i => h1.free1 i
    have hg1s := h1.lt1.2
    have H1 := hide h1
    clear h1 hn1 hr1 hb1
    go_wp2_with fail
    go_end0
    refine ⟨rfl, ?_⟩
    rw [HES.out]
    have h6 := H1.out.put X5.out (y := ⟨6, s, v, p, r⟩) (j := 0) (u := .int .i64 6) (by decide) rfl
    rw [show t * 5 + 0 = t * 5 from rfl] at h6
    have e6 : ({ q.setT t ⟨5, s, v, p, r⟩ with L := q.L.set (CmT.cell ⟨4, s, v, p, r⟩) 1 } : QT).setT t ⟨6, s, v, p, r⟩ = (q.setL (CmT.cell ⟨4, s, v, p, r⟩) 1).setT t ⟨6, s, v, p, r⟩ := by simp [QT.setT, QT.setL]
    have h6' := e6 ▸ h6
    exact QX.cellOf H.out (QX.trans HN1.out (NewOr.refl _ _) HR1.out HB1.out (QX.cellOf H1.out h6'.stay))
  · have HA := hide (swap_any (w.setCell ⟨g1, t * 5, none⟩ (.int .i64 5)) base gm vw vg vc q.L [] C t _ z 0 1 z false h5.mem h5.c64 (by omega) hz ⟨if_neg hc, by simpa using hc⟩)
    rw [hcell] at HA
    have HES := hide (show stepQ q t ⟨4, s, v, p, r⟩ = q.setT t ⟨5, s, v, p, r⟩ by rw [← hword] at hc; show (if q.word _ = 0 then _ else _) = _; rw [if_neg hc])
    clear h hx ok hlen hcell hcl hword hz h5 x5 hc hC'
    go_enter Try.func22, Try.ntmps22
    go_wp2_with fail
    refine HA.out.mono ?_
    rintro e w1 ⟨rfl, hm⟩
    obtain ⟨vc1, h1, hn1, hr1, hb1⟩ := QV.acc H5.out hm HC'.out
    have HN1 := hide hn1; have HR1 := hide hr1; have HB1 := hide hb1
    clear hcs hgs HA hm k0 k1 k2 k3 k4 hf1 hg1s
    obtain ⟨k0, k1, k2, k3, k4⟩ := h1.cell X5.out
    dsimp only at k0 k1 k2 k3 k4
    have hf1 := fun i => h1.free1 i
    have hg1s := h1.lt1.2
    have H1 := hide h1
    clear h1 hn1 hr1 hb1
    go_wp2_with fail
    go_end0
    refine ⟨rfl, ?_⟩
    rw [HES.out]
    have h6 := H1.out
    rw [show ({ q.setT t ⟨5, s, v, p, r⟩ with L := q.L.set (CmT.cell ⟨4, s, v, p, r⟩) z } : QT) = q.setT t ⟨5, s, v, p, r⟩ by rw [set_same HZ.out]; rfl] at h6
    exact QX.cellOf H.out (QX.trans HN1.out (NewOr.refl _ _) HR1.out HB1.out h6.stay)
set_option maxHeartbeats 4000000 in
theorem step_2 (h : QV w base gq gm vw vg vc (.slice (some ⟨g1, 0, none⟩) n c1) vn q C) (hx : q.T[t]? = some ⟨2, s, v, p, r⟩) (ok : StepOk q ⟨2, s, v, p, r⟩) :
    Calls Try.prog 22 #[.pointer (some ⟨gq, 0, none⟩), .int .i64 t] w fun e w' => e = .returned (.tuple #[]) ∧ QX w base gq gm vw vg vc (.slice (some ⟨g1, 0, none⟩) n c1) vn (stepQ q t ⟨2, s, v, p, r⟩) w' := by
  have hcs := fun i => Blk.cell h.blk i
  have hgs := h.blk.lt
  obtain ⟨k0, k1, k2, k3, k4⟩ := h.cell hx
  dsimp only at k0 k1 k2 k3 k4
  have hf1 := fun i => h.free1 i
  have hg1s := h.lt1.2
  have hngq := h.ne1
  have htn : t < n := by have := len_of hx; rw [h.men.rdF.1]; exact this
  have ht2 : (t : Int) < (n : Int) := by omega
  have hp0 : 0 ≤ p := ok.p0
  have hp1 : p < q.size := ok.p1
  have hss := ok.s1
  have hlen := ok.len
  have hpw : IntKind.i64.wrap (2 + p) = 2 + p := IntWalk.i64_in _ (by omega)
  have hcell : ((CmT.cell ⟨2, s, v, p, r⟩ : Nat) : Int) = 2 + p := by unfold CmT.cell; dsimp only; omega
  have hcl : CmT.cell ⟨2, s, v, p, r⟩ < q.L.length := by unfold CmT.cell; dsimp only; omega
  have hC' : (cntAdd C t).length ≤ 64 := cntAdd_len _ h.c64
  have H := hide h; have HX := hide hx; have OK := hide ok
  obtain ⟨z, hz⟩ : ∃ z, q.L[CmT.cell ⟨2, s, v, p, r⟩]? = some z := ⟨q.L[CmT.cell ⟨2, s, v, p, r⟩]'hcl, List.getElem?_eq_getElem _⟩
  have hword := QT.word_of hz
  have hv0 : 0 ≤ v := ok.v0
  have hv1 : v ≤ 4294967295 := ok.v1
  have hu1 : IntKind.u64.wrap v = v := u64_in _ (by omega) (by omega)
  have hu2 : IntKind.u64.wrap (v + 2) = v + 2 := u64_in _ (by omega) (by omega)
  have HC' := hide hC'
  have HZ := hide hz
  have HL := hide ok.nl
  have HT0 := hide ok.t0; have HT1 := hide ok.t1
  by_cases hc : z = 0
  · have HA := hide (swap_any w.drew base gm vw vg vc q.L [] C t _ z 0 (v + 2) (v + 2) true (h.ext (selfW w).drew).mem h.c64 (by omega) hz ⟨if_pos hc, by simpa using hc⟩)
    rw [hcell] at HA
    have HES := hide (show stepQ q t ⟨2, s, v, p, r⟩ = endsQ (q.setL (CmT.cell ⟨2, s, v, p, r⟩) (v + 2)) t ⟨2, s, v, p, r⟩ 0 0 by rw [← hword] at hc; show (if q.word _ = 0 then _ else _) = _; rw [if_pos hc])
    clear h hx ok hlen hcell hcl hword hz hc hC'
    go_enter Try.func22, Try.ntmps22
    go_wp2_with fail
    go_region_law (first | (go_simp; go_at_call 28; (with_reducible refine HA.out.mono ?_); rintro e w1 ⟨rfl, hm⟩; go_wp2_with fail))
    all_goals
      obtain ⟨vc1, h1, hn1, hr1, hb1⟩ := QV.acc (H.out.ext (selfW w).drew) hm HC'.out
      have HE := hide (ends_any 0 0 h1 HX.out HL.out)
      have HN1 := hide hn1; have HR1 := hide hr1; have HB1 := hide hb1
      clear hcs hgs HA hm k0 k1 k2 k3 k4 hf1 hg1s h1 hn1 hr1 hb1
      go_wp2_with fail
      refine HE.out.mono ?_
      rintro e w3 ⟨rfl, hq3⟩
      have HQ3 := hide hq3
      clear hq3 HE
      go_wp2_with fail
      refine ⟨rfl, _, results_none (by rfl) _ _ _, ?_⟩
      rw [HES.out]
      exact ⟨rfl, QX.after (selfW w).drew H.out.base_le (QX.trans HN1.out (NewOr.refl _ _) HR1.out HB1.out HQ3.out)⟩
  · have HA := hide (swap_any w.drew base gm vw vg vc q.L [] C t _ z 0 (v + 2) z false (h.ext (selfW w).drew).mem h.c64 (by omega) hz ⟨if_neg hc, by simpa using hc⟩)
    rw [hcell] at HA
    have HES := hide (show stepQ q t ⟨2, s, v, p, r⟩ = againQ q t ⟨2, s, v, p, r⟩ 1 by rw [← hword] at hc; show (if q.word _ = 0 then _ else _) = _; rw [if_neg hc])
    clear h hx ok hlen hcell hcl hword hz hc hC'
    go_enter Try.func22, Try.ntmps22
    go_wp2_with fail
    go_region_law (first | (go_simp; go_at_call 28; (with_reducible refine HA.out.mono ?_); rintro e w1 ⟨rfl, hm⟩; go_wp2_with fail))
    all_goals
      obtain ⟨vc1, h1, hn1, hr1, hb1⟩ := QV.acc (H.out.ext (selfW w).drew) hm HC'.out
      rw [show ({ q with L := q.L.set (CmT.cell ⟨2, s, v, p, r⟩) z } : QT) = q from QT.setL_same HZ.out] at h1
      have HE := hide (again_any 1 h1 HX.out HL.out HT0.out HT1.out)
      have HN1 := hide hn1; have HR1 := hide hr1; have HB1 := hide hb1
      clear hcs hgs HA hm k0 k1 k2 k3 k4 hf1 hg1s h1 hn1 hr1 hb1
      go_wp2_with fail
      refine HE.out.mono ?_
      rintro e w3 ⟨rfl, hq3⟩
      have HQ3 := hide hq3
      clear hq3 HE
      go_wp2_with fail
      go_end0
      rw [HES.out]
      exact ⟨rfl, QX.after (selfW w).drew H.out.base_le (QX.trans HN1.out (NewOr.refl _ _) HR1.out HB1.out HQ3.out)⟩
end
end Go.Proofs.Ythghghoikaincaa
