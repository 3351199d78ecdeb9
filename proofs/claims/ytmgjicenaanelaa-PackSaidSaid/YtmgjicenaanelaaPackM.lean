/- The walk of stopgateref02.ReadCall. -/
import Derived.Test.YtmgjicenaanelaaPackN
import Derived.RegionTactic
namespace Go.Proofs.Ytmgjicenaanelaa
open Go.RowKit

theorem condC_next {n k : Nat} {L : List Int} {x : Int} (hx : L[k]? = some x) (h : ∀ (j : Nat) (y : Int), j < k → L[j]? = some y → condC n j y) (hc : condC n k x) : ∀ (j : Nat) (y : Int), j < k + 1 → L[j]? = some y → condC n j y := by
  intro j y hj hy
  by_cases hjk : j = k
  · subst hjk
    rw [hx] at hy; injection hy with hy; subst hy; exact hc
  · exact h j y (by omega) hy
theorem isCall_no {l0 l1 l2 l3 l4 : Int} {n k : Nat} {x : Int} (hz : ∀ z ∈ [l0, l1, l2, l3, l4], 0 ≤ z ∧ z < 18446744073709551616) (hn : l0 / 256 % 16 = (n : Int)) (hk : k < 3) (hx : [l1, l2, l3, l4][k]? = some x) (hc : ¬ condC n k x) : readB [l0, l1, l2, l3, l4] = false := by
  rcases h : readB [l0, l1, l2, l3, l4] with _ | _
  · rfl
  · exact absurd (((isCall_read hz hn).1 h).2.2.2.2.2 k x hk hx) hc

section
variable (w : World)
set_option maxHeartbeats 1000000 in
theorem rreadcall_main (ad : Addr) (c : Nat) (l0 l1 l2 l3 l4 ki ar va x1 x2 x3 rs : Int) (n : Nat) (_hcap : 5 ≤ c) (hc0 : w.cell? ad = some (.int .u64 l0)) (hc4 : w.cell? ⟨ad.block, ad.off + 4, none⟩ = some (.int .u64 l4)) (hlt : ad.block < w.heap.size)
    (HRR : Hid (RdI w .u64 (some ad) [l0, l1, l2, l3, l4])) (h04 : 0 ≤ l4) (h4 : l4 ≤ 4294967295) (h00 : 0 ≤ l0) (HZ : Hid (∀ z ∈ [l0, l1, l2, l3, l4], 0 ≤ z ∧ z < 18446744073709551616))
    (a1 : l0 % 256 = ki) (a2 : 1 ≤ ki) (a3 : ki ≤ 9) (a4 : IntKind.u64.wrap (l0.tdiv 65536) = x1) (a5 : 0 ≤ x1) (a6 : x1 % 65536 = ar) (_a7 : 0 ≤ ar) (_a8 : ar ≤ 65535) (b1 : IntKind.u64.wrap (l0.tdiv 4294967296) = va) (b2 : 0 ≤ va) (b3 : va ≤ 4294967295)
    (b4 : IntKind.u64.wrap (l0.tdiv 256) = x2) (b5 : 0 ≤ x2) (b6 : x2 % 16 = (n : Int)) (b7 : n ≤ 3) (b8 : IntKind.u64.wrap (l0.tdiv 4096) = x3) (b9 : 0 ≤ x3) (b10 : x3 % 16 = rs) (b11 : 0 ≤ rs) (b12 : rs ≤ 1)
    (HX : Hid (l0 / 65536 % 65536 = ar ∧ l0 / 4294967296 = va ∧ l0 / 256 % 16 = (n : Int) ∧ l0 / 4096 % 16 = rs ∧ l0 % 256 = ki)) :
    Calls Try.prog 39 #[.slice (some ad) 5 c] w fun e w' => RetL [l0, l1, l2, l3, l4] w e w' := by
  have hd2 : decide (4294967295 < l4) = false := decide_eq_false (by omega)
  have hk1 : decide (ki < 1) = false := decide_eq_false (by omega)
  have hk9 : decide (9 < ki) = false := decide_eq_false (by omega)
  have hr1 : decide (1 < rs) = false := decide_eq_false (by omega)
  have hn3 : decide ((3 : Int) < (n : Int)) = false := decide_eq_false (by omega)
  go_enter Try.func39, Try.ntmps39
  go_wp2_with fail
  clear a1 a4 a6 b1 b4 b6 b8 b10
  go_loopw [9] (fun i wr => ∃ (k : Nat) (v : Value) (cs : List (Int × Int × Int)), k ≤ 3 ∧ i = .int .i64 k ∧
      Hid (Blk wr w.heap.size 50 #[.int .i64 0, .int .i64 0, .int .i64 0, .bool false, .slice none 0 0]) ∧
      Hid (Blk wr (w.heap.size + 1) 50 #[.int .i64 ki, .int .i64 ar, .int .i64 va, .bool (rs == 1), v]) ∧
      Hid (OwnF wr w.heap.size 64 3 caseC v cs) ∧ Hid (cs.length = min k n) ∧ Hid (cs = (([l1, l2, l3, l4] : List Int).take (min k n)).map decC) ∧
      Hid (∀ (j : Nat) (y : Int), j < k → [l1, l2, l3, l4][j]? = some y → condC n j y) ∧ Hid (Below w.heap.size w wr) ∧ Hid (w.heap.size + 1 < wr.heap.size)) (fun i _ => 3 - (intOf i).toNat)
  case atStart =>
    refine ⟨0, _, [], Nat.zero_le _, rfl, ?_, ?_, OwnF.nil _ _ _ _ _, by simp [Hid], by simp [Hid], fun j y hj => by omega, moreW (moreW (selfW _) _) _, ?_⟩
    · exact ((Blk.new w _ _).alloc _)
    · exact (Blk.newAt _ _ _ (by simp))
    · simp [Hid]
  case round =>
    obtain ⟨k, v, cs, hk, rfl, HB0, HB1, HO, HCL, HCS, HCC, HBB, HSZ⟩ := hrel
    by_cases hlt2 : k < 3
    · obtain ⟨ad', x, h, hx, hcx⟩ := RdI.at_ (HRR.out.below HBB.out) (i := 1 + k) (by simp; omega)
      injection h with h; subst h
      have hx' : [l1, l2, l3, l4][k]? = some x := by rw [Nat.add_comm, List.getElem?_cons_succ] at hx; exact hx
      have hxb := HZ.out x (List.mem_of_getElem? hx)
      have HX1 := hide hx'
      have hx0 : 0 ≤ x := hxb.1
      have HXB := hide hxb
      clear hx hx' hxb
      by_cases hkn : n ≤ k
      · have hge : decide ((n : Int) ≤ (k : Int)) = true := decide_eq_true (by omega)
        have hmin : min (k + 1) n = min k n := by omega
        have HMIN := hide hmin; clear hmin
        by_cases hxz : x = 0
        · subst hxz
          have hcond : condC n k 0 := by unfold condC; rw [if_neg (by omega)]
          have HCC' := hide (condC_next HX1.out HCC.out hcond)
          clear hcond
          go_wp2_with fail
          go_roundw
          case rel => exact ⟨k + 1, v, cs, by omega, by go_num, HB0.out, HB1.out, HO.out, by rw [HMIN.out]; exact HCL.out, by rw [HMIN.out]; exact HCS.out, HCC'.out, HBB.out, HSZ.out⟩
          case measure => simp [intOf]; omega
        · have hne : (x != 0) = true := by simpa using hxz
          have HNO := hide (isCall_no HZ.out HX.out.2.2.1 hlt2 HX1.out (by unfold condC; rw [if_neg (by omega)]; exact hxz))
          have hc0' := fun i => Blk.cell HB0.out i
          have hf0' := fun i => Blk.free HB0.out i
          clear hxz
          go_wp2_with fail
          refine bodyPost_ret (v := ?_) ?_ rfl ?_
          rotate_left
          · obtain ⟨k0, k1, k2, k3, k4⟩ := set5B HB0.out (.int .i64 0) (.int .i64 0) (.int .i64 0) (.bool false) (.slice none 0 0)
            simp [results, Try.results39, go_sem, k0, k1, k2, k3, k4]
            rfl
          · exact RetL.no HNO.out (set5W HBB.out (Nat.le_refl _) _ _ _ _ _)
      · have hge : decide ((n : Int) ≤ (k : Int)) = false := decide_eq_false (by omega)
        have hmin : min (k + 1) n = k + 1 ∧ min k n = k := by omega
        have HMIN := hide hmin; clear hmin
        obtain ⟨d, hd, vv, hdec⟩ : ∃ d hd vv, decC x = (d, hd, vv) := ⟨_, _, _, rfl⟩
        have HONE : Hid (Calls Try.prog 57 #[.int .u64 x] wr fun e w' => e = .returned (.tuple #[.agg #[.int .i64 d, .int .i64 hd, .int .i64 vv], .bool (oneB x)]) ∧ Below wr.heap.size wr w') := by
          have h := one_any wr x hx0 HXB.out.2
          rw [hdec] at h
          exact h
        have HDEC := hide hdec; clear hdec
        rcases hon : oneB x with _ | _
        · rw [hon] at HONE
          have HNO := hide (isCall_no HZ.out HX.out.2.2.1 hlt2 HX1.out (by unfold condC; rw [if_pos (by omega), hon]; simp))
          clear hon
          go_wp2_with fail
          refine HONE.out.mono ?_
          rintro e w2 ⟨rfl, hb2⟩
          have hB0 := hide (HB0.out.extW hb2)
          have hbb := hide (extW HBB.out hb2)
          have hc0' := fun i => Blk.cell (HB0.out.extW hb2) i
          have hf0' := fun i => Blk.free (HB0.out.extW hb2) i
          have hsz' : w.heap.size < w2.heap.size := by have := hb2.size; have := HSZ.out; omega
          clear hb2
          go_wp2_with fail
          refine bodyPost_ret (v := ?_) ?_ rfl ?_
          rotate_left
          · obtain ⟨k0, k1, k2, k3, k4⟩ := set5B hB0.out (.int .i64 0) (.int .i64 0) (.int .i64 0) (.bool false) (.slice none 0 0)
            simp [results, Try.results39, go_sem, hsz', k0, k1, k2, k3, k4]
            rfl
          · exact RetL.no HNO.out (moreW (set5W hbb.out (Nat.le_refl _) _ _ _ _ _) _)
        · rw [hon] at HONE
          have HCC' := hide (condC_next HX1.out HCC.out (by unfold condC; rw [if_pos (by omega)]; exact hon))
          clear hon
          go_wp2_with fail
          refine HONE.out.mono ?_
          rintro e w2 ⟨rfl, hb2⟩
          have HB0' := hide (HB0.out.extW hb2); have HB1' := hide (HB1.out.extW hb2)
          have HO' := hide (HO.out.extW hb2)
          have HBB' := hide (extW HBB.out hb2)
          have hsz' : w.heap.size + 1 < w2.heap.size := by have := hb2.size; have := HSZ.out; omega
          have hcv : w2.cell? ⟨w.heap.size + 1, 4, none⟩ = some v := by rw [Blk.cell HB1'.out]; rfl
          clear hb2
          go_wp2_with (at_builtin; refine wpList_appF _ rfl _ _ 48 rfl w.heap.size 64 3 24 (.agg #[.int .i64 0, .int .i64 0, .int .i64 0]) caseC caseC_len caseC_one Try.underlying48 info_case rfl (by decide) _ cs rfl ((HO'.out.alloc _).alloc _) (some ⟨w2.heap.size + 1, 0, none⟩) 1 1 [(d, hd, vv)] rfl rfl (Rd.litAt (w2.alloc _) [.int .i64 d, .int .i64 hd, .int .i64 vv] _ ?c3) ?c4 ?c5 ?c6 ?_)
          case c3 => simp
          case c4 => have := HCL.out; simp; omega
          case c5 => have := HCL.out; simp; omega
          case c6 => simp; omega
          intro v2 w3 hown' hgrow _
          have hb' := ((HO'.out.alloc _).alloc _).below_step (moreW (moreW HBB'.out _) _) hgrow (by simp; omega) (Nat.le_refl _)
          have hsz3 : w.heap.size + 1 < w3.heap.size := by have := hgrow.size; simp at this; omega
          have hB0 := ((Blk.alloc HB0'.out _).alloc _).grown hgrow (HO'.out.other HB0'.out (by decide))
          have hB1 := ((Blk.alloc HB1'.out _).alloc _).grown hgrow (HO'.out.other HB1'.out (by decide))
          have hlen' : (cs ++ [(d, hd, vv)]).length = k + 1 := by have := HCL.out; have := HMIN.out.2; simp; omega
          have HLEN := hide hlen'
          obtain ⟨A2, c2, hv2, _⟩ := hown'.rd
          rw [hlen'] at hv2
          subst hv2
          clear hlen'
          have hc1 : w3.cell? ⟨w.heap.size + 1, 4, none⟩ = some v := by rw [Blk.cell hB1]; rfl
          have hf1 := hB1.free 4
          have HB0'' := hide (hB0.far (p := ⟨w.heap.size + 1, 4, none⟩) (by simp) (.slice A2 (k + 1) c2))
          have HB1'' : Hid (Blk (w3.setCell ⟨w.heap.size + 1, 4, none⟩ (.slice A2 (k + 1) c2)) (w.heap.size + 1) 50 #[.int .i64 ki, .int .i64 ar, .int .i64 va, .bool (rs == 1), .slice A2 (k + 1) c2]) := Blk.set_ hB1 4 _
          have HO'' := hide (hown'.far hB1 (by decide) 4 (.slice A2 (k + 1) c2))
          clear hB0 hB1 hown' hgrow
          go_wp2_with fail
          go_roundw
          case rel =>
            have HCS' : Hid (cs ++ [(d, hd, vv)] = (([l1, l2, l3, l4] : List Int).take (k + 1)).map decC) := by
              have h2 := HX1.out
              rw [Hid, HCS.out, HMIN.out.2, take_of h2, List.map_append, ← HDEC.out]; rfl
            have hb2 := hb'.setCell (p := ⟨w.heap.size + 1, 4, none⟩) (by simp) (.slice A2 (k + 1) c2)
            exact ⟨k + 1, _, _, by omega, by go_num, HB0''.out, HB1''.out, HO''.out, by rw [HMIN.out.1]; exact HLEN.out, by rw [HMIN.out.1]; exact HCS'.out, HCC'.out, hb2, by rw [Hid]; simp; omega⟩
          case measure => simp [intOf]; omega
    · have hk3 : k = 3 := by omega
      subst hk3
      have hmin : min 3 n = n := by omega
      have hcs : cs = rdCs [l0, l1, l2, l3, l4] := by
        rw [HCS.out, hmin]
        have e : rdN [l0, l1, l2, l3, l4] = (n : Int) := HX.out.2.2.1
        unfold rdCs
        rw [e]; rfl
      have hlen : cs.length = n := by rw [HCL.out, hmin]
      have hrb : readB [l0, l1, l2, l3, l4] = true := (isCall_read HZ.out HX.out.2.2.1).2 ⟨h4, by rw [HX.out.2.2.2.2]; exact a2, by rw [HX.out.2.2.2.2]; exact a3, b7, by rw [HX.out.2.2.2.1]; exact b12, fun i x hi hx => HCC.out i x hi hx⟩
      have hrs : (rs == 1) = (l0 / 4096 % 2 == 1) := by
        have := HX.out.2.2.2.1
        rw [Bool.eq_iff_iff]; simp only [beq_iff_eq]; omega
      have HCS2 := hide hcs; have HRB := hide hrb; have HRS := hide hrs
      have hc0' := fun i => Blk.cell HB0.out i
      have hf0' := fun i => Blk.free HB0.out i
      have hc1' := fun i => Blk.cell HB1.out i
      have hcl4 : wr.cell? ⟨ad.block, ad.off + 4, none⟩ = some (.int .u64 l4) := (HBB.out.cell (p := ⟨ad.block, ad.off + 4, none⟩) hlt).trans hc4
      have hltw : ad.block < wr.heap.size := Nat.lt_of_lt_of_le hlt HBB.out.size
      obtain ⟨A2, c2, hv, hrd⟩ := HO.out.rd
      rw [hlen] at hv
      subst hv
      have HRD := hide hrd; have HLEN := hide hlen
      clear hcs hrb hrs hrd hmin hlen hc0 hc4
      go_wp2_with fail
      go_region
      all_goals
        go_wp2_with fail
        refine bodyPost_ret (v := ?_) ?_ rfl ?_
        rotate_left
        · obtain ⟨k0, k1, k2, k3, k4⟩ := set5B HB0.out (.int .i64 ki) (.int .i64 ar) (.int .i64 va) (.bool (rs == 1)) (.slice A2 n c2)
          simp [results, Try.results39, go_sem, k0, k1, k2, k3, k4]
          rfl
        · unfold RetL qK qA qV qD qC qP
          simp only [HRB.out, if_true]
          have e0 : ([l0, l1, l2, l3, l4] : List Int).getD 0 0 = l0 := rfl
          have e4 : ([l0, l1, l2, l3, l4] : List Int).getD 4 0 = l4 := rfl
          rw [e0, e4, HX.out.2.2.2.2, HX.out.1, HX.out.2.1, ← HRS.out, ← HCS2.out]
          refine ⟨⟨A2, c2, by rw [HLEN.out], ?_⟩, below_drewN (n := 1) (set5W HBB.out (Nat.le_refl _) _ _ _ _ _)⟩
          exact (set5R HO.out HB0.out (by decide) _ _ _ _ _).drew ⟨1, rfl⟩

set_option maxHeartbeats 1000000 in
theorem rreadcall_any (A : Option Addr) (c : Nat) (l : List Int) (hcap : l.length ≤ c) (hz : ∀ z ∈ l, 0 ≤ z ∧ z < 18446744073709551616) (hr : RdI w .u64 A l) :
    Calls Try.prog 39 #[.slice A l.length c] w fun e w' => RetL l w e w' := by
  by_cases h5 : l.length = 5
  · match l, h5 with
    | [l0, l1, l2, l3, l4], _ =>
      obtain ⟨ad, rfl, hc0⟩ := hr 0 (.int .u64 l0) rfl
      obtain ⟨_, h, hc4⟩ := hr 4 (.int .u64 l4) rfl
      injection h with h; subst h
      rw [add_zero] at hc0
      rw [add_lit _ _ (by decide)] at hc4
      have hlt := cell_lt hc0
      have hb0 := hz l0 (by simp)
      have hb4 := hz l4 (by simp)
      have HRR := hide hr
      have HZ := hide hz
      have h04 : 0 ≤ l4 := hb4.1
      have h00 : 0 ≤ l0 := hb0.1
      have t1 : l0.tdiv 65536 = l0 / 65536 := Int.tdiv_eq_ediv_of_nonneg h00
      have t2 : l0.tdiv 4294967296 = l0 / 4294967296 := Int.tdiv_eq_ediv_of_nonneg h00
      have t3 : l0.tdiv 256 = l0 / 256 := Int.tdiv_eq_ediv_of_nonneg h00
      have t4 : l0.tdiv 4096 = l0 / 4096 := Int.tdiv_eq_ediv_of_nonneg h00
      obtain ⟨ki, a1, a2, a3⟩ : ∃ ki, l0 % 256 = ki ∧ 0 ≤ ki ∧ ki ≤ 255 := ⟨_, rfl, by omega, by omega⟩
      obtain ⟨x1, a4, a5, a5'⟩ : ∃ x1, IntKind.u64.wrap (l0.tdiv 65536) = x1 ∧ 0 ≤ x1 ∧ l0 / 65536 = x1 := ⟨_, rfl, by rw [t1, IntKind.wrap_u64]; omega, by rw [t1, IntKind.wrap_u64]; omega⟩
      obtain ⟨ar, a6, a7, a8⟩ : ∃ ar, x1 % 65536 = ar ∧ 0 ≤ ar ∧ ar ≤ 65535 := ⟨_, rfl, by omega, by omega⟩
      obtain ⟨va, b1, b2, b3, b3'⟩ : ∃ va, IntKind.u64.wrap (l0.tdiv 4294967296) = va ∧ 0 ≤ va ∧ va ≤ 4294967295 ∧ l0 / 4294967296 = va := ⟨_, rfl, by rw [t2, IntKind.wrap_u64]; omega, by rw [t2, IntKind.wrap_u64]; omega, by rw [t2, IntKind.wrap_u64]; omega⟩
      obtain ⟨x2, b4, b5, b5'⟩ : ∃ x2, IntKind.u64.wrap (l0.tdiv 256) = x2 ∧ 0 ≤ x2 ∧ l0 / 256 = x2 := ⟨_, rfl, by rw [t3, IntKind.wrap_u64]; omega, by rw [t3, IntKind.wrap_u64]; omega⟩
      obtain ⟨n, b6, b7⟩ : ∃ n : Nat, x2 % 16 = (n : Int) ∧ n ≤ 15 := ⟨(x2 % 16).toNat, by omega, by omega⟩
      obtain ⟨x3, b8, b9, b9'⟩ : ∃ x3, IntKind.u64.wrap (l0.tdiv 4096) = x3 ∧ 0 ≤ x3 ∧ l0 / 4096 = x3 := ⟨_, rfl, by rw [t4, IntKind.wrap_u64]; omega, by rw [t4, IntKind.wrap_u64]; omega⟩
      obtain ⟨rs, b10, b11⟩ : ∃ rs, x3 % 16 = rs ∧ 0 ≤ rs := ⟨_, rfl, by omega⟩
      have HX : Hid (l0 / 65536 % 65536 = ar ∧ l0 / 4294967296 = va ∧ l0 / 256 % 16 = (n : Int) ∧ l0 / 4096 % 16 = rs ∧ l0 % 256 = ki) := ⟨by rw [a5', a6], b3', by rw [b5', b6], by rw [b9', b10], a1⟩
      clear t1 t2 t3 t4 a5' b3' b5' b9' hz hr hb0 hb4
      by_cases hok : 1 ≤ ki ∧ ki ≤ 9 ∧ n ≤ 3 ∧ rs ≤ 1 ∧ l4 ≤ 4294967295
      · obtain ⟨g1, g2, g3, g4, g5⟩ := hok
        exact rreadcall_main w ad c l0 l1 l2 l3 l4 ki ar va x1 x2 x3 rs n hcap hc0 hc4 hlt HRR h04 g5 h00 HZ a1 g1 g2 a4 a5 a6 a7 a8 b1 b2 b3 b4 b5 b6 g3 b8 b9 b10 b11 g4 HX
      · have hno : readB [l0, l1, l2, l3, l4] = false := by
          rcases h : readB [l0, l1, l2, l3, l4] with _ | _
          · rfl
          · obtain ⟨c1, c2, c3, c4, c5, _⟩ := (isCall_read HZ.out HX.out.2.2.1).1 h
            rw [HX.out.2.2.2.2] at c2 c3
            rw [HX.out.2.2.2.1] at c5
            exact absurd ⟨c2, c3, c4, c5, c1⟩ hok
        have HNO := hide hno
        clear hno
        by_cases h4 : 4294967295 < l4
        · clear hok
          go_enter Try.func39, Try.ntmps39
          go_wp2_with fail
          refine bodyPost_ret (v := ?_) ?_ rfl ?_
          rotate_left
          · simp [results, Try.results39, go_sem]
            rfl
          · exact RetL.no HNO.out (moreW (selfW _) _)
        have hd2 : decide (4294967295 < l4) = false := decide_eq_false (by omega)
        by_cases hk1 : ki < 1
        · clear hok
          go_enter Try.func39, Try.ntmps39
          go_wp2_with fail
          refine bodyPost_ret (v := ?_) ?_ rfl ?_
          rotate_left
          · simp [results, Try.results39, go_sem]
            rfl
          · exact RetL.no HNO.out (moreW (moreW (selfW _) _) _)
        have hk1' : decide (ki < 1) = false := decide_eq_false hk1
        by_cases hk9 : 9 < ki
        · clear hok
          go_enter Try.func39, Try.ntmps39
          go_wp2_with fail
          refine bodyPost_ret (v := ?_) ?_ rfl ?_
          rotate_left
          · simp [results, Try.results39, go_sem]
            rfl
          · exact RetL.no HNO.out (moreW (moreW (selfW _) _) _)
        have hk9' : decide (9 < ki) = false := decide_eq_false hk9
        by_cases hn3 : (3 : Int) < (n : Int)
        · clear hok
          go_enter Try.func39, Try.ntmps39
          go_wp2_with fail
          refine bodyPost_ret (v := ?_) ?_ rfl ?_
          rotate_left
          · simp [results, Try.results39, go_sem]
            rfl
          · exact RetL.no HNO.out (moreW (moreW (selfW _) _) _)
        have hn3' : decide ((3 : Int) < (n : Int)) = false := decide_eq_false hn3
        have hr1 : 1 < rs := by omega
        clear hok
        go_enter Try.func39, Try.ntmps39
        go_wp2_with fail
        refine bodyPost_ret (v := ?_) ?_ rfl ?_
        rotate_left
        · simp [results, Try.results39, go_sem]
          rfl
        · exact RetL.no HNO.out (moreW (moreW (selfW _) _) _)
  · have hne : ((l.length : Int) != 5) = true := by simp; omega
    have HNO := hide (readB_len h5)
    clear h5 hz
    go_enter Try.func39, Try.ntmps39
    go_wp2
    refine bodyPost_ret (v := ?_) ?_ rfl ?_
    rotate_left
    · simp [results, Try.results39, go_sem]
      rfl
    · exact RetL.no HNO.out (moreW (selfW _) _)
end
end Go.Proofs.Ytmgjicenaanelaa
