/- The walks of stopgateref02.one, pack.ReadCall, stopgateref02.ReadCall. -/
import Derived.Test.YtmgjicenaanelaaPackT
namespace Go.Proofs.Ytmgjicenaanelaa
open Go.RowKit

/-- a case out of its word -/
def decC (x : Int) : Int × Int × Int := (x % 256, x / 256 % 65536, x / 4294967296)
def oneB (x : Int) : Bool := (x % 256 == 1 || x % 256 == 2) && x / 16777216 % 256 == 0

theorem one_ret {a b c a' b' c' : Int} {p q : Bool} (h1 : a = a') (h2 : b = b') (h3 : c = c') (h4 : p = q) :
    Ending.returned (.tuple #[.agg #[.int .i64 a, .int .i64 b, .int .i64 c], .bool p]) = .returned (.tuple #[.agg #[.int .i64 a', .int .i64 b', .int .i64 c'], .bool q]) := by rw [h1, h2, h3, h4]

section
variable (w : World)
set_option maxHeartbeats 1000000 in
theorem one_any (x : Int) (h0 : 0 ≤ x) (h1 : x < 18446744073709551616) :
    Calls Try.prog 57 #[.int .u64 x] w fun e w' => e = .returned (.tuple #[.agg #[.int .i64 (decC x).1, .int .i64 (decC x).2.1, .int .i64 (decC x).2.2], .bool (oneB x)]) ∧ Below w.heap.size w w' := by
  have H1 := hide h1; clear h1
  go_enter Try.func57, Try.ntmps57
  go_wp2
  all_goals
    refine bodyPost_ret (v := ?_) ?_ rfl ?_
    rotate_left
    · simp [results, Try.results57, go_sem]
      rfl
    · refine ⟨?_, moreW (moreW (selfW _) _) _⟩
      have h1 := H1.out
      have e1 : IntKind.u64.wrap (x.tdiv 256) = x / 256 := by rw [Int.tdiv_eq_ediv_of_nonneg h0, IntKind.wrap_u64]; omega
      have e2 : IntKind.u64.wrap (x.tdiv 4294967296) = x / 4294967296 := by rw [Int.tdiv_eq_ediv_of_nonneg h0, IntKind.wrap_u64]; omega
      have e3 : IntKind.u64.wrap (x.tdiv 16777216) = x / 16777216 := by rw [Int.tdiv_eq_ediv_of_nonneg h0, IntKind.wrap_u64]; omega
      have e4 : (x / 256).tmod 65536 = x / 256 % 65536 := Int.tmod_eq_emod_of_nonneg (by omega)
      have e5 : (x / 16777216).tmod 256 = x / 16777216 % 256 := Int.tmod_eq_emod_of_nonneg (by omega)
      simp only [e1, e2, e3, e4, e5]
      refine one_ret ?_ ?_ ?_ ?_
      · simp only [decC] <;> omega
      · rw [i64_wrap _ (by omega)]; rfl
      · rw [i64_wrap _ (by omega)]; rfl
      · simp_all [oneB]

theorem set5W {a w : World} (h : Below a.heap.size a w) {g : Nat} (hg : a.heap.size ≤ g) (u0 u1 u2 u3 u4 : Value) :
    Below a.heap.size a (((((w.setCell ⟨g, 0, none⟩ u0).setCell ⟨g, 1, none⟩ u1).setCell ⟨g, 2, none⟩ u2).setCell ⟨g, 3, none⟩ u3).setCell ⟨g, 4, none⟩ u4) :=
  ((((h.setCell hg _).setCell hg _).setCell hg _).setCell hg _).setCell hg _
theorem set5B {w : World} {g : Nat} {t : TypeId} {a0 a1 a2 a3 a4 : Value} (h : Blk w g t #[a0, a1, a2, a3, a4]) (u0 u1 u2 u3 u4 : Value) :
    (w.setCell ⟨g, 0, none⟩ u0).cell? ⟨g, 0, none⟩ = some u0 ∧ ((w.setCell ⟨g, 0, none⟩ u0).setCell ⟨g, 1, none⟩ u1).cell? ⟨g, 1, none⟩ = some u1 ∧
      (((w.setCell ⟨g, 0, none⟩ u0).setCell ⟨g, 1, none⟩ u1).setCell ⟨g, 2, none⟩ u2).cell? ⟨g, 2, none⟩ = some u2 ∧
      ((((w.setCell ⟨g, 0, none⟩ u0).setCell ⟨g, 1, none⟩ u1).setCell ⟨g, 2, none⟩ u2).setCell ⟨g, 3, none⟩ u3).cell? ⟨g, 3, none⟩ = some u3 ∧
      (((((w.setCell ⟨g, 0, none⟩ u0).setCell ⟨g, 1, none⟩ u1).setCell ⟨g, 2, none⟩ u2).setCell ⟨g, 3, none⟩ u3).setCell ⟨g, 4, none⟩ u4).cell? ⟨g, 4, none⟩ = some u4 := by
  have h0 := h.set_ 0 u0
  have h1 := h0.set_ 1 u1
  have h2 := h1.set_ 2 u2
  have h3 := h2.set_ 3 u3
  have h4 := h3.set_ 4 u4
  exact ⟨by rw [h0.cell]; rfl, by rw [h1.cell]; rfl, by rw [h2.cell]; rfl, by rw [h3.cell]; rfl, by rw [h4.cell]; rfl⟩
theorem set5R {α : Type} {w : World} {base m : Nat} {e t : TypeId} {f : α → List Value} {A : Option Addr} {n c : Nat} {cs : List α} {g : Nat} {a0 a1 a2 a3 a4 : Value}
    (o : OwnF w base e m f (.slice A n c) cs) (h : Blk w g t #[a0, a1, a2, a3, a4]) (hne : e ≠ t) (u0 u1 u2 u3 u4 : Value) :
    RdF (((((w.setCell ⟨g, 0, none⟩ u0).setCell ⟨g, 1, none⟩ u1).setCell ⟨g, 2, none⟩ u2).setCell ⟨g, 3, none⟩ u3).setCell ⟨g, 4, none⟩ u4) f A cs := by
  have o0 := o.far h hne 0 u0
  have h0 := h.set_ 0 u0
  have o1 := o0.far h0 hne 1 u1
  have h1 := h0.set_ 1 u1
  have o2 := o1.far h1 hne 2 u2
  have h2 := h1.set_ 2 u2
  have o3 := o2.far h2 hne 3 u3
  have h3 := h2.set_ 3 u3
  have o4 := o3.far h3 hne 4 u4
  obtain ⟨A9, c9, hv9, hr9⟩ := o4.rd
  injection hv9 with hv9
  rw [hv9]
  exact hr9
/-- what words read as -/
def rdN (l : List Int) : Int := l.getD 0 0 / 256 % 16
def rdCs (l : List Int) : List (Int × Int × Int) := ((l.drop 1).take (rdN l).toNat).map decC
def readB (l : List Int) : Bool := decide (l.length = 5) && decide (rdN l ≤ 3) && decide (l.getD 4 0 ≤ 4294967295) &&
  (callL (l.getD 0 0 % 256) (l.getD 0 0 / 65536 % 65536) (l.getD 0 0 / 4294967296) (l.getD 0 0 / 4096 % 2 == 1) (rdCs l) (l.getD 4 0) == l)
def qK (l : List Int) : Int := if readB l = true then l.getD 0 0 % 256 else 0
def qA (l : List Int) : Int := if readB l = true then l.getD 0 0 / 65536 % 65536 else 0
def qV (l : List Int) : Int := if readB l = true then l.getD 0 0 / 4294967296 else 0
def qD (l : List Int) : Bool := if readB l = true then l.getD 0 0 / 4096 % 2 == 1 else false
def qC (l : List Int) : List (Int × Int × Int) := if readB l = true then rdCs l else []
def qP (l : List Int) : Int := if readB l = true then l.getD 4 0 else 0
/-- the call returns a call, a phase, and whether they are -/
def RetQ (ki ar va : Int) (df : Bool) (cs : List (Int × Int × Int)) (ph : Int) (ok : Bool) (w : World) (e : Ending) (w' : World) : Prop :=
  (∃ B d, e = .returned (.tuple #[.agg #[.int .i64 ki, .int .i64 ar, .int .i64 va, .bool df, .slice B cs.length d], .int .i64 ph, .bool ok]) ∧ RdF w' caseC B cs) ∧ Below w.heap.size w w'
/-- what of words comes out of ReadCall -/
def RetL (l : List Int) (w : World) (e : Ending) (w' : World) : Prop := RetQ (qK l) (qA l) (qV l) (qD l) (qC l) (qP l) (readB l) w e w'
theorem RetL.no {l : List Int} {w w' : World} (h : readB l = false) (hb : Below w.heap.size w w') : RetL l w (.returned (.tuple #[.agg #[.int .i64 0, .int .i64 0, .int .i64 0, .bool false, .slice none 0 0], .int .i64 0, .bool false])) w' := by
  unfold RetL qK qA qV qD qC qP
  simp only [h, Bool.false_eq_true, if_false]
  exact ⟨⟨none, 0, rfl, RdF.nil _ _ _⟩, hb⟩
theorem readB_many {l : List Int} (h : 3 < rdN l) : readB l = false := by unfold readB; rw [decide_eq_false (p := rdN l ≤ 3) (by omega)]; simp
theorem readB_big {l : List Int} (h : 4294967295 < l.getD 4 0) : readB l = false := by unfold readB; rw [decide_eq_false (p := l.getD 4 0 ≤ 4294967295) (by omega)]; simp
theorem readB_len {l : List Int} (h : ¬ l.length = 5) : readB l = false := by unfold readB; rw [decide_eq_false h]; simp

theorem callL_len (ki ar va : Int) (df : Bool) (cs : List (Int × Int × Int)) (ph : Int) : (callL ki ar va df cs ph).length ≤ 17592186044416 := by
  unfold callL
  split
  · rename_i h
    have h3 := h.1
    simp only [fitsQ, Bool.and_eq_true, decide_eq_true_eq] at h3
    simp; omega
  · simp
theorem info_case : (Try.prog.info? 64).map (fun i => (i.zero, i.size, i.bytes)) = some (some (.agg #[.int .i64 0, .int .i64 0, .int .i64 0]), 3, 24) := by kernel_rfl

set_option maxHeartbeats 4000000 in
theorem readcall_main (ad : Addr) (c : Nat) (l0 l1 l2 l3 l4 ki ar va db : Int) (n : Nat) (hcap : 5 ≤ c) (hc0 : w.cell? ad = some (.int .u64 l0)) (hc4 : w.cell? ⟨ad.block, ad.off + 4, none⟩ = some (.int .u64 l4)) (hlt : ad.block < w.heap.size)
    (HTL : Hid (RdI w .u64 (some ⟨ad.block, ad.off + 1, none⟩) [l1, l2, l3, l4])) (HRR : Hid (RdI w .u64 (some ad) [l0, l1, l2, l3, l4])) (a1 : bits BinOp.and IntKind.u64 l0 255 = ki) (a2 : 0 ≤ ki) (a3 : ki ≤ 255)
    (a4 : bits BinOp.and IntKind.u64 (l0 / 65536) 65535 = ar) (a5 : 0 ≤ ar) (a6 : ar ≤ 65535) (a8 : l0 / 4294967296 = va) (a9 : 0 ≤ va) (a10 : va ≤ 4294967295)
    (b1 : bits BinOp.and IntKind.u64 (l0 / 4096) 1 = db) (b3 : bits BinOp.and IntKind.u64 (l0 / 256) 15 = (n : Int)) (h3 : n ≤ 3) (h04 : 0 ≤ l4) (h4 : l4 ≤ 4294967295) (_h00 : 0 ≤ l0)
    (hz : ∀ z ∈ [l0, l1, l2, l3, l4], 0 ≤ z ∧ z < 18446744073709551616)
    (a0 : l0 % 256 = ki) (a7 : l0 / 65536 % 65536 = ar) (a11 : l0 / 4294967296 = va) (b2 : l0 / 4096 % 2 = db) (b5 : l0 / 256 % 16 = (n : Int)) :
    Calls Try.prog 38 #[.slice (some ad) 5 c] w fun e w' => RetL [l0, l1, l2, l3, l4] w e w' := by
  have HZ := hide hz
  have A0 := hide a0; have A7 := hide a7; have A8 := hide a11; have B2 := hide b2; have B5 := hide b5
  clear hz a0 a7 a11 b2 b5
  have hd1 : decide ((3 : Int) < (n : Int)) = false := by simp; omega
  have hd2 : decide (4294967295 < l4) = false := decide_eq_false (by omega)
  go_enter Try.func38, Try.ntmps38
  go_wp2
  go_quiet (fail)
  go_wp2_with fail
  rw [Nat.add_sub_cancel_left]
  go_loopw [52] (fun i wr => ∃ (k : Nat) (v : Value) (cs : List (Int × Int × Int)), k ≤ n ∧ i = .int .i64 k ∧
      Hid (Blk wr w.heap.size 50 #[.int .i64 0, .int .i64 0, .int .i64 0, .bool false, .slice none 0 0]) ∧
      Hid (Blk wr (w.heap.size + 1) 50 #[.int .i64 ki, .int .i64 ar, .int .i64 va, .bool (db == 1), v]) ∧
      Hid (OwnF wr w.heap.size 64 3 caseC v cs) ∧ Hid (cs.length = k) ∧ Hid (cs = (([l1, l2, l3, l4] : List Int).take k).map decC) ∧ Below w.heap.size w wr ∧ w.heap.size + 1 < wr.heap.size) (fun i _ => n - (intOf i).toNat)
  case atStart =>
    refine ⟨0, _, [], Nat.zero_le _, rfl, ?_, ?_, OwnF.nil _ _ _ _ _, rfl, rfl, below_drewN (moreW (moreW (selfW _) _) _) _, ?_⟩
    · exact (((Blk.new w _ _).alloc _).drewN _)
    · exact (Blk.newAt _ _ _ (by simp)).drewN _
    · simp
  case round =>
    obtain ⟨k, v, cs, hk, rfl, HB0, HB1, HO, HCL, HCS, hb, hsz⟩ := hrel
    have hcv : wr.cell? ⟨w.heap.size + 1, 4, none⟩ = some v := by rw [Blk.cell HB1.out]; rfl
    by_cases hlt2 : k < n
    · obtain ⟨_, x, h, hx, hcx⟩ := RdI.at_ (HTL.out.below hb) (i := k) (by simp; omega)
      injection h with h; subst h
      rw [add_mk] at hcx
      have hxb := HZ.out x (List.mem_cons_of_mem _ (List.mem_of_getElem? hx))
      obtain ⟨d, x1, x2, x3, x4⟩ : ∃ d, bits BinOp.and IntKind.u64 x 255 = d ∧ 0 ≤ d ∧ d ≤ 255 ∧ x % 256 = d := ⟨_, and255 _ (by omega) (by omega), by omega, by omega, rfl⟩
      obtain ⟨hd, x5, x6, x7, x8⟩ : ∃ hd, bits BinOp.and IntKind.u64 (x / 256) 65535 = hd ∧ 0 ≤ hd ∧ hd ≤ 65535 ∧ x / 256 % 65536 = hd := ⟨_, and65535 _ (by omega) (by omega), by omega, by omega, rfl⟩
      obtain ⟨vv, x9, y1, y2⟩ : ∃ vv, x / 4294967296 = vv ∧ 0 ≤ vv ∧ vv ≤ 4294967295 := ⟨_, rfl, by omega, by omega⟩
      have hdec : decC x = (d, hd, vv) := by unfold decC; rw [x4, x8, x9]
      have HDEC := hide hdec; have HX := hide hx
      have hx0 : 0 ≤ x := hxb.1
      clear hdec hx x4 x8 hxb
      go_wp2_with (at_builtin; refine wpList_appF _ rfl _ _ 48 rfl w.heap.size 64 3 24 (.agg #[.int .i64 0, .int .i64 0, .int .i64 0]) caseC caseC_len caseC_one Try.underlying48 info_case rfl (by decide) _ cs rfl (HO.out.alloc _) (some ⟨wr.heap.size, 0, none⟩) 1 1 [(d, hd, vv)] rfl rfl (Rd.lit wr [.int .i64 d, .int .i64 hd, .int .i64 vv] _) ?c4 ?c5 ?c6 ?_)
      case c4 => have := HCL.out; simp; omega
      case c5 => have := HCL.out; simp; omega
      case c6 => simp; omega
      intro v2 w2 hown' hgrow _
      have hb' := (HO.out.alloc _).below_step (moreW hb _) hgrow (by simp; omega) (Nat.le_refl _)
      have hsz' : w.heap.size + 1 < w2.heap.size := by have := hgrow.size; simp at this; omega
      have hB0 := (Blk.alloc HB0.out _).grown hgrow (HO.out.other HB0.out (by decide))
      have hB1 := (Blk.alloc HB1.out _).grown hgrow (HO.out.other HB1.out (by decide))
      have hlen' : (cs ++ [(d, hd, vv)]).length = k + 1 := by have := HCL.out; simp; omega
      have HLEN := hide hlen'
      obtain ⟨A2, c2, hv2, _⟩ := hown'.rd
      rw [hlen'] at hv2
      subst hv2
      clear hlen'
      have hc1 : w2.cell? ⟨w.heap.size + 1, 4, none⟩ = some v := by rw [Blk.cell hB1]; rfl
      have hf1 := hB1.free 4
      have HB0' := hide (hB0.far (p := ⟨w.heap.size + 1, 4, none⟩) (by simp) (.slice A2 (k + 1) c2))
      have HB1' : Hid (Blk (w2.setCell ⟨w.heap.size + 1, 4, none⟩ (.slice A2 (k + 1) c2)) (w.heap.size + 1) 50 #[.int .i64 ki, .int .i64 ar, .int .i64 va, .bool (db == 1), .slice A2 (k + 1) c2]) := Blk.set_ hB1 4 _
      have HO' := hide (hown'.far hB1 (by decide) 4 (.slice A2 (k + 1) c2))
      clear hB0 hB1 hown' hgrow
      go_wp2_with fail
      go_roundw
      case rel =>
        have HCS' : Hid (cs ++ [(d, hd, vv)] = (([l1, l2, l3, l4] : List Int).take (k + 1)).map decC) := by
          rw [Hid, HCS.out, take_of HX.out, List.map_append, ← HDEC.out]; rfl
        have hb2 := hb'.setCell (p := ⟨w.heap.size + 1, 4, none⟩) (by simp) (.slice A2 (k + 1) c2)
        exact ⟨k + 1, _, _, by omega, by go_num, HB0', HB1', HO', HLEN, HCS', hb2, by simp; omega⟩
      case measure => simp [intOf]; omega
    · have hkn : k = n := by omega
      subst hkn
      have hcs : cs = rdCs [l0, l1, l2, l3, l4] := by
        rw [HCS.out]
        have e : rdN [l0, l1, l2, l3, l4] = (k : Int) := B5.out
        unfold rdCs
        rw [e]; rfl
      have hrb : readB [l0, l1, l2, l3, l4] = (callL ki ar va (db == 1) cs l4 == [l0, l1, l2, l3, l4]) := by
        unfold readB
        rw [decide_eq_true (p := rdN [l0, l1, l2, l3, l4] ≤ 3) (by have e : rdN [l0, l1, l2, l3, l4] = (k : Int) := B5.out; rw [e]; omega),
          decide_eq_true (p := ([l0, l1, l2, l3, l4] : List Int).getD 4 0 ≤ 4294967295) (by simpa using h4), ← hcs, ← A0.out, ← A7.out, ← A8.out, ← B2.out]
        simp
      have HCS2 := hide hcs; have HRB := hide hrb
      clear hcs hrb HCS hd1 hd2
      have hc0' := fun i => Blk.cell HB0.out i
      have hf0' := fun i => Blk.free HB0.out i
      have hc1' := fun i => Blk.cell HB1.out i
      obtain ⟨A2, c2, hv, hrd⟩ := HO.out.rd
      rw [HCL.out] at hv
      subst hv
      have HRD := hide hrd
      clear hrd hcv
      have CALL := call_any wr ki ar va (db == 1) A2 c2 cs l4 (by rw [HCL.out]; omega) HRD.out
      rw [HCL.out] at CALL
      have HCALL := hide CALL; clear CALL
      have hbs : w.heap.size < wr.heap.size := by omega
      go_wp2_with fail
      refine HCALL.out.mono ?_
      rintro e w2 ⟨⟨B, d, rfl, _, hrd2⟩, hb2⟩
      have HSAME := hide (same_any w2 B (some ad) d c (callL ki ar va (db == 1) cs l4) [l0, l1, l2, l3, l4] (callL_len _ _ _ _ _ _) (by simp) hrd2 ((HRR.out.below hb).below hb2))
      have hB0 := hide (HB0.out.extW hb2)
      have hB1 := hide (HB1.out.extW hb2)
      have hc0'' := fun i => Blk.cell hB0.out i
      have hf0'' := fun i => Blk.free hB0.out i
      have hc1'' := fun i => Blk.cell hB1.out i
      have hrd3 := hide (HRD.out.below hb2)
      have hbs2 : w.heap.size < w2.heap.size := by have := hb2.size; omega
      clear hc0' hf0' hc1' hrd2
      rcases hok : (callL ki ar va (db == 1) cs l4 == [l0, l1, l2, l3, l4]) with _ | _
      · rw [hok] at HSAME HRB
        clear hok
        go_wp2_with fail
        refine HSAME.out.mono ?_
        rintro e w' ⟨rfl, rfl⟩
        go_wp2_with fail
        refine bodyPost_ret (v := ?_) ?_ rfl ?_
        rotate_left
        · obtain ⟨k0, k1, k2, k3, k4⟩ := set5B hB0.out (.int .i64 0) (.int .i64 0) (.int .i64 0) (.bool false) (.slice none 0 0)
          simp [results, Try.results38, go_sem, k0, k1, k2, k3, k4]
          rfl
        · exact RetL.no HRB.out (set5W (extW hb hb2) (Nat.le_refl _) _ _ _ _ _)
      · rw [hok] at HSAME HRB
        clear hok
        go_wp2_with fail
        refine HSAME.out.mono ?_
        rintro e w' ⟨rfl, rfl⟩
        go_wp2_with fail
        refine bodyPost_ret (v := ?_) ?_ rfl ?_
        rotate_left
        · obtain ⟨k0, k1, k2, k3, k4⟩ := set5B hB0.out (.int .i64 ki) (.int .i64 ar) (.int .i64 va) (.bool (db == 1)) (.slice A2 k c2)
          simp [results, Try.results38, go_sem, k0, k1, k2, k3, k4]
          rfl
        · unfold RetL qK qA qV qD qC qP
          simp only [HRB.out, if_true]
          have e0 : ([l0, l1, l2, l3, l4] : List Int).getD 0 0 = l0 := rfl
          have e4 : ([l0, l1, l2, l3, l4] : List Int).getD 4 0 = l4 := rfl
          rw [e0, e4, A0.out, A7.out, A8.out, B2.out, ← HCS2.out]
          refine ⟨⟨A2, c2, by rw [HCL.out], ?_⟩, set5W (extW hb hb2) (Nat.le_refl _) _ _ _ _ _⟩
          exact set5R (HO.out.extW hb2) hB0.out (by decide) _ _ _ _ _

set_option maxHeartbeats 2000000 in
theorem readcall_any (A : Option Addr) (c : Nat) (l : List Int) (hl : l.length ≤ 17592186044416) (hcap : l.length ≤ c) (hz : ∀ z ∈ l, 0 ≤ z ∧ z < 18446744073709551616) (hr : RdI w .u64 A l) :
    Calls Try.prog 38 #[.slice A l.length c] w fun e w' => RetL l w e w' := by
  by_cases h5 : l.length = 5
  · match l, h5 with
    | [l0, l1, l2, l3, l4], _ =>
      obtain ⟨ad, rfl, hc0⟩ := hr 0 (.int .u64 l0) rfl
      obtain ⟨_, h, hc4⟩ := hr 4 (.int .u64 l4) rfl
      injection h with h; subst h
      rw [add_zero] at hc0
      rw [add_lit _ _ (by decide)] at hc4
      have hlt := cell_lt hc0
      have hb0 := hz l0 (by simp)
      have hb4 := hz l4 (by simp)
      have HTL := hide (RdI.tail hr)
      have HRR := hide hr
      have HZ := hide hz
      clear hz
      obtain ⟨ki, a1, a2, a3, a0⟩ : ∃ ki, bits BinOp.and IntKind.u64 l0 255 = ki ∧ 0 ≤ ki ∧ ki ≤ 255 ∧ l0 % 256 = ki := ⟨_, and255 _ (by omega) (by omega), by omega, by omega, rfl⟩
      obtain ⟨ar, a4, a5, a6, a7⟩ : ∃ ar, bits BinOp.and IntKind.u64 (l0 / 65536) 65535 = ar ∧ 0 ≤ ar ∧ ar ≤ 65535 ∧ l0 / 65536 % 65536 = ar := ⟨_, and65535 _ (by omega) (by omega), by omega, by omega, rfl⟩
      obtain ⟨va, a8, a9, a10⟩ : ∃ va, l0 / 4294967296 = va ∧ 0 ≤ va ∧ va ≤ 4294967295 := ⟨_, rfl, by omega, by omega⟩
      obtain ⟨db, b1, b2⟩ : ∃ db, bits BinOp.and IntKind.u64 (l0 / 4096) 1 = db ∧ l0 / 4096 % 2 = db := ⟨_, and1 _ (by omega) (by omega), rfl⟩
      obtain ⟨n, b3, b4, b5⟩ : ∃ n : Nat, bits BinOp.and IntKind.u64 (l0 / 256) 15 = (n : Int) ∧ n ≤ 15 ∧ l0 / 256 % 16 = (n : Int) := by
        refine ⟨(l0 / 256 % 16).toNat, ?_, by omega, by omega⟩
        rw [and15 _ (by omega) (by omega)]; omega
      have A0 := hide a0; have A7 := hide a7; have A8 := hide a8; have B2 := hide b2; have B5 := hide b5
      have h04 : 0 ≤ l4 := hb4.1
      have h00 : 0 ≤ l0 := hb0.1
      clear a0 a7 b2 b5 hb0 hb4
      by_cases h3 : 3 < n
      · have hno : readB [l0, l1, l2, l3, l4] = false := by
          exact readB_many (by have := B5.out; show 3 < l0 / 256 % 16; omega)
        have HNO := hide hno; clear hno
        go_enter Try.func38, Try.ntmps38
        go_wp2
        go_quiet (fail)
        go_wp2
        refine bodyPost_ret (v := ?_) ?_ rfl ?_
        rotate_left
        · simp [results, Try.results38, go_sem]
          rfl
        · exact RetL.no HNO.out (set5W (below_drewN (moreW (moreW (selfW _) _) _) _) (Nat.le_refl _) _ _ _ _ _)
      by_cases h4 : 4294967295 < l4
      · have hno : readB [l0, l1, l2, l3, l4] = false := by
          exact readB_big (by simpa using h4)
        have HNO := hide hno; clear hno
        go_enter Try.func38, Try.ntmps38
        go_wp2
        go_quiet (fail)
        go_wp2
        refine bodyPost_ret (v := ?_) ?_ rfl ?_
        rotate_left
        · simp [results, Try.results38, go_sem]
          rfl
        · exact RetL.no HNO.out (set5W (below_drewN (moreW (moreW (selfW _) _) _) _) (Nat.le_refl _) _ _ _ _ _)
      exact readcall_main w ad c l0 l1 l2 l3 l4 ki ar va db n hcap hc0 hc4 hlt HTL HRR a1 a2 a3 a4 a5 a6 a8 a9 a10 b1 b3 (by omega) h04 (by omega) h00 HZ.out A0.out A7.out A8.out B2.out B5.out
  · have hne : ((l.length : Int) != 5) = true := by simp; omega
    have HNO := hide (readB_len h5)
    clear h5 hz
    go_enter Try.func38, Try.ntmps38
    go_wp2
    refine bodyPost_ret (v := ?_) ?_ rfl ?_
    rotate_left
    · simp [results, Try.results38, go_sem]
      rfl
    · exact RetL.no HNO.out (moreW (selfW _) _)
end
end Go.Proofs.Ytmgjicenaanelaa
