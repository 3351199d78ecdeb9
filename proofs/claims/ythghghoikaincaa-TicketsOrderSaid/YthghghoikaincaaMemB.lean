/- The walks of mem.made, New, count, and of the four ways an access turns a word. -/
import Derived.Test.YthghghoikaincaaMemA
import Derived.Deep.LoopGhost
namespace Go.Proofs.Ythghghoikaincaa
open Go.RowKit

section
variable (w : World)
theorem made_none : Calls Try.prog 33 #[.pointer none] w fun e w' => e = .returned (.bool false) ∧ w = w' := by
  go_enter Try.func33, Try.ntmps33
  go_wp2
  go_ret
  exact ⟨rfl, rfl⟩
theorem made_yes (g : Nat) (a : Addr) (n c : Nat) (hc : w.cell? ⟨g, 0, none⟩ = some (.slice (some a) n c)) :
    Calls Try.prog 33 #[.pointer (some ⟨g, 0, none⟩)] w fun e w' => e = .returned (.bool true) ∧ w = w' := by
  have hn := fun wx => run_neq_slice_nil_any (P := Try.prog) wx 65 67 (some a) n c 0 0 Try.underlying65
  go_enter Try.func33, Try.ntmps33
  go_wp2
  go_ret
  exact ⟨rfl, rfl⟩
theorem made_zero (g : Nat) (hc : w.cell? ⟨g, 0, none⟩ = some (.slice none 0 0)) :
    Calls Try.prog 33 #[.pointer (some ⟨g, 0, none⟩)] w fun e w' => e = .returned (.bool false) ∧ w = w' := by
  have hn := fun wx => run_neq_slice_nil_any (P := Try.prog) wx 65 67 none 0 0 0 0 Try.underlying65
  go_enter Try.func33, Try.ntmps33
  go_wp2
  go_ret
  exact ⟨rfl, rfl⟩

set_option maxHeartbeats 400000 in
theorem new_any (n : Int) (h0 : 1 ≤ n) (h1 : n ≤ 1048576) :
    Calls Try.prog 19 #[.int .i64 n] w fun e w' => (∃ g, e = .returned (.pointer (some ⟨g, 0, none⟩)) ∧ MemAt w' w.heap.size g (List.replicate n.toNat 0) [] [] false) ∧ Below w.heap.size w w' := by
  obtain ⟨m, rfl⟩ := Int.eq_ofNat_of_zero_le (show 0 ≤ n by omega)
  have hm : m ≤ 1048576 := by omega
  have hb1 : decide ((m : Int) < 1) = false := decide_eq_false (by omega)
  have hb2 : decide (1048576 < (m : Int)) = false := decide_eq_false (by omega)
  have hb3 : (m == 0) = false := by rw [beq_eq_false_iff_ne]; omega
  have hb4 : decide (1048576 < m) = false := decide_eq_false (by omega)
  go_enter Try.func19, Try.ntmps19
  go_wp2_with (at_make; refine wpList_makeI _ rfl _ _ 65 rfl w.heap.size 67 .u64 Try.underlying65 info_u64 _ _ _ _ m rfl rfl rfl rfl (by omega) (Nat.le_refl _) ?_)
  intro w1 ho hb
  have HO := hide ho; have HB := hide hb
  clear ho hb
  go_wp2
  go_ret
  refine ⟨⟨w1.heap.size, rfl, .slice (some ⟨w.heap.size, 0, none⟩) m m, .slice none 0 0, .slice none 0 0, ?_⟩, moreW HB.out _⟩
  refine ⟨Blk.new _ _ _, ?_, OwnF.nil _ _ _ _ _, OwnI.nil _ _ _ _, HB.out.size⟩
  rw [Int.toNat_natCast]
  exact HO.out.alloc _
set_option maxHeartbeats 400000 in
theorem new_not (n : Int) (h : n < 1 ∨ 1048576 < n) :
    Calls Try.prog 19 #[.int .i64 n] w fun e w' => e = .returned (.pointer none) ∧ w = w' := by
  by_cases h1 : n < 1
  · go_enter Try.func19, Try.ntmps19
    go_wp2
    go_ret
    exact ⟨rfl, rfl⟩
  · have h2 : 1048576 < n := by omega
    go_enter Try.func19, Try.ntmps19
    go_wp2
    go_ret
    exact ⟨rfl, rfl⟩

theorem cnt_step {C : List Int} {j : Nat} : (C ++ List.replicate j (0 : Int)) ++ [0] = C ++ List.replicate (j + 1) 0 := by rw [List.append_assoc, ← List.replicate_succ']
set_option maxHeartbeats 1000000 in
theorem count_any (base g : Nat) (vl vg vc : Value) (L : List Int) (G : List Acc) (C : List Int) (kp : Bool) (t : Int) (h : MemV w base g vl vg vc L G C kp) (hC : C.length ≤ 64) :
    Calls Try.prog 40 #[.pointer (some ⟨g, 0, none⟩), .int .i64 t] w fun e w' => e = .returned (.tuple #[]) ∧ (∃ vc', MemV w' base g vl vg vc' L G (cntAdd C t) kp ∧ ∀ b, vc'.ownBlock = some b → vc.ownBlock = some b ∨ w.heap.size ≤ b) ∧ Rest w w' g vl vg vc ∧ Below base w w' := by
  by_cases ht0 : t < 0
  · go_enter Try.func40, Try.ntmps40
    go_wp2
    refine bodyPost_ret (v := .tuple #[]) (by simp [results, Try.results40, go_sem]) rfl ⟨rfl, ⟨vc, ?_, fun b hb => .inl hb⟩, Rest.refl _ _ _ _ _, Below.refl _ _⟩
    rw [show cntAdd C t = C by unfold cntAdd; rw [if_pos (.inl ht0)]]
    exact h
  by_cases ht1 : 64 ≤ t
  · go_enter Try.func40, Try.ntmps40
    go_wp2
    refine bodyPost_ret (v := .tuple #[]) (by simp [results, Try.results40, go_sem]) rfl ⟨rfl, ⟨vc, ?_, fun b hb => .inl hb⟩, Rest.refl _ _ _ _ _, Below.refl _ _⟩
    rw [show cntAdd C t = C by unfold cntAdd; rw [if_pos (.inr ht1)]]
    exact h
  obtain ⟨k, rfl⟩ := Int.eq_ofNat_of_zero_le (show 0 ≤ t by omega)
  have hk : k < 64 := by omega
  have hk0 : decide ((k : Int) < 0) = false := decide_eq_false (by omega)
  have htb : decide (64 ≤ (k : Int)) = false := decide_eq_false (by omega)
  have htc : decide (64 ≤ k) = false := decide_eq_false (by omega)
  have H := hide h; have HC := hide hC
  have hsz : base ≤ w.heap.size := Nat.le_trans h.low (Nat.le_of_lt h.blk.lt)
  clear h hC ht0 ht1
  go_enter Try.func40, Try.ntmps40
  go_wp2_with fail
  go_loopg [] (k + 1 - C.length) (fun q wr => ∃ (A : Option Addr) (n c : Nat) (D : List Int), n = C.length + (k + 1 - C.length - q) ∧ q ≤ k + 1 - C.length ∧ Hid (D = C ++ List.replicate (k + 1 - C.length - q) 0) ∧ Hid (MemV wr base g vl vg (.slice A n c) L G D kp) ∧
      Hid (∀ b, (Value.slice A n c).ownBlock = some b → vc.ownBlock = some b ∨ w.heap.size ≤ b) ∧ Hid (Rest w wr g vl vg vc) ∧ Hid (Below base w wr))
  case atStart =>
    obtain ⟨A, c, rfl⟩ := OwnI.shape H.out.counts
    exact ⟨A, C.length, c, C, by omega, Nat.le_refl _, by simp [Hid], H.out, fun b hb => .inl hb, Rest.refl _ _ _ _ _, Below.refl _ _⟩
  case round =>
    obtain ⟨A, n, c, D, hn, hq, HD, HM, HA, HR, HB⟩ := hrel
    have hDn : n = D.length := HM.out.counts.cap.1
    have hcl := HC.out
    have hcell : ∀ i, wr.cell? ⟨g, i, none⟩ = _ := fun i => Blk.cell HM.out.blk i
    have hfree : ∀ i, wr.frozen? ⟨g, i, none⟩ = false := fun i => Blk.free HM.out.blk i
    have hsr := HB.out.size
    have hgs := HM.out.blk.lt
    by_cases hlt : n ≤ k
    · have hq1 : 0 < gk := by omega
      have hnk : (n : Int) ≤ (k : Int) := by omega
      have HN := hide hn; have HQ := hide hq; have HDN := hide hDn
      clear hn hq hlt hDn
      go_wp2_with (at_builtin; refine wpList_appI _ rfl _ _ 28 rfl base 3 .i64 Try.underlying28 info_int _ D rfl (HM.out.counts.alloc _) (some ⟨wr.heap.size, 0, none⟩) 1 1 [0] rfl rfl ?c1 ?c2 ?c3 ?_)
      case c1 => exact RdI.one _ .i64 _ _
      case c2 => have := HN.out; have := HQ.out; have := HDN.out; simp; omega
      case c3 => simp; omega
      intro v' w2 hown' hgrow hat
      have hMA := HM.out.alloc (.cells #[.int .i64 0] 3)
      have hM2 := hMA.count_more hown' hgrow
      have hBk := hMA.blk.grown hgrow (own_other hMA.counts hMA.blk (by decide))
      obtain ⟨A2, c2, rfl⟩ := hown'.shape
      have hb2 := hMA.counts.below_step (HB.out.alloc (by omega) _) hgrow (by simp; omega) (Nat.le_refl _)
      have hcell2 : ∀ i, w2.cell? ⟨g, i, none⟩ = _ := fun i => Blk.cell hBk i
      have hfree2 : ∀ i, w2.frozen? ⟨g, i, none⟩ = false := fun i => Blk.free hBk i
      have hA2 : ∀ b, (Value.slice A2 (D ++ [0]).length c2).ownBlock = some b → vc.ownBlock = some b ∨ w.heap.size ≤ b := by
        intro b hb
        rcases hat with h1 | h1
        · exact HA.out b (h1.symm.trans hb)
        · rw [h1] at hb; injection hb with hb; (try simp at hb); exact .inr (by omega)
      have hR2 : Rest w (w2.setCell ⟨g, 2, none⟩ (.slice A2 (D ++ [0]).length c2)) g vl vg vc := by
        intro b hb h0 h1 h2 h3
        rw [Below.heap_setCell _ _ _ _ h0]
        have hne : some b ≠ (Value.slice A n c).ownBlock := by
          intro he
          rcases HA.out b he.symm with h | h
          · exact h3 h
          · omega
        have hbl : b < (wr.alloc (.cells #[.int .i64 0] 3)).heap.size := by simp; omega
        rw [hgrow.block b hbl hne, Below.heap_alloc _ _ _ (by omega)]
        exact HR.out b hb h0 h1 h2 h3
      have hb3 := hb2.setCell (p := ⟨g, 2, none⟩) H.out.low (.slice A2 (D ++ [0]).length c2)
      have hlen : (D ++ [0]).length = n + 1 := by have := HDN.out; simp; omega
      rw [hlen] at hM2 hA2 hR2 hb3
      have HM2 := hide hM2; have HA2 := hide hA2; have HR2 := hide hR2; have HB2 := hide hb3; have HLEN := hide hlen
      have hg2 : g < w2.heap.size := by have := hgrow.size; simp at this; omega
      rw [hlen]
      clear hM2 hA2 hR2 hb3 hlen hown' hgrow hat hb2 hcell hfree hMA hBk
      go_wp2_with fail
      go_roundg (gk - 1)
      case measure => omega
      case rel =>
        refine ⟨A2, n + 1, c2, D ++ [0], by have := HN.out; have := HQ.out; omega, by have := HQ.out; omega, ?_, HM2.out, HA2.out, HR2.out, HB2.out⟩
        show D ++ [0] = _
        rw [HD.out, cnt_step, show k + 1 - C.length - gk + 1 = k + 1 - C.length - (gk - 1) by have := HQ.out; omega]
    · have hDe : D = C ++ List.replicate (k + 1 - C.length) 0 := by
        rw [HD.out]; congr 2; omega
      obtain ⟨z, hz⟩ : ∃ z, D[k]? = some z := ⟨_, List.getElem?_eq_getElem (by omega)⟩
      have hnz : D ≠ [] := by rintro rfl; simp at hz
      obtain ⟨gc, c9, hv9, hgc, hgc2⟩ := HM.out.counts.form hnz
      injection hv9 with e1 e2 e3
      have hA := e1; have hcc := e3
      subst hA; subst hcc
      have hcz := HM.out.counts.cell hz
      have hfz := HM.out.counts.frozen k
      have hnk : ¬ (n : Int) ≤ (k : Int) := by omega
      have hkn : (k : Int) < (n : Int) := by omega
      have hcnt : cntAdd C (k : Int) = D.set k (wrap64 (z + 1)) := by
        unfold cntAdd
        rw [if_neg (by omega), Int.toNat_natCast, ← hDe]
        simp [hz]
      have HCN := hide hcnt; have HDE := hide hDe; have HZ := hide hz
      clear hcnt hDe hz hnz hDn hn hq hlt e2
      go_wp2_with fail
      go_end0
      refine ⟨rfl, ⟨.slice (some ⟨gc, 0, none⟩) n c, ?_, HA.out⟩, ?_, HB.out.setCell (p := ⟨gc, k, none⟩) hgc _⟩
      · rw [HCN.out]
        have hm := HM.out
        refine ⟨hm.blk.far ?_ _, own_new hm.words (fun b hb he => ?_) _, own_new hm.log (fun b hb he => ?_) _, hm.counts.stored k _, hm.low⟩
        · intro he; exact own_other hm.counts hm.blk (by decide) (congrArg some he)
        · exact own_apart hm.words hm.counts (by decide) hb (congrArg some he)
        · exact own_apart hm.log hm.counts (by decide) hb (congrArg some he)
      · intro b hb h0 h1 h2 h3
        rw [Below.heap_setCell _ _ _ _ ?_]
        · exact HR.out b hb h0 h1 h2 h3
        · rintro rfl
          rcases HA.out _ rfl with h | h
          · exact h3 h
          · exact absurd hb (Nat.not_lt.2 h)
end
end Go.Proofs.Ythghghoikaincaa
