/- The walk of ghosts.Copy. -/
import Derived.Test.YtdgnejapofkadaaGhD
import Derived.RegionTactic
import Derived.Deep.RegionLaw
namespace Go.Proofs.Ytdgnejapofkadaa
open Go.RowKit

/-- the call returns a world in new memory -/
def GivesW (W : WT) (w : World) (e : Ending) (w' : World) : Prop := ∃ vr vf ys, e = .returned (.agg #[.int .i64 W.epoch, .int .i64 W.root, .int .i64 W.last, vr, vf]) ∧ WO w' w.heap.size W vr vf ys ∧ Below w.heap.size w w'
section
variable (w : World)
set_option maxHeartbeats 2000000 in
theorem copy_any (W : WT) (A B : Option Addr) (c d : Nat) (xs : List RdX) (h : WV w W A B xs) (hl : xs.length ≤ 64) (hf : W.freed.length ≤ 500) (ha : ∀ x ∈ xs, x.r.away.length ≤ 500) :
    Calls Try.prog 16 #[.agg #[.int .i64 W.epoch, .int .i64 W.root, .int .i64 W.last, .slice A xs.length c, .slice B W.freed.length d]] w fun e w' => GivesW W w e w' := by
  have C30 := hide (fun wx (hb : Below w.heap.size w wx) => clone_rd' wx A c xs (by omega) (h.row.below hb))
  have C31 := hide (fun wx (hb : Below w.heap.size w wx) => clone_int' wx B d W.freed (by omega) (h.freed.below hb))
  have C32 := hide (fun wx x (hx : x ∈ xs) (hb : Below w.heap.size w wx) => clone_old' wx x.A x.c x.r.away (by have := ha x hx; omega) ((h.away x hx).below hb))
  have HR := hide h.rds
  obtain ⟨n, hn⟩ : ∃ n, n = xs.length := ⟨_, rfl⟩
  obtain ⟨m, hm⟩ : ∃ m, m = W.freed.length := ⟨_, rfl⟩
  rw [← hn] at hl C30 ⊢
  rw [← hm] at hf C31 ⊢
  have HN := hide hn; have HM := hide hm
  clear h hn hm ha
  obtain ⟨E, R, L, rs, fr⟩ := W
  dsimp only at *
  go_enter Try.func16, Try.ntmps16
  go_wp2_with fail
  have hB0 : Below w.heap.size w (((w.alloc (.cells #[.int .i64 E, .int .i64 R, .int .i64 L, .slice A n c, .slice B m d] 38)).alloc (.cells #[.int .i64 0, .int .i64 0, .int .i64 0, .slice none 0 0, .slice none 0 0] 38)).drew) := (moreW (moreW (selfW w) _) _).drew
  have hK0 : Blk (((w.alloc (.cells #[.int .i64 E, .int .i64 R, .int .i64 L, .slice A n c, .slice B m d] 38)).alloc (.cells #[.int .i64 0, .int .i64 0, .int .i64 0, .slice none 0 0, .slice none 0 0] 38)).drew) w.heap.size 38 _ := (Blk.new _ _ _).alloc _
  have hQ0 : Blk (((w.alloc (.cells #[.int .i64 E, .int .i64 R, .int .i64 L, .slice A n c, .slice B m d] 38)).alloc (.cells #[.int .i64 0, .int .i64 0, .int .i64 0, .slice none 0 0, .slice none 0 0] 38)).drew) (w.heap.size + 1) 38 _ := Blk.newAt _ _ _ (by simp)
  go_region_law (first
      | (go_simp; go_at_call 30; refine (C30.out _ hB0).mono ?_; rintro e w1 ⟨A1, c1, rfl, ho1, hb1⟩; have hB1 := extW hB0 hb1; have hK1 := hK0.extW hb1; have hQ1 := hQ0.extW hb1; have hck1 := fun i => Blk.cell hK1 i; go_wp2_with fail)
      | (go_simp; go_at_call 31; refine (C31.out _ hB1).mono ?_; rintro e w2 ⟨A2, c2, rfl, ho2, hb2⟩; have hB2 := extW hB1 hb2; have hK2 := hK1.extW hb2; have hQ2 := hQ1.extW hb2; have hck2 := fun i => Blk.cell hK2 i; have hfk2 := fun i => Blk.free hK2 i; go_wp2_with fail))
  all_goals
    have HCP : Hid (CpV w ((w2.setCell ⟨w.heap.size, 3, none⟩ (.slice A1 n c1)).setCell ⟨w.heap.size, 4, none⟩ (.slice A2 m c2)) w.heap.size ⟨E, R, L, rs, fr⟩ A1 n c1 A2 m c2 xs []) := by
      have hK3 := hK2.set_ 3 (.slice A1 n c1)
      refine ⟨hK3.set_ 4 (.slice A2 m c2), (hQ2.far (p := ⟨w.heap.size, 3, none⟩) (by simp) _).far (p := ⟨w.heap.size, 4, none⟩) (by simp) _, ?_, fun z hz => by simp at hz, fun i j x y hx => by simp at hx, ?_, (hB2.setCell (p := ⟨w.heap.size, 3, none⟩) (Nat.le_refl _) _).setCell (p := ⟨w.heap.size, 4, none⟩) (Nat.le_refl _) _⟩
      · exact own_far (own_far ((ho1.weak hB0.size).extW hb2) hK2 (by decide) _ _) hK3 (by decide) _ _
      · exact own_far (own_far (ho2.weak hB1.size) hK2 (by decide) _ _) hK3 (by decide) _ _
    have hg2 := hK2.lt
    clear hB0 hB1 hB2 hK0 hK1 hK2 hQ0 hQ1 hQ2 hck1 ho1 ho2 hb1 hb2 C30 C31
    go_wp2_with fail
    clear hck2 hfk2 hg2
    go_loopw [15] (fun i wr => ∃ (k : Nat) (zs : List RdX), k ≤ n ∧ i = .int .i64 k ∧ zs.length = k ∧ Hid (zs.map (·.r) = (xs.take k).map (·.r)) ∧ Hid (CpV w wr w.heap.size ⟨E, R, L, rs, fr⟩ A1 n c1 A2 m c2 xs zs)) (fun i _ => n - (intOf i).toNat)
    case atStart => exact ⟨0, [], Nat.zero_le _, rfl, rfl, rfl, HCP.out⟩
    case round =>
      obtain ⟨k, zs, hk, rfl, hz, HZ, HC⟩ := hrel
      have hcg := fun i => Blk.cell HC.out.blk i
      have hgl := HC.out.blk.lt
      have hsz := HC.out.old.size
      by_cases hlt : k < n
      · obtain ⟨x, hx⟩ : ∃ x, xs[k]? = some x := ⟨_, List.getElem?_eq_getElem (by have := HN.out; omega)⟩
        have hxx : (zs ++ xs.drop zs.length)[k]? = some x := by rw [hz, List.getElem?_append_right (by omega), hz, Nat.sub_self, List.getElem?_drop]; simpa using hx
        have hne : zs ++ xs.drop zs.length ≠ [] := by intro h; rw [h] at hxx; simp at hxx
        obtain ⟨g1, c9, hv9, hg1, hg2⟩ := HC.out.row.form hne
        injection hv9 with e1 e2 e3
        subst e1; subst e3
        have hrow : wr.cell? ⟨g1, k * 5 + 4, none⟩ = some (.slice x.A x.r.away.length x.c) := HC.out.row.cells rdC_len hxx rfl
        have HX := hide hx; have HXX := hide hxx; have HNE := hide hne; have HZL := hide hz
        have C := hide (C32.out (wr.drew) x (mem_of_get hx) HC.out.old.drew)
        clear hx hxx hne hz e2
        have hg1w : g1 < wr.heap.size := hg2
        go_wp2_with fail
        have hlt' : (k : Int) < (n : Int) := by omega
        go_region_law (first
          | (go_simp; go_at_call 32; refine C.out.mono ?_; rintro e w3 ⟨A3, c3, rfl, ho3, hb3⟩; have hck3 := fun i => Blk.cell (HC.out.blk.extW (extW (below_drewN (n := 1) (selfW wr)) hb3)) i; have hcr3 := OwnF.cells rdC_len (HC.out.row.extW (extW (below_drewN (n := 1) (selfW wr)) hb3)) HXX.out (j := 4) rfl; have hfr3 := OwnF.frozen (HC.out.row.extW (extW (below_drewN (n := 1) (selfW wr)) hb3)) (k * 5 + 4); go_wp2_with fail))
        all_goals
          have HS : Hid (CpV w (w3.setCell ⟨g1, k * 5 + 4, none⟩ (.slice A3 x.r.away.length c3)) w.heap.size ⟨E, R, L, rs, fr⟩ (some ⟨g1, 0, none⟩) n c1 A2 m c2 xs (zs ++ [⟨x.r, A3, c3⟩])) := by
            have h := CpV.step (x := x) (c3 := c3) (A3 := A3) HC.out hg1 (by rw [HZL.out]; exact HX.out) (extW (below_drewN (n := 1) (selfW wr)) hb3) ho3 (Nat.le_refl _)
            rw [HZL.out] at h
            exact h
          have HM2 : Hid ((zs ++ [(⟨x.r, A3, c3⟩ : RdX)]).map (·.r) = (xs.take (k + 1)).map (·.r)) := by
            unfold Hid
            rw [take_of HX.out, List.map_append, List.map_append, HZ.out]; rfl
          have HL2 : Hid ((zs ++ [(⟨x.r, A3, c3⟩ : RdX)]).length = k + 1) := by unfold Hid; rw [List.length_append, HZL.out]; rfl
          clear hck3 hcr3 hfr3 ho3 hb3
          go_wp2_with fail
          go_roundw
          case rel => exact ⟨k + 1, _, by omega, by go_num, HL2.out, HM2.out, HS.out⟩
          case measure => simp [intOf]; omega
      · have hkn : n = k := by omega
        have hrd : zs.map (·.r) = rs := by
          rw [HZ.out, List.take_of_length_le (by have := HN.out; omega)]
          exact HR.out
        have hdr : zs ++ xs.drop zs.length = zs := by rw [List.drop_of_length_le (by have := HN.out; omega), List.append_nil]
        have hrow := HC.out.row
        rw [hdr] at hrow
        have HRD := hide hrd; have HROW := hide hrow; have HZL := hide hz
        have hcr := fun i => Blk.cell HC.out.res i
        have hfr := fun i => Blk.free HC.out.res i
        have hgr := HC.out.res.lt
        clear hrd hdr hrow hz
        subst hkn
        go_wp2_with fail
        refine bodyPost_ret (v := .agg #[.int .i64 E, .int .i64 R, .int .i64 L, .slice A1 n c1, .slice A2 m c2]) ?_ rfl ?_
        · obtain ⟨k0, k1, k2, k3, k4⟩ := set5_cells HC.out.res (.int .i64 E) (.int .i64 R) (.int .i64 L) (.slice A1 n c1) (.slice A2 m c2)
          unfold set5 at k4
          simp [results, Try.results16, go_sem, k0, k1, k2, k3, k4]
        · refine ⟨_, _, zs, rfl, ⟨HRD.out, set5_own HROW.out HC.out.res (by decide) _ _ _ _ _, fun z hz => set5_own (HC.out.away z hz) HC.out.res (by decide) _ _ _ _ _, HC.out.apart, set5_own HC.out.freed HC.out.res (by decide) _ _ _ _ _⟩, set5_below HC.out.old (by omega) (.int .i64 E) (.int .i64 R) (.int .i64 L) (.slice A1 n c1) (.slice A2 m c2)⟩
end
end Go.Proofs.Ytdgnejapofkadaa
