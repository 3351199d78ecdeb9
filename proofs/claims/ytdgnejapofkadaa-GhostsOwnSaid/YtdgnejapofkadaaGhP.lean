/- The walk of ghosts.Do, a kind at a time. -/
import Derived.Test.YtdgnejapofkadaaGhO
import Derived.RegionTactic
namespace Go.Proofs.Ytdgnejapofkadaa
open Go.RowKit

section
variable (w : World) (W : WT) (A B : Option Addr) (c d : Nat) (xs : List RdX)
set_option maxHeartbeats 1000000 in
theorem gdo_out (th ki : Int) (k0 : Nat) (h : WV w W A B xs) (hs : Sane W k0) (hk0 : k0 ≤ 400) (ho : th < 0 ∨ (W.rds.length : Int) ≤ th) :
    Calls Try.prog 14 #[.agg #[.int .i64 W.epoch, .int .i64 W.root, .int .i64 W.last, .slice A xs.length c, .slice B W.freed.length d], .agg #[.int .i64 th, .int .i64 ki]] w (GivesR W w) := by
  have hfew : xs.length ≤ 64 := by have := hs.few; rw [← h.rds, List.length_map] at this; exact this
  have hlens := hs.lens
  have hCP := copy_any (((w.alloc (.cells #[.int .i64 W.epoch, .int .i64 W.root, .int .i64 W.last, .slice A xs.length c, .slice B W.freed.length d] 38)).alloc (.cells #[.int .i64 th, .int .i64 ki] 27)).alloc (.cells #[.int .i64 0, .int .i64 0, .int .i64 0, .slice none 0 0, .slice none 0 0] 38)) W A B c d xs (((h.below (moreW (selfW _) _)).below (moreW (selfW _) _)).below (moreW (selfW _) _)) hfew (by omega)
    (fun x hx => by have := hs.away (r := x.r) (by rw [← h.rds]; exact List.mem_map.2 ⟨x, hx, rfl⟩); omega)
  have HCP := hide hCP
  have HRDS := hide h.rds
  have HSA := hide hs
  obtain ⟨n, hn⟩ : ∃ n, n = xs.length := ⟨_, rfl⟩
  rw [← hn] at HCP hfew ⊢
  have HN := hide hn
  have hlen : Hid (W.rds.length = n) := by unfold Hid; rw [hn, ← h.rds, List.length_map]
  have hcase : th < 0 ∨ (¬ th < 0 ∧ (n : Int) ≤ th) := by
    have := hlen.out
    rcases ho with h | h
    · exact .inl h
    · by_cases h2 : th < 0
      · exact .inl h2
      · exact .inr ⟨h2, by omega⟩
  clear ho
  have hll := hlen
  clear hCP h hs hn hlens
  go_enter Try.func14, Try.ntmps14
  go_wp2_with fail
  refine HCP.out.mono ?_
  rintro e w1 ⟨vr, vf, ys, rfl, hO1, hb1⟩
  have hact := (((Blk.newAt (w.alloc (.cells #[.int .i64 W.epoch, .int .i64 W.root, .int .i64 W.last, .slice A n c, .slice B W.freed.length d] 38)) 27 #[.int .i64 th, .int .i64 ki] (g := w.heap.size + 1) (by simp)).alloc (.cells #[.int .i64 0, .int .i64 0, .int .i64 0, .slice none 0 0, .slice none 0 0] 38)).extW hb1)
  have hpar := ((((Blk.new w 38 #[.int .i64 W.epoch, .int .i64 W.root, .int .i64 W.last, .slice A n c, .slice B W.freed.length d]).alloc (.cells #[.int .i64 th, .int .i64 ki] 27)).alloc (.cells #[.int .i64 0, .int .i64 0, .int .i64 0, .slice none 0 0, .slice none 0 0] 38)).extW hb1)
  have hres := ((Blk.newAt ((w.alloc (.cells #[.int .i64 W.epoch, .int .i64 W.root, .int .i64 W.last, .slice A n c, .slice B W.freed.length d] 38)).alloc (.cells #[.int .i64 th, .int .i64 ki] 27)) 38 #[.int .i64 0, .int .i64 0, .int .i64 0, .slice none 0 0, .slice none 0 0] (g := w.heap.size + 2) (by simp)).extW hb1)
  obtain ⟨A1, c1, B1, d1, e1, e2, hWV⟩ := hO1.rd
  subst e1; subst e2
  have hyl : ys.length = n := by rw [← hlen.out, ← hO1.rds, List.length_map]
  rw [hyl] at hO1
  have hca := fun i => Blk.cell hact i
  have hcp := fun i => Blk.cell hpar i
  have hcr := fun i => Blk.cell hres i
  have hfr := fun i => Blk.free hres i
  have hsz := hres.lt
  have hsz1 := hact.lt
  have hsz0 := hpar.lt
  have hB1 := extW (moreW (moreW (moreW (selfW w) _) _) _) hb1
  have HB1 := hide hB1; have HO1 := hide hO1; have HRES := hide hres; have HACT := hide hact; have HYL := hide hyl
  clear hact hpar hres hO1 hb1 hB1 hyl HCP hWV
  rw [HYL.out]
  obtain ⟨W', hW'⟩ : ∃ W', W' = W := ⟨_, rfl⟩
  rcases hcase with h1 | ⟨h1, h2⟩
  · go_wp2_with fail
    refine bodyPost_ret (v := .agg #[.int .i64 W.epoch, .int .i64 W.root, .int .i64 W.last, .slice A1 n c1, .slice B1 W.freed.length d1]) ?_ rfl ?_
    · have hq := fun i => Blk.cell (((set5_set HRES.out (.int .i64 W.epoch) (.int .i64 W.root) (.int .i64 W.last) (.slice A1 n c1) (.slice B1 W.freed.length d1)).alloc (.cells #[.int .i64 W.epoch, .int .i64 W.root, .int .i64 W.last, .slice A1 n c1, .slice B1 W.freed.length d1] 63)).alloc (.cells #[.pointer (some ⟨w1.heap.size, 0, none⟩)] 61)) i
      unfold set5 at hq
      have q0 := hq 0; have q1 := hq 1; have q2 := hq 2; have q3 := hq 3; have q4 := hq 4
      clear hq
      generalize (((((w1.setCell ⟨w.heap.size + 2, 0, none⟩ (.int .i64 W.epoch)).setCell ⟨w.heap.size + 2, 1, none⟩ (.int .i64 W.root)).setCell ⟨w.heap.size + 2, 2, none⟩ (.int .i64 W.last)).setCell ⟨w.heap.size + 2, 3, none⟩ (.slice A1 n c1)).setCell ⟨w.heap.size + 2, 4, none⟩ (.slice B1 W.freed.length d1)).alloc (.cells #[.int .i64 W.epoch, .int .i64 W.root, .int .i64 W.last, .slice A1 n c1, .slice B1 W.freed.length d1] 63) = WA at *
      generalize WA.alloc (.cells #[.pointer (some ⟨w1.heap.size, 0, none⟩)] 61) = WB at *
      simp [results, Try.results14, go_sem, q0, q1, q2, q3, q4]
    · exact GivesR.more (do_end0 HO1.out HRES.out HB1.out (by omega)) (moreW (moreW (selfW _) _) _)
  · go_wp2_with fail
    refine bodyPost_ret (v := .agg #[.int .i64 W.epoch, .int .i64 W.root, .int .i64 W.last, .slice A1 n c1, .slice B1 W.freed.length d1]) ?_ rfl ?_
    · have hq := fun i => Blk.cell (((set5_set HRES.out (.int .i64 W.epoch) (.int .i64 W.root) (.int .i64 W.last) (.slice A1 n c1) (.slice B1 W.freed.length d1)).alloc (.cells #[.int .i64 W.epoch, .int .i64 W.root, .int .i64 W.last, .slice A1 n c1, .slice B1 W.freed.length d1] 63)).alloc (.cells #[.pointer (some ⟨w1.heap.size, 0, none⟩)] 61)) i
      unfold set5 at hq
      have q0 := hq 0; have q1 := hq 1; have q2 := hq 2; have q3 := hq 3; have q4 := hq 4
      clear hq
      generalize (((((w1.setCell ⟨w.heap.size + 2, 0, none⟩ (.int .i64 W.epoch)).setCell ⟨w.heap.size + 2, 1, none⟩ (.int .i64 W.root)).setCell ⟨w.heap.size + 2, 2, none⟩ (.int .i64 W.last)).setCell ⟨w.heap.size + 2, 3, none⟩ (.slice A1 n c1)).setCell ⟨w.heap.size + 2, 4, none⟩ (.slice B1 W.freed.length d1)).alloc (.cells #[.int .i64 W.epoch, .int .i64 W.root, .int .i64 W.last, .slice A1 n c1, .slice B1 W.freed.length d1] 63) = WA at *
      generalize WA.alloc (.cells #[.pointer (some ⟨w1.heap.size, 0, none⟩)] 61) = WB at *
      simp [results, Try.results14, go_sem, q0, q1, q2, q3, q4]
    · exact GivesR.more (do_end0 HO1.out HRES.out HB1.out (by omega)) (moreW (moreW (selfW _) _) _)
set_option maxHeartbeats 2000000 in
theorem gdo_1 (t : Nat) (r : RdT) (k0 : Nat) (h : WV w W A B xs) (hs : Sane W k0) (hk0 : k0 ≤ 400) (hr : W.rds[t]? = some r) :
    Calls Try.prog 14 #[.agg #[.int .i64 W.epoch, .int .i64 W.root, .int .i64 W.last, .slice A xs.length c, .slice B W.freed.length d], .agg #[.int .i64 t, .int .i64 1]] w (GivesR (seeW W t r) w) := by
  have hfew : xs.length ≤ 64 := by have := hs.few; rw [← h.rds, List.length_map] at this; exact this
  have hlens := hs.lens
  have hCP := copy_any (((w.alloc (.cells #[.int .i64 W.epoch, .int .i64 W.root, .int .i64 W.last, .slice A xs.length c, .slice B W.freed.length d] 38)).alloc (.cells #[.int .i64 t, .int .i64 1] 27)).alloc (.cells #[.int .i64 0, .int .i64 0, .int .i64 0, .slice none 0 0, .slice none 0 0] 38)) W A B c d xs (((h.below (moreW (selfW _) _)).below (moreW (selfW _) _)).below (moreW (selfW _) _)) hfew (by omega)
    (fun x hx => by have := hs.away (r := x.r) (by rw [← h.rds]; exact List.mem_map.2 ⟨x, hx, rfl⟩); omega)
  have HCP := hide hCP
  have HRDS := hide h.rds
  have HSA := hide hs
  obtain ⟨n, hn⟩ : ∃ n, n = xs.length := ⟨_, rfl⟩
  rw [← hn] at HCP hfew ⊢
  have HN := hide hn
  have hlen : Hid (W.rds.length = n) := by unfold Hid; rw [hn, ← h.rds, List.length_map]
  have htn : t < n := by have := len_of hr; rw [hlen.out] at this; exact this
  have HR0 := hide hr
  clear hCP h hs hn hlens
  go_enter Try.func14, Try.ntmps14
  go_wp2_with fail
  refine HCP.out.mono ?_
  rintro e w1 ⟨vr, vf, ys, rfl, hO1, hb1⟩
  have hact := (((Blk.newAt (w.alloc (.cells #[.int .i64 W.epoch, .int .i64 W.root, .int .i64 W.last, .slice A n c, .slice B W.freed.length d] 38)) 27 #[.int .i64 t, .int .i64 1] (g := w.heap.size + 1) (by simp)).alloc (.cells #[.int .i64 0, .int .i64 0, .int .i64 0, .slice none 0 0, .slice none 0 0] 38)).extW hb1)
  have hpar := ((((Blk.new w 38 #[.int .i64 W.epoch, .int .i64 W.root, .int .i64 W.last, .slice A n c, .slice B W.freed.length d]).alloc (.cells #[.int .i64 t, .int .i64 1] 27)).alloc (.cells #[.int .i64 0, .int .i64 0, .int .i64 0, .slice none 0 0, .slice none 0 0] 38)).extW hb1)
  have hres := ((Blk.newAt ((w.alloc (.cells #[.int .i64 W.epoch, .int .i64 W.root, .int .i64 W.last, .slice A n c, .slice B W.freed.length d] 38)).alloc (.cells #[.int .i64 t, .int .i64 1] 27)) 38 #[.int .i64 0, .int .i64 0, .int .i64 0, .slice none 0 0, .slice none 0 0] (g := w.heap.size + 2) (by simp)).extW hb1)
  obtain ⟨A1, c1, B1, d1, e1, e2, hWV⟩ := hO1.rd
  subst e1; subst e2
  have hyl : ys.length = n := by rw [← hlen.out, ← hO1.rds, List.length_map]
  rw [hyl] at hO1
  have hca := fun i => Blk.cell hact i
  have hcp := fun i => Blk.cell hpar i
  have hcr := fun i => Blk.cell hres i
  have hfr := fun i => Blk.free hres i
  have hsz := hres.lt
  have hsz1 := hact.lt
  have hsz0 := hpar.lt
  have hB1 := extW (moreW (moreW (moreW (selfW w) _) _) _) hb1
  have HB1 := hide hB1; have HO1 := hide hO1; have HRES := hide hres; have HACT := hide hact; have HYL := hide hyl
  clear hact hpar hres hO1 hb1 hB1 hyl HCP hWV
  rw [HYL.out]
  obtain ⟨x, hx, rfl⟩ := rds_get' HO1.out.rds HR0.out
  have hne : ys ≠ [] := by rintro rfl; simp at hx
  obtain ⟨g1, c9, hv9, hg1, hg2⟩ := HO1.out.row.form hne
  injection hv9 with e1 e2 e3
  subst e1
  have hS : StV ((w1.alloc (.cells #[.int .i64 W.epoch, .int .i64 W.root, .int .i64 W.last, .slice (some ⟨g1, 0, none⟩) n c1, .slice B1 W.freed.length d1] 63)).alloc (.cells #[.pointer (some ⟨w1.heap.size, 0, none⟩)] 61)) (w.heap.size + 3) w1.heap.size W (.slice (some ⟨g1, 0, none⟩) n c1) (.slice B1 W.freed.length d1) ys :=
    ⟨(Blk.new _ _ _).alloc _, by
      have h1 := (HO1.out.ext (moreW (selfW w1) (.cells #[.int .i64 W.epoch, .int .i64 W.root, .int .i64 W.last, .slice (some ⟨g1, 0, none⟩) n c1, .slice B1 W.freed.length d1] 63))).ext (moreW (selfW _) (.cells #[.pointer (some ⟨w1.heap.size, 0, none⟩)] 61))
      simp only [World.size_alloc] at h1
      exact h1, by omega⟩
  have hP5 := Blk.newAt (w1.alloc (.cells #[.int .i64 W.epoch, .int .i64 W.root, .int .i64 W.last, .slice (some ⟨g1, 0, none⟩) n c1, .slice B1 W.freed.length d1] 63)) 61 #[.pointer (some ⟨w1.heap.size, 0, none⟩)] (g := w1.heap.size + 1) (by simp)
  have hR5 := (HRES.out.alloc (.cells #[.int .i64 W.epoch, .int .i64 W.root, .int .i64 W.last, .slice (some ⟨g1, 0, none⟩) n c1, .slice B1 W.freed.length d1] 63)).alloc (.cells #[.pointer (some ⟨w1.heap.size, 0, none⟩)] 61)
  have hB5 := moreW (moreW HB1.out (.cells #[.int .i64 W.epoch, .int .i64 W.root, .int .i64 W.last, .slice (some ⟨g1, 0, none⟩) n c1, .slice B1 W.freed.length d1] 63)) (.cells #[.pointer (some ⟨w1.heap.size, 0, none⟩)] 61)
  have hA5 := (HACT.out.alloc (.cells #[.int .i64 W.epoch, .int .i64 W.root, .int .i64 W.last, .slice (some ⟨g1, 0, none⟩) n c1, .slice B1 W.freed.length d1] 63)).alloc (.cells #[.pointer (some ⟨w1.heap.size, 0, none⟩)] 61)
  have HS := hide hS; have HP := hide hP5; have HR := hide hR5; have HB := hide hB5; have HX := hide hx; have HA := hide hA5
  clear hS hP5 hR5 hB5 hx hne e2 e3 hA5
  have ht2 : (t : Int) < (n : Int) := by omega
  go_wp2_with fail
  go_quiet (fail)
  generalize hw5 : World.drewN (World.alloc (World.alloc w1 _) _) _ = w5
  have HD5 := hide (show Drew _ w5 from ⟨_, hw5.symm⟩)
  clear hw5
  have HS5 := hide (HS.out.ext HD5.out.extW)
  have HP5 := hide (HP.out.extW HD5.out.extW)
  have HR5 := hide (HR.out.extW HD5.out.extW)
  have HA5 := hide (HA.out.extW HD5.out.extW)
  have HB5 := hide (extW HB.out HD5.out.extW)
  obtain ⟨gs, hgs⟩ : ∃ gs, gs = w1.heap.size := ⟨_, rfl⟩
  rw [← hgs] at HS5 HP5
  rw [← hgs]
  have hca := fun i => Blk.cell HA5.out i
  have hza := HA5.out.lt
  have hcq := fun i => Blk.cell HP5.out i
  have hzq := HP5.out.lt
  have hbase : w.heap.size + 3 ≤ gs := by omega
  clear HD5 HS HP HR HA HB hgs hsz hsz0 hsz1 HB1 HO1 HRES HACT
  go_wp2_with fail
  refine (reads_1 HS5.out HX.out).mono ?_
  rintro e w6 ⟨rfl, ⟨vr6, vf6, zs, hS6⟩, hK6, hB6⟩
  obtain ⟨W', hW'⟩ : ∃ W', W' = seeW W t x.r := ⟨_, rfl⟩
  rw [← hW'] at hS6
  have HW := hide hW'
  clear hW'
  obtain ⟨A6, n6, c6, B6, m6, d6, rfl, rfl⟩ := hS6.shape
  have hP6 := hK6.blk HP5.out (by decide) (by decide) (by decide) (by decide)
  have hR6 := hK6.blk HR5.out (by decide) (by decide) (by decide) (by decide)
  have hc6 := fun i => Blk.cell hP6 i
  have hs6 := fun i => Blk.cell hS6.blk i
  have hr6 := fun i => Blk.cell hR6 i
  have hf6 := fun i => Blk.free hR6 i
  have hz6 := hS6.blk.lt
  have hz7 := hR6.lt
  have HR6 := hide hR6; have HS6 := hide hS6
  have HB6 := hide (HB5.out.trans (hB6.mono (by omega)))
  clear hP6 hR6 hS6 hK6 hB6
  go_wp2_with fail
  refine bodyPost_ret (v := .agg #[.int .i64 W'.epoch, .int .i64 W'.root, .int .i64 W'.last, .slice A6 n6 c6, .slice B6 m6 d6]) ?_ rfl ?_
  · obtain ⟨k0, k1, k2, k3, k4⟩ := set5_cells HR6.out (.int .i64 W'.epoch) (.int .i64 W'.root) (.int .i64 W'.last) (.slice A6 n6 c6) (.slice B6 m6 d6)
    unfold set5 at k4
    simp [results, Try.results14, go_sem, k0, k1, k2, k3, k4]
  · rw [← HW.out]; exact do_end HS6.out HR6.out HB6.out (by omega)
set_option maxHeartbeats 2000000 in
theorem gdo_2 (t : Nat) (r : RdT) (k0 : Nat) (h : WV w W A B xs) (hs : Sane W k0) (hk0 : k0 ≤ 400) (hr : W.rds[t]? = some r) :
    Calls Try.prog 14 #[.agg #[.int .i64 W.epoch, .int .i64 W.root, .int .i64 W.last, .slice A xs.length c, .slice B W.freed.length d], .agg #[.int .i64 t, .int .i64 2]] w (GivesR (enterW W t r) w) := by
  have hfew : xs.length ≤ 64 := by have := hs.few; rw [← h.rds, List.length_map] at this; exact this
  have hlens := hs.lens
  have hCP := copy_any (((w.alloc (.cells #[.int .i64 W.epoch, .int .i64 W.root, .int .i64 W.last, .slice A xs.length c, .slice B W.freed.length d] 38)).alloc (.cells #[.int .i64 t, .int .i64 2] 27)).alloc (.cells #[.int .i64 0, .int .i64 0, .int .i64 0, .slice none 0 0, .slice none 0 0] 38)) W A B c d xs (((h.below (moreW (selfW _) _)).below (moreW (selfW _) _)).below (moreW (selfW _) _)) hfew (by omega)
    (fun x hx => by have := hs.away (r := x.r) (by rw [← h.rds]; exact List.mem_map.2 ⟨x, hx, rfl⟩); omega)
  have HCP := hide hCP
  have HRDS := hide h.rds
  have HSA := hide hs
  obtain ⟨n, hn⟩ : ∃ n, n = xs.length := ⟨_, rfl⟩
  rw [← hn] at HCP hfew ⊢
  have HN := hide hn
  have hlen : Hid (W.rds.length = n) := by unfold Hid; rw [hn, ← h.rds, List.length_map]
  have htn : t < n := by have := len_of hr; rw [hlen.out] at this; exact this
  have HR0 := hide hr
  clear hCP h hs hn hlens
  go_enter Try.func14, Try.ntmps14
  go_wp2_with fail
  refine HCP.out.mono ?_
  rintro e w1 ⟨vr, vf, ys, rfl, hO1, hb1⟩
  have hact := (((Blk.newAt (w.alloc (.cells #[.int .i64 W.epoch, .int .i64 W.root, .int .i64 W.last, .slice A n c, .slice B W.freed.length d] 38)) 27 #[.int .i64 t, .int .i64 2] (g := w.heap.size + 1) (by simp)).alloc (.cells #[.int .i64 0, .int .i64 0, .int .i64 0, .slice none 0 0, .slice none 0 0] 38)).extW hb1)
  have hpar := ((((Blk.new w 38 #[.int .i64 W.epoch, .int .i64 W.root, .int .i64 W.last, .slice A n c, .slice B W.freed.length d]).alloc (.cells #[.int .i64 t, .int .i64 2] 27)).alloc (.cells #[.int .i64 0, .int .i64 0, .int .i64 0, .slice none 0 0, .slice none 0 0] 38)).extW hb1)
  have hres := ((Blk.newAt ((w.alloc (.cells #[.int .i64 W.epoch, .int .i64 W.root, .int .i64 W.last, .slice A n c, .slice B W.freed.length d] 38)).alloc (.cells #[.int .i64 t, .int .i64 2] 27)) 38 #[.int .i64 0, .int .i64 0, .int .i64 0, .slice none 0 0, .slice none 0 0] (g := w.heap.size + 2) (by simp)).extW hb1)
  obtain ⟨A1, c1, B1, d1, e1, e2, hWV⟩ := hO1.rd
  subst e1; subst e2
  have hyl : ys.length = n := by rw [← hlen.out, ← hO1.rds, List.length_map]
  rw [hyl] at hO1
  have hca := fun i => Blk.cell hact i
  have hcp := fun i => Blk.cell hpar i
  have hcr := fun i => Blk.cell hres i
  have hfr := fun i => Blk.free hres i
  have hsz := hres.lt
  have hsz1 := hact.lt
  have hsz0 := hpar.lt
  have hB1 := extW (moreW (moreW (moreW (selfW w) _) _) _) hb1
  have HB1 := hide hB1; have HO1 := hide hO1; have HRES := hide hres; have HACT := hide hact; have HYL := hide hyl
  clear hact hpar hres hO1 hb1 hB1 hyl HCP hWV
  rw [HYL.out]
  obtain ⟨x, hx, rfl⟩ := rds_get' HO1.out.rds HR0.out
  have hne : ys ≠ [] := by rintro rfl; simp at hx
  obtain ⟨g1, c9, hv9, hg1, hg2⟩ := HO1.out.row.form hne
  injection hv9 with e1 e2 e3
  subst e1
  have hS : StV ((w1.alloc (.cells #[.int .i64 W.epoch, .int .i64 W.root, .int .i64 W.last, .slice (some ⟨g1, 0, none⟩) n c1, .slice B1 W.freed.length d1] 63)).alloc (.cells #[.pointer (some ⟨w1.heap.size, 0, none⟩)] 61)) (w.heap.size + 3) w1.heap.size W (.slice (some ⟨g1, 0, none⟩) n c1) (.slice B1 W.freed.length d1) ys :=
    ⟨(Blk.new _ _ _).alloc _, by
      have h1 := (HO1.out.ext (moreW (selfW w1) (.cells #[.int .i64 W.epoch, .int .i64 W.root, .int .i64 W.last, .slice (some ⟨g1, 0, none⟩) n c1, .slice B1 W.freed.length d1] 63))).ext (moreW (selfW _) (.cells #[.pointer (some ⟨w1.heap.size, 0, none⟩)] 61))
      simp only [World.size_alloc] at h1
      exact h1, by omega⟩
  have hP5 := Blk.newAt (w1.alloc (.cells #[.int .i64 W.epoch, .int .i64 W.root, .int .i64 W.last, .slice (some ⟨g1, 0, none⟩) n c1, .slice B1 W.freed.length d1] 63)) 61 #[.pointer (some ⟨w1.heap.size, 0, none⟩)] (g := w1.heap.size + 1) (by simp)
  have hR5 := (HRES.out.alloc (.cells #[.int .i64 W.epoch, .int .i64 W.root, .int .i64 W.last, .slice (some ⟨g1, 0, none⟩) n c1, .slice B1 W.freed.length d1] 63)).alloc (.cells #[.pointer (some ⟨w1.heap.size, 0, none⟩)] 61)
  have hB5 := moreW (moreW HB1.out (.cells #[.int .i64 W.epoch, .int .i64 W.root, .int .i64 W.last, .slice (some ⟨g1, 0, none⟩) n c1, .slice B1 W.freed.length d1] 63)) (.cells #[.pointer (some ⟨w1.heap.size, 0, none⟩)] 61)
  have hA5 := (HACT.out.alloc (.cells #[.int .i64 W.epoch, .int .i64 W.root, .int .i64 W.last, .slice (some ⟨g1, 0, none⟩) n c1, .slice B1 W.freed.length d1] 63)).alloc (.cells #[.pointer (some ⟨w1.heap.size, 0, none⟩)] 61)
  have HS := hide hS; have HP := hide hP5; have HR := hide hR5; have HB := hide hB5; have HX := hide hx; have HA := hide hA5
  clear hS hP5 hR5 hB5 hx hne e2 e3 hA5
  have ht2 : (t : Int) < (n : Int) := by omega
  go_wp2_with fail
  go_quiet (fail)
  generalize hw5 : World.drewN (World.alloc (World.alloc w1 _) _) _ = w5
  have HD5 := hide (show Drew _ w5 from ⟨_, hw5.symm⟩)
  clear hw5
  have HS5 := hide (HS.out.ext HD5.out.extW)
  have HP5 := hide (HP.out.extW HD5.out.extW)
  have HR5 := hide (HR.out.extW HD5.out.extW)
  have HA5 := hide (HA.out.extW HD5.out.extW)
  have HB5 := hide (extW HB.out HD5.out.extW)
  obtain ⟨gs, hgs⟩ : ∃ gs, gs = w1.heap.size := ⟨_, rfl⟩
  rw [← hgs] at HS5 HP5
  rw [← hgs]
  have hca := fun i => Blk.cell HA5.out i
  have hza := HA5.out.lt
  have hcq := fun i => Blk.cell HP5.out i
  have hzq := HP5.out.lt
  have hbase : w.heap.size + 3 ≤ gs := by omega
  clear HD5 HS HP HR HA HB hgs hsz hsz0 hsz1 HB1 HO1 HRES HACT
  go_wp2_with fail
  refine (reads_2 HS5.out HX.out).mono ?_
  rintro e w6 ⟨rfl, ⟨vr6, vf6, zs, hS6⟩, hK6, hB6⟩
  obtain ⟨W', hW'⟩ : ∃ W', W' = enterW W t x.r := ⟨_, rfl⟩
  rw [← hW'] at hS6
  have HW := hide hW'
  clear hW'
  obtain ⟨A6, n6, c6, B6, m6, d6, rfl, rfl⟩ := hS6.shape
  have hP6 := hK6.blk HP5.out (by decide) (by decide) (by decide) (by decide)
  have hR6 := hK6.blk HR5.out (by decide) (by decide) (by decide) (by decide)
  have hc6 := fun i => Blk.cell hP6 i
  have hs6 := fun i => Blk.cell hS6.blk i
  have hr6 := fun i => Blk.cell hR6 i
  have hf6 := fun i => Blk.free hR6 i
  have hz6 := hS6.blk.lt
  have hz7 := hR6.lt
  have HR6 := hide hR6; have HS6 := hide hS6
  have HB6 := hide (HB5.out.trans (hB6.mono (by omega)))
  clear hP6 hR6 hS6 hK6 hB6
  go_wp2_with fail
  refine bodyPost_ret (v := .agg #[.int .i64 W'.epoch, .int .i64 W'.root, .int .i64 W'.last, .slice A6 n6 c6, .slice B6 m6 d6]) ?_ rfl ?_
  · obtain ⟨k0, k1, k2, k3, k4⟩ := set5_cells HR6.out (.int .i64 W'.epoch) (.int .i64 W'.root) (.int .i64 W'.last) (.slice A6 n6 c6) (.slice B6 m6 d6)
    unfold set5 at k4
    simp [results, Try.results14, go_sem, k0, k1, k2, k3, k4]
  · rw [← HW.out]; exact do_end HS6.out HR6.out HB6.out (by omega)
set_option maxHeartbeats 2000000 in
theorem gdo_3 (t : Nat) (r : RdT) (k0 : Nat) (h : WV w W A B xs) (hs : Sane W k0) (hk0 : k0 ≤ 400) (hr : W.rds[t]? = some r) :
    Calls Try.prog 14 #[.agg #[.int .i64 W.epoch, .int .i64 W.root, .int .i64 W.last, .slice A xs.length c, .slice B W.freed.length d], .agg #[.int .i64 t, .int .i64 3]] w (GivesR (guardW W t r) w) := by
  have hfew : xs.length ≤ 64 := by have := hs.few; rw [← h.rds, List.length_map] at this; exact this
  have hlens := hs.lens
  have hCP := copy_any (((w.alloc (.cells #[.int .i64 W.epoch, .int .i64 W.root, .int .i64 W.last, .slice A xs.length c, .slice B W.freed.length d] 38)).alloc (.cells #[.int .i64 t, .int .i64 3] 27)).alloc (.cells #[.int .i64 0, .int .i64 0, .int .i64 0, .slice none 0 0, .slice none 0 0] 38)) W A B c d xs (((h.below (moreW (selfW _) _)).below (moreW (selfW _) _)).below (moreW (selfW _) _)) hfew (by omega)
    (fun x hx => by have := hs.away (r := x.r) (by rw [← h.rds]; exact List.mem_map.2 ⟨x, hx, rfl⟩); omega)
  have HCP := hide hCP
  have HRDS := hide h.rds
  have HSA := hide hs
  obtain ⟨n, hn⟩ : ∃ n, n = xs.length := ⟨_, rfl⟩
  rw [← hn] at HCP hfew ⊢
  have HN := hide hn
  have hlen : Hid (W.rds.length = n) := by unfold Hid; rw [hn, ← h.rds, List.length_map]
  have htn : t < n := by have := len_of hr; rw [hlen.out] at this; exact this
  have HR0 := hide hr
  clear hCP h hs hn hlens
  go_enter Try.func14, Try.ntmps14
  go_wp2_with fail
  refine HCP.out.mono ?_
  rintro e w1 ⟨vr, vf, ys, rfl, hO1, hb1⟩
  have hact := (((Blk.newAt (w.alloc (.cells #[.int .i64 W.epoch, .int .i64 W.root, .int .i64 W.last, .slice A n c, .slice B W.freed.length d] 38)) 27 #[.int .i64 t, .int .i64 3] (g := w.heap.size + 1) (by simp)).alloc (.cells #[.int .i64 0, .int .i64 0, .int .i64 0, .slice none 0 0, .slice none 0 0] 38)).extW hb1)
  have hpar := ((((Blk.new w 38 #[.int .i64 W.epoch, .int .i64 W.root, .int .i64 W.last, .slice A n c, .slice B W.freed.length d]).alloc (.cells #[.int .i64 t, .int .i64 3] 27)).alloc (.cells #[.int .i64 0, .int .i64 0, .int .i64 0, .slice none 0 0, .slice none 0 0] 38)).extW hb1)
  have hres := ((Blk.newAt ((w.alloc (.cells #[.int .i64 W.epoch, .int .i64 W.root, .int .i64 W.last, .slice A n c, .slice B W.freed.length d] 38)).alloc (.cells #[.int .i64 t, .int .i64 3] 27)) 38 #[.int .i64 0, .int .i64 0, .int .i64 0, .slice none 0 0, .slice none 0 0] (g := w.heap.size + 2) (by simp)).extW hb1)
  obtain ⟨A1, c1, B1, d1, e1, e2, hWV⟩ := hO1.rd
  subst e1; subst e2
  have hyl : ys.length = n := by rw [← hlen.out, ← hO1.rds, List.length_map]
  rw [hyl] at hO1
  have hca := fun i => Blk.cell hact i
  have hcp := fun i => Blk.cell hpar i
  have hcr := fun i => Blk.cell hres i
  have hfr := fun i => Blk.free hres i
  have hsz := hres.lt
  have hsz1 := hact.lt
  have hsz0 := hpar.lt
  have hB1 := extW (moreW (moreW (moreW (selfW w) _) _) _) hb1
  have HB1 := hide hB1; have HO1 := hide hO1; have HRES := hide hres; have HACT := hide hact; have HYL := hide hyl
  clear hact hpar hres hO1 hb1 hB1 hyl HCP hWV
  rw [HYL.out]
  obtain ⟨x, hx, rfl⟩ := rds_get' HO1.out.rds HR0.out
  have hne : ys ≠ [] := by rintro rfl; simp at hx
  obtain ⟨g1, c9, hv9, hg1, hg2⟩ := HO1.out.row.form hne
  injection hv9 with e1 e2 e3
  subst e1
  have hS : StV ((w1.alloc (.cells #[.int .i64 W.epoch, .int .i64 W.root, .int .i64 W.last, .slice (some ⟨g1, 0, none⟩) n c1, .slice B1 W.freed.length d1] 63)).alloc (.cells #[.pointer (some ⟨w1.heap.size, 0, none⟩)] 61)) (w.heap.size + 3) w1.heap.size W (.slice (some ⟨g1, 0, none⟩) n c1) (.slice B1 W.freed.length d1) ys :=
    ⟨(Blk.new _ _ _).alloc _, by
      have h1 := (HO1.out.ext (moreW (selfW w1) (.cells #[.int .i64 W.epoch, .int .i64 W.root, .int .i64 W.last, .slice (some ⟨g1, 0, none⟩) n c1, .slice B1 W.freed.length d1] 63))).ext (moreW (selfW _) (.cells #[.pointer (some ⟨w1.heap.size, 0, none⟩)] 61))
      simp only [World.size_alloc] at h1
      exact h1, by omega⟩
  have hP5 := Blk.newAt (w1.alloc (.cells #[.int .i64 W.epoch, .int .i64 W.root, .int .i64 W.last, .slice (some ⟨g1, 0, none⟩) n c1, .slice B1 W.freed.length d1] 63)) 61 #[.pointer (some ⟨w1.heap.size, 0, none⟩)] (g := w1.heap.size + 1) (by simp)
  have hR5 := (HRES.out.alloc (.cells #[.int .i64 W.epoch, .int .i64 W.root, .int .i64 W.last, .slice (some ⟨g1, 0, none⟩) n c1, .slice B1 W.freed.length d1] 63)).alloc (.cells #[.pointer (some ⟨w1.heap.size, 0, none⟩)] 61)
  have hB5 := moreW (moreW HB1.out (.cells #[.int .i64 W.epoch, .int .i64 W.root, .int .i64 W.last, .slice (some ⟨g1, 0, none⟩) n c1, .slice B1 W.freed.length d1] 63)) (.cells #[.pointer (some ⟨w1.heap.size, 0, none⟩)] 61)
  have hA5 := (HACT.out.alloc (.cells #[.int .i64 W.epoch, .int .i64 W.root, .int .i64 W.last, .slice (some ⟨g1, 0, none⟩) n c1, .slice B1 W.freed.length d1] 63)).alloc (.cells #[.pointer (some ⟨w1.heap.size, 0, none⟩)] 61)
  have HS := hide hS; have HP := hide hP5; have HR := hide hR5; have HB := hide hB5; have HX := hide hx; have HA := hide hA5
  clear hS hP5 hR5 hB5 hx hne e2 e3 hA5
  have ht2 : (t : Int) < (n : Int) := by omega
  go_wp2_with fail
  go_quiet (fail)
  generalize hw5 : World.drewN (World.alloc (World.alloc w1 _) _) _ = w5
  have HD5 := hide (show Drew _ w5 from ⟨_, hw5.symm⟩)
  clear hw5
  have HS5 := hide (HS.out.ext HD5.out.extW)
  have HP5 := hide (HP.out.extW HD5.out.extW)
  have HR5 := hide (HR.out.extW HD5.out.extW)
  have HA5 := hide (HA.out.extW HD5.out.extW)
  have HB5 := hide (extW HB.out HD5.out.extW)
  obtain ⟨gs, hgs⟩ : ∃ gs, gs = w1.heap.size := ⟨_, rfl⟩
  rw [← hgs] at HS5 HP5
  rw [← hgs]
  have hca := fun i => Blk.cell HA5.out i
  have hza := HA5.out.lt
  have hcq := fun i => Blk.cell HP5.out i
  have hzq := HP5.out.lt
  have hbase : w.heap.size + 3 ≤ gs := by omega
  clear HD5 HS HP HR HA HB hgs hsz hsz0 hsz1 HB1 HO1 HRES HACT
  go_wp2_with fail
  refine (reads_3 HS5.out HX.out).mono ?_
  rintro e w6 ⟨rfl, ⟨vr6, vf6, zs, hS6⟩, hK6, hB6⟩
  obtain ⟨W', hW'⟩ : ∃ W', W' = guardW W t x.r := ⟨_, rfl⟩
  rw [← hW'] at hS6
  have HW := hide hW'
  clear hW'
  obtain ⟨A6, n6, c6, B6, m6, d6, rfl, rfl⟩ := hS6.shape
  have hP6 := hK6.blk HP5.out (by decide) (by decide) (by decide) (by decide)
  have hR6 := hK6.blk HR5.out (by decide) (by decide) (by decide) (by decide)
  have hc6 := fun i => Blk.cell hP6 i
  have hs6 := fun i => Blk.cell hS6.blk i
  have hr6 := fun i => Blk.cell hR6 i
  have hf6 := fun i => Blk.free hR6 i
  have hz6 := hS6.blk.lt
  have hz7 := hR6.lt
  have HR6 := hide hR6; have HS6 := hide hS6
  have HB6 := hide (HB5.out.trans (hB6.mono (by omega)))
  clear hP6 hR6 hS6 hK6 hB6
  go_wp2_with fail
  refine bodyPost_ret (v := .agg #[.int .i64 W'.epoch, .int .i64 W'.root, .int .i64 W'.last, .slice A6 n6 c6, .slice B6 m6 d6]) ?_ rfl ?_
  · obtain ⟨k0, k1, k2, k3, k4⟩ := set5_cells HR6.out (.int .i64 W'.epoch) (.int .i64 W'.root) (.int .i64 W'.last) (.slice A6 n6 c6) (.slice B6 m6 d6)
    unfold set5 at k4
    simp [results, Try.results14, go_sem, k0, k1, k2, k3, k4]
  · rw [← HW.out]; exact do_end HS6.out HR6.out HB6.out (by omega)
set_option maxHeartbeats 2000000 in
theorem gdo_4 (t : Nat) (r : RdT) (k0 : Nat) (h : WV w W A B xs) (hs : Sane W k0) (hk0 : k0 ≤ 400) (hr : W.rds[t]? = some r) :
    Calls Try.prog 14 #[.agg #[.int .i64 W.epoch, .int .i64 W.root, .int .i64 W.last, .slice A xs.length c, .slice B W.freed.length d], .agg #[.int .i64 t, .int .i64 4]] w (GivesR (holdW W t r) w) := by
  have hfew : xs.length ≤ 64 := by have := hs.few; rw [← h.rds, List.length_map] at this; exact this
  have hlens := hs.lens
  have hCP := copy_any (((w.alloc (.cells #[.int .i64 W.epoch, .int .i64 W.root, .int .i64 W.last, .slice A xs.length c, .slice B W.freed.length d] 38)).alloc (.cells #[.int .i64 t, .int .i64 4] 27)).alloc (.cells #[.int .i64 0, .int .i64 0, .int .i64 0, .slice none 0 0, .slice none 0 0] 38)) W A B c d xs (((h.below (moreW (selfW _) _)).below (moreW (selfW _) _)).below (moreW (selfW _) _)) hfew (by omega)
    (fun x hx => by have := hs.away (r := x.r) (by rw [← h.rds]; exact List.mem_map.2 ⟨x, hx, rfl⟩); omega)
  have HCP := hide hCP
  have HRDS := hide h.rds
  have HSA := hide hs
  obtain ⟨n, hn⟩ : ∃ n, n = xs.length := ⟨_, rfl⟩
  rw [← hn] at HCP hfew ⊢
  have HN := hide hn
  have hlen : Hid (W.rds.length = n) := by unfold Hid; rw [hn, ← h.rds, List.length_map]
  have htn : t < n := by have := len_of hr; rw [hlen.out] at this; exact this
  have HR0 := hide hr
  clear hCP h hs hn hlens
  go_enter Try.func14, Try.ntmps14
  go_wp2_with fail
  refine HCP.out.mono ?_
  rintro e w1 ⟨vr, vf, ys, rfl, hO1, hb1⟩
  have hact := (((Blk.newAt (w.alloc (.cells #[.int .i64 W.epoch, .int .i64 W.root, .int .i64 W.last, .slice A n c, .slice B W.freed.length d] 38)) 27 #[.int .i64 t, .int .i64 4] (g := w.heap.size + 1) (by simp)).alloc (.cells #[.int .i64 0, .int .i64 0, .int .i64 0, .slice none 0 0, .slice none 0 0] 38)).extW hb1)
  have hpar := ((((Blk.new w 38 #[.int .i64 W.epoch, .int .i64 W.root, .int .i64 W.last, .slice A n c, .slice B W.freed.length d]).alloc (.cells #[.int .i64 t, .int .i64 4] 27)).alloc (.cells #[.int .i64 0, .int .i64 0, .int .i64 0, .slice none 0 0, .slice none 0 0] 38)).extW hb1)
  have hres := ((Blk.newAt ((w.alloc (.cells #[.int .i64 W.epoch, .int .i64 W.root, .int .i64 W.last, .slice A n c, .slice B W.freed.length d] 38)).alloc (.cells #[.int .i64 t, .int .i64 4] 27)) 38 #[.int .i64 0, .int .i64 0, .int .i64 0, .slice none 0 0, .slice none 0 0] (g := w.heap.size + 2) (by simp)).extW hb1)
  obtain ⟨A1, c1, B1, d1, e1, e2, hWV⟩ := hO1.rd
  subst e1; subst e2
  have hyl : ys.length = n := by rw [← hlen.out, ← hO1.rds, List.length_map]
  rw [hyl] at hO1
  have hca := fun i => Blk.cell hact i
  have hcp := fun i => Blk.cell hpar i
  have hcr := fun i => Blk.cell hres i
  have hfr := fun i => Blk.free hres i
  have hsz := hres.lt
  have hsz1 := hact.lt
  have hsz0 := hpar.lt
  have hB1 := extW (moreW (moreW (moreW (selfW w) _) _) _) hb1
  have HB1 := hide hB1; have HO1 := hide hO1; have HRES := hide hres; have HACT := hide hact; have HYL := hide hyl
  clear hact hpar hres hO1 hb1 hB1 hyl HCP hWV
  rw [HYL.out]
  obtain ⟨x, hx, rfl⟩ := rds_get' HO1.out.rds HR0.out
  have hne : ys ≠ [] := by rintro rfl; simp at hx
  obtain ⟨g1, c9, hv9, hg1, hg2⟩ := HO1.out.row.form hne
  injection hv9 with e1 e2 e3
  subst e1
  have hS : StV ((w1.alloc (.cells #[.int .i64 W.epoch, .int .i64 W.root, .int .i64 W.last, .slice (some ⟨g1, 0, none⟩) n c1, .slice B1 W.freed.length d1] 63)).alloc (.cells #[.pointer (some ⟨w1.heap.size, 0, none⟩)] 61)) (w.heap.size + 3) w1.heap.size W (.slice (some ⟨g1, 0, none⟩) n c1) (.slice B1 W.freed.length d1) ys :=
    ⟨(Blk.new _ _ _).alloc _, by
      have h1 := (HO1.out.ext (moreW (selfW w1) (.cells #[.int .i64 W.epoch, .int .i64 W.root, .int .i64 W.last, .slice (some ⟨g1, 0, none⟩) n c1, .slice B1 W.freed.length d1] 63))).ext (moreW (selfW _) (.cells #[.pointer (some ⟨w1.heap.size, 0, none⟩)] 61))
      simp only [World.size_alloc] at h1
      exact h1, by omega⟩
  have hP5 := Blk.newAt (w1.alloc (.cells #[.int .i64 W.epoch, .int .i64 W.root, .int .i64 W.last, .slice (some ⟨g1, 0, none⟩) n c1, .slice B1 W.freed.length d1] 63)) 61 #[.pointer (some ⟨w1.heap.size, 0, none⟩)] (g := w1.heap.size + 1) (by simp)
  have hR5 := (HRES.out.alloc (.cells #[.int .i64 W.epoch, .int .i64 W.root, .int .i64 W.last, .slice (some ⟨g1, 0, none⟩) n c1, .slice B1 W.freed.length d1] 63)).alloc (.cells #[.pointer (some ⟨w1.heap.size, 0, none⟩)] 61)
  have hB5 := moreW (moreW HB1.out (.cells #[.int .i64 W.epoch, .int .i64 W.root, .int .i64 W.last, .slice (some ⟨g1, 0, none⟩) n c1, .slice B1 W.freed.length d1] 63)) (.cells #[.pointer (some ⟨w1.heap.size, 0, none⟩)] 61)
  have hA5 := (HACT.out.alloc (.cells #[.int .i64 W.epoch, .int .i64 W.root, .int .i64 W.last, .slice (some ⟨g1, 0, none⟩) n c1, .slice B1 W.freed.length d1] 63)).alloc (.cells #[.pointer (some ⟨w1.heap.size, 0, none⟩)] 61)
  have HS := hide hS; have HP := hide hP5; have HR := hide hR5; have HB := hide hB5; have HX := hide hx; have HA := hide hA5
  clear hS hP5 hR5 hB5 hx hne e2 e3 hA5
  have ht2 : (t : Int) < (n : Int) := by omega
  go_wp2_with fail
  go_quiet (fail)
  generalize hw5 : World.drewN (World.alloc (World.alloc w1 _) _) _ = w5
  have HD5 := hide (show Drew _ w5 from ⟨_, hw5.symm⟩)
  clear hw5
  have HS5 := hide (HS.out.ext HD5.out.extW)
  have HP5 := hide (HP.out.extW HD5.out.extW)
  have HR5 := hide (HR.out.extW HD5.out.extW)
  have HA5 := hide (HA.out.extW HD5.out.extW)
  have HB5 := hide (extW HB.out HD5.out.extW)
  obtain ⟨gs, hgs⟩ : ∃ gs, gs = w1.heap.size := ⟨_, rfl⟩
  rw [← hgs] at HS5 HP5
  rw [← hgs]
  have hca := fun i => Blk.cell HA5.out i
  have hza := HA5.out.lt
  have hcq := fun i => Blk.cell HP5.out i
  have hzq := HP5.out.lt
  have hbase : w.heap.size + 3 ≤ gs := by omega
  clear HD5 HS HP HR HA HB hgs hsz hsz0 hsz1 HB1 HO1 HRES HACT
  go_wp2_with fail
  refine (reads_4 HS5.out HX.out).mono ?_
  rintro e w6 ⟨rfl, ⟨vr6, vf6, zs, hS6⟩, hK6, hB6⟩
  obtain ⟨W', hW'⟩ : ∃ W', W' = holdW W t x.r := ⟨_, rfl⟩
  rw [← hW'] at hS6
  have HW := hide hW'
  clear hW'
  obtain ⟨A6, n6, c6, B6, m6, d6, rfl, rfl⟩ := hS6.shape
  have hP6 := hK6.blk HP5.out (by decide) (by decide) (by decide) (by decide)
  have hR6 := hK6.blk HR5.out (by decide) (by decide) (by decide) (by decide)
  have hc6 := fun i => Blk.cell hP6 i
  have hs6 := fun i => Blk.cell hS6.blk i
  have hr6 := fun i => Blk.cell hR6 i
  have hf6 := fun i => Blk.free hR6 i
  have hz6 := hS6.blk.lt
  have hz7 := hR6.lt
  have HR6 := hide hR6; have HS6 := hide hS6
  have HB6 := hide (HB5.out.trans (hB6.mono (by omega)))
  clear hP6 hR6 hS6 hK6 hB6
  go_wp2_with fail
  refine bodyPost_ret (v := .agg #[.int .i64 W'.epoch, .int .i64 W'.root, .int .i64 W'.last, .slice A6 n6 c6, .slice B6 m6 d6]) ?_ rfl ?_
  · obtain ⟨k0, k1, k2, k3, k4⟩ := set5_cells HR6.out (.int .i64 W'.epoch) (.int .i64 W'.root) (.int .i64 W'.last) (.slice A6 n6 c6) (.slice B6 m6 d6)
    unfold set5 at k4
    simp [results, Try.results14, go_sem, k0, k1, k2, k3, k4]
  · rw [← HW.out]; exact do_end HS6.out HR6.out HB6.out (by omega)
set_option maxHeartbeats 2000000 in
theorem gdo_6 (t : Nat) (r : RdT) (k0 : Nat) (h : WV w W A B xs) (hs : Sane W k0) (hk0 : k0 ≤ 400) (hr : W.rds[t]? = some r) :
    Calls Try.prog 14 #[.agg #[.int .i64 W.epoch, .int .i64 W.root, .int .i64 W.last, .slice A xs.length c, .slice B W.freed.length d], .agg #[.int .i64 t, .int .i64 6]] w (GivesR (dropW W t r) w) := by
  have hfew : xs.length ≤ 64 := by have := hs.few; rw [← h.rds, List.length_map] at this; exact this
  have hlens := hs.lens
  have hCP := copy_any (((w.alloc (.cells #[.int .i64 W.epoch, .int .i64 W.root, .int .i64 W.last, .slice A xs.length c, .slice B W.freed.length d] 38)).alloc (.cells #[.int .i64 t, .int .i64 6] 27)).alloc (.cells #[.int .i64 0, .int .i64 0, .int .i64 0, .slice none 0 0, .slice none 0 0] 38)) W A B c d xs (((h.below (moreW (selfW _) _)).below (moreW (selfW _) _)).below (moreW (selfW _) _)) hfew (by omega)
    (fun x hx => by have := hs.away (r := x.r) (by rw [← h.rds]; exact List.mem_map.2 ⟨x, hx, rfl⟩); omega)
  have HCP := hide hCP
  have HRDS := hide h.rds
  have HSA := hide hs
  obtain ⟨n, hn⟩ : ∃ n, n = xs.length := ⟨_, rfl⟩
  rw [← hn] at HCP hfew ⊢
  have HN := hide hn
  have hlen : Hid (W.rds.length = n) := by unfold Hid; rw [hn, ← h.rds, List.length_map]
  have htn : t < n := by have := len_of hr; rw [hlen.out] at this; exact this
  have HR0 := hide hr
  clear hCP h hs hn hlens
  go_enter Try.func14, Try.ntmps14
  go_wp2_with fail
  refine HCP.out.mono ?_
  rintro e w1 ⟨vr, vf, ys, rfl, hO1, hb1⟩
  have hact := (((Blk.newAt (w.alloc (.cells #[.int .i64 W.epoch, .int .i64 W.root, .int .i64 W.last, .slice A n c, .slice B W.freed.length d] 38)) 27 #[.int .i64 t, .int .i64 6] (g := w.heap.size + 1) (by simp)).alloc (.cells #[.int .i64 0, .int .i64 0, .int .i64 0, .slice none 0 0, .slice none 0 0] 38)).extW hb1)
  have hpar := ((((Blk.new w 38 #[.int .i64 W.epoch, .int .i64 W.root, .int .i64 W.last, .slice A n c, .slice B W.freed.length d]).alloc (.cells #[.int .i64 t, .int .i64 6] 27)).alloc (.cells #[.int .i64 0, .int .i64 0, .int .i64 0, .slice none 0 0, .slice none 0 0] 38)).extW hb1)
  have hres := ((Blk.newAt ((w.alloc (.cells #[.int .i64 W.epoch, .int .i64 W.root, .int .i64 W.last, .slice A n c, .slice B W.freed.length d] 38)).alloc (.cells #[.int .i64 t, .int .i64 6] 27)) 38 #[.int .i64 0, .int .i64 0, .int .i64 0, .slice none 0 0, .slice none 0 0] (g := w.heap.size + 2) (by simp)).extW hb1)
  obtain ⟨A1, c1, B1, d1, e1, e2, hWV⟩ := hO1.rd
  subst e1; subst e2
  have hyl : ys.length = n := by rw [← hlen.out, ← hO1.rds, List.length_map]
  rw [hyl] at hO1
  have hca := fun i => Blk.cell hact i
  have hcp := fun i => Blk.cell hpar i
  have hcr := fun i => Blk.cell hres i
  have hfr := fun i => Blk.free hres i
  have hsz := hres.lt
  have hsz1 := hact.lt
  have hsz0 := hpar.lt
  have hB1 := extW (moreW (moreW (moreW (selfW w) _) _) _) hb1
  have HB1 := hide hB1; have HO1 := hide hO1; have HRES := hide hres; have HACT := hide hact; have HYL := hide hyl
  clear hact hpar hres hO1 hb1 hB1 hyl HCP hWV
  rw [HYL.out]
  obtain ⟨x, hx, rfl⟩ := rds_get' HO1.out.rds HR0.out
  have hne : ys ≠ [] := by rintro rfl; simp at hx
  obtain ⟨g1, c9, hv9, hg1, hg2⟩ := HO1.out.row.form hne
  injection hv9 with e1 e2 e3
  subst e1
  have hS : StV ((w1.alloc (.cells #[.int .i64 W.epoch, .int .i64 W.root, .int .i64 W.last, .slice (some ⟨g1, 0, none⟩) n c1, .slice B1 W.freed.length d1] 63)).alloc (.cells #[.pointer (some ⟨w1.heap.size, 0, none⟩)] 61)) (w.heap.size + 3) w1.heap.size W (.slice (some ⟨g1, 0, none⟩) n c1) (.slice B1 W.freed.length d1) ys :=
    ⟨(Blk.new _ _ _).alloc _, by
      have h1 := (HO1.out.ext (moreW (selfW w1) (.cells #[.int .i64 W.epoch, .int .i64 W.root, .int .i64 W.last, .slice (some ⟨g1, 0, none⟩) n c1, .slice B1 W.freed.length d1] 63))).ext (moreW (selfW _) (.cells #[.pointer (some ⟨w1.heap.size, 0, none⟩)] 61))
      simp only [World.size_alloc] at h1
      exact h1, by omega⟩
  have hP5 := Blk.newAt (w1.alloc (.cells #[.int .i64 W.epoch, .int .i64 W.root, .int .i64 W.last, .slice (some ⟨g1, 0, none⟩) n c1, .slice B1 W.freed.length d1] 63)) 61 #[.pointer (some ⟨w1.heap.size, 0, none⟩)] (g := w1.heap.size + 1) (by simp)
  have hR5 := (HRES.out.alloc (.cells #[.int .i64 W.epoch, .int .i64 W.root, .int .i64 W.last, .slice (some ⟨g1, 0, none⟩) n c1, .slice B1 W.freed.length d1] 63)).alloc (.cells #[.pointer (some ⟨w1.heap.size, 0, none⟩)] 61)
  have hB5 := moreW (moreW HB1.out (.cells #[.int .i64 W.epoch, .int .i64 W.root, .int .i64 W.last, .slice (some ⟨g1, 0, none⟩) n c1, .slice B1 W.freed.length d1] 63)) (.cells #[.pointer (some ⟨w1.heap.size, 0, none⟩)] 61)
  have hA5 := (HACT.out.alloc (.cells #[.int .i64 W.epoch, .int .i64 W.root, .int .i64 W.last, .slice (some ⟨g1, 0, none⟩) n c1, .slice B1 W.freed.length d1] 63)).alloc (.cells #[.pointer (some ⟨w1.heap.size, 0, none⟩)] 61)
  have HS := hide hS; have HP := hide hP5; have HR := hide hR5; have HB := hide hB5; have HX := hide hx; have HA := hide hA5
  clear hS hP5 hR5 hB5 hx hne e2 e3 hA5
  have ht2 : (t : Int) < (n : Int) := by omega
  go_wp2_with fail
  go_quiet (fail)
  generalize hw5 : World.drewN (World.alloc (World.alloc w1 _) _) _ = w5
  have HD5 := hide (show Drew _ w5 from ⟨_, hw5.symm⟩)
  clear hw5
  have HS5 := hide (HS.out.ext HD5.out.extW)
  have HP5 := hide (HP.out.extW HD5.out.extW)
  have HR5 := hide (HR.out.extW HD5.out.extW)
  have HA5 := hide (HA.out.extW HD5.out.extW)
  have HB5 := hide (extW HB.out HD5.out.extW)
  obtain ⟨gs, hgs⟩ : ∃ gs, gs = w1.heap.size := ⟨_, rfl⟩
  rw [← hgs] at HS5 HP5
  rw [← hgs]
  have hca := fun i => Blk.cell HA5.out i
  have hza := HA5.out.lt
  have hcq := fun i => Blk.cell HP5.out i
  have hzq := HP5.out.lt
  have hbase : w.heap.size + 3 ≤ gs := by omega
  clear HD5 HS HP HR HA HB hgs hsz hsz0 hsz1 HB1 HO1 HRES HACT
  go_wp2_with fail
  refine (reads_6 HS5.out HX.out).mono ?_
  rintro e w6 ⟨rfl, ⟨vr6, vf6, zs, hS6⟩, hK6, hB6⟩
  obtain ⟨W', hW'⟩ : ∃ W', W' = dropW W t x.r := ⟨_, rfl⟩
  rw [← hW'] at hS6
  have HW := hide hW'
  clear hW'
  obtain ⟨A6, n6, c6, B6, m6, d6, rfl, rfl⟩ := hS6.shape
  have hP6 := hK6.blk HP5.out (by decide) (by decide) (by decide) (by decide)
  have hR6 := hK6.blk HR5.out (by decide) (by decide) (by decide) (by decide)
  have hc6 := fun i => Blk.cell hP6 i
  have hs6 := fun i => Blk.cell hS6.blk i
  have hr6 := fun i => Blk.cell hR6 i
  have hf6 := fun i => Blk.free hR6 i
  have hz6 := hS6.blk.lt
  have hz7 := hR6.lt
  have HR6 := hide hR6; have HS6 := hide hS6
  have HB6 := hide (HB5.out.trans (hB6.mono (by omega)))
  clear hP6 hR6 hS6 hK6 hB6
  go_wp2_with fail
  refine bodyPost_ret (v := .agg #[.int .i64 W'.epoch, .int .i64 W'.root, .int .i64 W'.last, .slice A6 n6 c6, .slice B6 m6 d6]) ?_ rfl ?_
  · obtain ⟨k0, k1, k2, k3, k4⟩ := set5_cells HR6.out (.int .i64 W'.epoch) (.int .i64 W'.root) (.int .i64 W'.last) (.slice A6 n6 c6) (.slice B6 m6 d6)
    unfold set5 at k4
    simp [results, Try.results14, go_sem, k0, k1, k2, k3, k4]
  · rw [← HW.out]; exact do_end HS6.out HR6.out HB6.out (by omega)
end
end Go.Proofs.Ytdgnejapofkadaa
