/- The walk of ghosts.Do: the other kinds. -/
import Derived.Test.YtdgnejapofkadaaGhP
namespace Go.Proofs.Ytdgnejapofkadaa
open Go.RowKit

section
variable (w : World) (W : WT) (A B : Option Addr) (c d : Nat) (xs : List RdX)
set_option maxHeartbeats 2000000 in
theorem gdo_5 (t : Nat) (r : RdT) (k0 : Nat) (h : WV w W A B xs) (hs : Sane W k0) (hk0 : k0 ≤ 400) (hr : W.rds[t]? = some r) :
    Calls Try.prog 14 #[.agg #[.int .i64 W.epoch, .int .i64 W.root, .int .i64 W.last, .slice A xs.length c, .slice B W.freed.length d], .agg #[.int .i64 t, .int .i64 5]] w (GivesR (changeW W t r) w) := by
  have hfew : xs.length ≤ 64 := by have := hs.few; rw [← h.rds, List.length_map] at this; exact this
  have hlens := hs.lens
  have hCP := copy_any (((w.alloc (.cells #[.int .i64 W.epoch, .int .i64 W.root, .int .i64 W.last, .slice A xs.length c, .slice B W.freed.length d] 38)).alloc (.cells #[.int .i64 t, .int .i64 5] 27)).alloc (.cells #[.int .i64 0, .int .i64 0, .int .i64 0, .slice none 0 0, .slice none 0 0] 38)) W A B c d xs (((h.below (moreW (selfW _) _)).below (moreW (selfW _) _)).below (moreW (selfW _) _)) hfew (by omega)
    (fun x hx => by have := hs.away (r := x.r) (by rw [← h.rds]; exact List.mem_map.2 ⟨x, hx, rfl⟩); omega)
  have HCP := hide hCP
  have HRDS := hide h.rds
  have HSA := hide hs
  obtain ⟨n, hn⟩ : ∃ n, n = xs.length := ⟨_, rfl⟩
  rw [← hn] at HCP hfew ⊢
  have HN := hide hn
  have hlen : Hid (W.rds.length = n) := by unfold Hid; rw [hn, ← h.rds, List.length_map]
  have htn : t < n := by have := len_of hr; rw [hlen.out] at this; exact this
  have HR0 := hide hr
  clear hCP h hs hn hlens
  go_enter Try.func14, Try.ntmps14
  go_wp2_with fail
  refine HCP.out.mono ?_
  rintro e w1 ⟨vr, vf, ys, rfl, hO1, hb1⟩
  have hact := (((Blk.newAt (w.alloc (.cells #[.int .i64 W.epoch, .int .i64 W.root, .int .i64 W.last, .slice A n c, .slice B W.freed.length d] 38)) 27 #[.int .i64 t, .int .i64 5] (g := w.heap.size + 1) (by simp)).alloc (.cells #[.int .i64 0, .int .i64 0, .int .i64 0, .slice none 0 0, .slice none 0 0] 38)).extW hb1)
  have hpar := ((((Blk.new w 38 #[.int .i64 W.epoch, .int .i64 W.root, .int .i64 W.last, .slice A n c, .slice B W.freed.length d]).alloc (.cells #[.int .i64 t, .int .i64 5] 27)).alloc (.cells #[.int .i64 0, .int .i64 0, .int .i64 0, .slice none 0 0, .slice none 0 0] 38)).extW hb1)
  have hres := ((Blk.newAt ((w.alloc (.cells #[.int .i64 W.epoch, .int .i64 W.root, .int .i64 W.last, .slice A n c, .slice B W.freed.length d] 38)).alloc (.cells #[.int .i64 t, .int .i64 5] 27)) 38 #[.int .i64 0, .int .i64 0, .int .i64 0, .slice none 0 0, .slice none 0 0] (g := w.heap.size + 2) (by simp)).extW hb1)
  obtain ⟨A1, c1, B1, d1, e1, e2, hWV⟩ := hO1.rd
  subst e1; subst e2
  have hyl : ys.length = n := by rw [← hlen.out, ← hO1.rds, List.length_map]
  rw [hyl] at hO1
  have hca := fun i => Blk.cell hact i
  have hcp := fun i => Blk.cell hpar i
  have hcr := fun i => Blk.cell hres i
  have hfr := fun i => Blk.free hres i
  have hsz := hres.lt
  have hsz1 := hact.lt
  have hsz0 := hpar.lt
  have hB1 := extW (moreW (moreW (moreW (selfW w) _) _) _) hb1
  have HB1 := hide hB1; have HO1 := hide hO1; have HRES := hide hres; have HACT := hide hact; have HYL := hide hyl
  clear hact hpar hres hO1 hb1 hB1 hyl HCP hWV
  rw [HYL.out]
  obtain ⟨x, hx, rfl⟩ := rds_get' HO1.out.rds HR0.out
  have hne : ys ≠ [] := by rintro rfl; simp at hx
  obtain ⟨g1, c9, hv9, hg1, hg2⟩ := HO1.out.row.form hne
  injection hv9 with e1 e2 e3
  subst e1
  have hS : StV ((w1.alloc (.cells #[.int .i64 W.epoch, .int .i64 W.root, .int .i64 W.last, .slice (some ⟨g1, 0, none⟩) n c1, .slice B1 W.freed.length d1] 63)).alloc (.cells #[.pointer (some ⟨w1.heap.size, 0, none⟩)] 61)) (w.heap.size + 3) w1.heap.size W (.slice (some ⟨g1, 0, none⟩) n c1) (.slice B1 W.freed.length d1) ys :=
    ⟨(Blk.new _ _ _).alloc _, by
      have h1 := (HO1.out.ext (moreW (selfW w1) (.cells #[.int .i64 W.epoch, .int .i64 W.root, .int .i64 W.last, .slice (some ⟨g1, 0, none⟩) n c1, .slice B1 W.freed.length d1] 63))).ext (moreW (selfW _) (.cells #[.pointer (some ⟨w1.heap.size, 0, none⟩)] 61))
      simp only [World.size_alloc] at h1
      exact h1, by omega⟩
  have hP5 := Blk.newAt (w1.alloc (.cells #[.int .i64 W.epoch, .int .i64 W.root, .int .i64 W.last, .slice (some ⟨g1, 0, none⟩) n c1, .slice B1 W.freed.length d1] 63)) 61 #[.pointer (some ⟨w1.heap.size, 0, none⟩)] (g := w1.heap.size + 1) (by simp)
  have hR5 := (HRES.out.alloc (.cells #[.int .i64 W.epoch, .int .i64 W.root, .int .i64 W.last, .slice (some ⟨g1, 0, none⟩) n c1, .slice B1 W.freed.length d1] 63)).alloc (.cells #[.pointer (some ⟨w1.heap.size, 0, none⟩)] 61)
  have hB5 := moreW (moreW HB1.out (.cells #[.int .i64 W.epoch, .int .i64 W.root, .int .i64 W.last, .slice (some ⟨g1, 0, none⟩) n c1, .slice B1 W.freed.length d1] 63)) (.cells #[.pointer (some ⟨w1.heap.size, 0, none⟩)] 61)
  have hA5 := (HACT.out.alloc (.cells #[.int .i64 W.epoch, .int .i64 W.root, .int .i64 W.last, .slice (some ⟨g1, 0, none⟩) n c1, .slice B1 W.freed.length d1] 63)).alloc (.cells #[.pointer (some ⟨w1.heap.size, 0, none⟩)] 61)
  have HS := hide hS; have HP := hide hP5; have HR := hide hR5; have HB := hide hB5; have HX := hide hx; have HA := hide hA5
  clear hS hP5 hR5 hB5 hx hne e2 e3 hA5
  have ht2 : (t : Int) < (n : Int) := by omega
  go_wp2_with fail
  go_quiet (fail)
  generalize hw5 : World.drewN (World.alloc (World.alloc w1 _) _) _ = w5
  have HD5 := hide (show Drew _ w5 from ⟨_, hw5.symm⟩)
  clear hw5
  have HS5 := hide (HS.out.ext HD5.out.extW)
  have HP5 := hide (HP.out.extW HD5.out.extW)
  have HR5 := hide (HR.out.extW HD5.out.extW)
  have HA5 := hide (HA.out.extW HD5.out.extW)
  have HB5 := hide (extW HB.out HD5.out.extW)
  obtain ⟨gs, hgs⟩ : ∃ gs, gs = w1.heap.size := ⟨_, rfl⟩
  rw [← hgs] at HS5 HP5
  rw [← hgs]
  have hca := fun i => Blk.cell HA5.out i
  have hza := HA5.out.lt
  have hcq := fun i => Blk.cell HP5.out i
  have hzq := HP5.out.lt
  have hbase : w.heap.size + 3 ≤ gs := by omega
  clear HD5 HS HP HR HA HB hgs hsz hsz0 hsz1 HB1 HO1 HRES HACT
  have hcs := fun i => Blk.cell HS5.out.blk i
  have hfs := fun i => Blk.free HS5.out.blk i
  have hzs := HS5.out.blk.lt
  obtain ⟨k0, k1, k2, k3, k4⟩ := HS5.out.cell HX.out
  have hf1 := fun i => HS5.out.free1 i
  have hg1z := HS5.out.lt1.2
  have hne := HS5.out.ne
  have hne2 : g1 ≠ gs := fun e => hne e.symm
  by_cases hh : x.r.holds = W.root
  · have hroot : W.root ≠ 0 := by have := HSA.out.r1; omega
    have hd1 : (x.r.holds != 0) = true := by rw [hh]; simpa using hroot
    have hd2 : (x.r.holds == W.root) = true := by simpa using hh
    have HH := hide hh
    have HL1 : Hid (x.r.away.length ≤ 500) := (by have := HSA.out.away (r := x.r) (mem_of_get HR0.out); exact Nat.le_trans this (by omega))
    have HL2 : Hid (0 ≤ W.last ∧ W.last ≤ 1000) := ⟨by have := HSA.out.r1; have := HSA.out.rl; omega, by have := HSA.out.l2; omega⟩
    clear hh hroot
    go_wp2_with fail
    go_quiet (fail)
    generalize hw6 : World.drewN w5 _ = w6
    have HD6 := hide (show Drew w5 w6 from ⟨_, hw6.symm⟩)
    clear hw6
    have HS6 := hide (HS5.out.ext HD6.out.extW)
    have HR6 := hide (HR5.out.extW HD6.out.extW)
    have HP6 := hide (HP5.out.extW HD6.out.extW)
    have HB6 := hide (extW HB5.out HD6.out.extW)
    have hcq6 := fun i => Blk.cell HP6.out i
    have hcs6 := fun i => Blk.cell HS6.out.blk i
    have hcr6 := fun i => Blk.cell HR6.out i
    have hfr6 := fun i => Blk.free HR6.out i
    have hzr6 := HR6.out.lt
    have hzs6 := HS6.out.blk.lt
    have hzq6 := HP6.out.lt
    go_wp2_with fail
    refine (Calls.mono (change_any HS6.out HX.out HL1.out HL2.out.1 HL2.out.2 HH.out) ?_)
    rintro e w7 ⟨rfl, ⟨vr6, vf6, zs, hS6⟩, hK6, hB6⟩
    obtain ⟨W', hW'⟩ : ∃ W', W' = changeW W t x.r := ⟨_, rfl⟩
    rw [← hW'] at hS6
    have HW := hide hW'
    clear hW'
    obtain ⟨A6, n6, c6, B6, m6, d6, rfl, rfl⟩ := hS6.shape
    have hP6 := hK6.blk HP6.out (by decide) (by decide) (by decide) (by decide)
    have hR6 := hK6.blk HR6.out (by decide) (by decide) (by decide) (by decide)
    have hc6 := fun i => Blk.cell hP6 i
    have hs6 := fun i => Blk.cell hS6.blk i
    have hr6 := fun i => Blk.cell hR6 i
    have hf6 := fun i => Blk.free hR6 i
    have hz6 := hS6.blk.lt
    have hz7 := hR6.lt
    have HR7 := hide hR6; have HS7 := hide hS6
    have HB7 := hide (HB6.out.trans (hB6.mono (by omega)))
    clear hP6 hR6 hS6 hK6 hB6
    go_wp2_with fail
    refine bodyPost_ret (v := .agg #[.int .i64 W'.epoch, .int .i64 W'.root, .int .i64 W'.last, .slice A6 n6 c6, .slice B6 m6 d6]) ?_ rfl ?_
    · obtain ⟨k0, k1, k2, k3, k4⟩ := set5_cells HR7.out (.int .i64 W'.epoch) (.int .i64 W'.root) (.int .i64 W'.last) (.slice A6 n6 c6) (.slice B6 m6 d6)
      unfold set5 at k4
      simp [results, Try.results14, go_sem, k0, k1, k2, k3, k4]
    · rw [← HW.out]; exact do_end HS7.out HR7.out HB7.out (by omega)
  · by_cases h0 : x.r.holds = 0
    · have hd1 : (x.r.holds != 0) = false := by simpa using h0
      have HH := hide hh; have H0 := hide h0
      clear hh h0
      have HW : Hid (changeW W t x.r = W) := by unfold Hid changeW; rw [if_neg HH.out]
      go_wp2_with fail
      go_quiet (fail)
      generalize hw6 : World.drewN w5 _ = w6
      have HD6 := hide (show Drew w5 w6 from ⟨_, hw6.symm⟩)
      clear hw6
      have HS6 := hide (HS5.out.ext HD6.out.extW)
      have HR6 := hide (HR5.out.extW HD6.out.extW)
      have HP6 := hide (HP5.out.extW HD6.out.extW)
      have HB6 := hide (extW HB5.out HD6.out.extW)
      have hcq6 := fun i => Blk.cell HP6.out i
      have hcs6 := fun i => Blk.cell HS6.out.blk i
      have hcr6 := fun i => Blk.cell HR6.out i
      have hfr6 := fun i => Blk.free HR6.out i
      have hzr6 := HR6.out.lt
      have hzs6 := HS6.out.blk.lt
      have hzq6 := HP6.out.lt
      go_wp2_with fail
      refine bodyPost_ret (v := .agg #[.int .i64 W.epoch, .int .i64 W.root, .int .i64 W.last, .slice (some ⟨g1, 0, none⟩) n c1, .slice B1 W.freed.length d1]) ?_ rfl ?_
      · obtain ⟨k0, k1, k2, k3, k4⟩ := set5_cells (HR6.out) (.int .i64 W.epoch) (.int .i64 W.root) (.int .i64 W.last) (.slice (some ⟨g1, 0, none⟩) n c1) (.slice B1 W.freed.length d1)
        unfold set5 at k4
        simp [results, Try.results14, go_sem, k0, k1, k2, k3, k4]
      · rw [HW.out]; exact do_end HS6.out HR6.out HB6.out (by omega)
    · have hd1 : (x.r.holds != 0) = true := by simpa using h0
      have hd2 : (x.r.holds == W.root) = false := by simpa using hh
      have HH := hide hh; have H0 := hide h0
      clear hh h0
      have HW : Hid (changeW W t x.r = W) := by unfold Hid changeW; rw [if_neg HH.out]
      go_wp2_with fail
      go_quiet (fail)
      generalize hw6 : World.drewN w5 _ = w6
      have HD6 := hide (show Drew w5 w6 from ⟨_, hw6.symm⟩)
      clear hw6
      have HS6 := hide (HS5.out.ext HD6.out.extW)
      have HR6 := hide (HR5.out.extW HD6.out.extW)
      have HP6 := hide (HP5.out.extW HD6.out.extW)
      have HB6 := hide (extW HB5.out HD6.out.extW)
      have hcq6 := fun i => Blk.cell HP6.out i
      have hcs6 := fun i => Blk.cell HS6.out.blk i
      have hcr6 := fun i => Blk.cell HR6.out i
      have hfr6 := fun i => Blk.free HR6.out i
      have hzr6 := HR6.out.lt
      have hzs6 := HS6.out.blk.lt
      have hzq6 := HP6.out.lt
      go_wp2_with fail
      refine bodyPost_ret (v := .agg #[.int .i64 W.epoch, .int .i64 W.root, .int .i64 W.last, .slice (some ⟨g1, 0, none⟩) n c1, .slice B1 W.freed.length d1]) ?_ rfl ?_
      · obtain ⟨k0, k1, k2, k3, k4⟩ := set5_cells (HR6.out) (.int .i64 W.epoch) (.int .i64 W.root) (.int .i64 W.last) (.slice (some ⟨g1, 0, none⟩) n c1) (.slice B1 W.freed.length d1)
        unfold set5 at k4
        simp [results, Try.results14, go_sem, k0, k1, k2, k3, k4]
      · rw [HW.out]; exact do_end HS6.out HR6.out HB6.out (by omega)
set_option maxHeartbeats 2000000 in
theorem gdo_7 (t : Nat) (r : RdT) (k0 : Nat) (h : WV w W A B xs) (hs : Sane W k0) (hk0 : k0 ≤ 400) (hr : W.rds[t]? = some r) :
    Calls Try.prog 14 #[.agg #[.int .i64 W.epoch, .int .i64 W.root, .int .i64 W.last, .slice A xs.length c, .slice B W.freed.length d], .agg #[.int .i64 t, .int .i64 7]] w (GivesR (leaveW W t r) w) := by
  have hfew : xs.length ≤ 64 := by have := hs.few; rw [← h.rds, List.length_map] at this; exact this
  have hlens := hs.lens
  have hCP := copy_any (((w.alloc (.cells #[.int .i64 W.epoch, .int .i64 W.root, .int .i64 W.last, .slice A xs.length c, .slice B W.freed.length d] 38)).alloc (.cells #[.int .i64 t, .int .i64 7] 27)).alloc (.cells #[.int .i64 0, .int .i64 0, .int .i64 0, .slice none 0 0, .slice none 0 0] 38)) W A B c d xs (((h.below (moreW (selfW _) _)).below (moreW (selfW _) _)).below (moreW (selfW _) _)) hfew (by omega)
    (fun x hx => by have := hs.away (r := x.r) (by rw [← h.rds]; exact List.mem_map.2 ⟨x, hx, rfl⟩); omega)
  have HCP := hide hCP
  have HRDS := hide h.rds
  have HSA := hide hs
  obtain ⟨n, hn⟩ : ∃ n, n = xs.length := ⟨_, rfl⟩
  rw [← hn] at HCP hfew ⊢
  have HN := hide hn
  have hlen : Hid (W.rds.length = n) := by unfold Hid; rw [hn, ← h.rds, List.length_map]
  have htn : t < n := by have := len_of hr; rw [hlen.out] at this; exact this
  have HR0 := hide hr
  clear hCP h hs hn hlens
  go_enter Try.func14, Try.ntmps14
  go_wp2_with fail
  refine HCP.out.mono ?_
  rintro e w1 ⟨vr, vf, ys, rfl, hO1, hb1⟩
  have hact := (((Blk.newAt (w.alloc (.cells #[.int .i64 W.epoch, .int .i64 W.root, .int .i64 W.last, .slice A n c, .slice B W.freed.length d] 38)) 27 #[.int .i64 t, .int .i64 7] (g := w.heap.size + 1) (by simp)).alloc (.cells #[.int .i64 0, .int .i64 0, .int .i64 0, .slice none 0 0, .slice none 0 0] 38)).extW hb1)
  have hpar := ((((Blk.new w 38 #[.int .i64 W.epoch, .int .i64 W.root, .int .i64 W.last, .slice A n c, .slice B W.freed.length d]).alloc (.cells #[.int .i64 t, .int .i64 7] 27)).alloc (.cells #[.int .i64 0, .int .i64 0, .int .i64 0, .slice none 0 0, .slice none 0 0] 38)).extW hb1)
  have hres := ((Blk.newAt ((w.alloc (.cells #[.int .i64 W.epoch, .int .i64 W.root, .int .i64 W.last, .slice A n c, .slice B W.freed.length d] 38)).alloc (.cells #[.int .i64 t, .int .i64 7] 27)) 38 #[.int .i64 0, .int .i64 0, .int .i64 0, .slice none 0 0, .slice none 0 0] (g := w.heap.size + 2) (by simp)).extW hb1)
  obtain ⟨A1, c1, B1, d1, e1, e2, hWV⟩ := hO1.rd
  subst e1; subst e2
  have hyl : ys.length = n := by rw [← hlen.out, ← hO1.rds, List.length_map]
  rw [hyl] at hO1
  have hca := fun i => Blk.cell hact i
  have hcp := fun i => Blk.cell hpar i
  have hcr := fun i => Blk.cell hres i
  have hfr := fun i => Blk.free hres i
  have hsz := hres.lt
  have hsz1 := hact.lt
  have hsz0 := hpar.lt
  have hB1 := extW (moreW (moreW (moreW (selfW w) _) _) _) hb1
  have HB1 := hide hB1; have HO1 := hide hO1; have HRES := hide hres; have HACT := hide hact; have HYL := hide hyl
  clear hact hpar hres hO1 hb1 hB1 hyl HCP hWV
  rw [HYL.out]
  obtain ⟨x, hx, rfl⟩ := rds_get' HO1.out.rds HR0.out
  have hne : ys ≠ [] := by rintro rfl; simp at hx
  obtain ⟨g1, c9, hv9, hg1, hg2⟩ := HO1.out.row.form hne
  injection hv9 with e1 e2 e3
  subst e1
  have hS : StV ((w1.alloc (.cells #[.int .i64 W.epoch, .int .i64 W.root, .int .i64 W.last, .slice (some ⟨g1, 0, none⟩) n c1, .slice B1 W.freed.length d1] 63)).alloc (.cells #[.pointer (some ⟨w1.heap.size, 0, none⟩)] 61)) (w.heap.size + 3) w1.heap.size W (.slice (some ⟨g1, 0, none⟩) n c1) (.slice B1 W.freed.length d1) ys :=
    ⟨(Blk.new _ _ _).alloc _, by
      have h1 := (HO1.out.ext (moreW (selfW w1) (.cells #[.int .i64 W.epoch, .int .i64 W.root, .int .i64 W.last, .slice (some ⟨g1, 0, none⟩) n c1, .slice B1 W.freed.length d1] 63))).ext (moreW (selfW _) (.cells #[.pointer (some ⟨w1.heap.size, 0, none⟩)] 61))
      simp only [World.size_alloc] at h1
      exact h1, by omega⟩
  have hP5 := Blk.newAt (w1.alloc (.cells #[.int .i64 W.epoch, .int .i64 W.root, .int .i64 W.last, .slice (some ⟨g1, 0, none⟩) n c1, .slice B1 W.freed.length d1] 63)) 61 #[.pointer (some ⟨w1.heap.size, 0, none⟩)] (g := w1.heap.size + 1) (by simp)
  have hR5 := (HRES.out.alloc (.cells #[.int .i64 W.epoch, .int .i64 W.root, .int .i64 W.last, .slice (some ⟨g1, 0, none⟩) n c1, .slice B1 W.freed.length d1] 63)).alloc (.cells #[.pointer (some ⟨w1.heap.size, 0, none⟩)] 61)
  have hB5 := moreW (moreW HB1.out (.cells #[.int .i64 W.epoch, .int .i64 W.root, .int .i64 W.last, .slice (some ⟨g1, 0, none⟩) n c1, .slice B1 W.freed.length d1] 63)) (.cells #[.pointer (some ⟨w1.heap.size, 0, none⟩)] 61)
  have hA5 := (HACT.out.alloc (.cells #[.int .i64 W.epoch, .int .i64 W.root, .int .i64 W.last, .slice (some ⟨g1, 0, none⟩) n c1, .slice B1 W.freed.length d1] 63)).alloc (.cells #[.pointer (some ⟨w1.heap.size, 0, none⟩)] 61)
  have HS := hide hS; have HP := hide hP5; have HR := hide hR5; have HB := hide hB5; have HX := hide hx; have HA := hide hA5
  clear hS hP5 hR5 hB5 hx hne e2 e3 hA5
  have ht2 : (t : Int) < (n : Int) := by omega
  go_wp2_with fail
  go_quiet (fail)
  generalize hw5 : World.drewN (World.alloc (World.alloc w1 _) _) _ = w5
  have HD5 := hide (show Drew _ w5 from ⟨_, hw5.symm⟩)
  clear hw5
  have HS5 := hide (HS.out.ext HD5.out.extW)
  have HP5 := hide (HP.out.extW HD5.out.extW)
  have HR5 := hide (HR.out.extW HD5.out.extW)
  have HA5 := hide (HA.out.extW HD5.out.extW)
  have HB5 := hide (extW HB.out HD5.out.extW)
  obtain ⟨gs, hgs⟩ : ∃ gs, gs = w1.heap.size := ⟨_, rfl⟩
  rw [← hgs] at HS5 HP5
  rw [← hgs]
  have hca := fun i => Blk.cell HA5.out i
  have hza := HA5.out.lt
  have hcq := fun i => Blk.cell HP5.out i
  have hzq := HP5.out.lt
  have hbase : w.heap.size + 3 ≤ gs := by omega
  clear HD5 HS HP HR HA HB hgs hsz hsz0 hsz1 HB1 HO1 HRES HACT
  have hcs := fun i => Blk.cell HS5.out.blk i
  have hfs := fun i => Blk.free HS5.out.blk i
  have hzs := HS5.out.blk.lt
  obtain ⟨k0, k1, k2, k3, k4⟩ := HS5.out.cell HX.out
  have hf1 := fun i => HS5.out.free1 i
  have hg1z := HS5.out.lt1.2
  have hne := HS5.out.ne
  have hne2 : g1 ≠ gs := fun e => hne e.symm
  by_cases h0 : x.r.holds = 0
  · have hd1 : (x.r.holds == 0) = true := by simpa using h0
    have HW : Hid (leaveW W t x.r = W.put t { x.r with inn := -1, guard := 0 }) := by unfold Hid leaveW; rw [if_pos h0]
    have hS6 := StV.put HS5.out HX.out (y := ⟨{ x.r with inn := -1 }, x.A, x.c⟩) (j := 1) (u := .int .i64 (-1)) (by decide) rfl rfl rfl rfl
    have hS7 := StV.put hS6 (get_set HX.out) (y := ⟨{ x.r with inn := -1, guard := 0 }, x.A, x.c⟩) (j := 2) (u := .int .i64 0) (by decide) rfl rfl rfl rfl
    rw [put_put] at hS7
    have hnr : w.heap.size + 2 ≠ g1 := by have := HS5.out.lt1.1; omega
    have hR7 := (HR5.out.far (p := ⟨g1, t * 5 + 1, none⟩) hnr (.int .i64 (-1))).far (p := ⟨g1, t * 5 + 2, none⟩) hnr (.int .i64 0)
    have hB7 := (HB5.out.setCell (p := ⟨g1, t * 5 + 1, none⟩) (by have := HS5.out.lt1.1; show w.heap.size ≤ g1; omega) (.int .i64 (-1))).setCell (p := ⟨g1, t * 5 + 2, none⟩) (by have := HS5.out.lt1.1; show w.heap.size ≤ g1; omega) (.int .i64 0)
    have HS7 := hide hS7; have HR7 := hide hR7; have HB7 := hide hB7; have H0 := hide h0
    clear hS6 hS7 hR7 hB7 h0
    have hcq6 := fun i => Blk.cell HP5.out i
    have hcs6 := fun i => Blk.cell HS5.out.blk i
    have hcr6 := fun i => Blk.cell HR5.out i
    have hfr6 := fun i => Blk.free HR5.out i
    have hzr6 := HR5.out.lt
    have hzs6 := HS5.out.blk.lt
    have hzq6 := HP5.out.lt
    go_wp2_with fail
    refine bodyPost_ret (v := .agg #[.int .i64 W.epoch, .int .i64 W.root, .int .i64 W.last, .slice (some ⟨g1, 0, none⟩) n c1, .slice B1 W.freed.length d1]) ?_ rfl ?_
    · obtain ⟨k0, k1, k2, k3, k4⟩ := set5_cells (HR7.out) (.int .i64 W.epoch) (.int .i64 W.root) (.int .i64 W.last) (.slice (some ⟨g1, 0, none⟩) n c1) (.slice B1 W.freed.length d1)
      unfold set5 at k4
      simp [results, Try.results14, go_sem, k0, k1, k2, k3, k4]
    · rw [HW.out]; exact do_end HS7.out HR7.out HB7.out (by omega)
  · have hd1 : (x.r.holds == 0) = false := by simpa using h0
    have H0 := hide h0
    clear h0
    have HW : Hid (leaveW W t x.r = W) := by unfold Hid leaveW; rw [if_neg H0.out]
    have hcq6 := fun i => Blk.cell HP5.out i
    have hcs6 := fun i => Blk.cell HS5.out.blk i
    have hcr6 := fun i => Blk.cell HR5.out i
    have hfr6 := fun i => Blk.free HR5.out i
    have hzr6 := HR5.out.lt
    have hzs6 := HS5.out.blk.lt
    have hzq6 := HP5.out.lt
    go_wp2_with fail
    refine bodyPost_ret (v := .agg #[.int .i64 W.epoch, .int .i64 W.root, .int .i64 W.last, .slice (some ⟨g1, 0, none⟩) n c1, .slice B1 W.freed.length d1]) ?_ rfl ?_
    · obtain ⟨k0, k1, k2, k3, k4⟩ := set5_cells (HR5.out) (.int .i64 W.epoch) (.int .i64 W.root) (.int .i64 W.last) (.slice (some ⟨g1, 0, none⟩) n c1) (.slice B1 W.freed.length d1)
      unfold set5 at k4
      simp [results, Try.results14, go_sem, k0, k1, k2, k3, k4]
    · rw [HW.out]; exact do_end HS5.out HR5.out HB5.out (by omega)
set_option maxHeartbeats 2000000 in
theorem gdo_8 (t : Nat) (r : RdT) (k0 : Nat) (h : WV w W A B xs) (hs : Sane W k0) (hk0 : k0 ≤ 400) (hr : W.rds[t]? = some r) :
    Calls Try.prog 14 #[.agg #[.int .i64 W.epoch, .int .i64 W.root, .int .i64 W.last, .slice A xs.length c, .slice B W.freed.length d], .agg #[.int .i64 t, .int .i64 8]] w (GivesR (advW W t r) w) := by
  have hfew : xs.length ≤ 64 := by have := hs.few; rw [← h.rds, List.length_map] at this; exact this
  have hlens := hs.lens
  have hCP := copy_any (((w.alloc (.cells #[.int .i64 W.epoch, .int .i64 W.root, .int .i64 W.last, .slice A xs.length c, .slice B W.freed.length d] 38)).alloc (.cells #[.int .i64 t, .int .i64 8] 27)).alloc (.cells #[.int .i64 0, .int .i64 0, .int .i64 0, .slice none 0 0, .slice none 0 0] 38)) W A B c d xs (((h.below (moreW (selfW _) _)).below (moreW (selfW _) _)).below (moreW (selfW _) _)) hfew (by omega)
    (fun x hx => by have := hs.away (r := x.r) (by rw [← h.rds]; exact List.mem_map.2 ⟨x, hx, rfl⟩); omega)
  have HCP := hide hCP
  have HRDS := hide h.rds
  have HSA := hide hs
  obtain ⟨n, hn⟩ : ∃ n, n = xs.length := ⟨_, rfl⟩
  rw [← hn] at HCP hfew ⊢
  have HN := hide hn
  have hlen : Hid (W.rds.length = n) := by unfold Hid; rw [hn, ← h.rds, List.length_map]
  have htn : t < n := by have := len_of hr; rw [hlen.out] at this; exact this
  have HR0 := hide hr
  clear hCP h hs hn hlens
  go_enter Try.func14, Try.ntmps14
  go_wp2_with fail
  refine HCP.out.mono ?_
  rintro e w1 ⟨vr, vf, ys, rfl, hO1, hb1⟩
  have hact := (((Blk.newAt (w.alloc (.cells #[.int .i64 W.epoch, .int .i64 W.root, .int .i64 W.last, .slice A n c, .slice B W.freed.length d] 38)) 27 #[.int .i64 t, .int .i64 8] (g := w.heap.size + 1) (by simp)).alloc (.cells #[.int .i64 0, .int .i64 0, .int .i64 0, .slice none 0 0, .slice none 0 0] 38)).extW hb1)
  have hpar := ((((Blk.new w 38 #[.int .i64 W.epoch, .int .i64 W.root, .int .i64 W.last, .slice A n c, .slice B W.freed.length d]).alloc (.cells #[.int .i64 t, .int .i64 8] 27)).alloc (.cells #[.int .i64 0, .int .i64 0, .int .i64 0, .slice none 0 0, .slice none 0 0] 38)).extW hb1)
  have hres := ((Blk.newAt ((w.alloc (.cells #[.int .i64 W.epoch, .int .i64 W.root, .int .i64 W.last, .slice A n c, .slice B W.freed.length d] 38)).alloc (.cells #[.int .i64 t, .int .i64 8] 27)) 38 #[.int .i64 0, .int .i64 0, .int .i64 0, .slice none 0 0, .slice none 0 0] (g := w.heap.size + 2) (by simp)).extW hb1)
  obtain ⟨A1, c1, B1, d1, e1, e2, hWV⟩ := hO1.rd
  subst e1; subst e2
  have hyl : ys.length = n := by rw [← hlen.out, ← hO1.rds, List.length_map]
  rw [hyl] at hO1
  have hca := fun i => Blk.cell hact i
  have hcp := fun i => Blk.cell hpar i
  have hcr := fun i => Blk.cell hres i
  have hfr := fun i => Blk.free hres i
  have hsz := hres.lt
  have hsz1 := hact.lt
  have hsz0 := hpar.lt
  have hB1 := extW (moreW (moreW (moreW (selfW w) _) _) _) hb1
  have HB1 := hide hB1; have HO1 := hide hO1; have HRES := hide hres; have HACT := hide hact; have HYL := hide hyl
  clear hact hpar hres hO1 hb1 hB1 hyl HCP hWV
  rw [HYL.out]
  obtain ⟨x, hx, rfl⟩ := rds_get' HO1.out.rds HR0.out
  have hne : ys ≠ [] := by rintro rfl; simp at hx
  obtain ⟨g1, c9, hv9, hg1, hg2⟩ := HO1.out.row.form hne
  injection hv9 with e1 e2 e3
  subst e1
  have hS : StV ((w1.alloc (.cells #[.int .i64 W.epoch, .int .i64 W.root, .int .i64 W.last, .slice (some ⟨g1, 0, none⟩) n c1, .slice B1 W.freed.length d1] 63)).alloc (.cells #[.pointer (some ⟨w1.heap.size, 0, none⟩)] 61)) (w.heap.size + 3) w1.heap.size W (.slice (some ⟨g1, 0, none⟩) n c1) (.slice B1 W.freed.length d1) ys :=
    ⟨(Blk.new _ _ _).alloc _, by
      have h1 := (HO1.out.ext (moreW (selfW w1) (.cells #[.int .i64 W.epoch, .int .i64 W.root, .int .i64 W.last, .slice (some ⟨g1, 0, none⟩) n c1, .slice B1 W.freed.length d1] 63))).ext (moreW (selfW _) (.cells #[.pointer (some ⟨w1.heap.size, 0, none⟩)] 61))
      simp only [World.size_alloc] at h1
      exact h1, by omega⟩
  have hP5 := Blk.newAt (w1.alloc (.cells #[.int .i64 W.epoch, .int .i64 W.root, .int .i64 W.last, .slice (some ⟨g1, 0, none⟩) n c1, .slice B1 W.freed.length d1] 63)) 61 #[.pointer (some ⟨w1.heap.size, 0, none⟩)] (g := w1.heap.size + 1) (by simp)
  have hR5 := (HRES.out.alloc (.cells #[.int .i64 W.epoch, .int .i64 W.root, .int .i64 W.last, .slice (some ⟨g1, 0, none⟩) n c1, .slice B1 W.freed.length d1] 63)).alloc (.cells #[.pointer (some ⟨w1.heap.size, 0, none⟩)] 61)
  have hB5 := moreW (moreW HB1.out (.cells #[.int .i64 W.epoch, .int .i64 W.root, .int .i64 W.last, .slice (some ⟨g1, 0, none⟩) n c1, .slice B1 W.freed.length d1] 63)) (.cells #[.pointer (some ⟨w1.heap.size, 0, none⟩)] 61)
  have hA5 := (HACT.out.alloc (.cells #[.int .i64 W.epoch, .int .i64 W.root, .int .i64 W.last, .slice (some ⟨g1, 0, none⟩) n c1, .slice B1 W.freed.length d1] 63)).alloc (.cells #[.pointer (some ⟨w1.heap.size, 0, none⟩)] 61)
  have HS := hide hS; have HP := hide hP5; have HR := hide hR5; have HB := hide hB5; have HX := hide hx; have HA := hide hA5
  clear hS hP5 hR5 hB5 hx hne e2 e3 hA5
  have ht2 : (t : Int) < (n : Int) := by omega
  go_wp2_with fail
  go_quiet (fail)
  generalize hw5 : World.drewN (World.alloc (World.alloc w1 _) _) _ = w5
  have HD5 := hide (show Drew _ w5 from ⟨_, hw5.symm⟩)
  clear hw5
  have HS5 := hide (HS.out.ext HD5.out.extW)
  have HP5 := hide (HP.out.extW HD5.out.extW)
  have HR5 := hide (HR.out.extW HD5.out.extW)
  have HA5 := hide (HA.out.extW HD5.out.extW)
  have HB5 := hide (extW HB.out HD5.out.extW)
  obtain ⟨gs, hgs⟩ : ∃ gs, gs = w1.heap.size := ⟨_, rfl⟩
  rw [← hgs] at HS5 HP5
  rw [← hgs]
  have hca := fun i => Blk.cell HA5.out i
  have hza := HA5.out.lt
  have hcq := fun i => Blk.cell HP5.out i
  have hzq := HP5.out.lt
  have hbase : w.heap.size + 3 ≤ gs := by omega
  clear HD5 HS HP HR HA HB hgs hsz hsz0 hsz1 HB1 HO1 HRES HACT
  have hcs := fun i => Blk.cell HS5.out.blk i
  have hfs := fun i => Blk.free HS5.out.blk i
  have hzs := HS5.out.blk.lt
  obtain ⟨k0, k1, k2, k3, k4⟩ := HS5.out.cell HX.out
  have hf1 := fun i => HS5.out.free1 i
  have hg1z := HS5.out.lt1.2
  have hne := HS5.out.ne
  have hne2 : g1 ≠ gs := fun e => hne e.symm
  by_cases h0 : x.r.holds = 0
  · have hd1 : (x.r.holds == 0) = true := by simpa using h0
    have HLE := hide (lets_any w5 gs W (some ⟨g1, 0, none⟩) c1 (.slice B1 W.freed.length d1) ys t (by rw [HYL.out]; exact HS5.out.blk) (by exact (HS5.out.own.row.rdF).2) (by rw [HYL.out]; exact hfew) HS5.out.own.rds)
    have H0 := hide h0
    have he0 : 0 ≤ W.epoch := by have := HSA.out.e1; omega
    have he1 : W.epoch ≤ 1000 := by have := HSA.out.e2; omega
    clear h0
    rcases hle : letsW W t with _ | _
    · rw [hle] at HLE
      have HW : Hid (advW W t x.r = W) := by unfold Hid advW; rw [if_neg (by rw [hle]; simp)]
      clear hle
      have hcq6 := fun i => Blk.cell HP5.out i
      have hcs6 := fun i => Blk.cell HS5.out.blk i
      have hcr6 := fun i => Blk.cell HR5.out i
      have hfr6 := fun i => Blk.free HR5.out i
      have hzr6 := HR5.out.lt
      have hzs6 := HS5.out.blk.lt
      have hzq6 := HP5.out.lt
      go_wp2_with fail
      refine HLE.out.mono ?_
      rintro e w6 ⟨rfl, hb6⟩
      have HS6 := hide (HS5.out.ext hb6)
      have HR6 := hide (HR5.out.extW hb6)
      have HP6 := hide (HP5.out.extW hb6)
      have HB6 := hide (extW HB5.out hb6)
      clear hb6
      have hcq7 := fun i => Blk.cell HP6.out i
      have hcs7 := fun i => Blk.cell HS6.out.blk i
      have hcr7 := fun i => Blk.cell HR6.out i
      have hfr7 := fun i => Blk.free HR6.out i
      have hzr7 := HR6.out.lt
      have hzs7 := HS6.out.blk.lt
      have hzq7 := HP6.out.lt
      go_wp2_with fail
      refine bodyPost_ret (v := .agg #[.int .i64 W.epoch, .int .i64 W.root, .int .i64 W.last, .slice (some ⟨g1, 0, none⟩) n c1, .slice B1 W.freed.length d1]) ?_ rfl ?_
      · obtain ⟨k0, k1, k2, k3, k4⟩ := set5_cells (HR6.out) (.int .i64 W.epoch) (.int .i64 W.root) (.int .i64 W.last) (.slice (some ⟨g1, 0, none⟩) n c1) (.slice B1 W.freed.length d1)
        unfold set5 at k4
        simp [results, Try.results14, go_sem, k0, k1, k2, k3, k4]
      · rw [HW.out]; exact do_end HS6.out HR6.out HB6.out (by omega)
    · rw [hle] at HLE
      have HW : Hid (advW W t x.r = { W with epoch := W.epoch + 1 }) := by unfold Hid advW; rw [if_pos ⟨H0.out, hle⟩]
      clear hle
      have hcq6 := fun i => Blk.cell HP5.out i
      have hcs6 := fun i => Blk.cell HS5.out.blk i
      have hcr6 := fun i => Blk.cell HR5.out i
      have hfr6 := fun i => Blk.free HR5.out i
      have hzr6 := HR5.out.lt
      have hzs6 := HS5.out.blk.lt
      have hzq6 := HP5.out.lt
      go_wp2_with fail
      refine HLE.out.mono ?_
      rintro e w6 ⟨rfl, hb6⟩
      have HS6 := hide (HS5.out.ext hb6)
      have HS7 := hide (StV.top HS6.out (W' := { W with epoch := W.epoch + 1 }) (i := 0) (u := .int .i64 (W.epoch + 1)) rfl rfl rfl)
      have HR6 := hide (HR5.out.extW hb6)
      have HR7 := hide (HR6.out.far (p := ⟨gs, 0, none⟩) (by show w.heap.size + 2 ≠ gs; omega) (.int .i64 (W.epoch + 1)))
      have HP6 := hide (HP5.out.extW hb6)
      have HB7 := hide ((extW HB5.out hb6).setCell (p := ⟨gs, 0, none⟩) (by show w.heap.size ≤ gs; omega) (.int .i64 (W.epoch + 1)))
      have hfs6 := fun i => Blk.free HS6.out.blk i
      clear hb6
      have hcq7 := fun i => Blk.cell HP6.out i
      have hcs7 := fun i => Blk.cell HS6.out.blk i
      have hcr7 := fun i => Blk.cell HR6.out i
      have hfr7 := fun i => Blk.free HR6.out i
      have hzr7 := HR6.out.lt
      have hzs7 := HS6.out.blk.lt
      have hzq7 := HP6.out.lt
      go_wp2_with fail
      refine bodyPost_ret (v := .agg #[.int .i64 (W.epoch + 1), .int .i64 W.root, .int .i64 W.last, .slice (some ⟨g1, 0, none⟩) n c1, .slice B1 W.freed.length d1]) ?_ rfl ?_
      · obtain ⟨k0, k1, k2, k3, k4⟩ := set5_cells (HR7.out) (.int .i64 (W.epoch + 1)) (.int .i64 W.root) (.int .i64 W.last) (.slice (some ⟨g1, 0, none⟩) n c1) (.slice B1 W.freed.length d1)
        unfold set5 at k4
        simp [results, Try.results14, go_sem, k0, k1, k2, k3, k4]
      · rw [HW.out]; exact do_end HS7.out HR7.out HB7.out (by omega)
  · have hd1 : (x.r.holds == 0) = false := by simpa using h0
    have H0 := hide h0
    clear h0
    have HW : Hid (advW W t x.r = W) := by unfold Hid advW; rw [if_neg (fun h => H0.out h.1)]
    have hcq6 := fun i => Blk.cell HP5.out i
    have hcs6 := fun i => Blk.cell HS5.out.blk i
    have hcr6 := fun i => Blk.cell HR5.out i
    have hfr6 := fun i => Blk.free HR5.out i
    have hzr6 := HR5.out.lt
    have hzs6 := HS5.out.blk.lt
    have hzq6 := HP5.out.lt
    go_wp2_with fail
    refine bodyPost_ret (v := .agg #[.int .i64 W.epoch, .int .i64 W.root, .int .i64 W.last, .slice (some ⟨g1, 0, none⟩) n c1, .slice B1 W.freed.length d1]) ?_ rfl ?_
    · obtain ⟨k0, k1, k2, k3, k4⟩ := set5_cells (HR5.out) (.int .i64 W.epoch) (.int .i64 W.root) (.int .i64 W.last) (.slice (some ⟨g1, 0, none⟩) n c1) (.slice B1 W.freed.length d1)
      unfold set5 at k4
      simp [results, Try.results14, go_sem, k0, k1, k2, k3, k4]
    · rw [HW.out]; exact do_end HS5.out HR5.out HB5.out (by omega)
set_option maxHeartbeats 2000000 in
theorem gdo_9 (t : Nat) (r : RdT) (k0 : Nat) (h : WV w W A B xs) (hs : Sane W k0) (hk0 : k0 ≤ 400) (hr : W.rds[t]? = some r) :
    Calls Try.prog 14 #[.agg #[.int .i64 W.epoch, .int .i64 W.root, .int .i64 W.last, .slice A xs.length c, .slice B W.freed.length d], .agg #[.int .i64 t, .int .i64 9]] w (GivesR (byEpochW W t r) w) := by
  have hfew : xs.length ≤ 64 := by have := hs.few; rw [← h.rds, List.length_map] at this; exact this
  have hlens := hs.lens
  have hCP := copy_any (((w.alloc (.cells #[.int .i64 W.epoch, .int .i64 W.root, .int .i64 W.last, .slice A xs.length c, .slice B W.freed.length d] 38)).alloc (.cells #[.int .i64 t, .int .i64 9] 27)).alloc (.cells #[.int .i64 0, .int .i64 0, .int .i64 0, .slice none 0 0, .slice none 0 0] 38)) W A B c d xs (((h.below (moreW (selfW _) _)).below (moreW (selfW _) _)).below (moreW (selfW _) _)) hfew (by omega)
    (fun x hx => by have := hs.away (r := x.r) (by rw [← h.rds]; exact List.mem_map.2 ⟨x, hx, rfl⟩); omega)
  have HCP := hide hCP
  have HRDS := hide h.rds
  have HSA := hide hs
  obtain ⟨n, hn⟩ : ∃ n, n = xs.length := ⟨_, rfl⟩
  rw [← hn] at HCP hfew ⊢
  have HN := hide hn
  have hlen : Hid (W.rds.length = n) := by unfold Hid; rw [hn, ← h.rds, List.length_map]
  have htn : t < n := by have := len_of hr; rw [hlen.out] at this; exact this
  have HR0 := hide hr
  clear hCP h hs hn hlens
  go_enter Try.func14, Try.ntmps14
  go_wp2_with fail
  refine HCP.out.mono ?_
  rintro e w1 ⟨vr, vf, ys, rfl, hO1, hb1⟩
  have hact := (((Blk.newAt (w.alloc (.cells #[.int .i64 W.epoch, .int .i64 W.root, .int .i64 W.last, .slice A n c, .slice B W.freed.length d] 38)) 27 #[.int .i64 t, .int .i64 9] (g := w.heap.size + 1) (by simp)).alloc (.cells #[.int .i64 0, .int .i64 0, .int .i64 0, .slice none 0 0, .slice none 0 0] 38)).extW hb1)
  have hpar := ((((Blk.new w 38 #[.int .i64 W.epoch, .int .i64 W.root, .int .i64 W.last, .slice A n c, .slice B W.freed.length d]).alloc (.cells #[.int .i64 t, .int .i64 9] 27)).alloc (.cells #[.int .i64 0, .int .i64 0, .int .i64 0, .slice none 0 0, .slice none 0 0] 38)).extW hb1)
  have hres := ((Blk.newAt ((w.alloc (.cells #[.int .i64 W.epoch, .int .i64 W.root, .int .i64 W.last, .slice A n c, .slice B W.freed.length d] 38)).alloc (.cells #[.int .i64 t, .int .i64 9] 27)) 38 #[.int .i64 0, .int .i64 0, .int .i64 0, .slice none 0 0, .slice none 0 0] (g := w.heap.size + 2) (by simp)).extW hb1)
  obtain ⟨A1, c1, B1, d1, e1, e2, hWV⟩ := hO1.rd
  subst e1; subst e2
  have hyl : ys.length = n := by rw [← hlen.out, ← hO1.rds, List.length_map]
  rw [hyl] at hO1
  have hca := fun i => Blk.cell hact i
  have hcp := fun i => Blk.cell hpar i
  have hcr := fun i => Blk.cell hres i
  have hfr := fun i => Blk.free hres i
  have hsz := hres.lt
  have hsz1 := hact.lt
  have hsz0 := hpar.lt
  have hB1 := extW (moreW (moreW (moreW (selfW w) _) _) _) hb1
  have HB1 := hide hB1; have HO1 := hide hO1; have HRES := hide hres; have HACT := hide hact; have HYL := hide hyl
  clear hact hpar hres hO1 hb1 hB1 hyl HCP hWV
  rw [HYL.out]
  obtain ⟨x, hx, rfl⟩ := rds_get' HO1.out.rds HR0.out
  have hne : ys ≠ [] := by rintro rfl; simp at hx
  obtain ⟨g1, c9, hv9, hg1, hg2⟩ := HO1.out.row.form hne
  injection hv9 with e1 e2 e3
  subst e1
  have hS : StV ((w1.alloc (.cells #[.int .i64 W.epoch, .int .i64 W.root, .int .i64 W.last, .slice (some ⟨g1, 0, none⟩) n c1, .slice B1 W.freed.length d1] 63)).alloc (.cells #[.pointer (some ⟨w1.heap.size, 0, none⟩)] 61)) (w.heap.size + 3) w1.heap.size W (.slice (some ⟨g1, 0, none⟩) n c1) (.slice B1 W.freed.length d1) ys :=
    ⟨(Blk.new _ _ _).alloc _, by
      have h1 := (HO1.out.ext (moreW (selfW w1) (.cells #[.int .i64 W.epoch, .int .i64 W.root, .int .i64 W.last, .slice (some ⟨g1, 0, none⟩) n c1, .slice B1 W.freed.length d1] 63))).ext (moreW (selfW _) (.cells #[.pointer (some ⟨w1.heap.size, 0, none⟩)] 61))
      simp only [World.size_alloc] at h1
      exact h1, by omega⟩
  have hP5 := Blk.newAt (w1.alloc (.cells #[.int .i64 W.epoch, .int .i64 W.root, .int .i64 W.last, .slice (some ⟨g1, 0, none⟩) n c1, .slice B1 W.freed.length d1] 63)) 61 #[.pointer (some ⟨w1.heap.size, 0, none⟩)] (g := w1.heap.size + 1) (by simp)
  have hR5 := (HRES.out.alloc (.cells #[.int .i64 W.epoch, .int .i64 W.root, .int .i64 W.last, .slice (some ⟨g1, 0, none⟩) n c1, .slice B1 W.freed.length d1] 63)).alloc (.cells #[.pointer (some ⟨w1.heap.size, 0, none⟩)] 61)
  have hB5 := moreW (moreW HB1.out (.cells #[.int .i64 W.epoch, .int .i64 W.root, .int .i64 W.last, .slice (some ⟨g1, 0, none⟩) n c1, .slice B1 W.freed.length d1] 63)) (.cells #[.pointer (some ⟨w1.heap.size, 0, none⟩)] 61)
  have hA5 := (HACT.out.alloc (.cells #[.int .i64 W.epoch, .int .i64 W.root, .int .i64 W.last, .slice (some ⟨g1, 0, none⟩) n c1, .slice B1 W.freed.length d1] 63)).alloc (.cells #[.pointer (some ⟨w1.heap.size, 0, none⟩)] 61)
  have HS := hide hS; have HP := hide hP5; have HR := hide hR5; have HB := hide hB5; have HX := hide hx; have HA := hide hA5
  clear hS hP5 hR5 hB5 hx hne e2 e3 hA5
  have ht2 : (t : Int) < (n : Int) := by omega
  go_wp2_with fail
  go_quiet (fail)
  generalize hw5 : World.drewN (World.alloc (World.alloc w1 _) _) _ = w5
  have HD5 := hide (show Drew _ w5 from ⟨_, hw5.symm⟩)
  clear hw5
  have HS5 := hide (HS.out.ext HD5.out.extW)
  have HP5 := hide (HP.out.extW HD5.out.extW)
  have HR5 := hide (HR.out.extW HD5.out.extW)
  have HA5 := hide (HA.out.extW HD5.out.extW)
  have HB5 := hide (extW HB.out HD5.out.extW)
  obtain ⟨gs, hgs⟩ : ∃ gs, gs = w1.heap.size := ⟨_, rfl⟩
  rw [← hgs] at HS5 HP5
  rw [← hgs]
  have hca := fun i => Blk.cell HA5.out i
  have hza := HA5.out.lt
  have hcq := fun i => Blk.cell HP5.out i
  have hzq := HP5.out.lt
  have hbase : w.heap.size + 3 ≤ gs := by omega
  clear HD5 HS HP HR HA HB hgs hsz hsz0 hsz1 HB1 HO1 HRES HACT
  have he0 : 0 ≤ W.epoch := by have := HSA.out.e1; omega
  have he1 : W.epoch ≤ 1000 := by have := HSA.out.e2; omega
  have HL1 : Hid (x.r.away.length ≤ 450) := by have := HSA.out.away (r := x.r) (mem_of_get HR0.out); exact Nat.le_trans this (by omega)
  have HL2 : Hid (W.freed.length ≤ 450) := by have := HSA.out.lens; unfold Hid; omega
  have HFR := hide (free_any 24 (.inl rfl) (fun o => pastB o.stamp W.epoch) HS5.out HX.out HL1.out HL2.out HP5.out (fun o wx vf' fr hS hP => do1_any wx (gs + 1) gs o W.epoch (by omega) (by omega) hP (hS.blk.cell 0)))
  have hmf : ∀ (fn : Fn) (first cap : Array Value) (w : World), (Instr.makeFunc fn first cap).run Try.prog w = .ok (.func fn first cap) w := fun _ _ _ _ => rfl
  go_wp2_with fail
  refine HFR.out.mono ?_
  rintro e w6 ⟨rfl, ⟨vr6, vf6, zs, hS6⟩, hK6, hB6⟩
  replace hS6 : StV w6 (w.heap.size + 3) gs (byEpochW W t x.r) vr6 vf6 zs := hS6
  obtain ⟨W', hW'⟩ : ∃ W', W' = byEpochW W t x.r := ⟨_, rfl⟩
  rw [← hW'] at hS6
  have HW := hide hW'
  clear hW'
  obtain ⟨A6, n6, c6, B6, m6, d6, rfl, rfl⟩ := hS6.shape
  have hP6 := hK6.blk HP5.out (by decide) (by decide) (by decide) (by decide)
  have hR6 := hK6.blk HR5.out (by decide) (by decide) (by decide) (by decide)
  have hc6 := fun i => Blk.cell hP6 i
  have hs6 := fun i => Blk.cell hS6.blk i
  have hr6 := fun i => Blk.cell hR6 i
  have hf6 := fun i => Blk.free hR6 i
  have hz6 := hS6.blk.lt
  have hz7 := hR6.lt
  have HR6 := hide hR6; have HS6 := hide hS6
  have HB6 := hide (HB5.out.trans (hB6.mono (by omega)))
  clear hP6 hR6 hS6 hK6 hB6
  go_wp2_with fail
  refine bodyPost_ret (v := .agg #[.int .i64 W'.epoch, .int .i64 W'.root, .int .i64 W'.last, .slice A6 n6 c6, .slice B6 m6 d6]) ?_ rfl ?_
  · obtain ⟨k0, k1, k2, k3, k4⟩ := set5_cells HR6.out (.int .i64 W'.epoch) (.int .i64 W'.root) (.int .i64 W'.last) (.slice A6 n6 c6) (.slice B6 m6 d6)
    unfold set5 at k4
    simp [results, Try.results14, go_sem, k0, k1, k2, k3, k4]
  · rw [← HW.out]; exact do_end HS6.out HR6.out HB6.out (by omega)
set_option maxHeartbeats 2000000 in
theorem gdo_10 (t : Nat) (r : RdT) (k0 : Nat) (h : WV w W A B xs) (hs : Sane W k0) (hk0 : k0 ≤ 400) (hr : W.rds[t]? = some r) :
    Calls Try.prog 14 #[.agg #[.int .i64 W.epoch, .int .i64 W.root, .int .i64 W.last, .slice A xs.length c, .slice B W.freed.length d], .agg #[.int .i64 t, .int .i64 10]] w (GivesR (byGuardW W t r) w) := by
  have hfew : xs.length ≤ 64 := by have := hs.few; rw [← h.rds, List.length_map] at this; exact this
  have hlens := hs.lens
  have hCP := copy_any (((w.alloc (.cells #[.int .i64 W.epoch, .int .i64 W.root, .int .i64 W.last, .slice A xs.length c, .slice B W.freed.length d] 38)).alloc (.cells #[.int .i64 t, .int .i64 10] 27)).alloc (.cells #[.int .i64 0, .int .i64 0, .int .i64 0, .slice none 0 0, .slice none 0 0] 38)) W A B c d xs (((h.below (moreW (selfW _) _)).below (moreW (selfW _) _)).below (moreW (selfW _) _)) hfew (by omega)
    (fun x hx => by have := hs.away (r := x.r) (by rw [← h.rds]; exact List.mem_map.2 ⟨x, hx, rfl⟩); omega)
  have HCP := hide hCP
  have HRDS := hide h.rds
  have HSA := hide hs
  obtain ⟨n, hn⟩ : ∃ n, n = xs.length := ⟨_, rfl⟩
  rw [← hn] at HCP hfew ⊢
  have HN := hide hn
  have hlen : Hid (W.rds.length = n) := by unfold Hid; rw [hn, ← h.rds, List.length_map]
  have htn : t < n := by have := len_of hr; rw [hlen.out] at this; exact this
  have HR0 := hide hr
  clear hCP h hs hn hlens
  go_enter Try.func14, Try.ntmps14
  go_wp2_with fail
  refine HCP.out.mono ?_
  rintro e w1 ⟨vr, vf, ys, rfl, hO1, hb1⟩
  have hact := (((Blk.newAt (w.alloc (.cells #[.int .i64 W.epoch, .int .i64 W.root, .int .i64 W.last, .slice A n c, .slice B W.freed.length d] 38)) 27 #[.int .i64 t, .int .i64 10] (g := w.heap.size + 1) (by simp)).alloc (.cells #[.int .i64 0, .int .i64 0, .int .i64 0, .slice none 0 0, .slice none 0 0] 38)).extW hb1)
  have hpar := ((((Blk.new w 38 #[.int .i64 W.epoch, .int .i64 W.root, .int .i64 W.last, .slice A n c, .slice B W.freed.length d]).alloc (.cells #[.int .i64 t, .int .i64 10] 27)).alloc (.cells #[.int .i64 0, .int .i64 0, .int .i64 0, .slice none 0 0, .slice none 0 0] 38)).extW hb1)
  have hres := ((Blk.newAt ((w.alloc (.cells #[.int .i64 W.epoch, .int .i64 W.root, .int .i64 W.last, .slice A n c, .slice B W.freed.length d] 38)).alloc (.cells #[.int .i64 t, .int .i64 10] 27)) 38 #[.int .i64 0, .int .i64 0, .int .i64 0, .slice none 0 0, .slice none 0 0] (g := w.heap.size + 2) (by simp)).extW hb1)
  obtain ⟨A1, c1, B1, d1, e1, e2, hWV⟩ := hO1.rd
  subst e1; subst e2
  have hyl : ys.length = n := by rw [← hlen.out, ← hO1.rds, List.length_map]
  rw [hyl] at hO1
  have hca := fun i => Blk.cell hact i
  have hcp := fun i => Blk.cell hpar i
  have hcr := fun i => Blk.cell hres i
  have hfr := fun i => Blk.free hres i
  have hsz := hres.lt
  have hsz1 := hact.lt
  have hsz0 := hpar.lt
  have hB1 := extW (moreW (moreW (moreW (selfW w) _) _) _) hb1
  have HB1 := hide hB1; have HO1 := hide hO1; have HRES := hide hres; have HACT := hide hact; have HYL := hide hyl
  clear hact hpar hres hO1 hb1 hB1 hyl HCP hWV
  rw [HYL.out]
  obtain ⟨x, hx, rfl⟩ := rds_get' HO1.out.rds HR0.out
  have hne : ys ≠ [] := by rintro rfl; simp at hx
  obtain ⟨g1, c9, hv9, hg1, hg2⟩ := HO1.out.row.form hne
  injection hv9 with e1 e2 e3
  subst e1
  have hS : StV ((w1.alloc (.cells #[.int .i64 W.epoch, .int .i64 W.root, .int .i64 W.last, .slice (some ⟨g1, 0, none⟩) n c1, .slice B1 W.freed.length d1] 63)).alloc (.cells #[.pointer (some ⟨w1.heap.size, 0, none⟩)] 61)) (w.heap.size + 3) w1.heap.size W (.slice (some ⟨g1, 0, none⟩) n c1) (.slice B1 W.freed.length d1) ys :=
    ⟨(Blk.new _ _ _).alloc _, by
      have h1 := (HO1.out.ext (moreW (selfW w1) (.cells #[.int .i64 W.epoch, .int .i64 W.root, .int .i64 W.last, .slice (some ⟨g1, 0, none⟩) n c1, .slice B1 W.freed.length d1] 63))).ext (moreW (selfW _) (.cells #[.pointer (some ⟨w1.heap.size, 0, none⟩)] 61))
      simp only [World.size_alloc] at h1
      exact h1, by omega⟩
  have hP5 := Blk.newAt (w1.alloc (.cells #[.int .i64 W.epoch, .int .i64 W.root, .int .i64 W.last, .slice (some ⟨g1, 0, none⟩) n c1, .slice B1 W.freed.length d1] 63)) 61 #[.pointer (some ⟨w1.heap.size, 0, none⟩)] (g := w1.heap.size + 1) (by simp)
  have hR5 := (HRES.out.alloc (.cells #[.int .i64 W.epoch, .int .i64 W.root, .int .i64 W.last, .slice (some ⟨g1, 0, none⟩) n c1, .slice B1 W.freed.length d1] 63)).alloc (.cells #[.pointer (some ⟨w1.heap.size, 0, none⟩)] 61)
  have hB5 := moreW (moreW HB1.out (.cells #[.int .i64 W.epoch, .int .i64 W.root, .int .i64 W.last, .slice (some ⟨g1, 0, none⟩) n c1, .slice B1 W.freed.length d1] 63)) (.cells #[.pointer (some ⟨w1.heap.size, 0, none⟩)] 61)
  have hA5 := (HACT.out.alloc (.cells #[.int .i64 W.epoch, .int .i64 W.root, .int .i64 W.last, .slice (some ⟨g1, 0, none⟩) n c1, .slice B1 W.freed.length d1] 63)).alloc (.cells #[.pointer (some ⟨w1.heap.size, 0, none⟩)] 61)
  have HS := hide hS; have HP := hide hP5; have HR := hide hR5; have HB := hide hB5; have HX := hide hx; have HA := hide hA5
  clear hS hP5 hR5 hB5 hx hne e2 e3 hA5
  have ht2 : (t : Int) < (n : Int) := by omega
  go_wp2_with fail
  go_quiet (fail)
  generalize hw5 : World.drewN (World.alloc (World.alloc w1 _) _) _ = w5
  have HD5 := hide (show Drew _ w5 from ⟨_, hw5.symm⟩)
  clear hw5
  have HS5 := hide (HS.out.ext HD5.out.extW)
  have HP5 := hide (HP.out.extW HD5.out.extW)
  have HR5 := hide (HR.out.extW HD5.out.extW)
  have HA5 := hide (HA.out.extW HD5.out.extW)
  have HB5 := hide (extW HB.out HD5.out.extW)
  obtain ⟨gs, hgs⟩ : ∃ gs, gs = w1.heap.size := ⟨_, rfl⟩
  rw [← hgs] at HS5 HP5
  rw [← hgs]
  have hca := fun i => Blk.cell HA5.out i
  have hza := HA5.out.lt
  have hcq := fun i => Blk.cell HP5.out i
  have hzq := HP5.out.lt
  have hbase : w.heap.size + 3 ≤ gs := by omega
  clear HD5 HS HP HR HA HB hgs hsz hsz0 hsz1 HB1 HO1 HRES HACT
  have he0 : 0 ≤ W.epoch := by have := HSA.out.e1; omega
  have he1 : W.epoch ≤ 1000 := by have := HSA.out.e2; omega
  have HL1 : Hid (x.r.away.length ≤ 450) := by have := HSA.out.away (r := x.r) (mem_of_get HR0.out); exact Nat.le_trans this (by omega)
  have HL2 : Hid (W.freed.length ≤ 450) := by have := HSA.out.lens; unfold Hid; omega
  have HFR := hide (free_any 26 (.inr rfl) (fun o => !guardedW W o.node) HS5.out HX.out HL1.out HL2.out HP5.out (fun o wx vf' fr hS hP => do2_any wx (gs + 1) gs o { W with freed := fr } (some ⟨g1, 0, none⟩) c1 vf' ys hP (by rw [HYL.out]; exact hS.blk) (by exact (hS.own.row.rdF).2) (by rw [HYL.out]; exact hfew) hS.own.rds))
  have hmf : ∀ (fn : Fn) (first cap : Array Value) (w : World), (Instr.makeFunc fn first cap).run Try.prog w = .ok (.func fn first cap) w := fun _ _ _ _ => rfl
  go_wp2_with fail
  refine HFR.out.mono ?_
  rintro e w6 ⟨rfl, ⟨vr6, vf6, zs, hS6⟩, hK6, hB6⟩
  replace hS6 : StV w6 (w.heap.size + 3) gs (byGuardW W t x.r) vr6 vf6 zs := hS6
  obtain ⟨W', hW'⟩ : ∃ W', W' = byGuardW W t x.r := ⟨_, rfl⟩
  rw [← hW'] at hS6
  have HW := hide hW'
  clear hW'
  obtain ⟨A6, n6, c6, B6, m6, d6, rfl, rfl⟩ := hS6.shape
  have hP6 := hK6.blk HP5.out (by decide) (by decide) (by decide) (by decide)
  have hR6 := hK6.blk HR5.out (by decide) (by decide) (by decide) (by decide)
  have hc6 := fun i => Blk.cell hP6 i
  have hs6 := fun i => Blk.cell hS6.blk i
  have hr6 := fun i => Blk.cell hR6 i
  have hf6 := fun i => Blk.free hR6 i
  have hz6 := hS6.blk.lt
  have hz7 := hR6.lt
  have HR6 := hide hR6; have HS6 := hide hS6
  have HB6 := hide (HB5.out.trans (hB6.mono (by omega)))
  clear hP6 hR6 hS6 hK6 hB6
  go_wp2_with fail
  refine bodyPost_ret (v := .agg #[.int .i64 W'.epoch, .int .i64 W'.root, .int .i64 W'.last, .slice A6 n6 c6, .slice B6 m6 d6]) ?_ rfl ?_
  · obtain ⟨k0, k1, k2, k3, k4⟩ := set5_cells HR6.out (.int .i64 W'.epoch) (.int .i64 W'.root) (.int .i64 W'.last) (.slice A6 n6 c6) (.slice B6 m6 d6)
    unfold set5 at k4
    simp [results, Try.results14, go_sem, k0, k1, k2, k3, k4]
  · rw [← HW.out]; exact do_end HS6.out HR6.out HB6.out (by omega)
def noneW (W : WT) (_ : Nat) (_ : RdT) : WT := W
set_option maxHeartbeats 2000000 in
theorem gdo_none (t : Nat) (r : RdT) (k0 : Nat) (h : WV w W A B xs) (hs : Sane W k0) (hk0 : k0 ≤ 400) (hr : W.rds[t]? = some r) (ki : Int) (hki : ki < 1 ∨ 10 < ki) :
    Calls Try.prog 14 #[.agg #[.int .i64 W.epoch, .int .i64 W.root, .int .i64 W.last, .slice A xs.length c, .slice B W.freed.length d], .agg #[.int .i64 t, .int .i64 ki]] w (GivesR (noneW W t r) w) := by
  have hfew : xs.length ≤ 64 := by have := hs.few; rw [← h.rds, List.length_map] at this; exact this
  have hlens := hs.lens
  have hCP := copy_any (((w.alloc (.cells #[.int .i64 W.epoch, .int .i64 W.root, .int .i64 W.last, .slice A xs.length c, .slice B W.freed.length d] 38)).alloc (.cells #[.int .i64 t, .int .i64 ki] 27)).alloc (.cells #[.int .i64 0, .int .i64 0, .int .i64 0, .slice none 0 0, .slice none 0 0] 38)) W A B c d xs (((h.below (moreW (selfW _) _)).below (moreW (selfW _) _)).below (moreW (selfW _) _)) hfew (by omega)
    (fun x hx => by have := hs.away (r := x.r) (by rw [← h.rds]; exact List.mem_map.2 ⟨x, hx, rfl⟩); omega)
  have HCP := hide hCP
  have HRDS := hide h.rds
  have HSA := hide hs
  obtain ⟨n, hn⟩ : ∃ n, n = xs.length := ⟨_, rfl⟩
  rw [← hn] at HCP hfew ⊢
  have HN := hide hn
  have hlen : Hid (W.rds.length = n) := by unfold Hid; rw [hn, ← h.rds, List.length_map]
  have htn : t < n := by have := len_of hr; rw [hlen.out] at this; exact this
  have HR0 := hide hr
  clear hCP h hs hn hlens
  go_enter Try.func14, Try.ntmps14
  go_wp2_with fail
  refine HCP.out.mono ?_
  rintro e w1 ⟨vr, vf, ys, rfl, hO1, hb1⟩
  have hact := (((Blk.newAt (w.alloc (.cells #[.int .i64 W.epoch, .int .i64 W.root, .int .i64 W.last, .slice A n c, .slice B W.freed.length d] 38)) 27 #[.int .i64 t, .int .i64 ki] (g := w.heap.size + 1) (by simp)).alloc (.cells #[.int .i64 0, .int .i64 0, .int .i64 0, .slice none 0 0, .slice none 0 0] 38)).extW hb1)
  have hpar := ((((Blk.new w 38 #[.int .i64 W.epoch, .int .i64 W.root, .int .i64 W.last, .slice A n c, .slice B W.freed.length d]).alloc (.cells #[.int .i64 t, .int .i64 ki] 27)).alloc (.cells #[.int .i64 0, .int .i64 0, .int .i64 0, .slice none 0 0, .slice none 0 0] 38)).extW hb1)
  have hres := ((Blk.newAt ((w.alloc (.cells #[.int .i64 W.epoch, .int .i64 W.root, .int .i64 W.last, .slice A n c, .slice B W.freed.length d] 38)).alloc (.cells #[.int .i64 t, .int .i64 ki] 27)) 38 #[.int .i64 0, .int .i64 0, .int .i64 0, .slice none 0 0, .slice none 0 0] (g := w.heap.size + 2) (by simp)).extW hb1)
  obtain ⟨A1, c1, B1, d1, e1, e2, hWV⟩ := hO1.rd
  subst e1; subst e2
  have hyl : ys.length = n := by rw [← hlen.out, ← hO1.rds, List.length_map]
  rw [hyl] at hO1
  have hca := fun i => Blk.cell hact i
  have hcp := fun i => Blk.cell hpar i
  have hcr := fun i => Blk.cell hres i
  have hfr := fun i => Blk.free hres i
  have hsz := hres.lt
  have hsz1 := hact.lt
  have hsz0 := hpar.lt
  have hB1 := extW (moreW (moreW (moreW (selfW w) _) _) _) hb1
  have HB1 := hide hB1; have HO1 := hide hO1; have HRES := hide hres; have HACT := hide hact; have HYL := hide hyl
  clear hact hpar hres hO1 hb1 hB1 hyl HCP hWV
  rw [HYL.out]
  obtain ⟨x, hx, rfl⟩ := rds_get' HO1.out.rds HR0.out
  have hne : ys ≠ [] := by rintro rfl; simp at hx
  obtain ⟨g1, c9, hv9, hg1, hg2⟩ := HO1.out.row.form hne
  injection hv9 with e1 e2 e3
  subst e1
  have hS : StV ((w1.alloc (.cells #[.int .i64 W.epoch, .int .i64 W.root, .int .i64 W.last, .slice (some ⟨g1, 0, none⟩) n c1, .slice B1 W.freed.length d1] 63)).alloc (.cells #[.pointer (some ⟨w1.heap.size, 0, none⟩)] 61)) (w.heap.size + 3) w1.heap.size W (.slice (some ⟨g1, 0, none⟩) n c1) (.slice B1 W.freed.length d1) ys :=
    ⟨(Blk.new _ _ _).alloc _, by
      have h1 := (HO1.out.ext (moreW (selfW w1) (.cells #[.int .i64 W.epoch, .int .i64 W.root, .int .i64 W.last, .slice (some ⟨g1, 0, none⟩) n c1, .slice B1 W.freed.length d1] 63))).ext (moreW (selfW _) (.cells #[.pointer (some ⟨w1.heap.size, 0, none⟩)] 61))
      simp only [World.size_alloc] at h1
      exact h1, by omega⟩
  have hP5 := Blk.newAt (w1.alloc (.cells #[.int .i64 W.epoch, .int .i64 W.root, .int .i64 W.last, .slice (some ⟨g1, 0, none⟩) n c1, .slice B1 W.freed.length d1] 63)) 61 #[.pointer (some ⟨w1.heap.size, 0, none⟩)] (g := w1.heap.size + 1) (by simp)
  have hR5 := (HRES.out.alloc (.cells #[.int .i64 W.epoch, .int .i64 W.root, .int .i64 W.last, .slice (some ⟨g1, 0, none⟩) n c1, .slice B1 W.freed.length d1] 63)).alloc (.cells #[.pointer (some ⟨w1.heap.size, 0, none⟩)] 61)
  have hB5 := moreW (moreW HB1.out (.cells #[.int .i64 W.epoch, .int .i64 W.root, .int .i64 W.last, .slice (some ⟨g1, 0, none⟩) n c1, .slice B1 W.freed.length d1] 63)) (.cells #[.pointer (some ⟨w1.heap.size, 0, none⟩)] 61)
  have hA5 := (HACT.out.alloc (.cells #[.int .i64 W.epoch, .int .i64 W.root, .int .i64 W.last, .slice (some ⟨g1, 0, none⟩) n c1, .slice B1 W.freed.length d1] 63)).alloc (.cells #[.pointer (some ⟨w1.heap.size, 0, none⟩)] 61)
  have HS := hide hS; have HP := hide hP5; have HR := hide hR5; have HB := hide hB5; have HX := hide hx; have HA := hide hA5
  clear hS hP5 hR5 hB5 hx hne e2 e3 hA5
  have ht2 : (t : Int) < (n : Int) := by omega
  go_wp2_with fail
  go_quiet (fail)
  generalize hw5 : World.drewN (World.alloc (World.alloc w1 _) _) _ = w5
  have HD5 := hide (show Drew _ w5 from ⟨_, hw5.symm⟩)
  clear hw5
  have HS5 := hide (HS.out.ext HD5.out.extW)
  have HP5 := hide (HP.out.extW HD5.out.extW)
  have HR5 := hide (HR.out.extW HD5.out.extW)
  have HA5 := hide (HA.out.extW HD5.out.extW)
  have HB5 := hide (extW HB.out HD5.out.extW)
  obtain ⟨gs, hgs⟩ : ∃ gs, gs = w1.heap.size := ⟨_, rfl⟩
  rw [← hgs] at HS5 HP5
  rw [← hgs]
  have hca := fun i => Blk.cell HA5.out i
  have hza := HA5.out.lt
  have hcq := fun i => Blk.cell HP5.out i
  have hzq := HP5.out.lt
  have hbase : w.heap.size + 3 ≤ gs := by omega
  clear HD5 HS HP HR HA HB hgs hsz hsz0 hsz1 HB1 HO1 HRES HACT
  have hcs := fun i => Blk.cell HS5.out.blk i
  have hfs := fun i => Blk.free HS5.out.blk i
  have hzs := HS5.out.blk.lt
  obtain ⟨k0, k1, k2, k3, k4⟩ := HS5.out.cell HX.out
  have hf1 := fun i => HS5.out.free1 i
  have hg1z := HS5.out.lt1.2
  have hne := HS5.out.ne
  have hne2 : g1 ≠ gs := fun e => hne e.symm
  have q1 : (ki == 1) = false := by simp; omega
  have q2 : (ki == 2) = false := by simp; omega
  have q3 : (ki == 3) = false := by simp; omega
  have q4 : (ki == 4) = false := by simp; omega
  have q5 : (ki == 5) = false := by simp; omega
  have q6 : (ki == 6) = false := by simp; omega
  have q7 : (ki == 7) = false := by simp; omega
  have q8 : (ki == 8) = false := by simp; omega
  have q9 : (ki == 9) = false := by simp; omega
  have q10 : (ki == 10) = false := by simp; omega
  clear hki
  have HW : Hid (noneW W t x.r = W) := rfl
  have hcq6 := fun i => Blk.cell HP5.out i
  have hcs6 := fun i => Blk.cell HS5.out.blk i
  have hcr6 := fun i => Blk.cell HR5.out i
  have hfr6 := fun i => Blk.free HR5.out i
  have hzr6 := HR5.out.lt
  have hzs6 := HS5.out.blk.lt
  have hzq6 := HP5.out.lt
  go_wp2_with fail
  refine bodyPost_ret (v := .agg #[.int .i64 W.epoch, .int .i64 W.root, .int .i64 W.last, .slice (some ⟨g1, 0, none⟩) n c1, .slice B1 W.freed.length d1]) ?_ rfl ?_
  · obtain ⟨k0, k1, k2, k3, k4⟩ := set5_cells (HR5.out) (.int .i64 W.epoch) (.int .i64 W.root) (.int .i64 W.last) (.slice (some ⟨g1, 0, none⟩) n c1) (.slice B1 W.freed.length d1)
    unfold set5 at k4
    simp [results, Try.results14, go_sem, k0, k1, k2, k3, k4]
  · rw [HW.out]; exact do_end HS5.out HR5.out HB5.out (by omega)
end
end Go.Proofs.Ytdgnejapofkadaa
