/- The walk of the reference's Do, a kind at a time. -/
import Derived.Test.YtdgnejapofkadaaGrC
import Derived.Test.YtdgnejapofkadaaGhQ
namespace Go.Proofs.Ytdgnejapofkadaa.Ref
open Go.RowKit

section
variable {w : World} {base gs g1 n c1 : Nat} {W : WT} {vf : Value} {xs : List RdX} {t : Nat} {x : RdX}
set_option maxRecDepth 100000 in
set_option maxHeartbeats 1000000 in
theorem rdo_1 (h : StV w base gs W (.slice (some ⟨g1, 0, none⟩) n c1) vf xs) (hx : xs[t]? = some x) :
    Calls Try.prog 9 #[.pointer (some ⟨gs, 0, none⟩), .int .i64 t, .int .i64 1] w (Acts base gs (seeW W t x.r) w) := by
  have hcs := fun i => Blk.cell h.blk i
  have hfs := fun i => Blk.free h.blk i
  obtain ⟨k0, k1, k2, k3, k4⟩ := h.cell hx
  have hf1 := fun i => h.free1 i
  have hgs := h.blk.lt
  have hg1s := h.lt1.2
  have hne := h.ne
  have hne2 : g1 ≠ gs := fun e => hne e.symm
  have htn : t < n := by have := len_of hx; rw [h.own.row.rdF.1]; exact this
  have ht2 : (t : Int) < (n : Int) := by omega
  have H := hide h; have HX := hide hx
  clear h hx
  go_enter Try.func9, Try.ntmps9
  go_wp2_with fail
  go_end0
  exact H.out.put1 HX.out (y := ⟨{ x.r with saw := W.epoch }, x.A, x.c⟩) (j := 0) (by decide) rfl rfl rfl rfl
set_option maxRecDepth 100000 in
set_option maxHeartbeats 1000000 in
theorem rdo_2 (h : StV w base gs W (.slice (some ⟨g1, 0, none⟩) n c1) vf xs) (hx : xs[t]? = some x) (hin : x.r.inn = -1 ∨ 0 < x.r.inn) :
    Calls Try.prog 9 #[.pointer (some ⟨gs, 0, none⟩), .int .i64 t, .int .i64 2] w (Acts base gs (enterW W t x.r) w) := by
  have hcs := fun i => Blk.cell h.blk i
  have hfs := fun i => Blk.free h.blk i
  obtain ⟨k0, k1, k2, k3, k4⟩ := h.cell hx
  have hf1 := fun i => h.free1 i
  have hgs := h.blk.lt
  have hg1s := h.lt1.2
  have hne := h.ne
  have hne2 : g1 ≠ gs := fun e => hne e.symm
  have htn : t < n := by have := len_of hx; rw [h.own.row.rdF.1]; exact this
  have ht2 : (t : Int) < (n : Int) := by omega
  have H := hide h; have HX := hide hx
  clear h hx
  have HF : Hid (enterW W t x.r = if x.r.inn < 0 ∧ 0 < x.r.saw then W.put t { x.r with inn := x.r.saw, saw := 0 } else W) := rfl
  by_cases h1 : x.r.inn = -1
  · have hd1 : (x.r.inn == -1) = true := by simpa using h1
    by_cases h2 : 0 < x.r.saw
    · rw [HF.out, if_pos ⟨by omega, h2⟩]
      have H1 := hide h1; clear h1 hin
      go_enter Try.func9, Try.ntmps9
      go_wp2_with fail
      go_end0
      exact H.out.put2 HX.out (y := ⟨{ x.r with inn := x.r.saw }, x.A, x.c⟩) (z := ⟨{ x.r with inn := x.r.saw, saw := 0 }, x.A, x.c⟩) (j := 1) (k := 0) (by decide) rfl rfl rfl rfl (by decide) rfl rfl rfl rfl
    · have h3 : decide (0 < x.r.saw) = false := decide_eq_false h2
      rw [HF.out, if_neg (fun h => h2 h.2)]
      have H1 := hide h1; clear h1 hin
      go_enter Try.func9, Try.ntmps9
      go_wp2_with fail
      go_end0
      exact H.out.stay
  · have hd1 : (x.r.inn == -1) = false := by simpa using h1
    rw [HF.out, if_neg (fun h => by omega)]
    clear hin
    go_enter Try.func9, Try.ntmps9
    go_wp2_with fail
    go_end0
    exact H.out.stay
set_option maxRecDepth 100000 in
set_option maxHeartbeats 1000000 in
theorem rdo_3 (h : StV w base gs W (.slice (some ⟨g1, 0, none⟩) n c1) vf xs) (hx : xs[t]? = some x) (hin : x.r.inn = -1 ∨ 0 < x.r.inn) :
    Calls Try.prog 9 #[.pointer (some ⟨gs, 0, none⟩), .int .i64 t, .int .i64 3] w (Acts base gs (guardW W t x.r) w) := by
  have hcs := fun i => Blk.cell h.blk i
  have hfs := fun i => Blk.free h.blk i
  obtain ⟨k0, k1, k2, k3, k4⟩ := h.cell hx
  have hf1 := fun i => h.free1 i
  have hgs := h.blk.lt
  have hg1s := h.lt1.2
  have hne := h.ne
  have hne2 : g1 ≠ gs := fun e => hne e.symm
  have htn : t < n := by have := len_of hx; rw [h.own.row.rdF.1]; exact this
  have ht2 : (t : Int) < (n : Int) := by omega
  have H := hide h; have HX := hide hx
  clear h hx
  have HF : Hid (guardW W t x.r = if 0 ≤ x.r.inn ∧ x.r.holds = 0 then W.put t { x.r with guard := W.root } else W) := rfl
  by_cases h1 : x.r.inn = -1
  · have hd1 : (x.r.inn != -1) = false := by simpa using h1
    rw [HF.out, if_neg (fun h => by omega)]
    have H1 := hide h1; clear h1 hin
    go_enter Try.func9, Try.ntmps9
    go_wp2_with fail
    go_end0
    exact H.out.stay
  · have hd1 : (x.r.inn != -1) = true := by simpa using h1
    by_cases h2 : x.r.holds = 0
    · rw [HF.out, if_pos ⟨by omega, h2⟩]
      have h3 : (x.r.holds == 0) = true := by simpa using h2
      have H2 := hide h2; clear h2 hin
      go_enter Try.func9, Try.ntmps9
      go_wp2_with fail
      go_end0
      exact H.out.put1 HX.out (y := ⟨{ x.r with guard := W.root }, x.A, x.c⟩) (j := 2) (by decide) rfl rfl rfl rfl
    · have h3 : (x.r.holds == 0) = false := by simpa using h2
      rw [HF.out, if_neg (fun h => h2 h.2)]
      clear h2 hin
      go_enter Try.func9, Try.ntmps9
      go_wp2_with fail
      go_end0
      exact H.out.stay
set_option maxRecDepth 100000 in
set_option maxHeartbeats 1000000 in
theorem rdo_4 (h : StV w base gs W (.slice (some ⟨g1, 0, none⟩) n c1) vf xs) (hx : xs[t]? = some x) :
    Calls Try.prog 9 #[.pointer (some ⟨gs, 0, none⟩), .int .i64 t, .int .i64 4] w (Acts base gs (holdW W t x.r) w) := by
  have hcs := fun i => Blk.cell h.blk i
  have hfs := fun i => Blk.free h.blk i
  obtain ⟨k0, k1, k2, k3, k4⟩ := h.cell hx
  have hf1 := fun i => h.free1 i
  have hgs := h.blk.lt
  have hg1s := h.lt1.2
  have hne := h.ne
  have hne2 : g1 ≠ gs := fun e => hne e.symm
  have htn : t < n := by have := len_of hx; rw [h.own.row.rdF.1]; exact this
  have ht2 : (t : Int) < (n : Int) := by omega
  have H := hide h; have HX := hide hx
  clear h hx
  have HF : Hid (holdW W t x.r = if x.r.guard = W.root then W.put t { x.r with holds := x.r.guard } else W) := rfl
  by_cases h1 : x.r.guard = W.root
  · rw [HF.out, if_pos h1, h1]
    have h3 : (x.r.guard == W.root) = true := by simpa using h1
    have H1 := hide h1; clear h1
    go_enter Try.func9, Try.ntmps9
    go_wp2_with fail
    go_quiet (fail)
    go_wp2_with fail
    go_end0
    exact Acts.after (below_drewN (selfW w) _) H.out.base_le (StV.put1 (H.out.ext (below_drewN (selfW w) _)) HX.out (y := ⟨{ x.r with holds := W.root }, x.A, x.c⟩) (j := 3) (by decide) rfl rfl rfl rfl)
  · rw [HF.out, if_neg h1]
    have h3 : (x.r.guard == W.root) = false := by simpa using h1
    have H1 := hide h1; clear h1
    go_enter Try.func9, Try.ntmps9
    go_wp2_with fail
    go_quiet (fail)
    go_wp2_with fail
    go_end0
    exact Acts.after (below_drewN (selfW w) _) H.out.base_le (StV.stay (H.out.ext (below_drewN (selfW w) _)))
set_option maxRecDepth 100000 in
set_option maxHeartbeats 1000000 in
theorem rdo_6 (h : StV w base gs W (.slice (some ⟨g1, 0, none⟩) n c1) vf xs) (hx : xs[t]? = some x) :
    Calls Try.prog 9 #[.pointer (some ⟨gs, 0, none⟩), .int .i64 t, .int .i64 6] w (Acts base gs (dropW W t x.r) w) := by
  have hcs := fun i => Blk.cell h.blk i
  have hfs := fun i => Blk.free h.blk i
  obtain ⟨k0, k1, k2, k3, k4⟩ := h.cell hx
  have hf1 := fun i => h.free1 i
  have hgs := h.blk.lt
  have hg1s := h.lt1.2
  have hne := h.ne
  have hne2 : g1 ≠ gs := fun e => hne e.symm
  have htn : t < n := by have := len_of hx; rw [h.own.row.rdF.1]; exact this
  have ht2 : (t : Int) < (n : Int) := by omega
  have H := hide h; have HX := hide hx
  clear h hx
  go_enter Try.func9, Try.ntmps9
  go_wp2_with fail
  go_end0
  exact H.out.put2 HX.out (y := ⟨{ x.r with guard := 0 }, x.A, x.c⟩) (z := ⟨{ x.r with guard := 0, holds := 0 }, x.A, x.c⟩) (j := 2) (k := 3) (by decide) rfl rfl rfl rfl (by decide) rfl rfl rfl rfl
set_option maxRecDepth 100000 in
set_option maxHeartbeats 1000000 in
theorem rdo_7 (h : StV w base gs W (.slice (some ⟨g1, 0, none⟩) n c1) vf xs) (hx : xs[t]? = some x) :
    Calls Try.prog 9 #[.pointer (some ⟨gs, 0, none⟩), .int .i64 t, .int .i64 7] w (Acts base gs (leaveW W t x.r) w) := by
  have hcs := fun i => Blk.cell h.blk i
  have hfs := fun i => Blk.free h.blk i
  obtain ⟨k0, k1, k2, k3, k4⟩ := h.cell hx
  have hf1 := fun i => h.free1 i
  have hgs := h.blk.lt
  have hg1s := h.lt1.2
  have hne := h.ne
  have hne2 : g1 ≠ gs := fun e => hne e.symm
  have htn : t < n := by have := len_of hx; rw [h.own.row.rdF.1]; exact this
  have ht2 : (t : Int) < (n : Int) := by omega
  have H := hide h; have HX := hide hx
  clear h hx
  have HF : Hid (leaveW W t x.r = if x.r.holds = 0 then W.put t { x.r with inn := -1, guard := 0 } else W) := rfl
  by_cases h1 : x.r.holds = 0
  · rw [HF.out, if_pos h1]
    have h3 : (x.r.holds == 0) = true := by simpa using h1
    have H1 := hide h1; clear h1
    go_enter Try.func9, Try.ntmps9
    go_wp2_with fail
    go_end0
    exact H.out.put2 HX.out (y := ⟨{ x.r with inn := -1 }, x.A, x.c⟩) (z := ⟨{ x.r with inn := -1, guard := 0 }, x.A, x.c⟩) (j := 1) (k := 2) (by decide) rfl rfl rfl rfl (by decide) rfl rfl rfl rfl
  · rw [HF.out, if_neg h1]
    have h3 : (x.r.holds == 0) = false := by simpa using h1
    have H1 := hide h1; clear h1
    go_enter Try.func9, Try.ntmps9
    go_wp2_with fail
    go_end0
    exact H.out.stay
set_option maxRecDepth 100000 in
set_option maxHeartbeats 1000000 in
theorem rdo_8 (h : StV w base gs W (.slice (some ⟨g1, 0, none⟩) n c1) vf xs) (hx : xs[t]? = some x) (hin : ∀ r ∈ W.rds, r.inn = -1 ∨ 0 < r.inn) (hfew : n ≤ 64) (he0 : 0 ≤ W.epoch) (he1 : W.epoch ≤ 1000) :
    Calls Try.prog 9 #[.pointer (some ⟨gs, 0, none⟩), .int .i64 t, .int .i64 8] w (Acts base gs (advW W t x.r) w) := by
  have hcs := fun i => Blk.cell h.blk i
  have hfs := fun i => Blk.free h.blk i
  obtain ⟨k0, k1, k2, k3, k4⟩ := h.cell hx
  have hf1 := fun i => h.free1 i
  have hgs := h.blk.lt
  have hg1s := h.lt1.2
  have hne := h.ne
  have hne2 : g1 ≠ gs := fun e => hne e.symm
  have htn : t < n := by have := len_of hx; rw [h.own.row.rdF.1]; exact this
  have ht2 : (t : Int) < (n : Int) := by omega
  have H := hide h; have HX := hide hx
  clear h hx
  have HF : Hid (advW W t x.r = if x.r.holds = 0 ∧ letsW W t = true then { W with epoch := W.epoch + 1 } else W) := rfl
  have hxn : n = xs.length := H.out.own.row.rdF.1
  have HLE := hide (lets_any w gs W (some ⟨g1, 0, none⟩) c1 vf xs t (by rw [← hxn]; exact H.out.blk) (H.out.own.row.rdF.2) (by rw [← hxn]; exact hfew) H.out.own.rds hin)
  clear hxn hin
  by_cases h1 : x.r.holds = 0
  · have h3 : (x.r.holds == 0) = true := by simpa using h1
    have H1 := hide h1; clear h1
    rcases hle : letsW W t with _ | _
    · rw [hle] at HLE
      rw [HF.out, if_neg (fun h => by rw [hle] at h; cases h.2)]
      clear hle
      go_enter Try.func9, Try.ntmps9
      go_wp2_with fail
      refine HLE.out.mono ?_
      rintro e w1 ⟨rfl, hb1⟩
      have HB1 := hide hb1
      clear hb1
      go_wp2_with fail
      go_end0
      exact Acts.after HB1.out H.out.base_le (StV.stay (H.out.ext HB1.out))
    · rw [hle] at HLE
      rw [HF.out, if_pos ⟨H1.out, hle⟩]
      clear hle
      go_enter Try.func9, Try.ntmps9
      go_wp2_with fail
      refine HLE.out.mono ?_
      rintro e w1 ⟨rfl, hb1⟩
      have hS1 := H.out.ext hb1
      have hcs1 := fun i => Blk.cell hS1.blk i
      have hfs1 := fun i => Blk.free hS1.blk i
      have hgs1 := hS1.blk.lt
      have HB1 := hide hb1; have HS1 := hide hS1
      clear hb1 hS1 hcs hfs
      go_wp2_with fail
      go_end0
      have h2 := StV.top HS1.out (W' := { W with epoch := W.epoch + 1 }) (i := 0) (u := .int .i64 (W.epoch + 1)) rfl rfl rfl
      exact Acts.after HB1.out H.out.base_le ⟨rfl, ⟨_, _, _, h2⟩, HS1.out.keepS _ _, (Below.refl _ _).setCell (p := ⟨gs, 0, none⟩) HS1.out.low _⟩
  · rw [HF.out, if_neg (fun h => h1 h.1)]
    have h3 : (x.r.holds == 0) = false := by simpa using h1
    have H1 := hide h1; clear h1
    go_enter Try.func9, Try.ntmps9
    go_wp2_with fail
    go_end0
    exact H.out.stay
set_option maxRecDepth 100000 in
set_option maxHeartbeats 1000000 in
theorem rdo_9 (h : StV w base gs W (.slice (some ⟨g1, 0, none⟩) n c1) vf xs) (hx : xs[t]? = some x) (hl : x.r.away.length ≤ 450) (hfl : W.freed.length ≤ 450) (hxl : xs.length ≤ 64) (he0 : 0 ≤ W.epoch) (he1 : W.epoch ≤ 1000) :
    Calls Try.prog 9 #[.pointer (some ⟨gs, 0, none⟩), .int .i64 t, .int .i64 9] w (Acts base gs (byEpochW W t x.r) w) := by
  have hcs := fun i => Blk.cell h.blk i
  have hfs := fun i => Blk.free h.blk i
  obtain ⟨k0, k1, k2, k3, k4⟩ := h.cell hx
  have hf1 := fun i => h.free1 i
  have hgs := h.blk.lt
  have hg1s := h.lt1.2
  have hne := h.ne
  have hne2 : g1 ≠ gs := fun e => hne e.symm
  have htn : t < n := by have := len_of hx; rw [h.own.row.rdF.1]; exact this
  have ht2 : (t : Int) < (n : Int) := by omega
  have H := hide h; have HX := hide hx
  clear h hx
  have HFR := hide (free_epoch H.out HX.out hl hfl hxl he0 he1)
  clear hl hfl hxl he0 he1
  go_enter Try.func9, Try.ntmps9
  go_wp2_with fail
  refine HFR.out.mono ?_
  rintro e w1 ⟨rfl, h2, h3, h4⟩
  go_wp2_with fail
  go_end0
  exact ⟨rfl, h2, h3, h4⟩
set_option maxRecDepth 100000 in
set_option maxHeartbeats 1000000 in
theorem rdo_10 (h : StV w base gs W (.slice (some ⟨g1, 0, none⟩) n c1) vf xs) (hx : xs[t]? = some x) (hl : x.r.away.length ≤ 450) (hfl : W.freed.length ≤ 450) (hxl : xs.length ≤ 64) :
    Calls Try.prog 9 #[.pointer (some ⟨gs, 0, none⟩), .int .i64 t, .int .i64 10] w (Acts base gs (byGuardW W t x.r) w) := by
  have hcs := fun i => Blk.cell h.blk i
  have hfs := fun i => Blk.free h.blk i
  obtain ⟨k0, k1, k2, k3, k4⟩ := h.cell hx
  have hf1 := fun i => h.free1 i
  have hgs := h.blk.lt
  have hg1s := h.lt1.2
  have hne := h.ne
  have hne2 : g1 ≠ gs := fun e => hne e.symm
  have htn : t < n := by have := len_of hx; rw [h.own.row.rdF.1]; exact this
  have ht2 : (t : Int) < (n : Int) := by omega
  have H := hide h; have HX := hide hx
  clear h hx
  have HFR := hide (free_guard H.out HX.out hl hfl hxl)
  clear hl hfl hxl
  go_enter Try.func9, Try.ntmps9
  go_wp2_with fail
  refine HFR.out.mono ?_
  rintro e w1 ⟨rfl, h2, h3, h4⟩
  go_wp2_with fail
  go_end0
  exact ⟨rfl, h2, h3, h4⟩
set_option maxRecDepth 100000 in
set_option maxHeartbeats 1000000 in
theorem rdo_none (h : StV w base gs W (.slice (some ⟨g1, 0, none⟩) n c1) vf xs) (hx : xs[t]? = some x) (ki : Int) (hki : ki < 1 ∨ 10 < ki) :
    Calls Try.prog 9 #[.pointer (some ⟨gs, 0, none⟩), .int .i64 t, .int .i64 ki] w (Acts base gs (noneW W t x.r) w) := by
  have hcs := fun i => Blk.cell h.blk i
  have hfs := fun i => Blk.free h.blk i
  obtain ⟨k0, k1, k2, k3, k4⟩ := h.cell hx
  have hf1 := fun i => h.free1 i
  have hgs := h.blk.lt
  have hg1s := h.lt1.2
  have hne := h.ne
  have hne2 : g1 ≠ gs := fun e => hne e.symm
  have htn : t < n := by have := len_of hx; rw [h.own.row.rdF.1]; exact this
  have ht2 : (t : Int) < (n : Int) := by omega
  have H := hide h; have HX := hide hx
  clear h hx
  have q1 : (ki == 1) = false := by simp; omega
  have q2 : (ki == 2) = false := by simp; omega
  have q3 : (ki == 3) = false := by simp; omega
  have q4 : (ki == 4) = false := by simp; omega
  have q5 : (ki == 5) = false := by simp; omega
  have q6 : (ki == 6) = false := by simp; omega
  have q7 : (ki == 7) = false := by simp; omega
  have q8 : (ki == 8) = false := by simp; omega
  have q9 : (ki == 9) = false := by simp; omega
  have q10 : (ki == 10) = false := by simp; omega
  clear hki
  go_enter Try.func9, Try.ntmps9
  go_wp2_with fail
  go_end0
  exact H.out.stay
set_option maxRecDepth 100000 in
set_option maxHeartbeats 400000 in
theorem rdo_out {vr : Value} (th ki : Int) (h : StV w base gs W vr vf xs) (ho : th < 0 ∨ (xs.length : Int) ≤ th) :
    Calls Try.prog 9 #[.pointer (some ⟨gs, 0, none⟩), .int .i64 th, .int .i64 ki] w (Acts base gs W w) := by
  obtain ⟨A, c, B, d, rfl, rfl, _⟩ := h.own.rd
  have hcs := fun i => Blk.cell h.blk i
  have hgs := h.blk.lt
  have H := hide h
  clear h
  by_cases h0 : th < 0
  · go_enter Try.func9, Try.ntmps9
    go_wp2_with fail
    refine bodyPost_ret (v := .tuple #[]) (by simp [results, Try.results9, go_sem]) rfl ⟨rfl, ⟨_, _, _, H.out⟩, Keeps.refl _, Below.refl _ _⟩
  · have hd0 : decide (th < 0) = false := decide_eq_false h0
    have hd1 : (xs.length : Int) ≤ th := by omega
    go_enter Try.func9, Try.ntmps9
    go_wp2_with fail
    refine bodyPost_ret (v := .tuple #[]) (by simp [results, Try.results9, go_sem]) rfl ⟨rfl, ⟨_, _, _, H.out⟩, Keeps.refl _, Below.refl _ _⟩
end
end Go.Proofs.Ytdgnejapofkadaa.Ref
