/- The walk of (*ghosts.state).reads, a kind at a time. -/
import Derived.Test.YtdgnejapofkadaaGhF
namespace Go.Proofs.Ytdgnejapofkadaa
open Go.RowKit

section
variable {w : World} {base gs g1 n c1 : Nat} {W : WT} {vf : Value} {xs : List RdX} {t : Nat} {x : RdX}
set_option maxHeartbeats 400000 in
theorem reads_1 (h : StV w base gs W (.slice (some ⟨g1, 0, none⟩) n c1) vf xs) (hx : xs[t]? = some x) :
    Calls Try.prog 20 #[.pointer (some ⟨gs, 0, none⟩), .pointer (some ⟨g1, t * 5, none⟩), .int .i64 1] w (Acts base gs (seeW W t x.r) w) := by
  have hcs := fun i => Blk.cell h.blk i
  obtain ⟨k0, k1, k2, k3, k4⟩ := h.cell hx
  have hf1 := fun i => h.free1 i
  have hgs := h.blk.lt
  have hne := h.ne
  have H := hide h; have HX := hide hx
  clear h hx
  go_enter Try.func20, Try.ntmps20
  go_wp2_with fail
  go_end0
  exact H.out.put1 HX.out (y := ⟨{ x.r with saw := W.epoch }, x.A, x.c⟩) (j := 0) (by decide) rfl rfl rfl rfl
set_option maxHeartbeats 400000 in
theorem reads_2 (h : StV w base gs W (.slice (some ⟨g1, 0, none⟩) n c1) vf xs) (hx : xs[t]? = some x) :
    Calls Try.prog 20 #[.pointer (some ⟨gs, 0, none⟩), .pointer (some ⟨g1, t * 5, none⟩), .int .i64 2] w (Acts base gs (enterW W t x.r) w) := by
  have hcs := fun i => Blk.cell h.blk i
  obtain ⟨k0, k1, k2, k3, k4⟩ := h.cell hx
  have hf1 := fun i => h.free1 i
  have hgs := h.blk.lt
  have hne := h.ne
  have H := hide h; have HX := hide hx
  clear h hx
  have HF : Hid (enterW W t x.r = if x.r.inn < 0 ∧ 0 < x.r.saw then W.put t { x.r with inn := x.r.saw, saw := 0 } else W) := rfl
  by_cases h1 : x.r.inn < 0
  · by_cases h2 : 0 < x.r.saw
    · rw [HF.out, if_pos ⟨h1, h2⟩]
      go_enter Try.func20, Try.ntmps20
      go_wp2_with fail
      go_end0
      exact H.out.put2 HX.out (y := ⟨{ x.r with inn := x.r.saw }, x.A, x.c⟩) (z := ⟨{ x.r with inn := x.r.saw, saw := 0 }, x.A, x.c⟩) (j := 1) (k := 0) (by decide) rfl rfl rfl rfl (by decide) rfl rfl rfl rfl
    · have h3 : decide (0 < x.r.saw) = false := decide_eq_false h2
      rw [HF.out, if_neg (fun h => h2 h.2)]
      go_enter Try.func20, Try.ntmps20
      go_wp2_with fail
      go_end0
      exact H.out.stay
  · have h3 : decide (x.r.inn < 0) = false := decide_eq_false h1
    rw [HF.out, if_neg (fun h => h1 h.1)]
    go_enter Try.func20, Try.ntmps20
    go_wp2_with fail
    go_end0
    exact H.out.stay
set_option maxHeartbeats 400000 in
theorem reads_3 (h : StV w base gs W (.slice (some ⟨g1, 0, none⟩) n c1) vf xs) (hx : xs[t]? = some x) :
    Calls Try.prog 20 #[.pointer (some ⟨gs, 0, none⟩), .pointer (some ⟨g1, t * 5, none⟩), .int .i64 3] w (Acts base gs (guardW W t x.r) w) := by
  have hcs := fun i => Blk.cell h.blk i
  obtain ⟨k0, k1, k2, k3, k4⟩ := h.cell hx
  have hf1 := fun i => h.free1 i
  have hgs := h.blk.lt
  have hne := h.ne
  have H := hide h; have HX := hide hx
  clear h hx
  have HF : Hid (guardW W t x.r = if 0 ≤ x.r.inn ∧ x.r.holds = 0 then W.put t { x.r with guard := W.root } else W) := rfl
  by_cases h1 : 0 ≤ x.r.inn
  · by_cases h2 : x.r.holds = 0
    · rw [HF.out, if_pos ⟨h1, h2⟩]
      have h3 : (x.r.holds == 0) = true := by simpa using h2
      have H2 := hide h2; clear h2
      go_enter Try.func20, Try.ntmps20
      go_wp2_with fail
      go_end0
      exact H.out.put1 HX.out (y := ⟨{ x.r with guard := W.root }, x.A, x.c⟩) (j := 2) (by decide) rfl rfl rfl rfl
    · have h3 : (x.r.holds == 0) = false := by simpa using h2
      rw [HF.out, if_neg (fun h => h2 h.2)]
      clear h2
      go_enter Try.func20, Try.ntmps20
      go_wp2_with fail
      go_end0
      exact H.out.stay
  · have h3 : decide (0 ≤ x.r.inn) = false := decide_eq_false h1
    rw [HF.out, if_neg (fun h => h1 h.1)]
    go_enter Try.func20, Try.ntmps20
    go_wp2_with fail
    go_end0
    exact H.out.stay
set_option maxHeartbeats 400000 in
theorem reads_4 (h : StV w base gs W (.slice (some ⟨g1, 0, none⟩) n c1) vf xs) (hx : xs[t]? = some x) :
    Calls Try.prog 20 #[.pointer (some ⟨gs, 0, none⟩), .pointer (some ⟨g1, t * 5, none⟩), .int .i64 4] w (Acts base gs (holdW W t x.r) w) := by
  have hcs := fun i => Blk.cell h.blk i
  obtain ⟨k0, k1, k2, k3, k4⟩ := h.cell hx
  have hf1 := fun i => h.free1 i
  have hgs := h.blk.lt
  have hne := h.ne
  have H := hide h; have HX := hide hx
  clear h hx
  have HF : Hid (holdW W t x.r = if x.r.guard = W.root then W.put t { x.r with holds := x.r.guard } else W) := rfl
  by_cases h1 : x.r.guard = W.root
  · rw [HF.out, if_pos h1]
    have h3 : (x.r.guard == W.root) = true := by simpa using h1
    have H1 := hide h1; clear h1
    go_enter Try.func20, Try.ntmps20
    go_wp2_with fail
    go_quiet (fail)
    go_wp2_with fail
    go_end0
    exact Acts.after (below_drewN (selfW w) _) H.out.base_le (StV.put1 (H.out.ext (below_drewN (selfW w) _)) HX.out (y := ⟨{ x.r with holds := x.r.guard }, x.A, x.c⟩) (j := 3) (by decide) rfl rfl rfl rfl)
  · rw [HF.out, if_neg h1]
    have h3 : (x.r.guard == W.root) = false := by simpa using h1
    have H1 := hide h1; clear h1
    go_enter Try.func20, Try.ntmps20
    go_wp2_with fail
    go_quiet (fail)
    go_wp2_with fail
    go_end0
    exact Acts.after (below_drewN (selfW w) _) H.out.base_le (StV.stay (H.out.ext (below_drewN (selfW w) _)))
set_option maxHeartbeats 400000 in
theorem reads_6 (h : StV w base gs W (.slice (some ⟨g1, 0, none⟩) n c1) vf xs) (hx : xs[t]? = some x) :
    Calls Try.prog 20 #[.pointer (some ⟨gs, 0, none⟩), .pointer (some ⟨g1, t * 5, none⟩), .int .i64 6] w (Acts base gs (dropW W t x.r) w) := by
  have hcs := fun i => Blk.cell h.blk i
  obtain ⟨k0, k1, k2, k3, k4⟩ := h.cell hx
  have hf1 := fun i => h.free1 i
  have hgs := h.blk.lt
  have hne := h.ne
  have H := hide h; have HX := hide hx
  clear h hx
  go_enter Try.func20, Try.ntmps20
  go_wp2_with fail
  go_end0
  exact H.out.put2 HX.out (y := ⟨{ x.r with guard := 0 }, x.A, x.c⟩) (z := ⟨{ x.r with guard := 0, holds := 0 }, x.A, x.c⟩) (j := 2) (k := 3) (by decide) rfl rfl rfl rfl (by decide) rfl rfl rfl rfl
end
end Go.Proofs.Ytdgnejapofkadaa
