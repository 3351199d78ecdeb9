/- The walks of the laws PackResults, PackBack. -/
import Derived.Test.YtmgjicenaanelaaPackR
import Derived.Deep.RegionHeld3
namespace Go.Proofs.Ytmgjicenaanelaa
open Go.RowKit

section
variable (w : World)

theorem res_same_self (w : World) (s c o v : Int) : Calls Try.prog 34 #[.agg #[.int .i64 s, .int .i64 c, .int .i64 o, .int .i64 v], .agg #[.int .i64 s, .int .i64 c, .int .i64 o, .int .i64 v]] w fun e w' => e = .returned (.bool true) ∧ Below w.heap.size w w' := by
  have h := res_same w s c o v s c o v
  rw [decide_eq_true (p := s = s ∧ c = c ∧ o = o ∧ v = v) (by simp)] at h
  exact h
theorem step4 {w0 a b : World} {g : Nat} {s c o v : Value}
    (h : Below w0.heap.size w0 a ∧ g < a.heap.size ∧ a.cell? ⟨g, 0, none⟩ = some s ∧ a.cell? ⟨g, 1, none⟩ = some c ∧ a.cell? ⟨g, 2, none⟩ = some o ∧ a.cell? ⟨g, 3, none⟩ = some v) (hb : Below a.heap.size a b) :
    Below w0.heap.size w0 b ∧ g < b.heap.size ∧ b.cell? ⟨g, 0, none⟩ = some s ∧ b.cell? ⟨g, 1, none⟩ = some c ∧ b.cell? ⟨g, 2, none⟩ = some o ∧ b.cell? ⟨g, 3, none⟩ = some v := by
  obtain ⟨h0, h1, h2, h3, h4, h5⟩ := h
  exact ⟨extW h0 hb, ltW hb h1, (hb.cell h1).trans h2, (hb.cell h1).trans h3, (hb.cell h1).trans h4, (hb.cell h1).trans h5⟩

set_option maxHeartbeats 1000000 in
theorem results_law (s c o v x : Int) (h0 : 0 ≤ x) (h1 : x < 18446744073709551616) :
    Calls Try.prog 7 #[.agg #[.int .i64 s, .int .i64 c, .int .i64 o, .int .i64 v], .int .u64 x] w fun e w' => e = .returned (.bool true) ∧ Below w.heap.size w w' := by
  have H1 := hide h1; clear h1
  go_enter Try.func7, Try.ntmps7
  go_wp2_with fail
  go_region_held3 (fun w' => Below w.heap.size w w' ∧ w.heap.size < w'.heap.size ∧ w'.cell? ⟨w.heap.size, 0, none⟩ = some (.int .i64 s) ∧ w'.cell? ⟨w.heap.size, 1, none⟩ = some (.int .i64 c) ∧ w'.cell? ⟨w.heap.size, 2, none⟩ = some (.int .i64 o) ∧ w'.cell? ⟨w.heap.size, 3, none⟩ = some (.int .i64 v))
    (first | assumption | (exact ⟨below_drewN (n := 1) (moreW (selfW _) _), by simp, by simp, by simp, by simp, by simp⟩))
    (first
      | (go_at_call 30; refine (good_any _ s c o v).mono ?_; rintro e w' ⟨rfl, hb⟩; have hS := step4 (by assumption) hb; clear hb)
      | (go_at_call 31; refine (rgood_any _ s c o v).mono ?_; rintro e w' ⟨rfl, hb⟩; have hS := step4 (by assumption) hb; clear hb)
      | (go_at_call 32; refine (result_any _ s c o v).mono ?_; rintro e w' ⟨rfl, hb⟩; have hS := step4 (by assumption) hb; clear hb)
      | (go_at_call 33; refine (rresult_any _ s c o v).mono ?_; rintro e w' ⟨rfl, hb⟩; have hS := step4 (by assumption) hb; clear hb)
      | (go_at_call 35; refine (read_any _ x h0 H1.out).mono ?_; rintro e w' ⟨rfl, hb⟩; have hS := step4 (by assumption) hb; clear hb)
      | (go_at_call 36; refine (rread_any _ x h0 H1.out).mono ?_; rintro e w' ⟨rfl, hb⟩; have hS := step4 (by assumption) hb; clear hb)
      | (go_at_call 34; refine (res_same_self _ _ _ _ _).mono ?_; rintro e w' ⟨rfl, hb⟩; have hS := step4 (by assumption) hb; clear hb)
      | (go_at_call 37; refine (awake02 _).mono ?_; rintro e w' ⟨rfl, hb⟩; have hS := step4 (by assumption) hb; clear hb))
  go_wp2_with fail
  go_ret
  exact ⟨rfl, And.left (by assumption)⟩

theorem back_word (x : Int) (h0 : 0 ≤ x) (h1 : x < 18446744073709551616) : resW (rS x) (rC x) (rO x) (rV x) = x := by
  unfold resW
  rw [if_pos]
  · unfold rS rC rO rV; omega
  · unfold goodB
    rw [decide_eq_true_iff]
    unfold rS rC rO rV; omega
theorem back_res {s c o v : Int} (h : goodB s c o v = true) : rS (resW s c o v) = s ∧ rC (resW s c o v) = c ∧ rO (resW s c o v) = o ∧ rV (resW s c o v) = v ∧ 0 ≤ resW s c o v ∧ resW s c o v < 18446744073709551616 := by
  unfold resW
  rw [if_pos h]
  simp only [goodB, decide_eq_true_eq] at h
  simp only [rS, rC, rO, rV]
  omega

set_option maxHeartbeats 1000000 in
theorem back_law (s c o v x : Int) (h0 : 0 ≤ x) (h1 : x < 18446744073709551616) :
    Calls Try.prog 8 #[.agg #[.int .i64 s, .int .i64 c, .int .i64 o, .int .i64 v], .int .u64 x] w fun e w' => e = .returned (.bool true) ∧ Below w.heap.size w w' := by
  have hx := hide (back_word x h0 h1)
  have H1 := hide h1; clear h1
  rcases hg : goodB s c o v with _ | _
  · have HG := hide hg; clear hg
    go_enter Try.func8, Try.ntmps8
    go_wp2_with fail
    refine (read_any _ x h0 H1.out).mono ?_
    rintro e w1 ⟨rfl, hb1⟩
    have hS1 := step4 (w0 := w) (g := w.heap.size) (s := .int .i64 s) (c := .int .i64 c) (o := .int .i64 o) (v := .int .i64 v) ⟨moreW (selfW _) _, by simp, by simp, by simp, by simp, by simp⟩ hb1
    clear hb1
    go_wp2_with fail
    refine (result_any _ _ _ _ _).mono ?_
    rw [hx.out]
    rintro e w2 ⟨rfl, hb2⟩
    have hS2 := step4 hS1 hb2
    clear hb2 hS1
    go_wp2_with fail
    obtain ⟨hS0, hS9, c0, c1, c2, c3⟩ := hS2
    go_region_with (first
        | (go_at_call 30; refine (good_any _ s c o v).mono ?_; rw [HG.out]; rintro e w' ⟨rfl, hb⟩; have hS := extW hS0.drew hb; clear hb)
        | (go_at_call 37; refine (awake02 _).mono ?_; rintro e w' ⟨rfl, hb⟩; have hS3 := extW hS hb; clear hb))
    all_goals
      go_wp2_with fail
      go_ret
      exact ⟨rfl, by assumption⟩
  · obtain ⟨r1, r2, r3, r4, r5, r6⟩ := back_res hg
    have HG := hide hg; have R1 := hide r1; have R2 := hide r2; have R3 := hide r3; have R4 := hide r4; have R5 := hide r5; have R6 := hide r6
    clear hg r1 r2 r3 r4 r5 r6
    go_enter Try.func8, Try.ntmps8
    go_wp2_with fail
    refine (read_any _ x h0 H1.out).mono ?_
    rintro e w1 ⟨rfl, hb1⟩
    have hS1 := step4 (w0 := w) (g := w.heap.size) (s := .int .i64 s) (c := .int .i64 c) (o := .int .i64 o) (v := .int .i64 v) ⟨moreW (selfW _) _, by simp, by simp, by simp, by simp, by simp⟩ hb1
    clear hb1
    go_wp2_with fail
    refine (result_any _ _ _ _ _).mono ?_
    rw [hx.out]
    rintro e w2 ⟨rfl, hb2⟩
    have hS2 := step4 hS1 hb2
    clear hb2 hS1
    go_wp2_with fail
    go_region_held3 (fun w' => Below w.heap.size w w' ∧ w.heap.size < w'.heap.size ∧ w'.cell? ⟨w.heap.size, 0, none⟩ = some (.int .i64 s) ∧ w'.cell? ⟨w.heap.size, 1, none⟩ = some (.int .i64 c) ∧ w'.cell? ⟨w.heap.size, 2, none⟩ = some (.int .i64 o) ∧ w'.cell? ⟨w.heap.size, 3, none⟩ = some (.int .i64 v))
      (first | assumption | (exact step4 hS2 (below_drewN (n := 1) (selfW _))))
      (first
        | (go_at_call 30; refine (good_any _ s c o v).mono ?_; rw [HG.out]; rintro e w' ⟨rfl, hb⟩; have hS := step4 (by assumption) hb; clear hb)
        | (go_at_call 32; refine (result_any _ s c o v).mono ?_; rintro e w' ⟨rfl, hb⟩; have hS := step4 (by assumption) hb; clear hb)
        | (go_at_call 35; refine (read_any _ (resW s c o v) R5.out R6.out).mono ?_; rw [R1.out, R2.out, R3.out, R4.out]; rintro e w' ⟨rfl, hb⟩; have hS := step4 (by assumption) hb; clear hb)
        | (go_at_call 34; refine (res_same_self _ _ _ _ _).mono ?_; rintro e w' ⟨rfl, hb⟩; have hS := step4 (by assumption) hb; clear hb)
        | (go_at_call 37; refine (awake02 _).mono ?_; rintro e w' ⟨rfl, hb⟩; have hS := step4 (by assumption) hb; clear hb))
    go_wp2_with fail
    go_ret
    exact ⟨rfl, And.left (by assumption)⟩

end
end Go.Proofs.Ytmgjicenaanelaa
