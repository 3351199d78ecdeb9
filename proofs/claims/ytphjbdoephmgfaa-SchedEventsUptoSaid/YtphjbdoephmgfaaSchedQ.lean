/- stopgateplain.Cases, Req, Event at picks as events. -/
import Derived.Test.YtphjbdoephmgfaaSchedP
namespace Go.Proofs.Ytphjbdoephmgfaa
open Go.RowKit

section
variable (w : World)
set_option maxHeartbeats 400000 in
theorem cases_nil : Calls Try.prog 39 #[.slice none 0 0, .slice none 0 0] w fun e w' => e = .returned (.bool true) ∧ w = w' := by
  go_enter Try.func39, Try.ntmps39
  go_wp2
  go_loopw [13] (fun i wr => i = .int .i64 0 ∧ w = wr) (fun _ _ => 0)
  case atStart => exact ⟨rfl, rfl⟩
  case round =>
    obtain ⟨rfl, rfl⟩ := hrel
    go_wp2
    go_ret
    exact ⟨rfl, rfl⟩
set_option maxHeartbeats 400000 in
theorem req_nil : Calls Try.prog 36 #[.agg #[.int .i64 0, .int .i64 0, .int .i64 0, .bool false, .slice none 0 0], .agg #[.int .i64 0, .int .i64 0, .int .i64 0, .bool false, .slice none 0 0]] w fun e w' => e = .returned (.bool true) ∧ Below w.heap.size w w' := by
  go_enter Try.func36, Try.ntmps36
  go_wp2_with fail
  refine (cases_nil _).mono ?_
  rintro e w' ⟨rfl, rfl⟩
  go_wp2_with fail
  go_ret
  exact ⟨rfl, moreW (moreW (selfW _) _) _⟩
set_option maxHeartbeats 400000 in
theorem event_any (z : Int) : Calls Try.prog 22 #[.agg (evC (pickE z)).toArray, .agg (evC (pickE z)).toArray] w fun e w' => e = .returned (.bool true) ∧ Below w.heap.size w w' := by
  unfold evC pickE
  go_enter Try.func22, Try.ntmps22
  go_wp2_with fail
  refine (req_nil _).mono ?_
  rintro e w1 ⟨rfl, hb1⟩
  have HB := hide (extW (moreW (moreW (selfW w) _) _) hb1)
  have hc7 : w1.cell? ⟨w.heap.size, 7, none⟩ = some (.int .i64 0) := (hb1.cell (by simp; omega)).trans (show ((w.alloc (.cells #[.int .i64 1, .int .i64 z, .int .i64 0, .int .i64 0, .int .i64 0, .bool false, .slice none 0 0, .int .i64 0, .slice none 0 0] 37)).alloc (.cells #[.int .i64 1, .int .i64 z, .int .i64 0, .int .i64 0, .int .i64 0, .bool false, .slice none 0 0, .int .i64 0, .slice none 0 0] 37)).cell? ⟨w.heap.size, 7, none⟩ = _ by simp)
  have hc8 : w1.cell? ⟨w.heap.size, 8, none⟩ = some (.slice none 0 0) := (hb1.cell (by simp; omega)).trans (show ((w.alloc (.cells #[.int .i64 1, .int .i64 z, .int .i64 0, .int .i64 0, .int .i64 0, .bool false, .slice none 0 0, .int .i64 0, .slice none 0 0] 37)).alloc (.cells #[.int .i64 1, .int .i64 z, .int .i64 0, .int .i64 0, .int .i64 0, .bool false, .slice none 0 0, .int .i64 0, .slice none 0 0] 37)).cell? ⟨w.heap.size, 8, none⟩ = _ by simp)
  have hd7 : w1.cell? ⟨w.heap.size + 1, 7, none⟩ = some (.int .i64 0) := (hb1.cell (by simp)).trans (show ((w.alloc (.cells #[.int .i64 1, .int .i64 z, .int .i64 0, .int .i64 0, .int .i64 0, .bool false, .slice none 0 0, .int .i64 0, .slice none 0 0] 37)).alloc (.cells #[.int .i64 1, .int .i64 z, .int .i64 0, .int .i64 0, .int .i64 0, .bool false, .slice none 0 0, .int .i64 0, .slice none 0 0] 37)).cell? ⟨w.heap.size + 1, 7, none⟩ = _ by simp)
  have hd8 : w1.cell? ⟨w.heap.size + 1, 8, none⟩ = some (.slice none 0 0) := (hb1.cell (by simp)).trans (show ((w.alloc (.cells #[.int .i64 1, .int .i64 z, .int .i64 0, .int .i64 0, .int .i64 0, .bool false, .slice none 0 0, .int .i64 0, .slice none 0 0] 37)).alloc (.cells #[.int .i64 1, .int .i64 z, .int .i64 0, .int .i64 0, .int .i64 0, .bool false, .slice none 0 0, .int .i64 0, .slice none 0 0] 37)).cell? ⟨w.heap.size + 1, 8, none⟩ = _ by simp)
  clear hb1
  go_wp2_with fail
  refine (ints_any none none 0 0 [] [] w1 (by simp) (by simp) (RdI.nil _ _ _) (RdI.nil _ _ _)).mono ?_
  rintro e w2 ⟨rfl, hd⟩
  have HD := hide hd.extW; clear hd
  go_wp2_with fail
  go_ret
  exact ⟨rfl, extW HB.out HD.out⟩
end
end Go.Proofs.Ytphjbdoephmgfaa
