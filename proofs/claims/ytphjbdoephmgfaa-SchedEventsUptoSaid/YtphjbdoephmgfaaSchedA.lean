/- The walks of sched.threads, stopgateref29.threads, picks, slices.Clone, the closures, slices.IndexFunc, ContainsFunc. -/
import Derived.Test.YtphjbdoephmgfaaInts
import Derived.Lib.SliceRun
namespace Go.Proofs.Ytphjbdoephmgfaa
open Go.RowKit

theorem info_int : (Try.prog.info? 3).map (fun i => (i.zero, i.size, i.bytes)) = some (some (.int .i64 0), 1, 8) := by kernel_rfl

/-- a number cut to 0 .. m -/
def cutN (m : Nat) (n : Int) : Nat := (min (max n 0) (m : Int)).toNat
theorem cutN_le (m : Nat) (n : Int) : cutN m n ≤ m := by unfold cutN; omega

section
variable (w : World)
set_option maxHeartbeats 400000 in
theorem threads_any (n : Int) : Calls Try.prog 32 #[.int .i64 n] w fun e w' => e = .returned (.int .i64 (cutN 64 n)) ∧ w = w' := by
  go_enter Try.func32, Try.ntmps32
  go_wp2
  all_goals
    go_ret
    exact ⟨ret_int (by unfold cutN; (try simp only [gt_iff_lt] at *); omega), rfl⟩
set_option maxHeartbeats 400000 in
theorem rthreads_any (n : Int) : Calls Try.prog 33 #[.int .i64 n] w fun e w' => e = .returned (.int .i64 (cutN 64 n)) ∧ w = w' := by
  go_enter Try.func33, Try.ntmps33
  go_wp2
  all_goals
    go_ret
    exact ⟨ret_int (by unfold cutN; (try simp only [gt_iff_lt] at *); omega), rfl⟩
set_option maxHeartbeats 400000 in
theorem picks_any (n : Int) : Calls Try.prog 37 #[.int .i64 n] w fun e w' => e = .returned (.int .i64 (cutN 16384 n)) ∧ w = w' := by
  go_enter Try.func37, Try.ntmps37
  go_wp2
  all_goals
    go_ret
    exact ⟨ret_int (by unfold cutN; (try simp only [gt_iff_lt] at *); omega), rfl⟩

set_option maxHeartbeats 400000 in
theorem clone_any (A : Option Addr) (c : Nat) (zs : List Int) (hl : zs.length ≤ 17592186044416) (hr : RdI w .i64 A zs) :
    Calls Try.prog 30 #[.slice A zs.length c] w fun e w' => ∃ v, e = .returned v ∧ OwnI w' w.heap.size 3 .i64 v zs ∧ Below w.heap.size w w' := by
  obtain ⟨n, hn⟩ : ∃ n, n = zs.length := ⟨_, rfl⟩
  rw [← hn] at hl ⊢
  have HN := hide hn; clear hn
  have HR := hide hr; clear hr
  have hnil := fun w' => Lib.run_eql_slice_nil (P := Try.prog) w' 22 3 A n c 0 0 Try.underlying22
  rcases A with _ | ad
  · go_enter Try.func30, Try.ntmps30
    go_wp2
    go_ret
    refine ⟨_, rfl, ?_, selfW _⟩
    have hz : zs = [] := by
      rcases zs with _ | ⟨z, l⟩
      · rfl
      · obtain ⟨_, h, _⟩ := HR.out 0 _ rfl
        cases h
    subst hz
    exact OwnI.nil _ _ _ _
  · go_enter Try.func30, Try.ntmps30
    go_wp2_with (at_builtin; refine wpList_appI _ rfl _ _ 22 rfl w.heap.size 3 .i64 Try.underlying22 info_int _ [] rfl (OwnI.empty w _ _) (some ad) n c zs rfl HN.out.symm (RdI.alloc HR.out _) ?c4 ?c5 ?_)
    case c4 => have := HN.out; simp; omega
    case c5 => simp
    intro v' w2 hown' hgrow _
    have hb := (OwnI.empty w 3 .i64).below_step (moreW (selfW _) _) hgrow (by simp) (Nat.le_refl _)
    go_wp2
    go_ret
    exact ⟨_, rfl, hown', hb⟩

set_option maxHeartbeats 400000 in
theorem isT_any (x t : Int) (b : Nat) (hc : w.cell? ⟨b, 0, none⟩ = some (.int .i64 t)) :
    Calls Try.prog 31 #[.int .i64 x, .pointer (some ⟨b, 0, none⟩)] w fun e w' => e = .returned (.bool (x == t)) ∧ w = w' := by
  go_enter Try.func31, Try.ntmps31
  go_wp2
  go_ret
  exact ⟨rfl, rfl⟩
set_option maxHeartbeats 400000 in
theorem old_any (x i v : Int) (b d : Nat) (hb : w.cell? ⟨b, 0, none⟩ = some (.int .i64 i)) (hd : w.cell? ⟨d, 0, none⟩ = some (.int .i64 v)) :
    Calls Try.prog 35 #[.int .i64 x, .pointer (some ⟨b, 0, none⟩), .pointer (some ⟨d, 0, none⟩)] w fun e w' => e = .returned (.bool (decide (x ≤ wrap64 (i - v)))) ∧ w = w' := by
  go_enter Try.func35, Try.ntmps35
  go_wp2
  go_ret
  exact ⟨rfl, rfl⟩
end
end Go.Proofs.Ytphjbdoephmgfaa
