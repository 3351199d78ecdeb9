/- The walks of slices.Clone, three times, and of ghosts.New. -/
import Derived.Test.YtdgnejapofkadaaGhA
import Derived.Deep.LoopGhost
namespace Go.Proofs.Ytdgnejapofkadaa
open Go.RowKit

section
variable (w : World) (A : Option Addr) (c : Nat)
set_option maxHeartbeats 400000 in
theorem clone_rd (xs : List RdX) (hl : xs.length ≤ 1000) (hr : RdF w rdC A xs) :
    Calls Try.prog 30 #[.slice A xs.length c] w fun e w' => (∃ v, e = .returned v ∧ OwnF w' w.heap.size 48 5 rdC v xs) ∧ Below w.heap.size w w' := by
  obtain ⟨n, hn⟩ : ∃ n, n = xs.length := ⟨_, rfl⟩
  rw [← hn] at hl ⊢
  have HN := hide hn; clear hn
  have HR := hide hr; clear hr
  have hnil := fun w' => Lib.run_eql_slice_nil (P := Try.prog) w' 36 48 A n c 0 0 Try.underlying36
  rcases A with _ | ad
  · have hz : xs = [] := by
      rcases xs with _ | ⟨z, l⟩
      · rfl
      · obtain ⟨_, h, _⟩ := HR.out 0 (.int .i64 z.r.saw) rfl
        cases h
    have HZ := hide hz; clear hz
    go_enter Try.func30, Try.ntmps30
    go_wp2
    go_ret
    refine ⟨⟨.slice none 0 0, rfl, ?_⟩, selfW _⟩
    rw [HZ.out]; exact OwnF.nil _ _ _ _ _
  · have h0 : OwnF (w.alloc (.cells #[] 48)) w.heap.size 48 5 rdC (.slice (some ⟨w.heap.size, 0, none⟩) 0 0) [] := OwnF.empty _ _ _ _
    go_enter Try.func30, Try.ntmps30
    go_wp2_with (at_builtin; refine wpList_appF _ rfl _ _ 36 rfl w.heap.size 48 5 56 (.agg #[.int .i64 0, .int .i64 0, .int .i64 0, .int .i64 0, .slice none 0 0]) rdC rdC_len rdC_one Try.underlying36 info_rd rfl (by decide) _ [] rfl h0 (some ad) n c xs rfl HN.out.symm (RdF.alloc HR.out _) ?c4 ?c5 ?c6 ?_)
    case c4 => have := HN.out; simp; omega
    case c5 => have := HN.out; simp; omega
    case c6 => simp
    intro v' w2 hown' hgrow _
    have hb := h0.below_step (moreW (selfW _) _) hgrow (by simp) (Nat.le_refl _)
    have HO2 := hide hown'; have HB2 := hide hb
    clear hb hown' hgrow
    go_wp2
    go_ret
    exact ⟨⟨_, rfl, HO2.out⟩, HB2.out⟩
set_option maxHeartbeats 400000 in
theorem clone_old (xs : List OldT) (hl : xs.length ≤ 1000) (hr : RdF w oldC A xs) :
    Calls Try.prog 32 #[.slice A xs.length c] w fun e w' => (∃ v, e = .returned v ∧ OwnF w' w.heap.size 52 3 oldC v xs) ∧ Below w.heap.size w w' := by
  obtain ⟨n, hn⟩ : ∃ n, n = xs.length := ⟨_, rfl⟩
  rw [← hn] at hl ⊢
  have HN := hide hn; clear hn
  have HR := hide hr; clear hr
  have hnil := fun w' => Lib.run_eql_slice_nil (P := Try.prog) w' 46 52 A n c 0 0 Try.underlying46
  rcases A with _ | ad
  · have hz : xs = [] := by
      rcases xs with _ | ⟨z, l⟩
      · rfl
      · obtain ⟨_, h, _⟩ := HR.out 0 (.int .i64 0) rfl
        cases h
    have HZ := hide hz; clear hz
    go_enter Try.func32, Try.ntmps32
    go_wp2
    go_ret
    refine ⟨⟨.slice none 0 0, rfl, ?_⟩, selfW _⟩
    rw [HZ.out]; exact OwnF.nil _ _ _ _ _
  · have h0 : OwnF (w.alloc (.cells #[] 52)) w.heap.size 52 3 oldC (.slice (some ⟨w.heap.size, 0, none⟩) 0 0) [] := OwnF.empty _ _ _ _
    go_enter Try.func32, Try.ntmps32
    go_wp2_with (at_builtin; refine wpList_appF _ rfl _ _ 46 rfl w.heap.size 52 3 24 (.agg #[.int .i64 0, .int .i64 0, .int .i64 0]) oldC oldC_len oldC_one Try.underlying46 info_old rfl (by decide) _ [] rfl h0 (some ad) n c xs rfl HN.out.symm (RdF.alloc HR.out _) ?c4 ?c5 ?c6 ?_)
    case c4 => have := HN.out; simp; omega
    case c5 => have := HN.out; simp; omega
    case c6 => simp
    intro v' w2 hown' hgrow _
    have hb := h0.below_step (moreW (selfW _) _) hgrow (by simp) (Nat.le_refl _)
    have HO2 := hide hown'; have HB2 := hide hb
    clear hb hown' hgrow
    go_wp2
    go_ret
    exact ⟨⟨_, rfl, HO2.out⟩, HB2.out⟩
set_option maxHeartbeats 400000 in
theorem clone_int (xs : List Int) (hl : xs.length ≤ 1000) (hr : RdI w .i64 A xs) :
    Calls Try.prog 31 #[.slice A xs.length c] w fun e w' => (∃ v, e = .returned v ∧ OwnI w' w.heap.size 3 .i64 v xs) ∧ Below w.heap.size w w' := by
  obtain ⟨n, hn⟩ : ∃ n, n = xs.length := ⟨_, rfl⟩
  rw [← hn] at hl ⊢
  have HN := hide hn; clear hn
  have HR := hide hr; clear hr
  have hnil := fun w' => Lib.run_eql_slice_nil (P := Try.prog) w' 30 3 A n c 0 0 Try.underlying30
  rcases A with _ | ad
  · have HZ := hide (HR.out.of_none)
    go_enter Try.func31, Try.ntmps31
    go_wp2
    go_ret
    refine ⟨⟨.slice none 0 0, rfl, ?_⟩, selfW _⟩
    rw [HZ.out]; exact OwnI.nil _ _ _ _
  · have h0 : OwnI (w.alloc (.cells #[] 3)) w.heap.size 3 .i64 (.slice (some ⟨w.heap.size, 0, none⟩) 0 0) [] := OwnI.empty _ _ _
    go_enter Try.func31, Try.ntmps31
    go_wp2_with (at_builtin; refine wpList_appI _ rfl _ _ 30 rfl w.heap.size 3 .i64 Try.underlying30 info_int _ [] rfl h0 (some ad) n c xs rfl HN.out.symm (RdI.alloc HR.out _) ?c4 ?c6 ?_)
    case c4 => have := HN.out; simp; omega
    case c6 => simp
    intro v' w2 hown' hgrow _
    have hb := h0.below_step (moreW (selfW _) _) hgrow (by simp) (Nat.le_refl _)
    have HO2 := hide hown'; have HB2 := hide hb
    clear hb hown' hgrow
    go_wp2
    go_ret
    exact ⟨⟨_, rfl, HO2.out⟩, HB2.out⟩

/-- how many threads a world has -/
def cntT (n : Int) : Nat := (min (max n 0) 64).toNat
theorem cntT_le (n : Int) : cntT n ≤ 64 := by unfold cntT; omega
def newX : RdX := ⟨⟨0, -1, 0, 0, []⟩, none, 0⟩
theorem newX_map (n : Nat) : (List.replicate n newX).map (·.r) = (newW n).rds := by simp [newX, newW]
theorem newX_own (w : World) (n : Nat) : ∀ x ∈ List.replicate n newX, OwnF w 0 52 3 oldC (.slice x.A x.r.away.length x.c) x.r.away := by
  intro x hx
  have := (List.mem_replicate.1 hx).2
  subst this
  exact OwnF.nil _ _ _ _ _
theorem newX_apart (n : Nat) : Apart (List.replicate n newX) := by
  intro i j x y hx _ _ b hb
  have := (List.mem_replicate.1 (mem_of_get hx)).2
  subst this
  simp [newX, Value.ownBlock] at hb
theorem clamp_int (n : Int) : (if (if n < 0 then 0 else n) < 64 then (if n < 0 then 0 else n) else 64) = (cntT n : Int) := by unfold cntT; split <;> split <;> omega
end
end Go.Proofs.Ytdgnejapofkadaa
