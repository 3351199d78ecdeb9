/- Calls on a row of words that no call made; the walk of the law MemNobody. -/
import Derived.Test.YthjigennjocdjaaMemF
namespace Go.Proofs.Ythjigennjocdjaa
open Go.RowKit

/-- a row that no call made: none, or one whose words are none -/
def Nul (w : World) (m : Value) : Prop := m = .pointer none ∨ ∃ g, m = .pointer (some ⟨g, 0, none⟩) ∧ w.cell? ⟨g, 0, none⟩ = some (.slice none 0 0)
theorem Nul.ext {w w' : World} {m : Value} (h : Nul w m) (hb : Below w.heap.size w w') : Nul w' m := by
  rcases h with h | ⟨g, h, hc⟩
  · exact .inl h
  · exact .inr ⟨g, h, (hb.cell (cell_lt hc)).trans hc⟩

section
variable (w : World) (m : Value)
theorem made_nul (h : Nul w m) : Calls Try.prog 20 #[m] w fun e w' => e = .returned (.bool false) ∧ w = w' := by
  rcases h with rfl | ⟨g, rfl, hc⟩
  · exact made_none w
  · exact made_zero w g hc

set_option maxHeartbeats 400000 in
theorem size_nul (h : Nul w m) : Calls Try.prog 15 #[m] w fun e w' => e = .returned (.int .i64 0) ∧ w = w' := by
  have HM := hide (made_nul w m h)
  clear h
  go_enter Try.func15, Try.ntmps15
  go_wp2_with fail
  refine HM.out.mono ?_
  rintro e w' ⟨rfl, rfl⟩
  go_wp2_with fail
  go_ret
  exact ⟨rfl, rfl⟩

set_option maxHeartbeats 400000 in
theorem all_nul (h : Nul w m) : Calls Try.prog 16 #[m] w fun e w' => e = .returned (.slice none 0 0) ∧ w = w' := by
  have HM := hide (made_nul w m h)
  clear h
  go_enter Try.func16, Try.ntmps16
  go_wp2_with fail
  refine HM.out.mono ?_
  rintro e w' ⟨rfl, rfl⟩
  go_wp2_with fail
  go_ret
  exact ⟨rfl, rfl⟩

set_option maxHeartbeats 400000 in
theorem log_nul (h : Nul w m) : Calls Try.prog 17 #[m] w fun e w' => e = .returned (.slice none 0 0) ∧ w = w' := by
  have HM := hide (made_nul w m h)
  clear h
  go_enter Try.func17, Try.ntmps17
  go_wp2_with fail
  refine HM.out.mono ?_
  rintro e w' ⟨rfl, rfl⟩
  go_wp2_with fail
  go_ret
  exact ⟨rfl, rfl⟩

set_option maxHeartbeats 400000 in
theorem copy_nul (h : Nul w m) : Calls Try.prog 19 #[m] w fun e w' => e = .returned (.pointer none) ∧ w = w' := by
  have HM := hide (made_nul w m h)
  clear h
  go_enter Try.func19, Try.ntmps19
  go_wp2_with fail
  refine HM.out.mono ?_
  rintro e w' ⟨rfl, rfl⟩
  go_wp2_with fail
  go_ret
  exact ⟨rfl, rfl⟩

set_option maxHeartbeats 400000 in
theorem peek_nul (ad : Int) (h : Nul w m) : Calls Try.prog 9 #[m, .int .i64 ad] w fun e w' => e = .returned (.int .u64 0) ∧ w = w' := by
  have HM := hide (made_nul w m h)
  clear h
  go_enter Try.func9, Try.ntmps9
  go_wp2_with fail
  refine HM.out.mono ?_
  rintro e w' ⟨rfl, rfl⟩
  go_wp2_with fail
  go_ret
  exact ⟨rfl, rfl⟩

set_option maxHeartbeats 400000 in
theorem cnt_nul (t : Int) (h : Nul w m) : Calls Try.prog 18 #[m, .int .i64 t] w fun e w' => e = .returned (.int .i64 0) ∧ w = w' := by
  have HM := hide (made_nul w m h)
  clear h
  go_enter Try.func18, Try.ntmps18
  go_wp2_with fail
  refine HM.out.mono ?_
  rintro e w' ⟨rfl, rfl⟩
  go_wp2_with fail
  go_ret
  exact ⟨rfl, rfl⟩

set_option maxHeartbeats 400000 in
theorem poke_nul (ad : Int) (v : Value) (h : Nul w m) : Calls Try.prog 7 #[m, .int .i64 ad, v] w fun e w' => e = .returned (.int .i64 2) ∧ w = w' := by
  have HM := hide (made_nul w m h)
  clear h
  go_enter Try.func7, Try.ntmps7
  go_wp2_with fail
  refine HM.out.mono ?_
  rintro e w' ⟨rfl, rfl⟩
  go_wp2_with fail
  go_ret
  exact ⟨rfl, rfl⟩

set_option maxHeartbeats 400000 in
theorem keep_nul (b : Bool) (h : Nul w m) : Calls Try.prog 13 #[m, .bool b] w fun e w' => e = .returned (.tuple #[]) ∧ w = w' := by
  have HM := hide (made_nul w m h)
  clear h
  go_enter Try.func13, Try.ntmps13
  go_wp2_with fail
  refine HM.out.mono ?_
  rintro e w' ⟨rfl, rfl⟩
  go_wp2_with fail
  go_end0
  exact ⟨rfl, rfl⟩

set_option maxHeartbeats 1000000 in
theorem do_nul (th ki ad wa ol nw0 : Int) (ok0 : Bool) (f : Value) (h : Nul w m) :
    Calls Try.prog 21 #[m, .agg #[.int .i64 th, .int .i64 ki, .int .i64 ad, .int .u64 wa, .int .u64 ol, .int .u64 nw0, .bool ok0], f] w fun e w' =>
      e = .returned (.tuple #[.agg #[.int .i64 0, .int .i64 0, .int .i64 0, .int .u64 0, .int .u64 0, .int .u64 0, .bool false], .int .i64 2]) ∧ Below w.heap.size w w' := by
  have HM := hide (made_nul ((w.alloc (.cells #[.int .i64 th, .int .i64 ki, .int .i64 ad, .int .u64 wa, .int .u64 ol, .int .u64 nw0, .bool ok0] 51)).alloc (.cells #[.int .i64 0, .int .i64 0, .int .i64 0, .int .u64 0, .int .u64 0, .int .u64 0, .bool false] 51)) m (h.ext (moreW (moreW (selfW _) _) _)))
  clear h
  go_enter Try.func21, Try.ntmps21
  go_wp2_with fail
  refine HM.out.mono ?_
  rintro e w' ⟨rfl, rfl⟩
  go_wp2_with fail
  refine bodyPost_ret (v := ?_) ?_ rfl ?_
  rotate_left
  · simp [results, Try.results21, go_sem]
    rfl
  · exact ⟨rfl, moreW (moreW (selfW _) _) _⟩

set_option maxHeartbeats 400000 in
theorem load_nul (th ad : Int) (h : Nul w m) : Calls Try.prog 12 #[m, .int .i64 th, .int .i64 ad] w fun e w' => e = .returned (.tuple #[.int .u64 0, .int .i64 2]) ∧ Below w.heap.size w w' := by
  have HD := hide fun f => do_nul w m th 1 ad 0 0 0 false f (h.ext (selfW w))
  have HB := hide (selfW w)
  have hmf : ∀ (fn : Fn) (first cap : Array Value) (w : World), (Instr.makeFunc fn first cap).run Try.prog w = .ok (.func fn first cap) w := fun _ _ _ _ => rfl
  clear h
  go_enter Try.func12, Try.ntmps12
  go_wp2_with fail
  refine (HD.out _).mono ?_
  rintro e w1 ⟨rfl, hb⟩
  have HB1 := hide (extW HB.out hb); clear hb
  go_wp2_with fail
  go_ret2
  exact ⟨rfl, HB1.out.alloc HB1.out.size _⟩

set_option maxHeartbeats 400000 in
theorem store_nul (th ad : Int) (y : Int) (h : Nul w m) : Calls Try.prog 14 #[m, .int .i64 th, .int .i64 ad, .int .u64 y] w fun e w' => e = .returned (.int .i64 2) ∧ Below w.heap.size w w' := by
  have HD := hide fun f => do_nul (w.alloc (.cells #[.int .u64 y] 22)) m th 2 ad 0 0 0 false f (h.ext (moreW (selfW w) (.cells #[.int .u64 y] 22)))
  have HB := hide (moreW (selfW w) (.cells #[.int .u64 y] 22))
  have hmf : ∀ (fn : Fn) (first cap : Array Value) (w : World), (Instr.makeFunc fn first cap).run Try.prog w = .ok (.func fn first cap) w := fun _ _ _ _ => rfl
  clear h
  go_enter Try.func14, Try.ntmps14
  go_wp2_with fail
  refine (HD.out _).mono ?_
  rintro e w1 ⟨rfl, hb⟩
  have HB1 := hide (extW HB.out hb); clear hb
  go_wp2_with fail
  go_ret
  exact ⟨rfl, HB1.out.alloc HB1.out.size _⟩

set_option maxHeartbeats 400000 in
theorem add_nul (th ad : Int) (y : Int) (h : Nul w m) : Calls Try.prog 11 #[m, .int .i64 th, .int .i64 ad, .int .u64 y] w fun e w' => e = .returned (.tuple #[.int .u64 0, .int .i64 2]) ∧ Below w.heap.size w w' := by
  have HD := hide fun f => do_nul (w.alloc (.cells #[.int .u64 y] 22)) m th 4 ad 0 0 0 false f (h.ext (moreW (selfW w) (.cells #[.int .u64 y] 22)))
  have HB := hide (moreW (selfW w) (.cells #[.int .u64 y] 22))
  have hmf : ∀ (fn : Fn) (first cap : Array Value) (w : World), (Instr.makeFunc fn first cap).run Try.prog w = .ok (.func fn first cap) w := fun _ _ _ _ => rfl
  clear h
  go_enter Try.func11, Try.ntmps11
  go_wp2_with fail
  refine (HD.out _).mono ?_
  rintro e w1 ⟨rfl, hb⟩
  have HB1 := hide (extW HB.out hb); clear hb
  go_wp2_with fail
  go_ret2
  exact ⟨rfl, HB1.out.alloc HB1.out.size _⟩

set_option maxHeartbeats 400000 in
theorem swap_nul (th ad : Int) (wb y : Int) (h : Nul w m) : Calls Try.prog 8 #[m, .int .i64 th, .int .i64 ad, .int .u64 wb, .int .u64 y] w fun e w' => e = .returned (.tuple #[.bool false, .int .i64 2]) ∧ Below w.heap.size w w' := by
  have HD := hide fun f => do_nul ((w.alloc (.cells #[.int .u64 wb] 22)).alloc (.cells #[.int .u64 y] 22)) m th 3 ad wb 0 0 false f (h.ext (moreW (moreW (selfW w) (.cells #[.int .u64 wb] 22)) (.cells #[.int .u64 y] 22)))
  have HB := hide (moreW (moreW (selfW w) (.cells #[.int .u64 wb] 22)) (.cells #[.int .u64 y] 22))
  have hmf : ∀ (fn : Fn) (first cap : Array Value) (w : World), (Instr.makeFunc fn first cap).run Try.prog w = .ok (.func fn first cap) w := fun _ _ _ _ => rfl
  clear h
  go_enter Try.func8, Try.ntmps8
  go_wp2_with fail
  refine (HD.out _).mono ?_
  rintro e w1 ⟨rfl, hb⟩
  have HB1 := hide (extW HB.out hb); clear hb
  go_wp2_with fail
  go_ret2
  exact ⟨rfl, HB1.out.alloc HB1.out.size _⟩

end
end Go.Proofs.Ythjigennjocdjaa
