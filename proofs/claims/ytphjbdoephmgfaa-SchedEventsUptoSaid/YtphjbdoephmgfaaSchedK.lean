/- The walk of stopgatelaw29.awake; the walks of the laws SchedStalls, SchedFair, SchedWider. -/
import Derived.Test.YtphjbdoephmgfaaSchedJ
namespace Go.Proofs.Ytphjbdoephmgfaa
open Go.RowKit

theorem RdI.litI (w : World) (k : IntKind) (zs : List Int) (e : TypeId) : RdI (w.alloc (.cells (zs.map (Value.int k)).toArray e)) k (some ⟨w.heap.size, 0, none⟩) zs := Rd.lit w _ e
theorem ints_eq (A B : Option Addr) (c d : Nat) (xs ys : List Int) (w : World) (he : xs = ys) (hl : xs.length ≤ 17592186044416) (ha : RdI w .i64 A xs) (hb : RdI w .i64 B ys) :
    Calls Try.prog 8 #[.slice A xs.length c, .slice B ys.length d] w fun e w' => e = .returned (.bool true) ∧ Below w.heap.size w w' := by
  subst he
  refine (ints_any A B c d xs xs w hl hl ha hb).mono ?_
  rintro e w' ⟨rfl, hd⟩
  exact ⟨ret_bool (by simp), hd.extW⟩

section
variable (w : World)
set_option maxHeartbeats 2000000 in
theorem awake29 : Calls Try.prog 15 #[] w fun e w' => e = .returned (.bool true) ∧ Below w.heap.size w w' := by
  have HR0 := hide (round_any w 2 5)
  rw [show roundL (cutN 64 2) (cutN 16384 5) = [0, 1, 0, 1, 0] from by decide] at HR0
  go_enter Try.func15, Try.ntmps15
  go_wp2_with fail
  refine HR0.out.mono ?_
  rintro e w1 ⟨⟨B, d, rfl, hd, hr⟩, hb1⟩
  clear HR0
  have hr1 := hr.alloc (.cells (([0, 1, 0, 1, 0] : List Int).map (Value.int .i64)).toArray 3)
  have HI := hide (ints_eq B (some ⟨w1.heap.size, 0, none⟩) d 5 [0, 1, 0, 1, 0] [0, 1, 0, 1, 0] _ rfl (by decide) hr1 (RdI.litI w1 .i64 [0, 1, 0, 1, 0] 3))
  have hbA := hide (moreW hb1 (.cells (([0, 1, 0, 1, 0] : List Int).map (Value.int .i64)).toArray 3))
  have HR1 := hide hr1
  have HD := hide hd
  clear hr hr1 hb1 hd
  go_wp2_with fail
  refine HI.out.mono ?_
  rintro e w2 ⟨rfl, hb2⟩
  have HB2 := hide (extW hbA.out hb2)
  have HR2 := hide (HR1.out.below hb2)
  clear hb2 HI HR1 hbA
  have F1 : Hid (Calls Try.prog 16 #[.slice B 5 d, .int .i64 2, .int .i64 2] w2 fun e w' => e = .returned (.bool true) ∧ Below w2.heap.size w2 w') := by
    have h := fair_any w2 B d [0, 1, 0, 1, 0] 2 2 (by decide) (by decide) HR2.out
    rw [show fairB [0, 1, 0, 1, 0] (cutN 64 2) 2 = true from by decide] at h
    exact h
  go_wp2_with fail
  refine F1.out.mono ?_
  rintro e w3 ⟨rfl, hb3⟩
  have HB3 := hide (extW HB2.out hb3)
  have HR3 := hide (HR2.out.below hb3)
  clear hb3 F1 HR2 HB2
  have F1 : Hid (Calls Try.prog 16 #[.slice B 5 d, .int .i64 2, .int .i64 1] w3 fun e w' => e = .returned (.bool false) ∧ Below w3.heap.size w3 w') := by
    have h := fair_any w3 B d [0, 1, 0, 1, 0] 2 1 (by decide) (by decide) HR3.out
    rw [show fairB [0, 1, 0, 1, 0] (cutN 64 2) 1 = false from by decide] at h
    exact h
  go_wp2_with fail
  refine F1.out.mono ?_
  rintro e w4 ⟨rfl, hb4⟩
  have HB4 := hide (extW HB3.out hb4)
  have HR4 := hide (HR3.out.below hb4)
  clear hb4 F1 HR3 HB3
  have hbA := hide (moreW HB4.out (.cells (([0, 0, 1] : List Int).map (Value.int .i64)).toArray 3))
  have HRA := hide (HR4.out.alloc (.cells (([0, 0, 1] : List Int).map (Value.int .i64)).toArray 3))
  have F1 : Hid (Calls Try.prog 18 #[.slice (some ⟨w4.heap.size, 0, none⟩) 3 3, .int .i64 2] (w4.alloc (.cells (([0, 0, 1] : List Int).map (Value.int .i64)).toArray 3)) fun e w' => e = .returned (.int .i64 3) ∧ Below (w4.alloc (.cells (([0, 0, 1] : List Int).map (Value.int .i64)).toArray 3)).heap.size (w4.alloc (.cells (([0, 0, 1] : List Int).map (Value.int .i64)).toArray 3)) w') := by
    have h := least_any (w4.alloc (.cells (([0, 0, 1] : List Int).map (Value.int .i64)).toArray 3)) (some ⟨w4.heap.size, 0, none⟩) 3 [0, 0, 1] 2 (by decide) (RdI.litI w4 .i64 [0, 0, 1] 3)
    rw [show ((mg [0, 0, 1] (cutN 64 2) : Int) + 1) = 3 from by decide] at h
    exact h
  go_wp2_with fail
  refine F1.out.mono ?_
  rintro e w5 ⟨rfl, hb5⟩
  have HB5 := hide (extW hbA.out hb5)
  have HR5 := hide (HRA.out.below hb5)
  clear hb5 F1 HR4 HB4 hbA HRA
  have F1 : Hid (Calls Try.prog 11 #[.slice B 5 d, .int .i64 0, .int .i64 2] w5 fun e w' => RetI .i64 [0, 1, 1] w5 e w') := by
    have h := after_any w5 B d [0, 1, 0, 1, 0] 0 2 (by decide) HD.out HR5.out
    rw [show afterL [0, 1, 0, 1, 0] 0 (2 : Int).toNat = [0, 1, 1] from by decide] at h
    exact h
  go_wp2_with fail
  refine F1.out.mono ?_
  rintro e w6 ⟨⟨B6, d6, rfl, hr6⟩, hb6⟩
  have HB6 := hide (moreW (extW HB5.out hb6) (.cells (([0, 1, 1] : List Int).map (Value.int .i64)).toArray 3))
  have HR6 := hide ((HR5.out.below hb6).alloc (.cells (([0, 1, 1] : List Int).map (Value.int .i64)).toArray 3))
  have HI := hide (ints_eq B6 (some ⟨w6.heap.size, 0, none⟩) d6 3 [0, 1, 1] [0, 1, 1] _ rfl (by decide) (hr6.alloc (.cells (([0, 1, 1] : List Int).map (Value.int .i64)).toArray 3)) (RdI.litI w6 .i64 [0, 1, 1] 3))
  clear hb6 hr6 F1 HR5 HB5
  go_wp2_with fail
  refine HI.out.mono ?_
  rintro e w7 ⟨rfl, hb7⟩
  have HB7 := hide (extW HB6.out hb7)
  have HR7 := hide (HR6.out.below hb7)
  clear hb7 HI HR6 HB6
  have F1 : Hid (Calls Try.prog 13 #[.slice B 5 d, .int .i64 2] w7 fun e w' => RetI .i64 [3, 2] w7 e w') := by
    have h := counts_any w7 B d [0, 1, 0, 1, 0] 2 (by decide) HR7.out
    rw [show countL [0, 1, 0, 1, 0] (cutN 64 2) = [3, 2] from by decide] at h
    exact h
  go_wp2_with fail
  refine F1.out.mono ?_
  rintro e w8 ⟨⟨B8, d8, rfl, hr8⟩, hb8⟩
  have HB8 := hide (moreW (extW HB7.out hb8) (.cells (([3, 2] : List Int).map (Value.int .i64)).toArray 3))
  have HI := hide (ints_eq B8 (some ⟨w8.heap.size, 0, none⟩) d8 2 [3, 2] [3, 2] _ rfl (by decide) (hr8.alloc (.cells (([3, 2] : List Int).map (Value.int .i64)).toArray 3)) (RdI.litI w8 .i64 [3, 2] 3))
  clear hb8 hr8 F1 HR7 HB7
  go_wp2_with fail
  refine HI.out.mono ?_
  rintro e w9 ⟨rfl, hb9⟩
  have HB9 := hide (extW HB8.out hb9)
  clear hb9 HI HB8
  go_wp2_with fail
  go_ret
  exact ⟨rfl, HB9.out⟩
end
end Go.Proofs.Ytphjbdoephmgfaa
