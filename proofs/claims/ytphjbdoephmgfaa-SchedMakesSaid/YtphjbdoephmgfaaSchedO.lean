/- The walk of the law SchedMakes. -/
import Derived.Test.YtphjbdoephmgfaaSchedN
import Derived.Test.YtphjbdoephmgfaaSchedK
namespace Go.Proofs.Ytphjbdoephmgfaa
open Go.RowKit

section
variable (w : World)
set_option maxHeartbeats 2000000 in
theorem makes_law (s m p l r : Int) :
    Calls Try.prog 7 #[.int .u64 s, .int .i64 m, .int .i64 p, .int .i64 l, .int .i64 r] w fun e w' => e = .returned (.bool true) ∧ Below w.heap.size w w' := by
  have C1 := hide (fun w1 => (round_any w1 m p).mono fun _ _ h => h.weak)
  have C2 := hide (fun w1 => (rround_any w1 m p).mono fun _ _ h => h.weak)
  have C3 := hide (fun w1 => seeded_any w1 s m p)
  have C4 := hide (fun w1 => rseeded_any w1 s m p)
  have C5 := hide (fun w1 => bursts_any w1 m l r)
  have C6 := hide (fun w1 => rbursts_any w1 m l r)
  have hP := cutN_le 16384 p
  have L1 : (roundL (cutN 64 m) (cutN 16384 p)).length ≤ 17592186044416 := by
    unfold roundL; split
    · simp
    · simp; omega
  have L2 : (seedL s (cutN 64 m) (cutN 16384 p)).length ≤ 17592186044416 := by
    unfold seedL; split
    · simp
    · simp; omega
  have L3 : (blL (cutN 16384 l) (cutN 64 m) (min (cutN 16384 r * cutN 64 m * cutN 16384 l) 16384)).length ≤ 17592186044416 := by rw [blL_len]; omega
  generalize roundL (cutN 64 m) (cutN 16384 p) = X1 at C1 C2 L1
  generalize seedL s (cutN 64 m) (cutN 16384 p) = X2 at C3 C4 L2
  generalize blL (cutN 16384 l) (cutN 64 m) (min (cutN 16384 r * cutN 64 m * cutN 16384 l) 16384) = X3 at C5 C6 L3
  have E1 := hide (fun w1 B1 B2 d1 d2 (h1 : RdI w1 .i64 B1 _) (h2 : RdI w1 .i64 B2 _) => ints_eq B1 B2 d1 d2 X1 _ w1 rfl L1 h1 h2)
  have E2 := hide (fun w1 B1 B2 d1 d2 (h1 : RdI w1 .i64 B1 _) (h2 : RdI w1 .i64 B2 _) => ints_eq B1 B2 d1 d2 X2 _ w1 rfl L2 h1 h2)
  have E3 := hide (fun w1 B1 B2 d1 d2 (h1 : RdI w1 .i64 B1 _) (h2 : RdI w1 .i64 B2 _) => ints_eq B1 B2 d1 d2 X3 _ w1 rfl L3 h1 h2)
  have HB0 := hide (selfW w)
  clear L1 L2 L3 hP
  go_enter Try.func7, Try.ntmps7
  go_wp2_with fail
  refine (C1.out _).mono ?_
  rintro e w1 ⟨⟨B1, d1, rfl, hr1⟩, hb⟩
  have HB1 := hide (extW HB0.out hb)
  have HR1 := hide hr1
  have HX1 := hide hb
  clear hb hr1
  go_wp2_with fail
  refine (C2.out _).mono ?_
  rintro e w2 ⟨⟨B2, d2, rfl, hr2⟩, hb⟩
  have HB2 := hide (extW HB1.out hb)
  have HR2 := hide hr2
  have HX2 := hide hb
  clear hb hr2
  go_wp2_with fail
  refine (E1.out _ _ _ _ _ (HR1.out.below HX2.out) HR2.out).mono ?_
  rintro e w3 ⟨rfl, hb⟩
  have HB3 := hide (extW HB2.out hb)
  clear hb
  go_wp2_with fail
  refine (C3.out _).mono ?_
  rintro e w4 ⟨⟨B4, d4, rfl, hr4⟩, hb⟩
  have HB4 := hide (extW HB3.out hb)
  have HR4 := hide hr4
  have HX4 := hide hb
  clear hb hr4
  go_wp2_with fail
  refine (C4.out _).mono ?_
  rintro e w5 ⟨⟨B5, d5, rfl, hr5⟩, hb⟩
  have HB5 := hide (extW HB4.out hb)
  have HR5 := hide hr5
  have HX5 := hide hb
  clear hb hr5
  go_wp2_with fail
  refine (E2.out _ _ _ _ _ (HR4.out.below HX5.out) HR5.out).mono ?_
  rintro e w6 ⟨rfl, hb⟩
  have HB6 := hide (extW HB5.out hb)
  clear hb
  go_wp2_with fail
  refine (C5.out _).mono ?_
  rintro e w7 ⟨⟨B7, d7, rfl, hr7⟩, hb⟩
  have HB7 := hide (extW HB6.out hb)
  have HR7 := hide hr7
  have HX7 := hide hb
  clear hb hr7
  go_wp2_with fail
  refine (C6.out _).mono ?_
  rintro e w8 ⟨⟨B8, d8, rfl, hr8⟩, hb⟩
  have HB8 := hide (extW HB7.out hb)
  have HR8 := hide hr8
  have HX8 := hide hb
  clear hb hr8
  go_wp2_with fail
  refine (E3.out _ _ _ _ _ (HR7.out.below HX8.out) HR8.out).mono ?_
  rintro e w9 ⟨rfl, hb⟩
  have HB9 := hide (extW HB8.out hb)
  clear hb
  go_wp2_with fail
  refine (awake29 _).mono ?_
  rintro e w10 ⟨rfl, hb⟩
  have HB10 := hide (extW HB9.out hb)
  clear hb
  go_wp2_with fail
  go_ret
  exact ⟨rfl, HB10.out⟩
end
end Go.Proofs.Ytphjbdoephmgfaa
