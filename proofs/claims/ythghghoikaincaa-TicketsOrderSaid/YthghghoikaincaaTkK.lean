/- The walks of tickets' Put, Take, again. -/
import Derived.Test.YthghghoikaincaaTkJ
namespace Go.Proofs.Ythghghoikaincaa
open Go.RowKit

section
variable {w : World} {base gq gm : Nat} {vw vg vc vt vn : Value} {q : QT} {C : List Int}
set_option maxHeartbeats 1000000 in
theorem take_any (t : Int) (h : QV w base gq gm vw vg vc vt vn q C) (hs : ∀ x ∈ q.T, 0 ≤ x.seq) (hl : q.N.length ≤ 9999) (ht0 : 0 ≤ q.time) (ht1 : q.time ≤ 10000) :
    Calls Try.prog 9 #[.pointer (some ⟨gq, 0, none⟩), .int .i64 t] w fun e w' => e = .returned (.int .i64 (beginE q t)) ∧ QX w base gq gm vw vg vc vt vn (takeQ q t) w' := by
  have HB := hide (begin_any t 3 0 h hs hl ht0 ht1)
  obtain ⟨z, hz⟩ : ∃ z, z = beginE q t := ⟨_, rfl⟩
  rw [← hz] at HB ⊢
  clear hz h hs
  go_enter Try.func9, Try.ntmps9
  go_wp2_with fail
  refine HB.out.mono ?_
  rintro e w' ⟨rfl, hq⟩
  have HQ := hide hq
  clear hq HB
  go_wp2_with fail
  go_ret
  exact ⟨rfl, HQ.out⟩
/-- what Put answers -/
def putE (q : QT) (t v : Int) : Int := if t < 0 ∨ (q.T.length : Int) ≤ t then 1 else if v < 0 ∨ 4294967295 < v then 1 else beginE q t
set_option maxHeartbeats 2000000 in
theorem put_any (t v : Int) (h : QV w base gq gm vw vg vc vt vn q C) (hs : ∀ x ∈ q.T, 0 ≤ x.seq) (hl : q.N.length ≤ 9999) (ht0 : 0 ≤ q.time) (ht1 : q.time ≤ 10000) :
    Calls Try.prog 8 #[.pointer (some ⟨gq, 0, none⟩), .int .i64 t, .int .i64 v] w fun e w' => e = .returned (.int .i64 (putE q t v)) ∧ QX w base gq gm vw vg vc vt vn (putQ q t v) w' := by
  have HB := hide (begin_any t 1 v h hs hl ht0 ht1)
  have HM := hide (tmade_any w t h)
  obtain ⟨z, hz⟩ : ∃ z, z = beginE q t := ⟨_, rfl⟩
  have hb : (t < 0 ∨ (q.T.length : Int) ≤ t) → beginE q t = 1 ∧ ∀ y, beginQ q t y = q := by
    intro ho
    unfold beginE beginQ
    by_cases h1 : t < 0
    · rw [if_pos h1]; exact ⟨rfl, fun y => if_pos h1⟩
    · have hn : q.T[t.toNat]? = none := List.getElem?_eq_none (by omega)
      rw [if_neg h1, hn]; exact ⟨rfl, fun y => if_neg h1⟩
  have H := hide h
  by_cases ho : t < 0 ∨ (q.T.length : Int) ≤ t
  · rw [if_pos ho] at HM
    have e1 : putE q t v = 1 := by unfold putE; rw [if_pos ho]
    have e2 : putQ q t v = q := by unfold putQ; by_cases h1 : v < 0 ∨ 4294967295 < v; · rw [if_pos h1]
                                   · rw [if_neg h1]; exact (hb ho).2 _
    rw [e1, e2]
    clear hz h hs ho hb e1 e2 HB
    go_enter Try.func8, Try.ntmps8
    go_wp2_with fail
    refine HM.out.mono ?_
    rintro e w' ⟨rfl, rfl⟩
    go_wp2_with fail
    go_ret
    exact ⟨rfl, H.out.stay⟩
  · rw [if_neg ho] at HM
    by_cases h1 : v < 0
    · have e1 : putE q t v = 1 := by unfold putE; rw [if_neg ho, if_pos (Or.inl h1)]
      have e2 : putQ q t v = q := by unfold putQ; rw [if_pos (Or.inl h1)]
      rw [e1, e2]
      clear hz h hs ho hb e1 e2 HB
      go_enter Try.func8, Try.ntmps8
      go_wp2_with fail
      refine HM.out.mono ?_
      rintro e w' ⟨rfl, rfl⟩
      go_wp2_with fail
      go_ret
      exact ⟨rfl, H.out.stay⟩
    · have d1 : decide (v < 0) = false := decide_eq_false h1
      by_cases h2 : 4294967295 < v
      · have e1 : putE q t v = 1 := by unfold putE; rw [if_neg ho, if_pos (Or.inr h2)]
        have e2 : putQ q t v = q := by unfold putQ; rw [if_pos (Or.inr h2)]
        rw [e1, e2]
        clear hz h hs ho hb e1 e2 HB
        go_enter Try.func8, Try.ntmps8
        go_wp2_with fail
        refine HM.out.mono ?_
        rintro e w' ⟨rfl, rfl⟩
        go_wp2_with fail
        go_ret
        exact ⟨rfl, H.out.stay⟩
      · have d2 : decide (4294967295 < v) = false := decide_eq_false h2
        have e1 : putE q t v = beginE q t := by unfold putE; rw [if_neg ho, if_neg (by omega)]
        have e2 : putQ q t v = beginQ q t ⟨1, 0, v, 0, 0⟩ := by unfold putQ; rw [if_neg (by omega)]
        rw [e1, e2]
        rw [← hz] at HB ⊢
        clear hz h hs ho hb e1 e2
        go_enter Try.func8, Try.ntmps8
        go_wp2_with fail
        refine HM.out.mono ?_
        rintro e w' ⟨rfl, rfl⟩
        go_wp2_with fail
        refine HB.out.mono ?_
        rintro e w' ⟨rfl, hq⟩
        have HQ := hide hq
        clear hq HB
        go_wp2_with fail
        go_ret
        exact ⟨rfl, HQ.out⟩
end
end Go.Proofs.Ythghghoikaincaa
