/- The walks of tickets' step (all), Pick. -/
import Derived.Test.YthghghoikaincaaTkS
namespace Go.Proofs.Ythghghoikaincaa
open Go.RowKit

section
variable {w : World} {base gq gm g1 n c1 : Nat} {vw vg vc vt vn : Value} {q : QT} {C : List Int} {t : Nat} {s v p r : Int}
set_option maxHeartbeats 4000000 in
theorem step_0 (h : QV w base gq gm vw vg vc (.slice (some ⟨g1, 0, none⟩) n c1) vn q C) (hx : q.T[t]? = some ⟨0, s, v, p, r⟩) (ok : StepOk q ⟨0, s, v, p, r⟩) :
    Calls Try.prog 22 #[.pointer (some ⟨gq, 0, none⟩), .int .i64 t] w fun e w' => e = .returned (.tuple #[]) ∧ QX w base gq gm vw vg vc (.slice (some ⟨g1, 0, none⟩) n c1) vn (stepQ q t ⟨0, s, v, p, r⟩) w' := by
  have hcs := fun i => Blk.cell h.blk i
  have hgs := h.blk.lt
  obtain ⟨k0, k1, k2, k3, k4⟩ := h.cell hx
  dsimp only at k0 k1 k2 k3 k4
  have hf1 := fun i => h.free1 i
  have hg1s := h.lt1.2
  have htn : t < n := by have := len_of hx; rw [h.men.rdF.1]; exact this
  have ht2 : (t : Int) < (n : Int) := by omega
  have hp0 : 0 ≤ p := ok.p0
  have hp1 : p < q.size := ok.p1
  have hss := ok.s1
  have hpw : IntKind.i64.wrap (2 + p) = 2 + p := IntWalk.i64_in _ (by omega)
  have H := hide h
  have es : stepQ q t ⟨0, s, v, p, r⟩ = q := rfl
  rw [es]
  clear h hx ok es
  go_enter Try.func22, Try.ntmps22
  go_wp2_with fail
  go_end0
  exact ⟨rfl, H.out.stay⟩
theorem step_any {x : CmT} (h : QV w base gq gm vw vg vc vt vn q C) (hx : q.T[t]? = some x) (ok : StepOk q x) (h0 : 0 ≤ x.pc) (h6 : x.pc ≤ 6) :
    Calls Try.prog 22 #[.pointer (some ⟨gq, 0, none⟩), .int .i64 t] w fun e w' => e = .returned (.tuple #[]) ∧ QX w base gq gm vw vg vc vt vn (stepQ q t x) w' := by
  obtain ⟨g1, c1, rfl⟩ := h.form hx
  obtain ⟨pc, s, v, p, r⟩ := x
  dsimp only at h0 h6
  have hpc : pc = 0 ∨ pc = 1 ∨ pc = 2 ∨ pc = 3 ∨ pc = 4 ∨ pc = 5 ∨ pc = 6 := by omega
  rcases hpc with rfl | rfl | rfl | rfl | rfl | rfl | rfl
  · exact step_0 h hx ok
  · exact step_1 h hx ok
  · exact step_2 h hx ok
  · exact step_3 h hx ok
  · exact step_4 h hx ok
  · exact step_5 h hx ok
  · exact step_6 h hx ok
/-- what Pick answers -/
def pickE (q : QT) (t : Int) : Int := if t < 0 ∨ (q.T.length : Int) ≤ t then 1 else 0
theorem StepOk.tick {x : CmT} (h : StepOk q x) : StepOk q.tick x := ⟨h.s0, h.s1, h.len, h.w0, h.wc, h.p0, h.p1, h.five, h.t0, h.t1, h.v0, h.v1, h.nl⟩
set_option maxHeartbeats 2000000 in
theorem pick_any (t : Int) (h : QV w base gq gm vw vg vc vt vn q C) (ok : ∀ x ∈ q.T, StepOk q x ∧ 0 ≤ x.pc ∧ x.pc ≤ 6) (ht0 : 0 ≤ q.time) (ht1 : q.time ≤ 10000) :
    Calls Try.prog 11 #[.pointer (some ⟨gq, 0, none⟩), .int .i64 t] w fun e w' => e = .returned (.int .i64 (pickE q t)) ∧ QX w base gq gm vw vg vc vt vn (pickQ q t) w' := by
  have HM := hide (tmade_any w t h)
  have H := hide h
  by_cases ho : t < 0 ∨ (q.T.length : Int) ≤ t
  · rw [if_pos ho] at HM
    have e1 : pickE q t = 1 := by unfold pickE; rw [if_pos ho]
    have e2 : pickQ q t = q := by
      unfold pickQ
      by_cases h1 : t < 0
      · rw [if_pos h1]
      · have hn : q.T[t.toNat]? = none := List.getElem?_eq_none (by omega)
        rw [if_neg h1, hn]
    rw [e1, e2]
    clear h ok ho e1 e2
    go_enter Try.func11, Try.ntmps11
    go_wp2_with fail
    refine HM.out.mono ?_
    rintro e w' ⟨rfl, rfl⟩
    go_wp2_with fail
    go_ret
    exact ⟨rfl, H.out.stay⟩
  · rw [if_neg ho] at HM
    obtain ⟨k, rfl⟩ : ∃ k : Nat, t = k := ⟨t.toNat, by omega⟩
    obtain ⟨x, hx⟩ : ∃ x, q.T[k]? = some x := ⟨q.T[k]'(by omega), List.getElem?_eq_getElem _⟩
    have e1 : pickE q k = 0 := by unfold pickE; rw [if_neg ho]
    have e2 : pickQ q k = stepQ q.tick k x := by unfold pickQ; rw [if_neg (by omega), Int.toNat_natCast, hx]
    rw [e1, e2]
    obtain ⟨o1, o2, o3⟩ := ok x (List.mem_of_getElem? hx)
    have HS := hide (step_any (w := w.setCell ⟨gq, 5, none⟩ (.int .i64 (q.time + 1))) (t := k) (h.time (q.time + 1)) hx o1.tick o2 o3)
    have hcs := fun i => Blk.cell h.blk i
    have hfs := fun i => Blk.free h.blk i
    have hgs := h.blk.lt
    have hct : w.cell? ⟨gq, 5, none⟩ = some (.int .i64 q.time) := hcs 5
    have htw : IntKind.i64.wrap (q.time + 1) = q.time + 1 := IntWalk.i64_in _ (by omega)
    clear h ok ho e1 e2 o1 o2 o3 hx
    go_enter Try.func11, Try.ntmps11
    go_wp2_with fail
    refine HM.out.mono ?_
    rintro e w' ⟨rfl, rfl⟩
    go_wp2_with fail
    refine HS.out.mono ?_
    rintro e w3 ⟨rfl, hq3⟩
    have HQ3 := hide hq3
    clear hq3 HS
    go_wp2_with fail
    go_ret
    exact ⟨rfl, QX.tick H.out (q.time + 1) HQ3.out⟩
end
end Go.Proofs.Ythghghoikaincaa
