/- The walks of slices.IndexFunc and ContainsFunc over threads; of ghosts' guarded. -/
import Derived.Test.YtdgnejapofkadaaGhH
namespace Go.Proofs.Ytdgnejapofkadaa
open Go.RowKit

/-- the call answers b, and has changed nothing that was there -/
def Says (b : Bool) (w : World) (e : Ending) (w' : World) : Prop := e = .returned (.bool b) ∧ Below w.heap.size w w'
section
variable (w : World)
set_option maxHeartbeats 1000000 in
theorem index_no (f : FuncId) (hf : f = 35 ∨ f = 29) (b : Addr) (p : RdT → Bool) (A : Option Addr) (c : Nat) (xs : List RdX) (hr : RdF w rdC A xs) (hl : xs.length ≤ 64) (hp : ∀ x ∈ xs, p x.r = false)
    (HC : ∀ x ∈ xs, ∀ wx, Below w.heap.size w wx → Calls Try.prog f #[.agg #[.int .i64 x.r.saw, .int .i64 x.r.inn, .int .i64 x.r.guard, .int .i64 x.r.holds, .slice x.A x.r.away.length x.c], .pointer (some b)] wx (Says (p x.r) wx)) :
    Calls Try.prog 36 #[.slice A xs.length c, .func (.func f) #[] #[.pointer (some b)]] w fun e w' => e = .returned (.int .i64 (-1)) ∧ Below w.heap.size w w' := by
  obtain ⟨n, hn⟩ : ∃ n, n = xs.length := ⟨_, rfl⟩
  rw [← hn] at hl ⊢
  have HR := hide hr; have HN := hide hn; have HP := hide hp; have HF := hide HC
  clear hr hn hp HC
  rcases hf with rfl | rfl
  all_goals
    go_enter Try.func36, Try.ntmps36
    go_wp2_with fail
    go_loopw [8] (fun i wr => ∃ k : Nat, k ≤ n ∧ i = .int .i64 k ∧ Hid (Below w.heap.size w wr)) (fun i _ => n - (intOf i).toNat)
    case atStart => exact ⟨0, Nat.zero_le _, rfl, Below.refl _ _⟩
    case round =>
      obtain ⟨k, hk, rfl, HD⟩ := hrel
      by_cases hlt : k < n
      · obtain ⟨ad, x, hA, hx, c0, c1, c2, c3, c4⟩ := RdF.rd (HR.out.below HD.out) (i := k) (by rw [← HN.out]; exact hlt)
        subst hA
        rw [add_lit _ _ (by decide)] at c1 c2 c3 c4
        have HX := hide hx; clear hx
        have HFX := HF.out x (mem_of_get HX.out) wr HD.out
        rw [HP.out x (mem_of_get HX.out)] at HFX
        have HFY := hide HFX; clear HFX
        go_wp2_with fail
        refine HFY.out.mono ?_
        rintro e w1 ⟨rfl, hb⟩
        have HB := hide (extW HD.out hb)
        clear hb
        go_wp2_with fail
        go_roundw
        case rel => exact ⟨k + 1, by omega, by go_num, HB.out⟩
        case measure => simp [intOf]; omega
      · go_wp2_with fail
        go_ret
        exact ⟨rfl, HD.out⟩
set_option maxHeartbeats 1000000 in
theorem index_yes (f : FuncId) (hf : f = 35 ∨ f = 29) (b : Addr) (p : RdT → Bool) (A : Option Addr) (c : Nat) (xs : List RdX) (hr : RdF w rdC A xs) (hl : xs.length ≤ 64) (hp : ∃ x ∈ xs, p x.r = true)
    (HC : ∀ x ∈ xs, ∀ wx, Below w.heap.size w wx → Calls Try.prog f #[.agg #[.int .i64 x.r.saw, .int .i64 x.r.inn, .int .i64 x.r.guard, .int .i64 x.r.holds, .slice x.A x.r.away.length x.c], .pointer (some b)] wx (Says (p x.r) wx)) :
    Calls Try.prog 36 #[.slice A xs.length c, .func (.func f) #[] #[.pointer (some b)]] w fun e w' => (∃ k : Nat, e = .returned (.int .i64 k)) ∧ Below w.heap.size w w' := by
  obtain ⟨n, hn⟩ : ∃ n, n = xs.length := ⟨_, rfl⟩
  rw [← hn] at hl ⊢
  have HR := hide hr; have HN := hide hn; have HP := hide hp; have HF := hide HC
  clear hr hn hp HC
  rcases hf with rfl | rfl
  all_goals
    go_enter Try.func36, Try.ntmps36
    go_wp2_with fail
    go_loopw [8] (fun i wr => ∃ k : Nat, k ≤ n ∧ i = .int .i64 k ∧ Hid (∀ j x, j < k → xs[j]? = some x → p x.r = false) ∧ Hid (Below w.heap.size w wr)) (fun i _ => n - (intOf i).toNat)
    case atStart => exact ⟨0, Nat.zero_le _, rfl, fun j x hj => by omega, Below.refl _ _⟩
    case round =>
      obtain ⟨k, hk, rfl, HS, HD⟩ := hrel
      by_cases hlt : k < n
      · obtain ⟨ad, x, hA, hx, c0, c1, c2, c3, c4⟩ := RdF.rd (HR.out.below HD.out) (i := k) (by rw [← HN.out]; exact hlt)
        subst hA
        rw [add_lit _ _ (by decide)] at c1 c2 c3 c4
        have HX := hide hx; clear hx
        have HFX := HF.out x (mem_of_get HX.out) wr HD.out
        rcases hpx : p x.r with _ | _
        · rw [hpx] at HFX
          have HFY := hide HFX; have HPX := hide hpx; clear HFX hpx
          go_wp2_with fail
          refine HFY.out.mono ?_
          rintro e w1 ⟨rfl, hb⟩
          have HB := hide (extW HD.out hb)
          clear hb
          go_wp2_with fail
          go_roundw
          case rel =>
            refine ⟨k + 1, by omega, by go_num, fun j y hj hy => ?_, HB.out⟩
            by_cases hjk : j = k
            · subst hjk
              rw [HX.out] at hy
              injection hy with hy
              subst hy
              exact HPX.out
            · exact HS.out j y (by omega) hy
          case measure => simp [intOf]; omega
        · rw [hpx] at HFX
          have HFY := hide HFX; have HPX := hide hpx; clear HFX hpx
          go_wp2_with fail
          refine HFY.out.mono ?_
          rintro e w1 ⟨rfl, hb⟩
          have HB := hide (extW HD.out hb)
          clear hb
          go_wp2_with fail
          go_ret
          exact ⟨⟨k, rfl⟩, HB.out⟩
      · exfalso
        obtain ⟨x, hx, hpx⟩ := HP.out
        obtain ⟨i, hi⟩ := List.getElem?_of_mem hx
        have := len_of hi
        have := HS.out i x (by have := HN.out; omega) hi
        rw [hpx] at this
        cases this
set_option maxHeartbeats 400000 in
theorem contains_any (f : FuncId) (hf : f = 35 ∨ f = 29) (b : Addr) (p : RdT → Bool) (A : Option Addr) (c : Nat) (xs : List RdX) (hr : RdF w rdC A xs) (hl : xs.length ≤ 64)
    (HC : ∀ x ∈ xs, ∀ wx, Below w.heap.size w wx → Calls Try.prog f #[.agg #[.int .i64 x.r.saw, .int .i64 x.r.inn, .int .i64 x.r.guard, .int .i64 x.r.holds, .slice x.A x.r.away.length x.c], .pointer (some b)] wx (Says (p x.r) wx)) :
    Calls Try.prog 28 #[.slice A xs.length c, .func (.func f) #[] #[.pointer (some b)]] w (Says ((xs.map (·.r)).any p) w) := by
  rcases ha : (xs.map (·.r)).any p with _ | _
  · have hp : ∀ x ∈ xs, p x.r = false := by
      intro x hx
      rw [List.any_eq_false] at ha
      have := ha x.r (List.mem_map.2 ⟨x, hx, rfl⟩)
      simpa using this
    have HI := hide (index_no w f hf b p A c xs hr hl hp HC)
    rw [ha]
    clear ha hp HC hr
    go_enter Try.func28, Try.ntmps28
    go_wp2_with fail
    refine HI.out.mono ?_
    rintro e w1 ⟨rfl, hb⟩
    go_wp2_with fail
    go_ret
    exact ⟨rfl, hb⟩
  · have hp : ∃ x ∈ xs, p x.r = true := by
      rw [List.any_eq_true] at ha
      obtain ⟨r, hr', hpr⟩ := ha
      obtain ⟨x, hx, rfl⟩ := List.mem_map.1 hr'
      exact ⟨x, hx, hpr⟩
    have HI := hide (index_yes w f hf b p A c xs hr hl hp HC)
    rw [ha]
    clear ha hp HC hr
    go_enter Try.func28, Try.ntmps28
    go_wp2_with fail
    refine HI.out.mono ?_
    rintro e w1 ⟨⟨k, rfl⟩, hb⟩
    have hk0 : 0 ≤ (k : Int) := by omega
    go_wp2_with fail
    go_ret
    exact ⟨rfl, hb⟩

set_option maxHeartbeats 400000 in
theorem guarded1 (x : RdX) (b : Nat) (n : Int) (hc : w.cell? ⟨b, 0, none⟩ = some (.int .i64 n)) :
    Calls Try.prog 35 #[.agg #[.int .i64 x.r.saw, .int .i64 x.r.inn, .int .i64 x.r.guard, .int .i64 x.r.holds, .slice x.A x.r.away.length x.c], .pointer (some ⟨b, 0, none⟩)] w (Says (x.r.guard == n) w) := by
  have hb := cell_lt hc
  dsimp only at hb
  go_enter Try.func35, Try.ntmps35
  go_wp2_with fail
  go_ret
  exact ⟨rfl, moreW (selfW _) _⟩
set_option maxHeartbeats 400000 in
theorem guarded_any (gs : Nat) (W : WT) (A : Option Addr) (c : Nat) (vf : Value) (xs : List RdX) (nd : Int) (hb : Blk w gs 63 #[.int .i64 W.epoch, .int .i64 W.root, .int .i64 W.last, .slice A xs.length c, vf]) (hr : RdF w rdC A xs) (hl : xs.length ≤ 64) (hm : xs.map (·.r) = W.rds) :
    Calls Try.prog 27 #[.pointer (some ⟨gs, 0, none⟩), .int .i64 nd] w (Says (guardedW W nd) w) := by
  have hgs := hb.lt
  have hcs := fun i => Blk.cell hb i
  have HI := hide (contains_any (w.alloc (.cells #[.int .i64 nd] 3)) 35 (.inl rfl) ⟨w.heap.size, 0, none⟩ (fun r => r.guard == nd) A c xs (hr.alloc _) hl
    (fun x _ wx hx => guarded1 wx x w.heap.size nd (by rw [hx.cell (by simp)]; simp)))
  rw [hm] at HI
  have hmf : ∀ (fn : Fn) (first cap : Array Value) (w : World), (Instr.makeFunc fn first cap).run Try.prog w = .ok (.func fn first cap) w := fun _ _ _ _ => rfl
  clear hb hr hm
  go_enter Try.func27, Try.ntmps27
  go_wp2_with fail
  refine HI.out.mono ?_
  rintro e w1 ⟨rfl, hb⟩
  have HB := hide hb; clear hb
  go_wp2_with fail
  go_ret
  exact ⟨rfl, extW (moreW (selfW _) _) HB.out⟩
end
end Go.Proofs.Ytdgnejapofkadaa
