/- The walks of retire.Past, of ghosts' lets and guarded. -/
import Derived.Test.YtdgnejapofkadaaGhG
import Derived.Deep.LoopGhost
namespace Go.Proofs.Ytdgnejapofkadaa
open Go.RowKit

section
variable (w : World)
set_option maxHeartbeats 400000 in
theorem past_any (s g : Int) (hg1 : -1000000 ≤ g) (hg2 : g ≤ 1000000) : Calls Try.prog 25 #[.int .i64 s, .int .i64 g] w fun e w' => e = .returned (.bool (pastB s g)) ∧ w = w' := by
  by_cases h1 : 0 ≤ s
  · by_cases h2 : 2 ≤ g
    · have hp : pastB s g = decide (s ≤ g - 2) := by simp [pastB, h1, h2]
      rw [hp]
      clear hp
      go_enter Try.func25, Try.ntmps25
      go_wp2
      go_ret
      exact ⟨rfl, rfl⟩
    · have h3 : decide (2 ≤ g) = false := decide_eq_false h2
      have hp : pastB s g = false := by simp [pastB, h3]
      rw [hp]
      clear hp
      go_enter Try.func25, Try.ntmps25
      go_wp2
      go_ret
      exact ⟨rfl, rfl⟩
  · have h3 : decide (0 ≤ s) = false := decide_eq_false h1
    have hp : pastB s g = false := by simp [pastB, h3]
    rw [hp]
    clear hp
    go_enter Try.func25, Try.ntmps25
    go_wp2
    go_ret
    exact ⟨rfl, rfl⟩
end

theorem RdF.rd {w : World} {A : Option Addr} {xs : List RdX} (h : RdF w rdC A xs) {i : Nat} (hi : i < xs.length) :
    ∃ ad x, A = some ad ∧ xs[i]? = some x ∧ w.cell? (ad.add (i * 5)) = some (.int .i64 x.r.saw) ∧ w.cell? ((ad.add (i * 5)).add 1) = some (.int .i64 x.r.inn) ∧ w.cell? ((ad.add (i * 5)).add 2) = some (.int .i64 x.r.guard) ∧
      w.cell? ((ad.add (i * 5)).add 3) = some (.int .i64 x.r.holds) ∧ w.cell? ((ad.add (i * 5)).add 4) = some (.slice x.A x.r.away.length x.c) := by
  obtain ⟨ad, x, h1, h2, h3⟩ := RdF.at_ rdC_len (by decide) h hi
  exact ⟨ad, x, h1, h2, h3 0 _ rfl, h3 1 _ rfl, h3 2 _ rfl, h3 3 _ rfl, h3 4 _ rfl⟩
/-- what lets asks of one thread -/
def letsOk (E : Int) (t : Nat) (i : Nat) (r : RdT) : Bool := i == t || (decide (r.inn < 0) || r.inn == E)
theorem lets_yes {W : WT} {t : Nat} (h : ∀ i r, W.rds[i]? = some r → letsOk W.epoch t i r = true) : letsW W t = true := by
  unfold letsW
  rw [List.all_eq_true]
  intro p hp
  have hp' : p = (p.1, p.2) := rfl
  rw [hp', List.mem_zipIdx_iff_getElem?] at hp
  exact h p.2 p.1 hp
theorem lets_no {W : WT} {t i : Nat} {r : RdT} (hr : W.rds[i]? = some r) (h : letsOk W.epoch t i r = false) : letsW W t = false := by
  rcases hb : letsW W t with _ | _
  · rfl
  · unfold letsW at hb
    rw [List.all_eq_true] at hb
    have := hb (r, i) (by rw [List.mem_zipIdx_iff_getElem?]; exact hr)
    unfold letsOk at h
    simp only at this
    rw [h] at this
    cases this
theorem rds_get {xs : List RdX} {l : List RdT} (h : xs.map (·.r) = l) {i : Nat} {x : RdX} (hx : xs[i]? = some x) : l[i]? = some x.r := by rw [← h, List.getElem?_map, hx]; rfl
theorem rds_get' {xs : List RdX} {l : List RdT} (h : xs.map (·.r) = l) {i : Nat} {r : RdT} (hr : l[i]? = some r) : ∃ x, xs[i]? = some x ∧ x.r = r := by
  rw [← h, List.getElem?_map] at hr
  rcases hx : xs[i]? with _ | x
  · rw [hx] at hr; simp at hr
  · rw [hx] at hr; simp at hr; exact ⟨x, rfl, hr⟩

section
variable (w : World)
set_option maxHeartbeats 1000000 in
theorem lets_any (gs : Nat) (W : WT) (A : Option Addr) (c : Nat) (vf : Value) (xs : List RdX) (t : Nat) (hb : Blk w gs 63 #[.int .i64 W.epoch, .int .i64 W.root, .int .i64 W.last, .slice A xs.length c, vf]) (hr : RdF w rdC A xs) (hl : xs.length ≤ 64) (hm : xs.map (·.r) = W.rds) :
    Calls Try.prog 22 #[.pointer (some ⟨gs, 0, none⟩), .int .i64 t] w fun e w' => e = .returned (.bool (letsW W t)) ∧ Below w.heap.size w w' := by
  obtain ⟨n, hn⟩ : ∃ n, n = xs.length := ⟨_, rfl⟩
  rw [← hn] at hl hb
  have hgs := hb.lt
  have hcs := fun i => Blk.cell hb i
  have HR := hide hr; have HN := hide hn; have HB := hide hb; have HM := hide hm
  clear hr hn hb hm
  obtain ⟨E, hE⟩ : ∃ E, E = W.epoch := ⟨_, rfl⟩
  rw [← hE] at hcs
  have HE := hide hE; clear hE
  go_enter Try.func22, Try.ntmps22
  go_wp2_with fail
  clear hcs
  go_loopw [13] (fun i wr => ∃ k : Nat, k ≤ n ∧ i = .int .i64 k ∧ Hid (∀ j r, j < k → W.rds[j]? = some r → letsOk W.epoch t j r = true) ∧ Hid (Below w.heap.size w wr)) (fun i _ => n - (intOf i).toNat)
  case atStart => exact ⟨0, Nat.zero_le _, rfl, fun j r hj => by omega, Below.refl _ _⟩
  case round =>
    obtain ⟨k, hk, rfl, HS, HD⟩ := hrel
    have hsz := HD.out.size
    by_cases hlt : k < n
    · obtain ⟨ad, x, hA, hx, c0, c1, c2, c3, c4⟩ := RdF.rd (HR.out.below HD.out) (i := k) (by rw [← HN.out]; exact hlt)
      subst hA
      rw [add_lit _ _ (by decide)] at c1 c2 c3 c4
      have hcs := fun i => Blk.cell (HB.out.extW HD.out) i
      rw [← HE.out] at hcs
      have hgs2 : gs < wr.heap.size := by omega
      have HX := hide hx; clear hx
      have next : Hid (letsOk W.epoch t k x.r = true → ∀ j r, j < k + 1 → W.rds[j]? = some r → letsOk W.epoch t j r = true) := by
        intro hok j r hj hr'
        by_cases hjk : j = k
        · subst hjk
          have := rds_get HM.out HX.out
          rw [this] at hr'
          injection hr' with hr'
          subst hr'
          exact hok
        · exact HS.out j r (by omega) hr'
      by_cases h1 : k = t
      · have hd : ((k : Int) != (t : Int)) = false := by simp; omega
        have hd2 : (k != t) = false := by simp; omega
        have H1 := hide h1; clear h1
        go_wp2_with fail
        go_quiet (fail)
        go_wp2_with fail
        go_roundw
        case rel => exact ⟨k + 1, by omega, by go_num, next.out (by simp [letsOk, H1.out]), extW HD.out (below_drewN (moreW (selfW _) _) _)⟩
        case measure => simp [intOf]; omega
      · have hd : ((k : Int) != (t : Int)) = true := by simp; omega
        have hd2 : (k != t) = true := by simp; omega
        have H1 := hide h1; clear h1
        by_cases h2 : x.r.inn < 0
        · have hd3 : decide (0 ≤ x.r.inn) = false := decide_eq_false (by omega)
          go_wp2_with fail
          go_quiet (fail)
          go_wp2_with fail
          go_roundw
          case rel => exact ⟨k + 1, by omega, by go_num, next.out (by simp [letsOk, h2]), extW HD.out (below_drewN (moreW (selfW _) _) _)⟩
          case measure => simp [intOf]; omega
        · have hd3 : 0 ≤ x.r.inn := by omega
          clear h2
          by_cases h3 : x.r.inn = E
          · have hd4 : (x.r.inn != E) = false := by simp; exact h3
            have H3 := hide h3; clear h3
            go_wp2_with fail
            go_quiet (fail)
            go_wp2_with fail
            go_roundw
            case rel => exact ⟨k + 1, by omega, by go_num, next.out (by have := H3.out; have := HE.out; simp [letsOk]; omega), extW HD.out (below_drewN (moreW (selfW _) _) _)⟩
            case measure => simp [intOf]; omega
          · have hd4 : (x.r.inn != E) = true := by simp; exact h3
            have H3 := hide h3; clear h3
            go_wp2_with fail
            go_quiet (fail)
            go_wp2_with fail
            go_ret
            refine ⟨ret_bool (lets_no (rds_get HM.out HX.out) ?_).symm, extW HD.out (below_drewN (moreW (selfW _) _) _)⟩
            have := H3.out; have := HE.out; have := H1.out
            simp [letsOk]; omega
    · go_wp2_with fail
      go_ret
      refine ⟨ret_bool (lets_yes fun i r hr => HS.out i r ?_ hr).symm, HD.out⟩
      have := len_of hr
      rw [← HM.out, List.length_map, ← HN.out] at this
      omega
end
end Go.Proofs.Ytdgnejapofkadaa
