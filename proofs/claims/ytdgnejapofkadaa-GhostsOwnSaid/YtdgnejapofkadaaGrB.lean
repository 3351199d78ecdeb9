/- The walks of the reference's New, lets, guarded, Past. -/
import Derived.Test.YtdgnejapofkadaaGrA
import Derived.Test.YtdgnejapofkadaaGhO
namespace Go.Proofs.Ytdgnejapofkadaa.Ref
open Go.RowKit

theorem RdF.old {w : World} {A : Option Addr} {xs : List OldT} (h : RdF w oldC A xs) {i : Nat} (hi : i < xs.length) :
    ∃ ad o, A = some ad ∧ xs[i]? = some o ∧ w.cell? (ad.add (i * 2)) = some (.int .i64 o.node) ∧ w.cell? ((ad.add (i * 2)).add 1) = some (.int .i64 o.stamp) := by
  obtain ⟨ad, x, h1, h2, h3⟩ := RdF.at_ oldC_len (by decide) h hi
  exact ⟨ad, x, h1, h2, h3 0 _ rfl, h3 1 _ rfl⟩
section
variable (w : World)
set_option maxHeartbeats 1000000 in
theorem rnew_any (nt : Int) : Calls Try.prog 8 #[.int .i64 nt] w fun e w' => (∃ g, e = .returned (.pointer (some ⟨g, 0, none⟩)) ∧ ∃ vr vf xs, StV w' w.heap.size g (newW (cntT nt)) vr vf xs) ∧ Below w.heap.size w w' := by
  have hN1 : (cntT nt : Int) ≤ nt ∨ cntT nt = 0 := by unfold cntT; omega
  have hN2 : cntT nt ≤ 64 := cntT_le nt
  have hN3 : nt ≤ (cntT nt : Int) ∨ cntT nt = 64 := by unfold cntT; omega
  generalize cntT nt = N at *
  go_enter Try.func8, Try.ntmps8
  go_wp2_with fail
  go_loopw [4] (fun i wr => ∃ (k : Nat) (vr : Value), k ≤ N ∧ i = .int .i64 k ∧ Hid (OwnF wr w.heap.size 35 5 rdC vr (List.replicate k newX)) ∧ Hid (Blk wr w.heap.size 32 #[.int .i64 1, .int .i64 1, .int .i64 1, vr, .slice none 0 0]) ∧ Hid (Below w.heap.size w wr)) (fun i _ => N - (intOf i).toNat)
  case atStart => exact ⟨0, _, Nat.zero_le _, rfl, OwnF.nil _ _ _ _ _, Blk.new _ _ _, moreW (selfW w) _⟩
  case round =>
    obtain ⟨k, vr, hk, rfl, HO, HG, HB⟩ := hrel
    have hsz := HB.out.size
    have hgs := HG.out.lt
    have hcg := fun i => Blk.cell HG.out i
    have hfg := fun i => Blk.free HG.out i
    by_cases hlt : k < N
    · have hd1 : (k : Int) < nt := by omega
      have hd2 : (k : Int) < 64 := by omega
      have HOA := hide (HO.out.alloc (.cells #[.int .i64 0, .int .i64 (-1), .int .i64 0, .int .i64 0, .slice none 0 0] 35))
      have HGA := hide (HG.out.alloc (.cells #[.int .i64 0, .int .i64 (-1), .int .i64 0, .int .i64 0, .slice none 0 0] 35))
      go_wp2_with (at_builtin; refine wpList_appF _ rfl _ _ 29 rfl w.heap.size 35 5 56 (.agg #[.int .i64 0, .int .i64 0, .int .i64 0, .int .i64 0, .slice none 0 0]) rdC rdC_len rdC_one Try.underlying29 info_rd rfl (by decide) _ (List.replicate k newX) rfl HOA.out (some ⟨wr.heap.size, 0, none⟩) 1 1 [newX] rfl rfl ?c4 ?c5 ?c6 ?c7 ?_)
      case c4 => exact Rd.lit wr (rdC newX) _
      case c5 => simp; omega
      case c6 => simp; omega
      case c7 => simp; omega
      intro v' w1 hown' hgrow _
      have hG1 : Blk w1 w.heap.size 32 _ := Blk.grown HGA.out hgrow (own_other HOA.out HGA.out (by decide))
      have hB1 := (show OwnF _ _ _ _ _ _ _ from HOA.out).below_step (HB.out.alloc (by omega) _) hgrow (by simp; omega) (Nat.le_refl _)
      rw [rep_snoc] at hown'
      obtain ⟨A2, c2, hv2⟩ := OwnF.shape hown'
      rw [List.length_replicate] at hv2
      subst hv2
      have HO2 := hide (own_far hown' hG1 (by decide) 3 (.slice A2 (k + 1) c2))
      have HG2 : Hid (Blk _ _ _ _) := hide (Blk.set_ hG1 3 (.slice A2 (k + 1) c2))
      have HB2 := hide (hB1.setCell (p := ⟨w.heap.size, 3, none⟩) (by simp) (.slice A2 (k + 1) c2))
      have hcg1 := fun i => Blk.cell hG1 i
      have hfg1 := fun i => Blk.free hG1 i
      have hgs1 := hG1.lt
      clear hown' hgrow hG1 hB1 hcg hfg
      go_wp2_with fail
      go_roundw
      case rel => exact ⟨k + 1, _, by omega, by go_num, HO2.out, HG2.out, HB2.out⟩
      case measure => simp [intOf]; omega
    · have hkn : N = k := by omega
      subst hkn
      have HE : Hid (StV wr w.heap.size w.heap.size (newW N) vr (.slice none 0 0) (List.replicate N newX)) :=
        ⟨HG.out, ⟨newX_map _, HO.out, fun x hx => by
          have := (List.mem_replicate.1 hx).2
          subst this
          exact OwnF.nil _ _ _ _ _, newX_apart _, OwnI.nil _ _ _ _⟩, Nat.le_refl _⟩
      by_cases h1 : (N : Int) < nt
      · have h2 : ¬ (N : Int) < 64 := by omega
        go_wp2_with fail
        go_ret
        exact ⟨⟨_, rfl, _, _, _, HE.out⟩, HB.out⟩
      · have h2 : decide ((N : Int) < nt) = false := decide_eq_false h1
        go_wp2_with fail
        go_ret
        exact ⟨⟨_, rfl, _, _, _, HE.out⟩, HB.out⟩

set_option maxHeartbeats 400000 in
theorem past_any (s g : Int) (hg1 : -1000000 ≤ g) (hg2 : g ≤ 1000000) : Calls Try.prog 34 #[.int .i64 s, .int .i64 g] w fun e w' => e = .returned (.bool (pastB s g)) ∧ w = w' := by
  by_cases h1 : 0 ≤ s
  · by_cases h2 : 2 ≤ g
    · have hp : pastB s g = decide (s ≤ g - 2) := by simp [pastB, h1, h2]
      rw [hp]
      clear hp
      go_enter Try.func34, Try.ntmps34
      go_wp2
      go_ret
      exact ⟨rfl, rfl⟩
    · have h3 : decide (2 ≤ g) = false := decide_eq_false h2
      have hp : pastB s g = false := by simp [pastB, h3]
      rw [hp]
      clear hp
      go_enter Try.func34, Try.ntmps34
      go_wp2
      go_ret
      exact ⟨rfl, rfl⟩
  · have h3 : decide (0 ≤ s) = false := decide_eq_false h1
    have hp : pastB s g = false := by simp [pastB, h3]
    rw [hp]
    clear hp
    go_enter Try.func34, Try.ntmps34
    go_wp2
    go_ret
    exact ⟨rfl, rfl⟩

set_option maxHeartbeats 1000000 in
theorem lets_any (gs : Nat) (W : WT) (A : Option Addr) (c : Nat) (vf : Value) (xs : List RdX) (t : Nat) (hb : Blk w gs 32 #[.int .i64 W.epoch, .int .i64 W.root, .int .i64 W.last, .slice A xs.length c, vf]) (hr : RdF w rdC A xs) (hl : xs.length ≤ 64) (hm : xs.map (·.r) = W.rds) (hi : ∀ r ∈ W.rds, r.inn = -1 ∨ 0 < r.inn) :
    Calls Try.prog 18 #[.pointer (some ⟨gs, 0, none⟩), .int .i64 t] w fun e w' => e = .returned (.bool (letsW W t)) ∧ Below w.heap.size w w' := by
  obtain ⟨n, hn⟩ : ∃ n, n = xs.length := ⟨_, rfl⟩
  rw [← hn] at hl hb
  have hgs := hb.lt
  have hcs := fun i => Blk.cell hb i
  have HR := hide hr; have HN := hide hn; have HB := hide hb; have HM := hide hm; have HI := hide hi
  clear hr hn hb hm hi
  obtain ⟨E, hE⟩ : ∃ E, E = W.epoch := ⟨_, rfl⟩
  rw [← hE] at hcs
  have HE := hide hE; clear hE
  go_enter Try.func18, Try.ntmps18
  go_wp2_with fail
  clear hcs
  go_loopw [12] (fun i wr => ∃ k : Nat, k ≤ n ∧ i = .int .i64 k ∧ Hid (∀ j r, j < k → W.rds[j]? = some r → letsOk W.epoch t j r = true) ∧ Hid (Below w.heap.size w wr)) (fun i _ => n - (intOf i).toNat)
  case atStart => exact ⟨0, Nat.zero_le _, rfl, fun j r hj => by omega, Below.refl _ _⟩
  case round =>
    obtain ⟨k, hk, rfl, HS, HD⟩ := hrel
    have hsz := HD.out.size
    by_cases hlt : k < n
    · obtain ⟨ad, x, hA, hx, c0, c1, c2, c3, c4⟩ := RdF.rd (HR.out.below HD.out) (i := k) (by rw [← HN.out]; exact hlt)
      subst hA
      rw [add_lit _ _ (by decide)] at c1 c2 c3 c4
      have hcs := fun i => Blk.cell (HB.out.extW HD.out) i
      rw [← HE.out] at hcs
      have hgs2 : gs < wr.heap.size := by omega
      have HX := hide hx; clear hx
      have hin := HI.out x.r (mem_of_get (rds_get HM.out HX.out))
      have next : Hid (letsOk W.epoch t k x.r = true → ∀ j r, j < k + 1 → W.rds[j]? = some r → letsOk W.epoch t j r = true) := by
        intro hok j r hj hr'
        by_cases hjk : j = k
        · subst hjk
          have := rds_get HM.out HX.out
          rw [this] at hr'
          injection hr' with hr'
          subst hr'
          exact hok
        · exact HS.out j r (by omega) hr'
      by_cases h1 : k = t
      · have hd : ((k : Int) != (t : Int)) = false := by simp; omega
        have hd2 : (k != t) = false := by simp; omega
        have H1 := hide h1; clear h1 hin
        go_wp2_with fail
        go_quiet (fail)
        go_wp2_with fail
        go_roundw
        case rel => exact ⟨k + 1, by omega, by go_num, next.out (by simp [letsOk, H1.out]), extW HD.out (below_drewN (moreW (selfW _) _) _)⟩
        case measure => simp [intOf]; omega
      · have hd : ((k : Int) != (t : Int)) = true := by simp; omega
        have hd2 : (k != t) = true := by simp; omega
        have H1 := hide h1; clear h1
        by_cases h2 : x.r.inn = -1
        · have hd3 : (x.r.inn != -1) = false := by simpa using h2
          have H2 := hide h2; clear h2 hin
          go_wp2_with fail
          go_quiet (fail)
          go_wp2_with fail
          go_roundw
          case rel => exact ⟨k + 1, by omega, by go_num, next.out (by have := H2.out; simp [letsOk]; omega), extW HD.out (below_drewN (moreW (selfW _) _) _)⟩
          case measure => simp [intOf]; omega
        · have hd3 : (x.r.inn != -1) = true := by simpa using h2
          have hin2 : 0 < x.r.inn := by omega
          have HI2 := hide hin2
          have H2 := hide h2; clear h2 hin hin2
          by_cases h3 : x.r.inn = E
          · have hd4 : (x.r.inn != E) = false := by simp; exact h3
            have H3 := hide h3; clear h3
            go_wp2_with fail
            go_quiet (fail)
            go_wp2_with fail
            go_roundw
            case rel => exact ⟨k + 1, by omega, by go_num, next.out (by have := H3.out; have := HE.out; simp [letsOk]; omega), extW HD.out (below_drewN (moreW (selfW _) _) _)⟩
            case measure => simp [intOf]; omega
          · have hd4 : (x.r.inn != E) = true := by simp; exact h3
            have H3 := hide h3; clear h3
            go_wp2_with fail
            go_quiet (fail)
            go_wp2_with fail
            go_ret
            refine ⟨ret_bool (lets_no (rds_get HM.out HX.out) ?_).symm, extW HD.out (below_drewN (moreW (selfW _) _) _)⟩
            have := H3.out; have := HE.out; have := H1.out; have := HI2.out
            simp [letsOk]; omega
    · go_wp2_with fail
      go_ret
      refine ⟨ret_bool (lets_yes fun i r hr => HS.out i r ?_ hr).symm, HD.out⟩
      have := len_of hr
      rw [← HM.out, List.length_map, ← HN.out] at this
      omega

set_option maxHeartbeats 1000000 in
theorem guarded_any (gs : Nat) (W : WT) (A : Option Addr) (c : Nat) (vf : Value) (xs : List RdX) (nd : Int) (hb : Blk w gs 32 #[.int .i64 W.epoch, .int .i64 W.root, .int .i64 W.last, .slice A xs.length c, vf]) (hr : RdF w rdC A xs) (hl : xs.length ≤ 64) (hm : xs.map (·.r) = W.rds) :
    Calls Try.prog 33 #[.pointer (some ⟨gs, 0, none⟩), .int .i64 nd] w (Says (guardedW W nd) w) := by
  obtain ⟨n, hn⟩ : ∃ n, n = xs.length := ⟨_, rfl⟩
  rw [← hn] at hl hb
  have hgs := hb.lt
  have hcs := fun i => Blk.cell hb i
  have HR := hide hr; have HN := hide hn; have HM := hide hm
  clear hr hn hb hm
  go_enter Try.func33, Try.ntmps33
  go_wp2_with fail
  clear hcs
  go_loopw [12] (fun i wr => ∃ k : Nat, k ≤ n ∧ i = .int .i64 k ∧ Hid (∀ j r, j < k → W.rds[j]? = some r → (r.guard == nd) = false) ∧ Hid (Below w.heap.size w wr)) (fun i _ => n - (intOf i).toNat)
  case atStart => exact ⟨0, Nat.zero_le _, rfl, fun j r hj => by omega, Below.refl _ _⟩
  case round =>
    obtain ⟨k, hk, rfl, HS, HD⟩ := hrel
    by_cases hlt : k < n
    · obtain ⟨ad, x, hA, hx, c0, c1, c2, c3, c4⟩ := RdF.rd (HR.out.below HD.out) (i := k) (by rw [← HN.out]; exact hlt)
      subst hA
      rw [add_lit _ _ (by decide)] at c1 c2 c3 c4
      have HX := hide hx; clear hx
      by_cases h1 : x.r.guard = nd
      · have hd : (x.r.guard == nd) = true := by simpa using h1
        have H1 := hide h1; clear h1
        go_wp2_with fail
        go_ret
        refine ⟨ret_bool ?_, moreW HD.out _⟩
        symm
        unfold guardedW
        rw [List.any_eq_true]
        exact ⟨x.r, mem_of_get (rds_get HM.out HX.out), by simpa using H1.out⟩
      · have hd : (x.r.guard == nd) = false := by simpa using h1
        have H1 := hide h1; have HDD := hide hd; clear h1
        go_wp2_with fail
        go_roundw
        case rel =>
          refine ⟨k + 1, by omega, by go_num, fun j r hj hr' => ?_, moreW HD.out _⟩
          by_cases hjk : j = k
          · subst hjk
            rw [rds_get HM.out HX.out] at hr'
            injection hr' with hr'
            subst hr'
            exact HDD.out
          · exact HS.out j r (by omega) hr'
        case measure => simp [intOf]; omega
    · go_wp2_with fail
      go_ret
      refine ⟨ret_bool ?_, HD.out⟩
      symm
      unfold guardedW
      rw [List.any_eq_false]
      intro r hr
      obtain ⟨j, hj⟩ := List.getElem?_of_mem hr
      have := len_of hj
      rw [← HM.out, List.length_map, ← HN.out] at this
      have := HS.out j r (by omega) hj
      simpa using this
end
end Go.Proofs.Ytdgnejapofkadaa.Ref
