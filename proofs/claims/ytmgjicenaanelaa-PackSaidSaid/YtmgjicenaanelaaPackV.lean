/- The walks of pack.may, Fits, stopgateref02.Fits, stopgateplain.Cases, Req, pack.same. -/
import Derived.Test.YtmgjicenaanelaaPackW
import Derived.Test.YtmgjicenaanelaaEpochV
namespace Go.Proofs.Ytmgjicenaanelaa
open Go.RowKit

theorem case_stood : Try.prog.stoodInHeld 64 = false := by kernel_rfl
theorem case_guard : Try.prog.eqGuardType Try.prog.depth 64 = false := by kernel_rfl
/-- a case: its direction, its handle, its value -/
def caseC (c : Int × Int × Int) : List Value := [.int .i64 c.1, .int .i64 c.2.1, .int .i64 c.2.2]
theorem caseC_len (c : Int × Int × Int) : (caseC c).length = 3 := rfl
theorem caseC_one (c : Int × Int × Int) : ∀ u ∈ caseC c, u.oneCell' = true := by intro u hu; simp [caseC] at hu; rcases hu with rfl | rfl | rfl <;> rfl
theorem case_at {w : World} {A : Option Addr} {cs : List (Int × Int × Int)} (h : RdF w caseC A cs) {i : Nat} (hi : i < cs.length) :
    ∃ ad d hd v, A = some ad ∧ cs[i]? = some (d, hd, v) ∧ w.cell? (ad.add (i * 3)) = some (.int .i64 d) ∧
      w.cell? ⟨(ad.add (i * 3)).block, (ad.add (i * 3)).off + 1, none⟩ = some (.int .i64 hd) ∧ w.cell? ⟨(ad.add (i * 3)).block, (ad.add (i * 3)).off + 2, none⟩ = some (.int .i64 v) := by
  obtain ⟨ad, ⟨d, hd, v⟩, h1, h2, h3⟩ := RdF.at_ caseC_len (by decide) h hi
  refine ⟨ad, d, hd, v, h1, h2, by simpa [add_zero] using h3 0 _ rfl, ?_, ?_⟩
  · have := h3 1 _ rfl
    rwa [add_lit _ _ (by decide)] at this
  · have := h3 2 _ rfl
    rwa [add_lit _ _ (by decide)] at this

def mayB (d h v : Int) : Bool := (d == 1 || d == 2) && fitsB h 65536 && fitsB v 4294967296
def mayC (c : Int × Int × Int) : Bool := mayB c.1 c.2.1 c.2.2
def fitsQ (ki ar va : Int) (cs : List (Int × Int × Int)) : Bool := decide (1 ≤ ki ∧ ki ≤ 9) && fitsB ar 65536 && fitsB va 4294967296 && decide (cs.length ≤ 3) && cs.all mayC

theorem all_so_far {α : Type} {p : α → Bool} {cs : List α} {n k : Nat} (hn : n = cs.length) (hk : ¬ k < n) (h : ∀ (j : Nat) (c : α), j < k → cs[j]? = some c → p c = true) : cs.all p = true := by
  rw [List.all_eq_true]
  intro c hc
  obtain ⟨i, hi⟩ := List.mem_iff_getElem?.1 hc
  exact h i c (by have := len_of hi; omega) hi
theorem all_not {α : Type} {p : α → Bool} {cs : List α} {k : Nat} {c : α} (h : cs[k]? = some c) (hp : p c = false) : cs.all p = false := by
  rcases ha : cs.all p with _ | _
  · rfl
  · have := List.all_eq_true.1 ha c (List.mem_of_getElem? h)
    rw [hp] at this; cases this
theorem so_far {α : Type} {p : α → Prop} {cs : List α} {k : Nat} {c : α} (h : ∀ (j : Nat) (c : α), j < k → cs[j]? = some c → p c) (hc : cs[k]? = some c) (hp : p c) : ∀ (j : Nat) (c : α), j < k + 1 → cs[j]? = some c → p c := by
  intro j c' hj hc'
  by_cases hjk : j = k
  · subst hjk
    rw [hc] at hc'
    injection hc' with hc'
    rw [← hc']; exact hp
  · exact h j c' (by omega) hc'

section
variable (w : World) (d h v : Int)

set_option maxHeartbeats 1000000 in
theorem may_any : Calls Try.prog 58 #[.agg #[.int .i64 d, .int .i64 h, .int .i64 v]] w fun e w' => e = .returned (.bool (mayB d h v)) ∧ Below w.heap.size w w' := by
  by_cases hd : d = 1 ∨ d = 2
  · have hdb : (d == 1) = true ∨ (d == 1) = false ∧ (d == 2) = true := by rcases hd with rfl | rfl <;> decide
    have hm : mayB d h v = (fitsB h 65536 && fitsB v 4294967296) := by rcases hd with rfl | rfl <;> simp [mayB]
    have HM := hide hm; have HD := hide hd; clear hm hd
    rcases hdb with hdb | ⟨hdb, hdb'⟩
    all_goals
      go_enter Try.func58, Try.ntmps58
      go_wp2_with fail
      refine (fits16 _ _).mono ?_; rintro e w' ⟨rfl, rfl⟩
      rcases h1 : fitsB h 65536 with _ | _
      · have H1 := hide h1; clear h1
        go_wp2_with fail
        go_ret
        exact ⟨ret_bool (by rw [HM.out, H1.out]; rfl), moreW (selfW _) _⟩
      · have H1 := hide h1; clear h1
        go_wp2_with fail
        refine (fits32 _ _).mono ?_; rintro e w' ⟨rfl, rfl⟩
        go_wp2_with fail
        go_ret
        exact ⟨ret_bool (by rw [HM.out, H1.out]; simp), moreW (selfW _) _⟩
  · have h1 : (d == 1) = false := by simp; omega
    have h2 : (d == 2) = false := by simp; omega
    clear hd
    go_enter Try.func58, Try.ntmps58
    go_wp2_with fail
    go_ret
    exact ⟨ret_bool (by unfold mayB; rw [h1, h2]; simp), moreW (selfW _) _⟩
end

section
variable (w : World) (ki ar va : Int) (df : Bool) (A : Option Addr) (c : Nat) (cs : List (Int × Int × Int))

set_option maxHeartbeats 1000000 in
theorem fits_any (hl : cs.length ≤ 9223372036854775807) (hr : RdF w caseC A cs) :
    Calls Try.prog 40 #[.agg #[.int .i64 ki, .int .i64 ar, .int .i64 va, .bool df, .slice A cs.length c]] w fun e w' => e = .returned (.bool (fitsQ ki ar va cs)) ∧ Below w.heap.size w w' := by
  obtain ⟨n, hn⟩ : ∃ n, n = cs.length := ⟨_, rfl⟩
  rw [← hn] at hl ⊢
  have HN := hide hn; clear hn
  have HR := hide hr; clear hr
  by_cases h1 : ki < 1
  · have hq : fitsQ ki ar va cs = false := by unfold fitsQ; rw [show decide (1 ≤ ki ∧ ki ≤ 9) = false by simp; omega]; simp
    have HQ := hide hq; clear hq
    go_enter Try.func40, Try.ntmps40
    go_wp2_with fail
    go_ret
    exact ⟨ret_bool HQ.out.symm, moreW (selfW _) _⟩
  by_cases h2 : 9 < ki
  · have hq : fitsQ ki ar va cs = false := by unfold fitsQ; rw [show decide (1 ≤ ki ∧ ki ≤ 9) = false by simp; omega]; simp
    have HQ := hide hq; clear hq
    go_enter Try.func40, Try.ntmps40
    go_wp2_with fail
    go_ret
    exact ⟨ret_bool HQ.out.symm, moreW (selfW _) _⟩
  have hk : decide (1 ≤ ki ∧ ki ≤ 9) = true := by simp; omega
  rcases h3 : fitsB ar 65536 with _ | _
  · have hq : fitsQ ki ar va cs = false := by unfold fitsQ; rw [h3]; simp
    have HQ := hide hq; have H3 := hide h3; clear hq h3 hk
    go_enter Try.func40, Try.ntmps40
    go_wp2_with fail
    refine (fits16 _ _).mono ?_; rw [H3.out]; rintro e w' ⟨rfl, rfl⟩
    go_wp2_with fail
    go_ret
    exact ⟨ret_bool HQ.out.symm, moreW (selfW _) _⟩
  rcases h4 : fitsB va 4294967296 with _ | _
  · have hq : fitsQ ki ar va cs = false := by unfold fitsQ; rw [h4]; simp
    have HQ := hide hq; have H3 := hide h3; have H4 := hide h4; clear hq h3 h4 hk
    go_enter Try.func40, Try.ntmps40
    go_wp2_with fail
    refine (fits16 _ _).mono ?_; rw [H3.out]; rintro e w' ⟨rfl, rfl⟩
    go_wp2_with fail
    refine (fits32 _ _).mono ?_; rw [H4.out]; rintro e w' ⟨rfl, rfl⟩
    go_wp2_with fail
    go_ret
    exact ⟨ret_bool HQ.out.symm, moreW (selfW _) _⟩
  by_cases h5 : 3 < n
  · have hq : fitsQ ki ar va cs = false := by unfold fitsQ; rw [show decide (cs.length ≤ 3) = false by rw [← HN.out]; simp; omega]; simp
    have HQ := hide hq; have H3 := hide h3; have H4 := hide h4; clear hq h3 h4 hk
    go_enter Try.func40, Try.ntmps40
    go_wp2_with fail
    refine (fits16 _ _).mono ?_; rw [H3.out]; rintro e w' ⟨rfl, rfl⟩
    go_wp2_with fail
    refine (fits32 _ _).mono ?_; rw [H4.out]; rintro e w' ⟨rfl, rfl⟩
    go_wp2_with fail
    go_ret
    exact ⟨ret_bool HQ.out.symm, moreW (selfW _) _⟩
  have hq : fitsQ ki ar va cs = cs.all mayC := by unfold fitsQ; rw [h3, h4, hk, show decide (cs.length ≤ 3) = true by rw [← HN.out]; simp; omega]; simp
  have HQ := hide hq; have H3 := hide h3; have H4 := hide h4; clear hq h3 h4 hk hl
  go_enter Try.func40, Try.ntmps40
  go_wp2_with fail
  refine (fits16 _ _).mono ?_; rw [H3.out]; rintro e w' ⟨rfl, rfl⟩
  go_wp2_with fail
  refine (fits32 _ _).mono ?_; rw [H4.out]; rintro e w' ⟨rfl, rfl⟩
  go_wp2_with fail
  go_loopw [34] (fun i wr => ∃ k : Nat, k ≤ n ∧ i = .int .i64 k ∧ Below w.heap.size w wr ∧ Hid (∀ (j : Nat) (x : Int × Int × Int), j < k → cs[j]? = some x → mayC x = true)) (fun i _ => n - (intOf i).toNat)
  case atStart => exact ⟨0, Nat.zero_le _, rfl, moreW (selfW _) _, fun j x hj => by omega⟩
  case round =>
    obtain ⟨k, hk, rfl, hb, HS⟩ := hrel
    by_cases hlt : k < n
    · obtain ⟨ad, d, hd, v, hA, hx, hc0, hc1, hc2⟩ := case_at (HR.out.below hb) (i := k) (by rw [← HN.out]; exact hlt)
      subst hA
      have HX := hide hx; clear hx
      go_wp2_with fail
      refine (may_any _ _ _ _).mono ?_
      rcases hm : mayB d hd v with _ | _
      · have HM := hide hm; clear hm
        rintro e w1 ⟨rfl, hb1⟩
        go_wp2_with fail
        go_ret
        exact ⟨ret_bool (by rw [HQ.out, all_not HX.out HM.out]), extW (moreW hb _) hb1⟩
      · have HM := hide hm; clear hm
        rintro e w1 ⟨rfl, hb1⟩
        go_wp2_with fail
        go_roundw
        case rel => exact ⟨k + 1, by omega, by go_num, extW (moreW hb _) hb1, so_far (p := fun x => mayC x = true) HS.out HX.out HM.out⟩
        case measure => simp [intOf]; omega
    · go_wp2_with fail
      go_ret
      exact ⟨ret_bool (by rw [HQ.out, all_so_far HN.out hlt HS.out]), hb⟩
set_option maxHeartbeats 2000000 in
theorem rfits_any (hl : cs.length ≤ 9223372036854775807) (hr : RdF w caseC A cs) :
    Calls Try.prog 41 #[.agg #[.int .i64 ki, .int .i64 ar, .int .i64 va, .bool df, .slice A cs.length c]] w fun e w' => e = .returned (.bool (fitsQ ki ar va cs)) ∧ Below w.heap.size w w' := by
  obtain ⟨n, hn⟩ : ∃ n, n = cs.length := ⟨_, rfl⟩
  rw [← hn] at hl ⊢
  have HN := hide hn; clear hn
  have HR := hide hr; clear hr
  by_cases h1 : ki < 1
  · have hq : fitsQ ki ar va cs = false := by unfold fitsQ; rw [show decide (1 ≤ ki ∧ ki ≤ 9) = false by simp; omega]; simp
    have HQ := hide hq; clear hq
    go_enter Try.func41, Try.ntmps41
    go_wp2_with fail
    go_ret
    exact ⟨ret_bool HQ.out.symm, moreW (selfW _) _⟩
  by_cases h2 : 9 < ki
  · have hq : fitsQ ki ar va cs = false := by unfold fitsQ; rw [show decide (1 ≤ ki ∧ ki ≤ 9) = false by simp; omega]; simp
    have HQ := hide hq; clear hq
    go_enter Try.func41, Try.ntmps41
    go_wp2_with fail
    go_ret
    exact ⟨ret_bool HQ.out.symm, moreW (selfW _) _⟩
  by_cases h3 : ar < 0
  · have hq : fitsQ ki ar va cs = false := by unfold fitsQ; rw [show fitsB ar 65536 = false by simp [fitsB]; omega]; simp
    have HQ := hide hq; clear hq
    go_enter Try.func41, Try.ntmps41
    go_wp2_with fail
    go_ret
    exact ⟨ret_bool HQ.out.symm, moreW (selfW _) _⟩
  by_cases h4 : 65535 < ar
  · have hq : fitsQ ki ar va cs = false := by unfold fitsQ; rw [show fitsB ar 65536 = false by simp [fitsB]; omega]; simp
    have HQ := hide hq; clear hq
    go_enter Try.func41, Try.ntmps41
    go_wp2_with fail
    go_ret
    exact ⟨ret_bool HQ.out.symm, moreW (selfW _) _⟩
  by_cases h5 : va < 0
  · have hq : fitsQ ki ar va cs = false := by unfold fitsQ; rw [show fitsB va 4294967296 = false by simp [fitsB]; omega]; simp
    have HQ := hide hq; clear hq
    go_enter Try.func41, Try.ntmps41
    go_wp2_with fail
    go_ret
    exact ⟨ret_bool HQ.out.symm, moreW (selfW _) _⟩
  by_cases h6 : 4294967295 < va
  · have hq : fitsQ ki ar va cs = false := by unfold fitsQ; rw [show fitsB va 4294967296 = false by simp [fitsB]; omega]; simp
    have HQ := hide hq; clear hq
    go_enter Try.func41, Try.ntmps41
    go_wp2_with fail
    go_ret
    exact ⟨ret_bool HQ.out.symm, moreW (selfW _) _⟩
  by_cases h7 : 3 < n
  · have hq : fitsQ ki ar va cs = false := by unfold fitsQ; rw [show decide (cs.length ≤ 3) = false by rw [← HN.out]; simp; omega]; simp
    have HQ := hide hq; clear hq
    go_enter Try.func41, Try.ntmps41
    go_wp2_with fail
    go_ret
    exact ⟨ret_bool HQ.out.symm, moreW (selfW _) _⟩
  have hq : fitsQ ki ar va cs = cs.all mayC := by
    unfold fitsQ
    rw [show fitsB ar 65536 = true by simp [fitsB]; omega, show fitsB va 4294967296 = true by simp [fitsB]; omega, show decide (1 ≤ ki ∧ ki ≤ 9) = true by simp; omega, show decide (cs.length ≤ 3) = true by rw [← HN.out]; simp; omega]; simp
  have HQ := hide hq; clear hq hl
  go_enter Try.func41, Try.ntmps41
  go_wp2_with fail
  go_loopw [42] (fun i wr => ∃ k : Nat, k ≤ n ∧ i = .int .i64 k ∧ Below w.heap.size w wr ∧ Hid (∀ (j : Nat) (x : Int × Int × Int), j < k → cs[j]? = some x → mayC x = true)) (fun i _ => n - (intOf i).toNat)
  case atStart => exact ⟨0, Nat.zero_le _, rfl, moreW (selfW _) _, fun j x hj => by omega⟩
  case round =>
    obtain ⟨k, hk, rfl, hb, HS⟩ := hrel
    by_cases hlt : k < n
    · obtain ⟨ad, d, hd, v, hA, hx, hc0, hc1, hc2⟩ := case_at (HR.out.below hb) (i := k) (by rw [← HN.out]; exact hlt)
      subst hA
      have HX := hide hx; clear hx
      rcases hm : mayB d hd v with _ | _
      · have hm' : ¬ (1 ≤ d ∧ d ≤ 2 ∧ 0 ≤ hd ∧ hd ≤ 65535 ∧ 0 ≤ v ∧ v ≤ 4294967295) := by
          intro h
          have : mayB d hd v = true := by
            unfold mayB
            rw [show fitsB hd 65536 = true by simp [fitsB]; omega, show fitsB v 4294967296 = true by simp [fitsB]; omega]
            simp; omega
          rw [hm] at this; cases this
        have HM := hide hm; have HM' := hide hm'; clear hm hm'
        go_wp2_with fail
        all_goals first
          | (go_ret; exact ⟨ret_bool (by rw [HQ.out, all_not HX.out HM.out]), moreW hb _⟩)
          | (exfalso; have := HM'.out; omega)
      · have hm' : 1 ≤ d ∧ d ≤ 2 ∧ 0 ≤ hd ∧ hd ≤ 65535 ∧ 0 ≤ v ∧ v ≤ 4294967295 := by
          simp [mayB, fitsB] at hm; omega
        obtain ⟨m1, m2, m3, m4, m5, m6⟩ := hm'
        have HM := hide hm; clear hm
        go_wp2_with fail
        go_roundw
        case rel => exact ⟨k + 1, by omega, by go_num, moreW hb _, so_far (p := fun x => mayC x = true) HS.out HX.out HM.out⟩
        case measure => simp [intOf]; omega
    · go_wp2_with fail
      go_ret
      exact ⟨ret_bool (by rw [HQ.out, all_so_far HN.out hlt HS.out]), hb⟩
end

section
variable (A B : Option Addr) (c d : Nat) (w : World)

set_option maxHeartbeats 1000000 in
theorem cases_any (xs ys : List (Int × Int × Int)) (hl : xs.length ≤ 9223372036854775807) (hl' : ys.length ≤ 9223372036854775807) (ha : RdF w caseC A xs) (hb : RdF w caseC B ys) :
    Calls Try.prog 59 #[.slice A xs.length c, .slice B ys.length d] w fun e w' => e = .returned (.bool (xs == ys)) ∧ Drew w w' := by
  obtain ⟨n, hn⟩ : ∃ n, n = xs.length := ⟨_, rfl⟩
  obtain ⟨m, hm⟩ : ∃ m, m = ys.length := ⟨_, rfl⟩
  rw [← hn] at hl ⊢
  rw [← hm] at hl' ⊢
  by_cases hnm : n = m
  · subst hnm
    have HN := hide hn; clear hn
    have HM := hide hm; clear hm
    have HA := hide ha; clear ha
    have HB := hide hb; clear hb
    go_enter Try.func59, Try.ntmps59
    go_wp2
    go_loopw [13] (fun i wr => ∃ k : Nat, k ≤ n ∧ i = .int .i64 k ∧ Hid (Drew w wr) ∧ Hid (∀ j x y, j < k → xs[j]? = some x → ys[j]? = some y → x = y)) (fun i _ => n - (intOf i).toNat)
    case atStart => exact ⟨0, Nat.zero_le _, rfl, Drew.refl _, fun j x y hj => by omega⟩
    case round =>
      obtain ⟨k, hk, rfl, HD, HS⟩ := hrel
      by_cases hlt : k < n
      · obtain ⟨ad, d1, h1, v1, hA, hx, hc0, hc1, hc2⟩ := case_at (HA.out.drew HD.out) (i := k) (by rw [← HN.out]; exact hlt)
        obtain ⟨bd, d2, h2, v2, hB, hy, he0, he1, he2⟩ := case_at (HB.out.drew HD.out) (i := k) (by rw [← HM.out]; exact hlt)
        subst hA; subst hB
        have HX := hide hx; clear hx
        have HY := hide hy; clear hy
        have f1 := case_stood; have f2 := case_guard
        by_cases g1 : d1 = d2
        · subst g1
          by_cases g2 : h1 = h2
          · subst g2
            by_cases g3 : v1 = v2
            · subst g3
              go_wp2
              go_quiet (fail)
              go_wp2
              go_roundw
              case rel =>
                refine ⟨k + 1, by omega, by go_num, HD.out.more _, fun j x' y' hj hx' hy' => ?_⟩
                by_cases hjk : j = k
                · subst hjk
                  have h1 := HX.out.symm.trans hx'
                  have h2 := HY.out.symm.trans hy'
                  simp only [Option.some.injEq] at h1 h2
                  rw [← h1, ← h2]
                · exact HS.out j x' y' (by omega) hx' hy'
              case measure => simp [intOf]; omega
            · have hne : ¬ (d1 = d1 ∧ h1 = h1 ∧ v1 = v2) := by simpa using g3
              have HNE := hide hne; clear hne
              go_wp2
              go_quiet (fail)
              go_wp2
              go_ret
              refine ⟨ret_bool ?_, HD.out.more _⟩
              symm
              rw [beq_eq_false_iff_ne]
              rintro rfl
              have := HX.out.symm.trans HY.out
              simp only [Option.some.injEq, Prod.mk.injEq] at this
              exact HNE.out this
          · have hne : ¬ (d1 = d1 ∧ h1 = h2 ∧ v1 = v2) := by simp [g2]
            have HNE := hide hne; clear hne
            go_wp2
            go_quiet (fail)
            go_wp2
            go_ret
            refine ⟨ret_bool ?_, HD.out.more _⟩
            symm
            rw [beq_eq_false_iff_ne]
            rintro rfl
            have := HX.out.symm.trans HY.out
            simp only [Option.some.injEq, Prod.mk.injEq] at this
            exact HNE.out this
        · have hne : ¬ (d1 = d2 ∧ h1 = h2 ∧ v1 = v2) := by simp [g1]
          have HNE := hide hne; clear hne
          go_wp2
          go_quiet (fail)
          go_wp2
          go_ret
          refine ⟨ret_bool ?_, HD.out.more _⟩
          symm
          rw [beq_eq_false_iff_ne]
          rintro rfl
          have := HX.out.symm.trans HY.out
          simp only [Option.some.injEq, Prod.mk.injEq] at this
          exact HNE.out this
      · go_wp2
        go_ret
        refine ⟨ret_bool ?_, HD.out⟩
        symm
        rw [beq_iff_eq]
        exact same_all HN.out HM.out hlt HS.out
  · have hne : ((n : Int) != (m : Int)) = true := by simp; omega
    go_enter Try.func59, Try.ntmps59
    go_wp2
    go_ret
    refine ⟨ret_bool ?_, Drew.refl _⟩
    symm
    rw [beq_eq_false_iff_ne]
    rintro rfl
    omega
end
end Go.Proofs.Ytmgjicenaanelaa
