/- The walks of epoch.with, Enter, Leave, Next and of stopgateref07.With, Next. -/
import Derived.Test.YtmgjicenaanelaaEpochU
namespace Go.Proofs.Ytmgjicenaanelaa
open Go.RowKit

/-- words with one in the place of another one -/
def withL (zs : List Int) (t x : Int) : List Int := if 0 ≤ t then zs.set t.toNat x else zs
theorem withL_len (zs : List Int) (t x : Int) : (withL zs t x).length = zs.length := by unfold withL; split <;> simp
theorem withL_get {zs : List Int} {t x : Int} {k : Nat} {z : Int} (h : zs[k]? = some z) : (withL zs t x)[k]? = some (if (k : Int) = t then x else z) := by
  have hk := len_of h
  unfold withL
  by_cases h0 : 0 ≤ t
  · rw [if_pos h0, List.getElem?_set]
    by_cases hkt : (k : Int) = t
    · subst hkt; simp [hk]
    · rw [if_neg (by omega), if_neg hkt]; exact h
  · rw [if_neg h0, if_neg (by omega)]; exact h
theorem withL_here {zs : List Int} {t x : Int} {k : Nat} {z : Int} (h : zs[k]? = some z) (he : (k : Int) = t) : (withL zs t x).take (k + 1) = (withL zs t x).take k ++ [x] := by
  have := withL_get (t := t) (x := x) h
  rw [if_pos he] at this
  exact take_of this
theorem withL_there {zs : List Int} {t x : Int} {k : Nat} {z : Int} (h : zs[k]? = some z) (he : ¬ (k : Int) = t) : (withL zs t x).take (k + 1) = (withL zs t x).take k ++ [z] := by
  have := withL_get (t := t) (x := x) h
  rw [if_neg he] at this
  exact take_of this
theorem withL_out {zs : List Int} {t x : Int} (h : ¬ (0 ≤ t ∧ t < zs.length)) : withL zs t x = zs := by
  unfold withL
  split
  · exact List.set_eq_of_length_le (by omega)
  · rfl
theorem take_len {α : Type} {zs : List α} {k : Nat} (h : k ≤ zs.length) : (zs.take k).length = k := by simp; omega

section
variable (A : Option Addr) (c : Nat) (zs : List Int) (w : World)

set_option maxHeartbeats 400000 in
theorem rwith_any (t x : Int) (hl : zs.length ≤ 17592186044415) (hr : RdI w .u64 A zs) :
    Calls Try.prog 16 #[.slice A zs.length c, .int .i64 t, .int .u64 x] w fun e w' => RetI .u64 (withL zs t x) w e w' := by
  obtain ⟨n, hn⟩ : ∃ n, n = zs.length := ⟨_, rfl⟩
  rw [← hn] at hl ⊢
  have HN := hide hn; clear hn
  have HR := hide hr; clear hr
  have hlw := withL_len zs t x
  rw [← HN.out] at hlw
  have HLW := hide hlw; clear hlw
  go_enter Try.func16, Try.ntmps16
  go_wp2
  go_loopw [7, 12] (fun v i wr => ∃ (k : Nat) (L : List Int), k ≤ n ∧ i = .int .i64 k ∧ Hid (OwnI wr w.heap.size 27 .u64 v L) ∧ L.length ≤ k ∧ Hid (L = (withL zs t x).take k) ∧ Below w.heap.size w wr) (fun _ i _ => n - (intOf i).toNat)
  case atStart => exact ⟨0, [], Nat.zero_le _, rfl, OwnI.nil _ _ _ _, Nat.le_refl _, rfl, Below.refl _ _⟩
  case round =>
    obtain ⟨k, L, hk, rfl, HO, hll, HL, hb⟩ := hrel
    have hsz := hb.size
    by_cases hlt : k < n
    · obtain ⟨ad, z, hA, hz, hc⟩ := RdI.at_ (HR.out.below hb) (by rw [← HN.out]; exact hlt)
      subst hA
      have HZ := hide hz; clear hz
      by_cases ht : (k : Int) = t
      · have htb : ((k : Int) == t) = true := by simpa using ht
        have HT := hide ht; clear ht
        go_wp2_with (at_builtin; refine wpList_appI _ rfl _ _ 22 rfl w.heap.size 27 .u64 Try.underlying22 info_u64 _ L rfl (HO.out.alloc _) (some ⟨wr.heap.size, 0, none⟩) 1 1 [x] rfl rfl (RdI.one _ _ _ _) ?c4 ?c5 ?_)
        case c4 => simp; omega
        case c5 => simp; omega
        intro v' w1 hown' hgrow _
        have hb' := (HO.out.alloc _).below_step (hb.alloc hb.size _) hgrow (by simp; omega) (Nat.le_refl _)
        have HO' := hide hown'; clear hown' hgrow
        go_wp2
        go_roundw
        case rel => exact ⟨k + 1, _, by omega, by go_num, HO', by simp; omega, by rw [Hid, withL_here HZ.out HT.out, ← HL.out], hb'⟩
        case measure => simp [intOf]; omega
      · have htb : ((k : Int) == t) = false := by simpa using ht
        have HT := hide ht; clear ht
        go_wp2_with (at_builtin; refine wpList_appI _ rfl _ _ 22 rfl w.heap.size 27 .u64 Try.underlying22 info_u64 _ L rfl (HO.out.alloc _) (some ⟨wr.heap.size, 0, none⟩) 1 1 [z] rfl rfl (RdI.one _ _ _ _) ?d4 ?d5 ?_)
        case d4 => simp; omega
        case d5 => simp; omega
        intro v' w1 hown' hgrow _
        have hb' := (HO.out.alloc _).below_step (hb.alloc hb.size _) hgrow (by simp; omega) (Nat.le_refl _)
        have HO' := hide hown'; clear hown' hgrow
        go_wp2
        go_roundw
        case rel => exact ⟨k + 1, _, by omega, by go_num, HO', by simp; omega, by rw [Hid, withL_there HZ.out HT.out, ← HL.out], hb'⟩
        case measure => simp [intOf]; omega
    · have hkn : k = n := by omega
      subst hkn
      have ho := HL.out
      rw [List.take_of_length_le (by rw [HLW.out]; exact Nat.le_refl _)] at ho
      have HO2 := hide ho; clear ho HL
      go_wp2
      go_ret
      have h := HO.out.ret hb
      rw [HO2.out] at h
      exact h

set_option maxHeartbeats 400000 in
theorem with_any (t x : Int) (hl : zs.length ≤ 17592186044415) (hr : RdI w .u64 A zs) :
    Calls Try.prog 54 #[.slice A zs.length c, .int .i64 t, .int .u64 x] w fun e w' => RetI .u64 (withL zs t x) w e w' := by
  obtain ⟨n, hn⟩ : ∃ n, n = zs.length := ⟨_, rfl⟩
  rw [← hn] at hl ⊢
  have HN := hide hn; clear hn
  have HR := hide hr; clear hr
  have hsz : (0 + zs.length) * 8 ≤ 140737488355328 := by rw [← HN.out]; omega
  have HSZ := hide hsz; clear hsz
  by_cases ht : 0 ≤ t ∧ t < n
  · obtain ⟨ht0, ht1⟩ := ht
    have hne : zs ≠ [] := by intro h; have := HN.out; rw [h] at this; simp at this; omega
    have HNE := hide hne; clear hne
    go_enter Try.func54, Try.ntmps54
    go_wp2_with (at_builtin; refine wpList_appI _ rfl _ _ 22 rfl w.heap.size 27 .u64 Try.underlying22 info_u64 _ [] rfl (OwnI.nil _ _ _ _) A n c zs rfl HN.out.symm HR.out HSZ.out (Nat.le_refl _) ?_)
    intro v' w1 hown' hgrow _
    have hb' := (OwnI.nil w w.heap.size 27 .u64).below_step (Below.refl _ _) hgrow (Nat.le_refl _) (Nat.le_refl _)
    obtain ⟨g, d, hv, hbg, hg1⟩ := hown'.form HNE.out
    rw [← HN.out] at hv
    subst hv
    obtain ⟨j, rfl⟩ := Int.eq_ofNat_of_zero_le ht0
    obtain ⟨z, hz⟩ : ∃ z, zs[j]? = some z := ⟨_, List.getElem?_eq_getElem (by rw [← HN.out]; omega)⟩
    have hcell := hown'.cell hz
    have hfr := hown'.frozen j
    have HZ := hide hz; clear hz
    have HO := hide hown'; clear hown' hgrow
    go_wp2
    go_ret
    have hs := HO.out.stored j x
    have h := hs.ret (hb'.setCell hbg _)
    have he : withL zs j x = zs.set j x := by unfold withL; rw [if_pos ht0]; rfl
    rw [← he] at h
    exact h
  · have hout : withL zs t x = zs := withL_out (by rw [← HN.out]; exact ht)
    have HOUT := hide hout; clear hout
    by_cases h0 : 0 ≤ t
    · have hge : ¬ t < n := by omega
      clear ht
      go_enter Try.func54, Try.ntmps54
      go_wp2_with (at_builtin; refine wpList_appI _ rfl _ _ 22 rfl w.heap.size 27 .u64 Try.underlying22 info_u64 _ [] rfl (OwnI.nil _ _ _ _) A n c zs rfl HN.out.symm HR.out HSZ.out (Nat.le_refl _) ?_)
      intro v' w1 hown' hgrow _
      have hb' := (OwnI.nil w w.heap.size 27 .u64).below_step (Below.refl _ _) hgrow (Nat.le_refl _) (Nat.le_refl _)
      have h := hown'.ret hb'
      rw [← HOUT.out] at h
      obtain ⟨B, d, hv, hrd⟩ := hown'.rd
      rw [← HN.out] at hv
      subst hv
      have HRD := hide h; clear h hrd hown' hgrow
      go_wp2
      go_ret
      exact HRD.out
    · clear ht
      go_enter Try.func54, Try.ntmps54
      go_wp2_with (at_builtin; refine wpList_appI _ rfl _ _ 22 rfl w.heap.size 27 .u64 Try.underlying22 info_u64 _ [] rfl (OwnI.nil _ _ _ _) A n c zs rfl HN.out.symm HR.out HSZ.out (Nat.le_refl _) ?_)
      intro v' w1 hown' hgrow _
      have hb' := (OwnI.nil w w.heap.size 27 .u64).below_step (Below.refl _ _) hgrow (Nat.le_refl _) (Nat.le_refl _)
      have h := hown'.ret hb'
      rw [← HOUT.out] at h
      obtain ⟨B, d, hv, hrd⟩ := hown'.rd
      rw [← HN.out] at hv
      subst hv
      have HRD := hide h; clear h hrd hown' hgrow
      go_wp2
      go_ret
      exact HRD.out

set_option maxHeartbeats 400000 in
theorem enter_any (t g : Int) (hl : zs.length ≤ 17592186044415) (hr : RdI w .u64 A zs) :
    Calls Try.prog 13 #[.slice A zs.length c, .int .i64 t, .int .i64 g] w fun e w' => RetI .u64 (withL zs t (epW g)) w e w' := by
  have H := hide (with_any A c zs w t (epW g) hl hr)
  clear hl hr
  go_enter Try.func13, Try.ntmps13
  go_wp2_with (first
    | (go_at_call 51; refine (epoch_any _ _).mono ?_; rintro e w' ⟨rfl, rfl⟩)
    | (go_at_call 54; refine H.out.mono ?_; rintro e w' ⟨⟨B, d, rfl, hrd⟩, hb⟩; have HRD := hide hrd; clear hrd))
  go_ret
  exact ⟨⟨B, d, rfl, HRD.out⟩, hb⟩

set_option maxHeartbeats 400000 in
theorem leave_any (t : Int) (hl : zs.length ≤ 17592186044415) (hr : RdI w .u64 A zs) :
    Calls Try.prog 14 #[.slice A zs.length c, .int .i64 t] w fun e w' => RetI .u64 (withL zs t 0) w e w' := by
  have H := hide (with_any A c zs w t 0 hl hr)
  clear hl hr
  go_enter Try.func14, Try.ntmps14
  go_wp2_with (go_at_call 54; refine H.out.mono ?_; rintro e w' ⟨⟨B, d, rfl, hrd⟩, hb⟩; have HRD := hide hrd; clear hrd)
  go_ret
  exact ⟨⟨B, d, rfl, HRD.out⟩, hb⟩

/-- the next epoch -/
def nextG (zs : List Int) (me g : Int) : Int := if 0 ≤ g ∧ g ≠ 4611686018427387904 ∧ allB zs me g = true then wrap64 (g + 1) else g

set_option maxHeartbeats 400000 in
theorem next_any (me g : Int) (hl : zs.length ≤ 17592186044415) (hr : RdI w .u64 A zs) :
    Calls Try.prog 18 #[.slice A zs.length c, .int .i64 me, .int .i64 g] w fun e w' => e = .returned (.int .i64 (nextG zs me g)) ∧ w = w' := by
  have H := hide (all_any A c zs me g w (by omega) hr)
  clear hl hr
  by_cases h0 : g < 0
  · go_enter Try.func18, Try.ntmps18
    go_wp2
    go_ret
    exact ⟨ret_int (by unfold nextG; rw [if_neg (by omega)]), rfl⟩
  · by_cases h1 : g = 4611686018427387904
    · subst h1
      go_enter Try.func18, Try.ntmps18
      go_wp2
      go_ret
      exact ⟨ret_int (by unfold nextG; rw [if_neg (by omega)]), rfl⟩
    · have h1' : (g == 4611686018427387904) = false := by simpa using h1
      have H1 := hide h1; clear h1
      rcases hb : allB zs me g with _ | _
      · have HB := hide hb; rw [hb] at H; clear hb
        go_enter Try.func18, Try.ntmps18
        go_wp2_with (go_at_call 23; refine H.out.mono ?_; rintro e w' ⟨rfl, rfl⟩)
        go_ret
        exact ⟨ret_int (by unfold nextG; rw [if_neg (by rw [HB.out]; simp)]), rfl⟩
      · have HB := hide hb; rw [hb] at H; clear hb
        go_enter Try.func18, Try.ntmps18
        go_wp2_with (go_at_call 23; refine H.out.mono ?_; rintro e w' ⟨rfl, rfl⟩)
        go_ret
        exact ⟨ret_int (by unfold nextG; rw [if_pos ⟨by omega, H1.out, HB.out⟩]), rfl⟩

set_option maxHeartbeats 400000 in
theorem rnext_any (me g : Int) (hl : zs.length ≤ 17592186044415) (hr : RdI w .u64 A zs) :
    Calls Try.prog 19 #[.slice A zs.length c, .int .i64 me, .int .i64 g] w fun e w' => e = .returned (.int .i64 (nextG zs me g)) ∧ Drew w w' := by
  have H := hide (rall_any A c zs w me g (by omega) hr)
  clear hl hr
  by_cases h0 : g < 0
  · go_enter Try.func19, Try.ntmps19
    go_wp2
    go_ret
    exact ⟨ret_int (by unfold nextG; rw [if_neg (by omega)]), Drew.refl _⟩
  · by_cases h1 : g = 4611686018427387904
    · subst h1
      go_enter Try.func19, Try.ntmps19
      go_wp2
      go_ret
      exact ⟨ret_int (by unfold nextG; rw [if_neg (by omega)]), Drew.refl _⟩
    · have h1' : (g != 4611686018427387904) = true := by simpa using h1
      have H1 := hide h1; clear h1
      rcases hb : allB zs me g with _ | _
      · have HB := hide hb; rw [hb] at H; clear hb
        go_enter Try.func19, Try.ntmps19
        go_wp2_with (go_at_call 24; refine H.out.mono ?_; rintro e w' ⟨rfl, hd⟩)
        go_ret
        exact ⟨ret_int (by unfold nextG; rw [if_neg (by rw [HB.out]; simp)]), hd⟩
      · have HB := hide hb; rw [hb] at H; clear hb
        go_enter Try.func19, Try.ntmps19
        go_wp2_with (go_at_call 24; refine H.out.mono ?_; rintro e w' ⟨rfl, hd⟩)
        go_ret
        exact ⟨ret_int (by unfold nextG; rw [if_pos ⟨by omega, H1.out, HB.out⟩]), hd⟩
end
end Go.Proofs.Ytmgjicenaanelaa
