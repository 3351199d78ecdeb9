/- The walks of slices.DeleteFunc, sched.Without, stopgateref29.Without. -/
import Derived.Test.YtphjbdoephmgfaaSchedB
namespace Go.Proofs.Ytphjbdoephmgfaa
open Go.RowKit

theorem below_cells {B : Nat} {a : World} {g : Nat} (hb : B ≤ g) : ∀ (vs : List Value) (o : Nat) {w : World}, Below B a w → Below B a (w.setCells g o vs) := by
  intro vs
  induction vs with
  | nil => intro o w h; exact h
  | cons v r ih => intro o w h; exact ih (o + 1) (h.setCell (p := ⟨g, o, none⟩) hb v)
theorem OwnI.cleared {base g n c : Nat} {e : TypeId} {k : IntKind} : ∀ (m i : Nat) (w : World) (zs : List Int), OwnI w base e k (.slice (some ⟨g, 0, none⟩) n c) zs →
    ∃ L, OwnI (w.setCells g i (List.replicate m (.int k 0))) base e k (.slice (some ⟨g, 0, none⟩) n c) L ∧ L.take i = zs.take i ∧ L.length = zs.length := by
  intro m
  induction m with
  | zero => intro i w zs h; exact ⟨zs, h, rfl, rfl⟩
  | succ m ih =>
    intro i w zs h
    obtain ⟨L, h1, h2, h3⟩ := ih (i + 1) _ _ (h.stored i 0)
    refine ⟨L, h1, ?_, by rw [h3, List.length_set]⟩
    have := congrArg (List.take i) h2
    rw [List.take_take, List.take_take, Nat.min_eq_left (by omega)] at this
    rw [this, List.take_set_of_le (Nat.le_refl _)]

section
variable {P : Program} (w : World)
theorem run_clearI (base : Nat) (t ty e : TypeId) (k : IntKind) (ht : P.underlying t = some (.slice e)) (hv : ∀ w, (zeroValue e).run P w = .ok (.int k 0) w)
    (g n c i m c' : Nat) (zs : List Int) (hown : OwnI w base e k (.slice (some ⟨g, 0, none⟩) n c) zs) (hm : i + m = n) (h0 : 0 < m) :
    ∃ w' L, (Builtin.clear_ #[t] ty #[.slice (some ⟨g, i, none⟩) m c']).run P w = .ok (.tuple #[]) w' ∧ OwnI w' base e k (.slice (some ⟨g, 0, none⟩) n c) L ∧ L.take i = zs.take i ∧
      ∀ {B : Nat} {a : World}, B ≤ g → Below B a w → Below B a w' := by
  have hn := hown.cap.1
  obtain ⟨L, hL, ht1, _⟩ := OwnI.cleared m i w zs hown
  have hrun := Lib.run_clear_slice (P := P) w t e ty (.int k 0) ht hv rfl rfl g i m c' h0
    (fun j hj => by
      have : zs[i + j]? = some (zs[i + j]'(by omega)) := List.getElem?_eq_getElem _
      rw [hown.cell this]; rfl)
    (fun j _ => hown.frozen _)
  exact ⟨_, L, hrun, hL, ht1, fun hB hb => below_cells hB _ _ hb⟩
end

theorem zero_int : ∀ w, (zeroValue 3).run Try.prog w = .ok (.int .i64 0) w := fun _ => by kernel_rfl

/-- a returned slice that reads as zs; blocks below B are as they were -/
def RetB (B : Nat) (k : IntKind) (zs : List Int) (w : World) (e : Ending) (w' : World) : Prop := (∃ A d, e = .returned (.slice A zs.length d) ∧ RdI w' k A zs) ∧ Below B w w'

section
variable (w : World)
set_option maxHeartbeats 1000000 in
theorem delete_any (base : Nat) (v : Value) (zs : List Int) (t : Int) (b : Nat) (hl : zs.length ≤ 17592186044416) (ho : OwnI w base 3 .i64 v zs) (hcb : w.cell? ⟨b, 0, none⟩ = some (.int .i64 t)) (hb : b < base) :
    Calls Try.prog 29 #[v, .func (.func 31) #[] #[.pointer (some ⟨b, 0, none⟩)]] w fun e w' => RetB base .i64 (zs.filter fun x => !(x == t)) w e w' := by
  rcases ixI_form (fun x => x == t) zs with ⟨i, z, h1, h2, h3, h4⟩ | ⟨h1, h2⟩
  · have hne : zs ≠ [] := by rintro rfl; simp at h2
    obtain ⟨g, c, rfl, hg1, hg2⟩ := ho.form hne
    have hr : RdI w .i64 (some ⟨g, 0, none⟩) zs := by
      obtain ⟨A, c', hv, hr⟩ := ho.rd
      injection hv with hv; subst hv; exact hr
    have HI := hide (index_isT w (some ⟨g, 0, none⟩) c zs t b hl hr hcb)
    rw [h1] at HI
    obtain ⟨n, hn⟩ : ∃ n, n = zs.length := ⟨_, rfl⟩
    have hil : i < n := by rw [hn]; exact len_of h2
    have hnc : n ≤ c := by rw [hn]; exact ho.cap.2
    rw [← hn] at hl ho HI ⊢
    have HN := hide hn; have HO := hide ho; have H2 := hide h2; have H3 := hide h3; have H4 := hide h4; have HCB := hide hcb
    clear hn ho h1 h2 h3 h4 hr hne hcb
    have hi0 : ((i : Int) == -1) = false := by rw [beq_eq_false_iff_ne]; omega
    go_enter Try.func29, Try.ntmps29
    go_wp2_with fail
    refine HI.out.mono ?_
    rintro e w' ⟨rfl, rfl⟩
    go_wp2_with fail
    go_loopw [5, 6] (fun i j wr => ∃ (k m : Nat) (L : List Int), k < m ∧ m ≤ n ∧ i = .int .i64 k ∧ j = .int .i64 m ∧ Hid (OwnI wr base 3 .i64 (.slice (some ⟨g, 0, none⟩) n c) L) ∧
      Hid (L.take k = (zs.take m).filter fun x => !(x == t)) ∧ Hid (L.drop m = zs.drop m) ∧ Hid (Below base w wr)) (fun _ j _ => n - (intOf j).toNat)
    case atStart =>
      refine ⟨i, i + 1, zs, by omega, by omega, rfl, by go_num, HO.out, ?_, rfl, Below.refl _ _⟩
      show zs.take i = (zs.take (i + 1)).filter _
      rw [take_of H2.out, List.filter_append]
      have e1 : ([z].filter fun x => !(x == t)) = [] := by have := H3.out; simp at this; simp [this]
      rw [e1, List.append_nil, List.filter_eq_self.2]
      intro x hx
      obtain ⟨j, hj⟩ := List.mem_iff_getElem?.1 hx
      have hji : j < i := by have := len_of hj; simp at this; omega
      rw [List.getElem?_take_of_lt hji] at hj
      have := H4.out j x hji hj
      simp at this; simp [this]
    case round =>
      obtain ⟨k, m, L, hkm, hmn, rfl, rfl, HW, HT, HD, HB⟩ := hrel
      have hLn : L.length = n := HW.out.cap.1.symm
      have HLn := hide hLn
      by_cases hlt : m < n
      · obtain ⟨z', hz'⟩ : ∃ z', L[m]? = some z' := ⟨_, List.getElem?_eq_getElem (by omega)⟩
        obtain ⟨z0, hz0⟩ : ∃ z0, L[k]? = some z0 := ⟨_, List.getElem?_eq_getElem (by omega)⟩
        have hzz : zs[m]? = some z' := by
          have := congrArg (fun l => l[0]?) HD.out
          simp only [List.getElem?_drop, Nat.add_zero] at this
          rw [← this, hz']
        have hc1 := HW.out.cell hz'
        have hc2 := HW.out.cell hz0
        have hf2 := HW.out.frozen k
        have hcb := (HB.out.cell (p := ⟨b, 0, none⟩) hb).trans HCB.out
        have HZ := hide hz'; have HZZ := hide hzz
        clear hz' hz0 hzz hLn
        rcases hq : (z' == t) with _ | _
        · have HQ := hide hq; clear hq
          go_wp2_with (go_at_call 31; refine (isT_any _ z' t b hcb).mono ?_; rw [HQ.out]; rintro e w' ⟨rfl, rfl⟩)
          go_roundw
          case rel =>
            refine ⟨k + 1, m + 1, L.set k z', by omega, by omega, by go_num, by go_num, HW.out.stored k z', ?_, ?_, HB.out.setCell (p := ⟨g, k, none⟩) hg1 _⟩
            · show (L.set k z').take (k + 1) = (zs.take (m + 1)).filter _
              have hkl : (L.set k z')[k]? = some z' := by rw [List.getElem?_set_self (by have := HLn.out; omega)]
              rw [take_of hkl, List.take_set_of_le (Nat.le_refl _), HT.out, take_of HZZ.out, List.filter_append]
              have := HQ.out
              simp [this]
            · show (L.set k z').drop (m + 1) = zs.drop (m + 1)
              rw [List.drop_set_of_lt (by omega)]
              have := congrArg (List.drop 1) HD.out
              simpa [List.drop_drop, Nat.add_comm] using this
          case measure => simp [intOf]; omega
        · have HQ := hide hq; clear hq
          go_wp2_with (go_at_call 31; refine (isT_any _ z' t b hcb).mono ?_; rw [HQ.out]; rintro e w' ⟨rfl, rfl⟩)
          go_roundw
          case rel =>
            refine ⟨k, m + 1, L, by omega, by omega, rfl, by go_num, HW.out, ?_, ?_, HB.out⟩
            · show L.take k = (zs.take (m + 1)).filter _
              rw [HT.out, take_of HZZ.out, List.filter_append]
              have := HQ.out
              simp [this]
            · show L.drop (m + 1) = zs.drop (m + 1)
              have := congrArg (List.drop 1) HD.out
              simpa [List.drop_drop, Nat.add_comm] using this
          case measure => simp [intOf]; omega
      · have hkc : k < c := by omega
        have hmn' : m = n := by omega
        obtain ⟨w2, L2, hrun, hO2, hT2, hB2⟩ := run_clearI (P := Try.prog) wr base 22 0 3 .i64 Try.underlying22 zero_int g n c k (n - k) (c - k) L HW.out (by omega) (by omega)
        have HO2 := hide hO2; have HT2 := hide hT2; have HB2 := hide (hB2 hg1 HB.out); have HMN := hide hmn'
        clear hO2 hT2 hB2 hLn hmn'
        go_wp2_with fail
        go_ret
        have e1 : L2.take k = zs.filter fun x => !(x == t) := by rw [HT2.out, HT.out, take_all HN.out (by have := HMN.out; omega)]
        have e2 : (L2.take k).length = k := by have := HO2.out.cap.1; rw [List.length_take]; omega
        unfold RetB
        rw [← e1, e2]
        obtain ⟨A3, c3, hv3, hr3⟩ := HO2.out.rd
        injection hv3 with hv3
        subst hv3
        exact ⟨⟨_, _, rfl, hr3.take k⟩, HB2.out⟩
  · obtain ⟨A, c, rfl, hr⟩ := ho.rd
    have HI := hide (index_isT w A c zs t b hl hr hcb)
    rw [h1] at HI
    have HF : Hid ((zs.filter fun x => !(x == t)) = zs) := List.filter_eq_self.2 (fun x hx => by have := h2 x hx; simp at this; simp [this])
    have HR := hide hr
    clear h1 h2 hr ho hcb
    go_enter Try.func29, Try.ntmps29
    go_wp2_with fail
    refine HI.out.mono ?_
    rintro e w' ⟨rfl, rfl⟩
    go_wp2_with fail
    go_ret
    unfold RetB
    rw [HF.out]
    exact ⟨⟨_, _, rfl, HR.out⟩, Below.refl _ _⟩
end
end Go.Proofs.Ytphjbdoephmgfaa
