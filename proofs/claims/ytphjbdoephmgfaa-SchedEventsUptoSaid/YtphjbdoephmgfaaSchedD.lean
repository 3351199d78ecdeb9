/- The walks of sched.Without, stopgateref29.Without, After. -/
import Derived.Test.YtphjbdoephmgfaaSchedC
import Derived.Deep.RegionWith
namespace Go.Proofs.Ytphjbdoephmgfaa
open Go.RowKit

theorem make_func : ∀ (fn : Fn) (first cap : Array Value) (w : World), (Instr.makeFunc fn first cap).run Try.prog w = .ok (.func fn first cap) w := fun _ _ _ _ => rfl
theorem filter_snoc (p : Int → Bool) {zs : List Int} {k : Nat} {z : Int} (h : zs[k]? = some z) : (zs.take (k + 1)).filter p = (zs.take k).filter p ++ if p z = true then [z] else [] := by
  rw [take_of h, List.filter_append]
  by_cases hp : p z = true <;> simp [hp]
theorem filter_take_len (p : Int → Bool) (zs : List Int) (k : Nat) : ((zs.take k).filter p).length ≤ k := Nat.le_trans (List.length_filter_le _ _) (List.length_take_le _ _)

section
variable (w : World)
set_option maxHeartbeats 400000 in
theorem without_any (A : Option Addr) (c : Nat) (zs : List Int) (t : Int) (hl : zs.length ≤ 17592186044416) (hr : RdI w .i64 A zs) :
    Calls Try.prog 9 #[.slice A zs.length c, .int .i64 t] w fun e w' => RetI .i64 (zs.filter fun x => !(x == t)) w e w' := by
  have HC := hide (clone_any (w.alloc (.cells #[.int .i64 t] 3)) A c zs hl (hr.alloc _))
  have hmf := make_func
  have HD := hide (fun w1 v => delete_any w1 (w.heap.size + 1) v zs t w.heap.size hl)
  clear hr
  go_enter Try.func9, Try.ntmps9
  go_wp2_with fail
  refine HC.out.mono ?_
  rintro e w1 ⟨v, rfl, ho, hb⟩
  have hbb := extW (moreW (selfW _) _) hb
  have hcb : w1.cell? ⟨w.heap.size, 0, none⟩ = some (.int .i64 t) := (hb.cell (p := ⟨w.heap.size, 0, none⟩) (by simp)).trans (by simp)
  have hw1 : w.heap.size < w1.heap.size := by have := hb.size; simp at this; omega
  have ho' : OwnI w1 (w.heap.size + 1) 3 .i64 v zs := by have := ho; simpa using this
  have HD1 := hide (HD.out w1 v ho' hcb (by omega))
  clear ho hb hcb ho'
  go_wp2_with fail
  refine HD1.out.mono ?_
  rintro e w2 ⟨⟨B, d, rfl, hr2⟩, hb2⟩
  go_wp2_with fail
  go_ret
  exact ⟨⟨B, d, rfl, hr2⟩, hbb.trans (hb2.mono (by omega))⟩

set_option maxHeartbeats 400000 in
theorem rwithout_any (A : Option Addr) (c : Nat) (zs : List Int) (t : Int) (hl : zs.length ≤ 17592186044416) (hr : RdI w .i64 A zs) :
    Calls Try.prog 10 #[.slice A zs.length c, .int .i64 t] w fun e w' => RetI .i64 (zs.filter fun x => !(x == t)) w e w' := by
  obtain ⟨n, hn⟩ : ∃ n, n = zs.length := ⟨_, rfl⟩
  rw [← hn] at hl ⊢
  have HN := hide hn; clear hn
  have HR := hide hr; clear hr
  go_enter Try.func10, Try.ntmps10
  go_wp2
  go_loopw [5, 10] (fun o i wr => ∃ (k : Nat) (L : List Int), k ≤ n ∧ i = .int .i64 k ∧ Hid (OwnI wr w.heap.size 3 .i64 o L) ∧ L.length ≤ k ∧ Hid (L = (zs.take k).filter fun x => !(x == t)) ∧ Below w.heap.size w wr) (fun _ i _ => n - (intOf i).toNat)
  case atStart => exact ⟨0, [], Nat.zero_le _, rfl, OwnI.nil _ _ _ _, Nat.le_refl _, rfl, selfW _⟩
  case round =>
    obtain ⟨k, L, hk, rfl, HO, hll, HL, hb⟩ := hrel
    by_cases hlt : k < n
    · obtain ⟨ad, z, hA, hz, hc⟩ := RdI.at_ (HR.out.below hb) (by rw [← HN.out]; exact hlt)
      subst hA
      have HZ := hide hz; clear hz
      have hsz := hb.size
      by_cases hzt : z = t
      · subst hzt
        go_wp2
        go_roundw
        case rel => exact ⟨k + 1, L, by omega, by go_num, HO.out, by omega, by rw [Hid, filter_snoc _ HZ.out, HL.out]; simp, hb⟩
        case measure => simp [intOf]; omega
      · have hne : (z != t) = true := by simpa using hzt
        have hne2 : (!(z == t)) = true := by simpa using hzt
        have HE := hide hne2; clear hzt hne2
        go_wp2_with (at_builtin; refine wpList_appI _ rfl _ _ 22 rfl w.heap.size 3 .i64 Try.underlying22 info_int _ L rfl (HO.out.alloc _) (some ⟨wr.heap.size, 0, none⟩) 1 1 [z] rfl rfl (RdI.one _ .i64 z _) ?c4 ?c5 ?_)
        case c4 => simp; omega
        case c5 => simp; omega
        intro v' w2 hown' hgrow _
        have hb' := (HO.out.alloc _).below_step (moreW hb _) hgrow (by simp; omega) (Nat.le_refl _)
        have HO' := hide hown'
        clear hown' hgrow hb
        go_wp2
        go_roundw
        case rel => exact ⟨k + 1, _, by omega, by go_num, HO'.out, by simp; omega, by rw [Hid, filter_snoc _ HZ.out, HL.out]; simp [HE.out], hb'⟩
        case measure => simp [intOf]; omega
    · go_wp2
      go_ret
      have e1 : L = zs.filter fun x => !(x == t) := by rw [HL.out, take_all HN.out (by omega)]
      rw [← e1]
      exact HO.out.ret hb

/-- all ahead of a place, and what is not t behind -/
def afterL (zs : List Int) (t : Int) (m : Nat) : List Int := zs.take m ++ (zs.drop m).filter fun x => !(x == t)
theorem afterL_snoc {zs : List Int} {t : Int} {m k : Nat} {z : Int} (h : zs[k]? = some z) : afterL (zs.take (k + 1)) t m = afterL (zs.take k) t m ++ if k < m ∨ z ≠ t then [z] else [] := by
  unfold afterL
  have hk := len_of h
  by_cases hm : k < m
  · rw [if_pos (.inl hm), List.take_take, List.take_take, Nat.min_eq_right (by omega), Nat.min_eq_right (by omega), List.drop_of_length_le (by rw [List.length_take]; omega), List.drop_of_length_le (by rw [List.length_take]; omega), take_of h]
    simp
  · rw [List.take_take, List.take_take, Nat.min_eq_left (by omega), Nat.min_eq_left (by omega), take_of h, List.drop_append_of_le_length (by rw [List.length_take]; omega), List.filter_append]
    by_cases hz : z = t
    · rw [if_neg (by simp [hz]; omega)]; simp [hz]
    · rw [if_pos (.inr hz)]; simp [hz]
theorem afterL_len (zs : List Int) (t : Int) (m : Nat) : (afterL zs t m).length ≤ zs.length := by
  unfold afterL
  have := List.length_filter_le (fun x => !(x == t)) (zs.drop m)
  simp at this ⊢; omega
theorem afterL_big {zs : List Int} {t : Int} {m m' : Nat} (h : zs.length ≤ m) (h' : zs.length ≤ m') : afterL zs t m = afterL zs t m' := by
  unfold afterL
  rw [List.take_of_length_le h, List.take_of_length_le h', List.drop_of_length_le h, List.drop_of_length_le h']

set_option maxHeartbeats 1000000 in
theorem rafter_any (A : Option Addr) (c : Nat) (zs : List Int) (t p : Int) (hl : zs.length ≤ 17592186044416) (hr : RdI w .i64 A zs) :
    Calls Try.prog 12 #[.slice A zs.length c, .int .i64 t, .int .i64 p] w fun e w' => RetI .i64 (afterL zs t p.toNat) w e w' := by
  obtain ⟨n, hn⟩ : ∃ n, n = zs.length := ⟨_, rfl⟩
  rw [← hn] at hl ⊢
  have HN := hide hn; clear hn
  have HR := hide hr; clear hr
  go_enter Try.func12, Try.ntmps12
  go_wp2
  go_loopw [7, 12] (fun o i wr => ∃ (k : Nat) (L : List Int), k ≤ n ∧ i = .int .i64 k ∧ Hid (OwnI wr w.heap.size 3 .i64 o L) ∧ L.length ≤ k ∧ Hid (L = afterL (zs.take k) t p.toNat) ∧ Below w.heap.size w wr) (fun _ i _ => n - (intOf i).toNat)
  case atStart => exact ⟨0, [], Nat.zero_le _, rfl, OwnI.nil _ _ _ _, Nat.le_refl _, by simp [Hid, afterL], selfW _⟩
  case round =>
    obtain ⟨k, L, hk, rfl, HO, hll, HL, hb⟩ := hrel
    by_cases hlt : k < n
    · obtain ⟨ad, z, hA, hz, hc⟩ := RdI.at_ (HR.out.below hb) (by rw [← HN.out]; exact hlt)
      subst hA
      have HZ := hide hz; clear hz
      have hsz := hb.size
      by_cases hkp : (k : Int) < p
      · have HK : Hid (k < p.toNat) := by show k < p.toNat; omega
        go_wp2_with (at_builtin; refine wpList_appI _ rfl _ _ 22 rfl w.heap.size 3 .i64 Try.underlying22 info_int _ L rfl (HO.out.alloc _) (some ⟨wr.heap.size, 0, none⟩) 1 1 [z] rfl rfl (RdI.one _ .i64 z _) ?c1 ?c2 ?_)
        case c1 => simp; omega
        case c2 => simp; omega
        intro v' w2 hown' hgrow _
        have hb' := (HO.out.alloc _).below_step (moreW hb _) hgrow (by simp; omega) (Nat.le_refl _)
        have HO' := hide hown'
        clear hown' hgrow hb
        go_wp2
        go_roundw
        case rel => exact ⟨k + 1, _, by omega, by go_num, HO'.out, by simp; omega, by rw [Hid, afterL_snoc HZ.out, HL.out, if_pos (.inl HK.out)], hb'⟩
        case measure => simp [intOf]; omega
      · have hkp' : decide ((k : Int) < p) = false := decide_eq_false hkp
        have HK : Hid (¬ k < p.toNat) := by show ¬ k < p.toNat; omega
        by_cases hzt : z = t
        · subst hzt
          go_wp2
          go_roundw
          case rel => exact ⟨k + 1, L, by omega, by go_num, HO.out, by omega, by have := HK.out; rw [Hid, afterL_snoc HZ.out, HL.out, if_neg (by simp; omega)]; simp, hb⟩
          case measure => simp [intOf]; omega
        · have hne : (z != t) = true := by simpa using hzt
          have HE := hide hzt; clear hzt
          go_wp2_with (at_builtin; refine wpList_appI _ rfl _ _ 22 rfl w.heap.size 3 .i64 Try.underlying22 info_int _ L rfl (HO.out.alloc _) (some ⟨wr.heap.size, 0, none⟩) 1 1 [z] rfl rfl (RdI.one _ .i64 z _) ?c3 ?c4 ?_)
          case c3 => (try simp); omega
          case c4 => (try simp); omega
          intro v' w2 hown' hgrow _
          have hb' := (HO.out.alloc _).below_step (moreW hb _) hgrow (by simp; omega) (Nat.le_refl _)
          have HO' := hide hown'
          clear hown' hgrow hb
          go_wp2
          go_roundw
          case rel => exact ⟨k + 1, _, by omega, by go_num, HO'.out, by simp; omega, by rw [Hid, afterL_snoc HZ.out, HL.out, if_pos (.inr HE.out)], hb'⟩
          case measure => simp [intOf]; omega
    · go_wp2
      go_ret
      have e1 : L = afterL zs t p.toNat := by rw [HL.out, take_all HN.out (by omega)]
      rw [← e1]
      exact HO.out.ret hb
end
end Go.Proofs.Ytphjbdoephmgfaa
