/- The walks of slices.Clone on words, of mem's All, tickets' Words and Left, stopgateplain.Has, the law's taken. -/
import Derived.Test.YthghghoikaincaaTkW
namespace Go.Proofs.Ythghghoikaincaa
open Go.RowKit

section
variable (w : World) (A : Option Addr) (c : Nat)
set_option maxHeartbeats 400000 in
theorem clone_u64 (xs : List Int) (hl : xs.length ≤ 200000) (hr : RdI w .u64 A xs) :
    Calls Try.prog 38 #[.slice A xs.length c] w fun e w' => RetI .u64 xs w e w' := by
  obtain ⟨n, hn⟩ : ∃ n, n = xs.length := ⟨_, rfl⟩
  rw [← hn] at hl ⊢
  have HN := hide hn; clear hn
  have HR := hide hr; clear hr
  have hnil := fun w' => Lib.run_eql_slice_nil (P := Try.prog) w' 65 67 A n c 0 0 Try.underlying65
  rcases A with _ | ad
  · have hz : xs = [] := HR.out.of_none
    have HZ := hide hz; clear hz
    go_enter Try.func38, Try.ntmps38
    go_wp2
    go_ret
    rw [HZ.out]
    exact (OwnI.nil w w.heap.size 67 .u64).ret (selfW _)
  · have h0 := OwnI.empty w 67 .u64
    go_enter Try.func38, Try.ntmps38
    go_wp2_with (at_builtin; refine wpList_appI _ rfl _ _ 65 rfl w.heap.size 67 .u64 Try.underlying65 info_u64 _ [] rfl h0 (some ad) n c xs rfl HN.out.symm (HR.out.alloc _) ?c4 ?c5 ?_)
    case c4 => have := HN.out; simp; omega
    case c5 => simp
    intro v' w2 hown' hgrow _
    have hb := h0.below_step (moreW (selfW _) _) hgrow (by simp) (Nat.le_refl _)
    have HO2 := hide hown'; have HB2 := hide hb
    clear hb hown' hgrow
    go_wp2
    go_ret
    exact HO2.out.ret HB2.out
end
section
variable {w : World} {base gq gm : Nat} {vw vg vc vt vn : Value} {q : QT} {C : List Int}
set_option maxHeartbeats 400000 in
theorem all_any (h : QV w base gq gm vw vg vc vt vn q C) (hne : q.L ≠ []) (hl : q.L.length ≤ 200000) :
    Calls Try.prog 32 #[.pointer (some ⟨gm, 0, none⟩)] w fun e w' => RetI .u64 q.L w e w' := by
  obtain ⟨gl, cl, hv, hgl1, hgl2⟩ := h.mem.form hne
  have hr := (h.mem.words).rd
  obtain ⟨A, c, hv2, hr⟩ := hr
  have HC := hide (clone_u64 w A c q.L hl hr)
  have hA : A = some ⟨gl, 0, none⟩ := by rw [hv] at hv2; injection hv2 with h1; exact h1.symm
  subst hA
  have hvw := hv2
  obtain ⟨xs, hxs⟩ : ∃ xs, xs = q.L := ⟨_, rfl⟩
  rw [← hxs] at HC ⊢
  obtain ⟨n, hn⟩ : ∃ n, n = xs.length := ⟨_, rfl⟩
  have HY := hide (made_yes w gm ⟨gl, 0, none⟩ n c (by rw [hn, hxs, ← hvw]; exact h.mem.blk.cell 0))
  have hcm := fun i => Blk.cell h.mem.blk i
  rw [hvw, ← hxs, ← hn] at hcm
  have hgs := h.mem.blk.lt
  rw [← hn] at HC
  clear h hxs hn hl hv hv2 hr hvw hgl1 hgl2
  go_enter Try.func32, Try.ntmps32
  go_wp2_with fail
  refine HY.out.mono ?_
  rintro e w' ⟨rfl, rfl⟩
  go_wp2_with fail
  refine HC.out.mono ?_
  rintro e w1 ⟨⟨B, d, rfl, hr1⟩, hb1⟩
  have HR1 := hide hr1; have HB1 := hide hb1
  clear hr1 hb1 HC
  go_wp2_with fail
  go_ret
  exact ⟨⟨B, d, rfl, HR1.out⟩, HB1.out⟩
set_option maxHeartbeats 400000 in
theorem words_at (h : QV w base gq gm vw vg vc vt vn q C) (hne : q.L ≠ []) (hl : q.L.length ≤ 200000) (ht : 1 ≤ q.T.length) :
    Calls Try.prog 24 #[.pointer (some ⟨gq, 0, none⟩)] w fun e w' => RetI .u64 q.L w e w' := by
  have HM := hide (tmade_any w 0 h)
  rw [if_neg (by omega)] at HM
  have HC := hide (all_any h hne hl)
  have hcs := fun i => Blk.cell h.blk i
  have hgs := h.blk.lt
  obtain ⟨xs, hxs⟩ : ∃ xs, xs = q.L := ⟨_, rfl⟩
  rw [← hxs] at HC ⊢
  clear h hne hl hxs ht
  go_enter Try.func24, Try.ntmps24
  go_wp2_with fail
  refine HM.out.mono ?_
  rintro e w' ⟨rfl, rfl⟩
  go_wp2_with fail
  refine HC.out.mono ?_
  rintro e w1 ⟨⟨B, d, rfl, hr1⟩, hb1⟩
  have HR1 := hide hr1; have HB1 := hide hb1
  clear hr1 hb1 HC
  go_wp2_with fail
  go_ret
  exact ⟨⟨B, d, rfl, HR1.out⟩, HB1.out⟩
end
section
variable (w : World) (A : Option Addr) (c : Nat)
set_option maxHeartbeats 400000 in
theorem has_any (xs : List Int) (x : Int) (hr : RdI w .i64 A xs) (hl : xs.length ≤ 9223372036854775807) :
    Calls Try.prog 16 #[.slice A xs.length c, .int .i64 x] w fun e w' => e = .returned (.bool (decide (x ∈ xs))) ∧ w = w' := by
  obtain ⟨n, hn⟩ : ∃ n, n = xs.length := ⟨_, rfl⟩
  rw [← hn] at hl ⊢
  have HN := hide hn; clear hn
  have HR := hide hr; clear hr
  go_enter Try.func16, Try.ntmps16
  go_wp2_with fail
  go_loopw [6, 9] (fun _ i wr => ∃ k : Nat, k ≤ n ∧ i = .int .i64 k ∧ wr = w ∧ Hid (x ∉ xs.take k)) (fun _ i _ => n - (intOf i).toNat)
  case atStart => exact ⟨0, Nat.zero_le _, rfl, rfl, by simp [Hid]⟩
  case round =>
    obtain ⟨k, hk, rfl, rfl, HX⟩ := hrel
    by_cases hlt : k < n
    · obtain ⟨ad, z, hA, hz, hc⟩ := RdI.at_ HR.out (i := k) (by rw [← HN.out]; exact hlt)
      subst hA
      have HZ := hide hz; clear hz
      by_cases hzx : z = x
      · have hd : (z == x) = true := by simpa using hzx
        have HE := hide hzx; clear hzx
        go_wp2_with fail
        go_ret
        have : x ∈ xs := by rw [← HE.out]; exact List.mem_of_getElem? HZ.out
        rw [decide_eq_true this]
        exact ⟨rfl, rfl⟩
      · have hd : (z == x) = false := by simpa using hzx
        have HE := hide hzx; clear hzx
        go_wp2_with fail
        go_roundw
        case rel => exact ⟨k + 1, by omega, by go_num, trivial, by
          rw [Hid, take_of HZ.out, List.mem_append, List.mem_singleton]
          rintro (h | h)
          · exact HX.out h
          · exact HE.out h.symm⟩
        case measure => simp [intOf]; omega
    · go_wp2_with fail
      go_ret
      have h := HX.out
      rw [take_all HN.out (by omega)] at h
      rw [decide_eq_false h]
      exact ⟨rfl, rfl⟩
end
/-- the values that are left, by the cells ahead of one -/
def leftTo (q : QT) : Nat → List Int
  | 0 => []
  | k + 1 => leftTo q k ++ (if 2 + min (q.word 0) 4096 ≤ (k : Int) ∧ 2 ≤ q.word k then [q.word k - 2] else [])
theorem leftTo_len (q : QT) (k : Nat) : (leftTo q k).length ≤ k := by
  induction k with
  | zero => exact Nat.le_refl _
  | succ k ih =>
    unfold leftTo
    rw [List.length_append]
    split <;> simp <;> omega
section
variable {w : World} {base gq gm : Nat} {vw vg vc vt vn : Value} {q : QT} {C : List Int}
theorem QV.peek0 (h : QV w base gq gm vw vg vc vt vn q C) (hne : q.L ≠ []) (hl : q.L.length ≤ 200000) {w' : World} (hb : Below w.heap.size w w') :
    Calls Try.prog 25 #[.pointer (some ⟨gm, 0, none⟩), .int .i64 0] w' fun e w2 => e = .returned (.int .u64 (q.word 0)) ∧ w' = w2 := by
  have hx : q.L[0]? = some (q.word 0) := by
    unfold QT.word
    rcases hq : q.L with _ | ⟨z, l⟩
    · exact absurd hq hne
    · rfl
  exact peek_any w' base gm vw vg vc q.L [] C false 0 (q.word 0) (h.ext hb).mem (by omega) hx
theorem min_u64 (H : Int) (w' : World) : (Builtin.min_ #[67, 67] 67 #[.int .u64 H, .int .u64 4096]).run Try.prog w' = .ok (.int .u64 (min H 4096)) w' := by
  have e : (if (4096 : Int) < H then (4096 : Int) else H) = min H 4096 := by split <;> omega
  show Result.ok (Value.int .u64 (if (4096 : Int) < H then 4096 else H)) w' = _
  rw [e]
set_option maxHeartbeats 1000000 in
theorem left_any (h : QV w base gq gm vw vg vc vt vn q C) (hne : q.L ≠ []) (hl : q.L.length ≤ 5000) (ht : 1 ≤ q.T.length) (h0 : 0 ≤ q.word 0) (h1 : q.word 0 ≤ 1000000) (hw : ∀ k, 0 ≤ q.word k ∧ q.word k ≤ 4294967297) :
    Calls Try.prog 15 #[.pointer (some ⟨gq, 0, none⟩)] w fun e w' => RetI .i64 (leftTo q q.L.length) w e w' := by
  have HC := hide (words_at h hne (by omega) ht)
  have HP := hide (fun (w' : World) (hb : Below w.heap.size w w') => h.peek0 hne (by omega) hb)
  have HM := hide (fun (w' : World) (hb : Below w.heap.size w w') (i : Nat) => Blk.cell (h.ext hb).blk i)
  have hgs := h.blk.lt
  have HW := hide hw
  obtain ⟨n, hn⟩ : ∃ n, n = q.L.length := ⟨_, rfl⟩
  rw [← hn] at hl ⊢
  have HN := hide hn
  obtain ⟨H, hH⟩ : ∃ H, H = q.word 0 := ⟨_, rfl⟩
  rw [← hH] at HP h0 h1
  obtain ⟨m, hm⟩ : ∃ m, m = min H 4096 := ⟨_, rfl⟩
  have HM1 : Hid (m = min (q.word 0) 4096) := by unfold Hid; rw [hm, hH]
  have hmin := min_u64 H
  rw [← hm] at hmin
  have hm0 : 0 ≤ m := by omega
  have hm1 : m ≤ 4096 := by omega
  have hmw : IntKind.i64.wrap m = m := IntWalk.i64_in _ (by omega)
  have hmw2 : IntKind.i64.wrap (2 + m) = 2 + m := IntWalk.i64_in _ (by omega)
  clear h hn hH hw hne hm h0 h1
  go_enter Try.func15, Try.ntmps15
  go_wp2_with fail
  refine HC.out.mono ?_
  rintro e w1 ⟨⟨B, d, rfl, hr1⟩, hb1⟩
  rw [← HN.out]
  have HR1 := hide hr1; have HB1 := hide hb1
  clear hr1 hb1 HC
  go_wp2_with fail
  go_loopw [3, 4, 5, 9] (fun o _ _ i wr => ∃ k : Nat, k ≤ n ∧ i = .int .i64 k ∧ Hid (OwnI wr w1.heap.size 3 .i64 o (leftTo q k)) ∧ Hid (Below w1.heap.size w1 wr)) (fun _ _ _ i _ => n - (intOf i).toNat)
  case atStart => exact ⟨0, Nat.zero_le _, rfl, OwnI.nil _ _ _ _, selfW _⟩
  case round =>
    obtain ⟨k, hk, rfl, HO, HB⟩ := hrel
    by_cases hlt : k < n
    · obtain ⟨ad, z, hA, hz, hc⟩ := RdI.at_ (HR1.out.below HB.out) (i := k) (by rw [← HN.out]; exact hlt)
      subst hA
      have hzk : q.word k = z := QT.word_of hz
      have hz0 := (HW.out k).1; have hz1 := (HW.out k).2
      rw [hzk] at hz0 hz1
      have HZK := hide hzk
      have HBW := hide (extW HB1.out HB.out)
      have hcs := HM.out wr HBW.out
      have hgs2 := Nat.lt_of_lt_of_le hgs HBW.out.size
      have HPK := hide (HP.out wr HBW.out)
      have hsz := HB.out.size
      have hll := leftTo_len q k
      obtain ⟨L, hL⟩ : ∃ L, L = leftTo q k := ⟨_, rfl⟩
      rw [← hL] at HO hll
      have HL := hide hL
      clear hz hzk hL
      by_cases h1 : 2 + m ≤ (k : Int)
      · have hd : decide (2 + m ≤ (k : Int)) = true := decide_eq_true h1
        by_cases h2 : 2 ≤ z
        · have hd2 : decide (2 ≤ z) = true := decide_eq_true h2
          have hzw : IntKind.u64.wrap (z - 2) = z - 2 := u64_in _ (by omega) (by omega)
          have hzw2 : IntKind.i64.wrap (z - 2) = z - 2 := IntWalk.i64_in _ (by omega)
          go_wp2_with fail
          refine HPK.out.mono ?_
          rintro e w2 ⟨rfl, rfl⟩
          go_wp2_with (at_builtin; refine wpList_appI _ rfl _ _ 28 rfl w1.heap.size 3 .i64 Try.underlying28 info_int _ L rfl (HO.out.alloc _) (some ⟨wr.heap.size, 0, none⟩) 1 1 [z - 2] rfl rfl (RdI.one _ .i64 (z - 2) _) ?c4 ?c5 ?_)
          case c4 => simp; omega
          case c5 => simp; omega
          intro v' w2 hown' hgrow _
          have hb2 := (HO.out.alloc _).below_step (moreW HB.out _) hgrow (by simp; omega) (Nat.le_refl _)
          have HO' := hide hown'
          have HB' := hide hb2
          clear hown' hgrow hb2
          go_wp2
          go_roundw
          case rel => exact ⟨k + 1, by omega, by go_num, by
            have := HO'.out
            unfold leftTo
            rw [HZK.out, ← HM1.out, if_pos ⟨h1, h2⟩, ← HL.out]
            exact this, HB'.out⟩
          case measure => simp [intOf]; omega
        · have hd2 : decide (2 ≤ z) = false := decide_eq_false h2
          go_wp2_with fail
          refine HPK.out.mono ?_
          rintro e w2 ⟨rfl, rfl⟩
          go_wp2_with fail
          go_roundw
          case rel => exact ⟨k + 1, by omega, by go_num, by
            unfold leftTo
            rw [HZK.out, if_neg (fun h => absurd h.2 (by omega)), List.append_nil, ← HL.out]
            exact HO, HB⟩
          case measure => simp [intOf]; omega
      · have hd : decide (2 + m ≤ (k : Int)) = false := decide_eq_false h1
        go_wp2_with fail
        refine HPK.out.mono ?_
        rintro e w2 ⟨rfl, rfl⟩
        go_wp2_with fail
        go_roundw
        case rel => exact ⟨k + 1, by omega, by go_num, by
          unfold leftTo
          rw [← HM1.out, if_neg (fun h => absurd h.1 (by omega)), List.append_nil, ← HL.out]
          exact HO, HB⟩
        case measure => simp [intOf]; omega
    · have hkn : k = n := by omega
      subst hkn
      go_wp2_with fail
      go_ret
      exact HO.out.ret (extW HB1.out HB.out)
end
end Go.Proofs.Ythghghoikaincaa
