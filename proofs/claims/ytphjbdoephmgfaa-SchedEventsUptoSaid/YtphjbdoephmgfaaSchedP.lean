/- The walks of sched.Events, sched.Picks; events of stopgateplain. -/
import Derived.Test.YtphjbdoephmgfaaSchedA
import Derived.Test.YtphjbdoephmgfaaInts
namespace Go.Proofs.Ytphjbdoephmgfaa
open Go.RowKit

/-- an event: its cells -/
structure EvT where
  (k t a b c : Int)
  d : Bool
  ca : Option Addr
  (cn cc : Nat)
  i : Int
  oa : Option Addr
  (on oc : Nat)
def evC (e : EvT) : List Value := [.int .i64 e.k, .int .i64 e.t, .int .i64 e.a, .int .i64 e.b, .int .i64 e.c, .bool e.d, .slice e.ca e.cn e.cc, .int .i64 e.i, .slice e.oa e.on e.oc]
theorem evC_len (e : EvT) : (evC e).length = 9 := rfl
theorem evC_one (e : EvT) : ∀ u ∈ evC e, u.oneCell' = true := by
  intro u hu; simp [evC] at hu; rcases hu with rfl | rfl | rfl | rfl | rfl | rfl | rfl | rfl | rfl <;> rfl
theorem info_ev : (Try.prog.info? 37).map (fun i => (i.zero, i.size, i.bytes)) = some (some (.agg #[.int .i64 0, .int .i64 0, .int .i64 0, .int .i64 0, .int .i64 0, .bool false, .slice none 0 0, .int .i64 0, .slice none 0 0]), 9, 104) := by kernel_rfl
/-- a pick as an event -/
def pickE (t : Int) : EvT := ⟨1, t, 0, 0, 0, false, none, 0, 0, 0, none, 0, 0⟩

/-- the picks among events -/
def picksE (ks : List EvT) : List Int := (ks.filter fun e => e.k == 1).map (·.t)
theorem picksE_pick (zs : List Int) : picksE (zs.map pickE) = zs := by
  induction zs with
  | nil => rfl
  | cons z l ih =>
    have h : picksE ((z :: l).map pickE) = z :: picksE (l.map pickE) := by simp [picksE, pickE]
    rw [h, ih]
theorem picksE_yes {ks : List EvT} {k : Nat} {e : EvT} (h : ks[k]? = some e) (hk : e.k = 1) : picksE (ks.take (k + 1)) = picksE (ks.take k) ++ [e.t] := by
  rw [List.take_add_one, h]; simp [picksE, hk]
theorem picksE_no {ks : List EvT} {k : Nat} {e : EvT} (h : ks[k]? = some e) (hk : ¬ e.k = 1) : picksE (ks.take (k + 1)) = picksE (ks.take k) := by
  rw [List.take_add_one, h]; simp [picksE, hk]
theorem picksE_len (ks : List EvT) : (picksE ks).length ≤ ks.length := by
  unfold picksE; rw [List.length_map]; exact List.length_filter_le _ _
/-- the cells of the event at a place -/
theorem ev_at {w : World} {A : Option Addr} {ks : List EvT} (h : RdF w evC A ks) {i : Nat} (hi : i < ks.length) :
    ∃ ad e, A = some ad ∧ ks[i]? = some e ∧ w.cell? (ad.add (i * 9)) = some (.int .i64 e.k) ∧ w.cell? ((ad.add (i * 9)).add 1) = some (.int .i64 e.t) ∧ w.cell? ((ad.add (i * 9)).add 2) = some (.int .i64 e.a) ∧
      w.cell? ((ad.add (i * 9)).add 3) = some (.int .i64 e.b) ∧ w.cell? ((ad.add (i * 9)).add 4) = some (.int .i64 e.c) ∧ w.cell? ((ad.add (i * 9)).add 5) = some (.bool e.d) ∧ w.cell? ((ad.add (i * 9)).add 6) = some (.slice e.ca e.cn e.cc) ∧
      w.cell? ((ad.add (i * 9)).add 7) = some (.int .i64 e.i) ∧ w.cell? ((ad.add (i * 9)).add 8) = some (.slice e.oa e.on e.oc) := by
  obtain ⟨ad, e, h1, h2, h3⟩ := RdF.at_ evC_len (by decide) h hi
  exact ⟨ad, e, h1, h2, h3 0 _ rfl, h3 1 _ rfl, h3 2 _ rfl, h3 3 _ rfl, h3 4 _ rfl, h3 5 _ rfl, h3 6 _ rfl, h3 7 _ rfl, h3 8 _ rfl⟩

section
variable (A : Option Addr) (c : Nat) (zs : List Int) (w : World)
set_option maxHeartbeats 1000000 in
theorem events_any (hl : zs.length ≤ 1048576) (hr : RdI w .i64 A zs) :
    Calls Try.prog 20 #[.slice A zs.length c] w fun e w' => (∃ B d, e = .returned (.slice B zs.length d) ∧ RdF w' evC B (zs.map pickE)) ∧ Below w.heap.size w w' := by
  obtain ⟨n, hn⟩ : ∃ n, n = zs.length := ⟨_, rfl⟩
  rw [← hn] at hl ⊢
  have HN := hide hn; clear hn
  have HR := hide hr; clear hr
  go_enter Try.func20, Try.ntmps20
  go_wp2
  go_loopw [3, 8] (fun v i wr => ∃ (k : Nat) (L : List EvT), k ≤ n ∧ i = .int .i64 k ∧ Hid (OwnF wr w.heap.size 37 9 evC v L) ∧ L.length = k ∧ Hid (L = (zs.take k).map pickE) ∧ Hid (Below w.heap.size w wr)) (fun _ i _ => n - (intOf i).toNat)
  case atStart => exact ⟨0, [], Nat.zero_le _, rfl, OwnF.nil _ _ _ _ _, rfl, rfl, Below.refl _ _⟩
  case round =>
    obtain ⟨k, L, hk, rfl, HO, hll, HL, HB⟩ := hrel
    have hsz := HB.out.size
    by_cases hlt : k < n
    · obtain ⟨ad, z, hA, hz, hc⟩ := RdI.at_ (HR.out.below HB.out) (by rw [← HN.out]; exact hlt)
      subst hA
      have HZ := hide hz; clear hz
      go_wp2_with (at_builtin; refine wpList_appF _ rfl _ _ 30 rfl w.heap.size 37 9 104 (.agg #[.int .i64 0, .int .i64 0, .int .i64 0, .int .i64 0, .int .i64 0, .bool false, .slice none 0 0, .int .i64 0, .slice none 0 0]) evC evC_len evC_one Try.underlying30 info_ev rfl (by decide) _ L rfl (HO.out.alloc _) (some ⟨wr.heap.size, 0, none⟩) 1 1 [pickE z] rfl rfl ?c4 ?c5 ?c6 ?c7 ?_)
      case c4 => exact Rd.lit wr (evC (pickE z)) _
      case c5 => simp; omega
      case c6 => simp; omega
      case c7 => simp; omega
      intro v' w1 hown' hgrow _
      have hb' := (HO.out.alloc _).below_step (HB.out.alloc HB.out.size _) hgrow (by simp; omega) (Nat.le_refl _)
      have HO' := hide hown'; have HB' := hide hb'; clear hown' hgrow hb'
      have HL2 := hide (show L ++ [pickE z] = (zs.take (k + 1)).map pickE by rw [List.take_add_one, HZ.out, HL.out]; simp)
      go_wp2
      go_roundw
      case rel => exact ⟨k + 1, _, by omega, by go_num, HO', by simp; omega, HL2.out, HB'.out⟩
      case measure => simp [intOf]; omega
    · have hkn : k = n := by omega
      subst hkn
      obtain ⟨B, d, hv, hrd⟩ := HO.out.rd
      subst hv
      have HRD := hide hrd; have HLE := hide hll; clear hrd hll
      go_wp2
      go_ret
      have h1 := HRD.out
      have h2 := HL.out
      rw [List.take_of_length_le (by have := HN.out; omega)] at h2
      rw [h2] at h1
      exact ⟨⟨B, d, by rw [HLE.out]; rfl, h1⟩, HB.out⟩

set_option maxHeartbeats 1000000 in
theorem picksof_any (ks : List EvT) (hl : ks.length ≤ 1048576) (hr : RdF w evC A ks) :
    Calls Try.prog 21 #[.slice A ks.length c] w fun e w' => RetI .i64 (picksE ks) w e w' := by
  obtain ⟨n, hn⟩ : ∃ n, n = ks.length := ⟨_, rfl⟩
  rw [← hn] at hl ⊢
  have HN := hide hn; clear hn
  have HR := hide hr; clear hr
  go_enter Try.func21, Try.ntmps21
  go_wp2
  go_loopw [3, 8] (fun v i wr => ∃ (k : Nat) (L : List Int), k ≤ n ∧ i = .int .i64 k ∧ Hid (OwnI wr w.heap.size 3 .i64 v L) ∧ L.length ≤ k ∧ Hid (L = picksE (ks.take k)) ∧ Hid (Below w.heap.size w wr)) (fun _ i _ => n - (intOf i).toNat)
  case atStart => exact ⟨0, [], Nat.zero_le _, rfl, OwnI.nil _ _ _ _, Nat.le_refl _, rfl, Below.refl _ _⟩
  case round =>
    obtain ⟨k, L, hk, rfl, HO, hll, HL, HB⟩ := hrel
    have hsz := HB.out.size
    by_cases hlt : k < n
    · obtain ⟨ad, ⟨ek, et, ea, eb, ec, ed, eca, ecn, ecc, ei, eoa, eon, eoc⟩, hA, hz, c0, c1, c2, c3, c4, c5, c6, c7, c8⟩ := ev_at (HR.out.below HB.out) (i := k) (by rw [← HN.out]; exact hlt)
      subst hA
      dsimp only at c0 c1 c2 c3 c4 c5 c6 c7 c8
      rw [add_lit _ _ (by decide)] at c1 c2 c3 c4 c5 c6 c7 c8
      have HZ := hide hz; clear hz
      by_cases hek : ek = 1
      · have HL2 := hide (picksE_yes HZ.out hek)
        have hekb : (ek == 1) = true := by simpa using hek
        have HEK := hide hek; clear hek
        have HO2 := hide ((HO.out.alloc (.cells #[.int .i64 ek, .int .i64 et, .int .i64 ea, .int .i64 eb, .int .i64 ec, .bool ed, .slice eca ecn ecc, .int .i64 ei, .slice eoa eon eoc] 37)).alloc (.cells #[.int .i64 et] 3))
        go_wp2_with (at_builtin; refine wpList_appI _ rfl _ _ 22 rfl w.heap.size 3 .i64 Try.underlying22 info_int _ L rfl HO2.out (some ⟨wr.heap.size + 1, 0, none⟩) 1 1 [et] rfl rfl ?d3 ?d4 ?d5 ?_)
        case d3 => exact RdI.oneAt _ .i64 et _ (by simp)
        case d4 => show (L.length + 1) * 8 ≤ 140737488355328; omega
        case d5 => omega
        intro v' w1 hown' hgrow _
        have hb' := HO2.out.below_step (moreW (moreW HB.out _) _) hgrow (by simp; omega) (Nat.le_refl _)
        have HO' := hide hown'; have HB' := hide hb'; clear hown' hgrow hb'
        have HL3 := hide (show L ++ [et] = picksE (ks.take (k + 1)) by rw [HL2.out, HL.out])
        go_wp2
        go_roundw
        case rel => exact ⟨k + 1, _, by omega, by go_num, HO'.out, by simp; omega, HL3.out, HB'.out⟩
        case measure => simp [intOf]; omega
      · have HL2 := hide (picksE_no HZ.out hek)
        have hekb : (ek == 1) = false := by simpa using hek
        have HEK := hide hek; clear hek
        go_wp2
        go_roundw
        case rel => exact ⟨k + 1, L, by omega, by go_num, HO.out.alloc _, by omega, by rw [Hid, HL2.out]; exact HL.out, HB.out.alloc HB.out.size _⟩
        case measure => simp [intOf]; omega
    · have hkn : k = n := by omega
      subst hkn
      go_wp2
      go_ret
      have h := HO.out.ret HB.out
      rw [HL.out, List.take_of_length_le (by have := HN.out; omega)] at h
      exact h
end
end Go.Proofs.Ytphjbdoephmgfaa
