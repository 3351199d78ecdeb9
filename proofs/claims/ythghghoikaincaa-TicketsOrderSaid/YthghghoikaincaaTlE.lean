/- The walk of the law's taken. -/
import Derived.Test.YthghghoikaincaaTlD
namespace Go.Proofs.Ythghghoikaincaa
open Go.RowKit

theorem RdF.nt {w : World} {A : Option Addr} {xs : List NtT} (h : RdF w ntC A xs) {i : Nat} (hi : i < xs.length) :
    ∃ ad x, A = some ad ∧ xs[i]? = some x ∧ (w.cell? (ad.add (i * 13)) = some (.int .i64 x.kind) ∧ w.cell? ((ad.add (i * 13)).add 1) = some (.int .i64 x.th) ∧ w.cell? ((ad.add (i * 13)).add 2) = some (.int .i64 x.seq) ∧ w.cell? ((ad.add (i * 13)).add 3) = some (.int .i64 x.time) ∧
      w.cell? ((ad.add (i * 13)).add 4) = some (.int .i64 x.rk) ∧ w.cell? ((ad.add (i * 13)).add 5) = some (.int .i64 0) ∧ w.cell? ((ad.add (i * 13)).add 6) = some (.int .i64 x.rv) ∧ w.cell? ((ad.add (i * 13)).add 7) = some (.bool false) ∧ w.cell? ((ad.add (i * 13)).add 8) = some (.slice none 0 0)) ∧
      (w.cell? ((ad.add (i * 13)).add 9) = some (.int .i64 x.qs) ∧ w.cell? ((ad.add (i * 13)).add 10) = some (.int .i64 0) ∧ w.cell? ((ad.add (i * 13)).add 11) = some (.int .i64 x.qc) ∧ w.cell? ((ad.add (i * 13)).add 12) = some (.int .i64 x.qv)) := by
  obtain ⟨ad, x, h1, h2, h3⟩ := RdF.at_ ntC_len (by decide) h hi
  exact ⟨ad, x, h1, h2, ⟨h3 0 _ rfl, h3 1 _ rfl, h3 2 _ rfl, h3 3 _ rfl, h3 4 _ rfl, h3 5 _ rfl, h3 6 _ rfl, h3 7 _ rfl, h3 8 _ rfl⟩, h3 9 _ rfl, h3 10 _ rfl, h3 11 _ rfl, h3 12 _ rfl⟩
theorem takenTo_yes {N : List NtT} {kind : Int} {k : Nat} {z : NtT} (hz : N[k]? = some z) (h : hitN kind z = true) : takenTo N kind (k + 1) = takenTo N kind k ++ [valN kind z] := by
  rw [takenTo, hz]; dsimp only; rw [if_pos h]
theorem takenTo_no {N : List NtT} {kind : Int} {k : Nat} {z : NtT} (hz : N[k]? = some z) (h : hitN kind z = false) : takenTo N kind (k + 1) = takenTo N kind k := by
  rw [takenTo, hz]; dsimp only; rw [h]; simp
section
variable (w : World) (A : Option Addr) (c : Nat)
set_option maxHeartbeats 2000000 in
theorem taken_any (N : List NtT) (kind : Int) (hr : RdF w ntC A N) (hl : N.length ≤ 20000) :
    Calls Try.prog 13 #[.slice A N.length c, .int .i64 kind] w fun e w' => RetI .i64 (takenL N kind) w e w' := by
  unfold takenL
  obtain ⟨n, hn⟩ : ∃ n, n = N.length := ⟨_, rfl⟩
  rw [← hn] at hl ⊢
  have HN := hide hn
  have HR := hide hr
  clear hn hr
  go_enter Try.func13, Try.ntmps13
  go_wp2_with fail
  go_loopw [5, 7, 10] (fun o _ i wr => ∃ k : Nat, k ≤ n ∧ i = .int .i64 k ∧ Hid (OwnI wr w.heap.size 3 .i64 o (takenTo N kind k)) ∧ Hid (Below w.heap.size w wr)) (fun _ _ i _ => n - (intOf i).toNat)
  case atStart => exact ⟨0, Nat.zero_le _, rfl, OwnI.nil _ _ _ _, selfW _⟩
  case round =>
    obtain ⟨k, hk, rfl, HO, HB⟩ := hrel
    by_cases hlt : k < n
    · obtain ⟨ad, z, hA, hz, ⟨c0, c1, c2, c3, c4, c5, c6, c7, c8⟩, c9, c10, c11, c12⟩ := RdF.nt (HR.out.below HB.out) (i := k) (by rw [← HN.out]; exact hlt)
      subst hA
      rw [add_lit _ _ (by decide)] at c1 c2 c3 c4 c5 c6 c7 c8 c9 c10 c11 c12
      have hsz := HB.out.size
      have HYES := hide (fun h : hitN kind z = true => takenTo_yes hz h)
      have HNO := hide (fun h : hitN kind z = false => takenTo_no hz h)
      have hll := takenTo_len N kind k
      obtain ⟨L, hL⟩ : ∃ L, L = takenTo N kind k := ⟨_, rfl⟩
      rw [← hL] at HO hll HYES HNO
      obtain ⟨ki, th, se, ti, rk, rv, qs, qc, qv⟩ := z
      dsimp only at c0 c1 c2 c3 c4 c6 c9 c11 c12
      clear hz hL
      by_cases h1 : ki = 3
      case neg =>
        have d1 : (ki == 3) = false := by simpa using h1
        have HF := hide (HNO.out (by unfold hitN; dsimp only; rw [d1]; rfl))
        clear h1 HYES HNO
        go_wp2_with fail
        go_roundw
        case rel => exact ⟨k + 1, by omega, by go_num, by rw [HF.out]; exact HO.out.alloc _, moreW HB.out _⟩
        case measure => simp [intOf]; omega
      have d1 : (ki == 3) = true := by simpa using h1
      by_cases h2 : qc = 0
      case neg =>
        have d2 : (qc == 0) = false := by simpa using h2
        have HF := hide (HNO.out (by unfold hitN; dsimp only; rw [d1, d2]; rfl))
        clear h1 h2 HYES HNO
        go_wp2_with fail
        go_roundw
        case rel => exact ⟨k + 1, by omega, by go_num, by rw [HF.out]; exact HO.out.alloc _, moreW HB.out _⟩
        case measure => simp [intOf]; omega
      have d2 : (qc == 0) = true := by simpa using h2
      by_cases h3 : rk = kind
      case neg =>
        have d3 : (rk == kind) = false := by simpa using h3
        have HF := hide (HNO.out (by unfold hitN; dsimp only; rw [d1, d2, d3]; rfl))
        clear h1 h2 h3 HYES HNO
        go_wp2_with fail
        go_roundw
        case rel => exact ⟨k + 1, by omega, by go_num, by rw [HF.out]; exact HO.out.alloc _, moreW HB.out _⟩
        case measure => simp [intOf]; omega
      have d3 : (rk == kind) = true := by simpa using h3
      have HF := hide (HYES.out (by unfold hitN; dsimp only; rw [d1, d2, d3]; rfl))
      clear h1 h2 h3 HYES HNO
      by_cases h4 : kind = 8
      · have d4 : (kind == 8) = true := by simpa using h4
        have HV : Hid (valN kind ⟨ki, th, se, ti, rk, rv, qs, qc, qv⟩ = rv) := by unfold Hid valN; rw [if_pos h4]
        clear h4
        go_wp2_with (at_builtin; refine wpList_appI _ rfl _ _ 28 rfl w.heap.size 3 .i64 Try.underlying28 info_int _ L rfl ((HO.out.alloc _).alloc _) (some ⟨wr.heap.size + 1, 0, none⟩) 1 1 [rv] rfl rfl (RdI.oneAt _ .i64 rv _ (by simp)) ?c4 ?c5 ?_)
        case c4 => simp; omega
        case c5 => simp; omega
        intro v' w2 hown' hgrow _
        have hb2 := ((HO.out.alloc _).alloc _).below_step (moreW (moreW HB.out _) _) hgrow (by simp; omega) (Nat.le_refl _)
        have HO' := hide hown'
        have HB' := hide hb2
        clear hown' hgrow hb2
        go_wp2
        go_roundw
        case rel => exact ⟨k + 1, by omega, by go_num, by rw [HF.out, HV.out]; exact HO'.out, HB'.out⟩
        case measure => simp [intOf]; omega
      · have d4 : (kind == 8) = false := by simpa using h4
        have HV : Hid (valN kind ⟨ki, th, se, ti, rk, rv, qs, qc, qv⟩ = qv) := by unfold Hid valN; rw [if_neg h4]
        clear h4
        go_wp2_with (at_builtin; refine wpList_appI _ rfl _ _ 28 rfl w.heap.size 3 .i64 Try.underlying28 info_int _ L rfl ((HO.out.alloc _).alloc _) (some ⟨wr.heap.size + 1, 0, none⟩) 1 1 [qv] rfl rfl (RdI.oneAt _ .i64 qv _ (by simp)) ?c6 ?c7 ?_)
        case c6 => simp; omega
        case c7 => simp; omega
        intro v' w2 hown' hgrow _
        have hb2 := ((HO.out.alloc _).alloc _).below_step (moreW (moreW HB.out _) _) hgrow (by simp; omega) (Nat.le_refl _)
        have HO' := hide hown'
        have HB' := hide hb2
        clear hown' hgrow hb2
        go_wp2
        go_roundw
        case rel => exact ⟨k + 1, by omega, by go_num, by rw [HF.out, HV.out]; exact HO'.out, HB'.out⟩
        case measure => simp [intOf]; omega
    · have hkn : k = n := by omega
      subst hkn
      go_wp2_with fail
      go_ret
      exact HO.out.ret HB.out
end
end Go.Proofs.Ythghghoikaincaa
