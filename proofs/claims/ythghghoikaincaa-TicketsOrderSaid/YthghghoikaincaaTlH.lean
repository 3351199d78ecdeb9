/- The walk of the law's spans. -/
import Derived.Test.YthghghoikaincaaTlG
namespace Go.Proofs.Ythghghoikaincaa
open Go.RowKit

theorem run_sliceToF {P : Program} (t e : TypeId) (z : Value) (m bytes : Nat) (ht : P.underlying t = some (.slice e)) (hi : (P.info? e).map (fun i => (i.zero, i.size, i.bytes)) = some (some z, m, bytes)) (A : Option Addr) (n c k : Nat) (X : Int) (hX : X = (k : Int)) (hm : k ≤ c) (w : World) :
    (Instr.slice t (.slice A n c) none (some (.int .i64 X)) none).run P w = .ok (.slice A k c) w := by
  subst hX
  obtain ⟨i, hi0, _, hi1, _⟩ := info_parts hi
  have h0 : 0 ≤ (k : Int) ∧ (k : Int) ≤ (c : Int) := by omega
  by_cases hcm : c = 0
  · have : k = 0 := by omega
    subst this; subst hcm
    cases A <;> simp [Instr.slice, Instr.sliceBounds, run_underlying ht, sizeOf, typeInfo, hi0, run_sliceBound_if]
  · simp [Instr.slice, Instr.sliceBounds, run_underlying ht, sizeOf, typeInfo, hi0, run_sliceBound_if, h0, hcm]
    cases A <;> simp [add_zero]
theorem spTo_yes {N : List NtT} {kind : Int} {k : Nat} {z : NtT} (hz : N[k]? = some z) (h : hitN kind z = true) : spTo N kind (k + 1) = spTo N kind k ++ [⟨begTo N z.th z.seq k, z.time, valN kind z⟩] := by
  rw [spTo, hz]; dsimp only; rw [if_pos h]
theorem spTo_no {N : List NtT} {kind : Int} {k : Nat} {z : NtT} (hz : N[k]? = some z) (h : hitN kind z = false) : spTo N kind (k + 1) = spTo N kind k := by
  rw [spTo, hz]; dsimp only; rw [h]; simp
theorem spTo_len (N : List NtT) (kind : Int) (k : Nat) : (spTo N kind k).length ≤ k := by
  have := takenTo_len N kind k
  rw [taken_sp, List.length_map] at this
  exact this
theorem begTo_yes {N : List NtT} {th seq : Int} {k : Nat} {z : NtT} (hz : N[k]? = some z) (h : begN th seq z = true) : begTo N th seq (k + 1) = z.time := by
  rw [begTo, hz]; dsimp only; rw [if_pos h]
theorem begTo_no {N : List NtT} {th seq : Int} {k : Nat} {z : NtT} (hz : N[k]? = some z) (h : begN th seq z = false) : begTo N th seq (k + 1) = begTo N th seq k := by
  rw [begTo, hz]; dsimp only; rw [h]; simp
/-- what spans answers -/
def SpansE (l : List SpT) (w : World) (e : Ending) (w' : World) : Prop := ∃ B d, e = .returned (.slice B l.length d) ∧ RdF w' spC B l ∧ Below w.heap.size w w'
section
variable (w : World) (A : Option Addr) (c : Nat)
set_option maxRecDepth 100000 in
set_option maxHeartbeats 4000000 in
theorem spans_any (N : List NtT) (kind : Int) (hr : RdF w ntC A N) (hl : N.length ≤ 20000) (hcap : N.length ≤ c) :
    Calls Try.prog 17 #[.slice A N.length c, .int .i64 kind] w (SpansE (spL N kind) w) := by
  unfold spL
  obtain ⟨n, hn⟩ : ∃ n, n = N.length := ⟨_, rfl⟩
  rw [← hn] at hl hcap ⊢
  have HN := hide hn
  have HR := hide hr
  have HSL := hide (fun (k : Nat) (X : Int) (hX : X = (k : Int)) (hm : k ≤ c) (w' : World) => run_sliceToF (P := Try.prog) 40 61 _ 13 120 Try.underlying40 info_nt A n c k X hX hm w')
  clear hn hr
  go_enter Try.func17, Try.ntmps17
  go_wp2_with fail
  go_loopw [5, 6, 7, 8, 10, 13] (fun o _ _ _ _ i wr => ∃ k : Nat, k ≤ n ∧ i = .int .i64 k ∧ Hid (OwnF wr w.heap.size 47 3 spC o (spTo N kind k)) ∧ Hid (Below w.heap.size w wr)) (fun _ _ _ _ _ i _ => n - (intOf i).toNat)
  case atStart => exact ⟨0, Nat.zero_le _, rfl, OwnF.nil _ _ _ _ _, selfW _⟩
  case round =>
    obtain ⟨k, hk, rfl, HO, HB⟩ := hrel
    by_cases hlt : k < n
    · obtain ⟨ad, z, hA, hz, ⟨c0, c1, c2, c3, c4, c5, c6, c7, c8⟩, c9, c10, c11, c12⟩ := RdF.nt (HR.out.below HB.out) (i := k) (by rw [← HN.out]; exact hlt)
      subst hA
      rw [add_lit _ _ (by decide)] at c1 c2 c3 c4 c5 c6 c7 c8 c9 c10 c11 c12
      have hsz := HB.out.size
      have HYES := hide (fun h : hitN kind z = true => spTo_yes hz h)
      have HNO := hide (fun h : hitN kind z = false => spTo_no hz h)
      have hll := spTo_len N kind k
      obtain ⟨L, hL⟩ : ∃ L, L = spTo N kind k := ⟨_, rfl⟩
      rw [← hL] at HO hll HYES HNO
      obtain ⟨ki, th, se, ti, rk, rv, qs, qc, qv⟩ := z
      dsimp only at c0 c1 c2 c3 c4 c6 c9 c11 c12 HYES
      clear hz hL
      have hsl := HSL.out k k rfl (by omega)
      by_cases h1 : ki = 3
      case neg =>
        have d1 : (ki == 3) = false := by simpa using h1
        have e1 : (ki != 3) = true := by simpa using h1
        have HF := hide (HNO.out (by unfold hitN; dsimp only; rw [d1]; rfl))
        clear h1 HYES HNO
        go_wp2_with fail
        go_roundw
        case rel => exact ⟨k + 1, by omega, by go_num, by rw [HF.out]; exact HO.out.extW (moreW (selfW wr) _), moreW HB.out _⟩
        case measure => simp [intOf]; omega
      have d1 : (ki == 3) = true := by simpa using h1
      have e1 : (ki != 3) = false := by simpa using h1
      by_cases h2 : qc = 0
      case neg =>
        have d2 : (qc == 0) = false := by simpa using h2
        have e2 : (qc != 0) = true := by simpa using h2
        have HF := hide (HNO.out (by unfold hitN; dsimp only; rw [d1, d2]; rfl))
        clear h1 h2 HYES HNO
        go_wp2_with fail
        go_roundw
        case rel => exact ⟨k + 1, by omega, by go_num, by rw [HF.out]; exact HO.out.extW (moreW (selfW wr) _), moreW HB.out _⟩
        case measure => simp [intOf]; omega
      have d2 : (qc == 0) = true := by simpa using h2
      have e2 : (qc != 0) = false := by simpa using h2
      by_cases h3 : rk = kind
      case neg =>
        have d3 : (rk == kind) = false := by simpa using h3
        have e3 : (rk != kind) = true := by simpa using h3
        have HF := hide (HNO.out (by unfold hitN; dsimp only; rw [d1, d2, d3]; rfl))
        clear h1 h2 h3 HYES HNO
        go_wp2_with fail
        go_roundw
        case rel => exact ⟨k + 1, by omega, by go_num, by rw [HF.out]; exact HO.out.extW (moreW (selfW wr) _), moreW HB.out _⟩
        case measure => simp [intOf]; omega
      have d3 : (rk == kind) = true := by simpa using h3
      have e3 : (rk != kind) = false := by simpa using h3
      clear h1 h2 h3
      by_cases h4 : kind = 8
      · have d4 : (kind == 8) = true := by simpa using h4
        have H4 := hide h4
        clear h4
        go_wp2_with fail
        obtain ⟨wo, rfl⟩ : ∃ wo : World, wo = wr := ⟨_, rfl⟩
        obtain ⟨g7, hg7⟩ : ∃ g, g = wo.heap.size := ⟨_, rfl⟩
        have hg8 : g7 + 1 = wo.heap.size + 1 := by omega
        rw [← hg8, ← hg7]
        have HG7 := hide hg7
        clear hg8 hg7
        go_loopw [10, 50] (fun _ i wr => ∃ h : Nat, h ≤ k ∧ i = .int .i64 h ∧ Hid (Below wo.heap.size wo wr) ∧ Hid (Blk wr g7 61 #[.int .i64 ki, .int .i64 th, .int .i64 se, .int .i64 ti, .int .i64 rk, .int .i64 0, .int .i64 rv, .bool false, .slice none 0 0, .int .i64 qs, .int .i64 0, .int .i64 qc, .int .i64 qv]) ∧ Hid (Blk wr (g7 + 1) 47 #[.int .i64 (begTo N th se h), .int .i64 ti, .int .i64 rv])) (fun _ i _ => k - (intOf i).toNat)
        case atStart =>
          rw [HG7.out]
          exact ⟨0, Nat.zero_le _, rfl, (moreW (moreW (selfW wo) _) _), ((Blk.new wo _ _).alloc _), (Blk.newAt (wo.alloc (.cells #[.int .i64 ki, .int .i64 th, .int .i64 se, .int .i64 ti, .int .i64 rk, .int .i64 0, .int .i64 rv, .bool false, .slice none 0 0, .int .i64 qs, .int .i64 0, .int .i64 qc, .int .i64 qv] 61)) _ _ (by simp))⟩
        case round =>
          obtain ⟨h, hh, rfl, HZ, H7, H8⟩ := hrel
          have hc7 := fun i => Blk.cell H7.out i
          have hc8 := fun i => Blk.cell H8.out i
          have hf8 := fun i => Blk.free H8.out i
          have hz7 := H7.out.lt
          have hz8 := H8.out.lt
          by_cases hlh : h < k
          · have hn0 : g7 ≠ wr.heap.size := by omega
            have hn1 : g7 + 1 ≠ wr.heap.size := by omega
            have hn2 : wr.heap.size ≠ g7 := by omega
            have hn3 : wr.heap.size ≠ g7 + 1 := by omega
            have hn4 : g7 < wr.heap.size + 1 := by omega
            have hn5 : g7 + 1 < wr.heap.size + 1 := by omega
            obtain ⟨ad', z, hA, hz, ⟨b0, b1, b2, b3, b4, b5, b6, b7, b8⟩, b9, b10, b11, b12⟩ := RdF.nt (HR.out.below (extW HB.out HZ.out)) (i := h) (by rw [← HN.out]; omega)
            injection hA with hA
            subst hA
            rw [add_lit _ _ (by decide)] at b1 b2 b3 b4 b5 b6 b7 b8 b9 b10 b11 b12
            have HYB := hide (fun e : begN th se z = true => begTo_yes hz e)
            have HNB := hide (fun e : begN th se z = false => begTo_no hz e)
            obtain ⟨bg, hbg⟩ : ∃ bg, bg = begTo N th se h := ⟨_, rfl⟩
            rw [← hbg] at H8 HNB hc8
            obtain ⟨ki2, th2, se2, ti2, rk2, rv2, qs2, qc2, qv2⟩ := z
            dsimp only at b0 b1 b2 b3 b4 b6 b9 b11 b12 HYB
            clear hz hbg c0 c1 c2 c3 c4 c5 c6 c7 c8 c9 c10 c11 c12
            by_cases q1 : ki2 = 1
            case neg =>
              have p1 : (ki2 == 1) = false := by simpa using q1
              have HF := hide (HNB.out (by unfold begN; dsimp only; rw [p1]; rfl))
              clear q1 HYB HNB
              go_wp2_with fail
              go_roundw
              case rel => exact ⟨h + 1, by omega, by go_num, moreW HZ.out _, H7.out.alloc _, by rw [HF.out]; exact H8.out.alloc _⟩
              case measure => simp [intOf]; omega
            have p1 : (ki2 == 1) = true := by simpa using q1
            by_cases q2 : th2 = th
            case neg =>
              have p2 : (th2 == th) = false := by simpa using q2
              have HF := hide (HNB.out (by unfold begN; dsimp only; rw [p1, p2]; rfl))
              clear q1 q2 HYB HNB
              go_wp2_with fail
              go_roundw
              case rel => exact ⟨h + 1, by omega, by go_num, moreW HZ.out _, H7.out.alloc _, by rw [HF.out]; exact H8.out.alloc _⟩
              case measure => simp [intOf]; omega
            have p2 : (th2 == th) = true := by simpa using q2
            by_cases q3 : se2 = se
            case neg =>
              have p3 : (se2 == se) = false := by simpa using q3
              have HF := hide (HNB.out (by unfold begN; dsimp only; rw [p1, p2, p3]; rfl))
              clear q1 q2 q3 HYB HNB
              go_wp2_with fail
              go_roundw
              case rel => exact ⟨h + 1, by omega, by go_num, moreW HZ.out _, H7.out.alloc _, by rw [HF.out]; exact H8.out.alloc _⟩
              case measure => simp [intOf]; omega
            have p3 : (se2 == se) = true := by simpa using q3
            have HF := hide (HYB.out (by unfold begN; dsimp only; rw [p1, p2, p3]; rfl))
            clear q1 q2 q3 HYB HNB
            go_wp2_with fail
            go_roundw
            case rel => exact ⟨h + 1, by omega, by go_num, (by first
                | exact (moreW HZ.out _).setCell (p := ⟨g7 + 1, 0, none⟩) (by rw [HG7.out]; exact Nat.le_succ _) _
                | exact moreW (HZ.out.setCell (p := ⟨g7 + 1, 0, none⟩) (by rw [HG7.out]; exact Nat.le_succ _) _) _), (by first
                | exact (H7.out.alloc _).far (p := ⟨g7 + 1, 0, none⟩) (by simp) _
                | exact (H7.out.far (p := ⟨g7 + 1, 0, none⟩) (by simp) _).alloc _), (by
                rw [HF.out]
                first
                | exact (H8.out.alloc _).set_ 0 (.int .i64 ti2)
                | exact (H8.out.set_ 0 (.int .i64 ti2)).alloc _)⟩
            case measure => simp [intOf]; omega
          · have hkk : h = k := by omega
            subst hkk
            have hsz2 := HZ.out.size
            obtain ⟨bg, hbg⟩ : ∃ bg, bg = begTo N th se h := ⟨_, rfl⟩
            rw [← hbg] at H8 hc8 HYES
            have HF := hide (HYES.out (by unfold hitN; dsimp only; rw [d1, d2, d3]; rfl))
            have HV : Hid (valN kind ⟨ki, th, se, ti, rk, rv, qs, qc, qv⟩ = rv) := by unfold Hid valN; rw [if_pos H4.out]
            rw [HV.out] at HF
            have HOW := hide (HO.out.extW HZ.out)
            clear HYES HNO hbg HV
            go_wp2_with (at_builtin; refine wpList_appF _ rfl _ _ 44 rfl w.heap.size 47 3 24 (.agg #[.int .i64 0, .int .i64 0, .int .i64 0]) spC spC_len spC_one Try.underlying44 info_sp rfl (by decide) _ L rfl ?s1 (some ⟨wr.heap.size, 0, none⟩) 1 1 [⟨bg, ti, rv⟩] rfl rfl ?s2 ?s3 ?s4 ?s5 ?_)
            case s1 => exact HOW.out.extW (moreW (selfW wr) _)
            case s2 => exact Rd.lit wr (spC ⟨bg, ti, rv⟩) _
            case s3 => simp; omega
            case s4 => simp; omega
            case s5 => simp; omega
            intro v' w2 hown' hgrow _
            have hb2 := (HOW.out.extW (moreW (selfW wr) _)).below_step (moreW (extW HB.out HZ.out) (.cells #[.int .i64 bg, .int .i64 ti, .int .i64 rv] 47)) hgrow (by simp; omega) (Nat.le_refl _)
            have HO' := hide hown'
            have HB' := hide hb2
            clear hown' hgrow hb2
            go_wp2
            go_roundw
            case rel => exact ⟨h + 1, by omega, by go_num, by rw [HF.out]; exact HO'.out, HB'.out⟩
            case measure => simp [intOf]; omega
      · have d4 : (kind == 8) = false := by simpa using h4
        have H4 := hide h4
        clear h4
        go_wp2_with fail
        obtain ⟨wo, rfl⟩ : ∃ wo : World, wo = wr := ⟨_, rfl⟩
        obtain ⟨g7, hg7⟩ : ∃ g, g = wo.heap.size := ⟨_, rfl⟩
        have hg8 : g7 + 1 = wo.heap.size + 1 := by omega
        rw [← hg8, ← hg7]
        have HG7 := hide hg7
        clear hg8 hg7
        go_loopw [10, 50] (fun _ i wr => ∃ h : Nat, h ≤ k ∧ i = .int .i64 h ∧ Hid (Below wo.heap.size wo wr) ∧ Hid (Blk wr g7 61 #[.int .i64 ki, .int .i64 th, .int .i64 se, .int .i64 ti, .int .i64 rk, .int .i64 0, .int .i64 rv, .bool false, .slice none 0 0, .int .i64 qs, .int .i64 0, .int .i64 qc, .int .i64 qv]) ∧ Hid (Blk wr (g7 + 1) 47 #[.int .i64 (begTo N th se h), .int .i64 ti, .int .i64 qv])) (fun _ i _ => k - (intOf i).toNat)
        case atStart =>
          rw [HG7.out]
          exact ⟨0, Nat.zero_le _, rfl, (moreW (moreW (selfW wo) _) _), ((Blk.new wo _ _).alloc _), (Blk.newAt (wo.alloc (.cells #[.int .i64 ki, .int .i64 th, .int .i64 se, .int .i64 ti, .int .i64 rk, .int .i64 0, .int .i64 rv, .bool false, .slice none 0 0, .int .i64 qs, .int .i64 0, .int .i64 qc, .int .i64 qv] 61)) _ _ (by simp))⟩
        case round =>
          obtain ⟨h, hh, rfl, HZ, H7, H8⟩ := hrel
          have hc7 := fun i => Blk.cell H7.out i
          have hc8 := fun i => Blk.cell H8.out i
          have hf8 := fun i => Blk.free H8.out i
          have hz7 := H7.out.lt
          have hz8 := H8.out.lt
          by_cases hlh : h < k
          · have hn0 : g7 ≠ wr.heap.size := by omega
            have hn1 : g7 + 1 ≠ wr.heap.size := by omega
            have hn2 : wr.heap.size ≠ g7 := by omega
            have hn3 : wr.heap.size ≠ g7 + 1 := by omega
            have hn4 : g7 < wr.heap.size + 1 := by omega
            have hn5 : g7 + 1 < wr.heap.size + 1 := by omega
            obtain ⟨ad', z, hA, hz, ⟨b0, b1, b2, b3, b4, b5, b6, b7, b8⟩, b9, b10, b11, b12⟩ := RdF.nt (HR.out.below (extW HB.out HZ.out)) (i := h) (by rw [← HN.out]; omega)
            injection hA with hA
            subst hA
            rw [add_lit _ _ (by decide)] at b1 b2 b3 b4 b5 b6 b7 b8 b9 b10 b11 b12
            have HYB := hide (fun e : begN th se z = true => begTo_yes hz e)
            have HNB := hide (fun e : begN th se z = false => begTo_no hz e)
            obtain ⟨bg, hbg⟩ : ∃ bg, bg = begTo N th se h := ⟨_, rfl⟩
            rw [← hbg] at H8 HNB hc8
            obtain ⟨ki2, th2, se2, ti2, rk2, rv2, qs2, qc2, qv2⟩ := z
            dsimp only at b0 b1 b2 b3 b4 b6 b9 b11 b12 HYB
            clear hz hbg c0 c1 c2 c3 c4 c5 c6 c7 c8 c9 c10 c11 c12
            by_cases q1 : ki2 = 1
            case neg =>
              have p1 : (ki2 == 1) = false := by simpa using q1
              have HF := hide (HNB.out (by unfold begN; dsimp only; rw [p1]; rfl))
              clear q1 HYB HNB
              go_wp2_with fail
              go_roundw
              case rel => exact ⟨h + 1, by omega, by go_num, moreW HZ.out _, H7.out.alloc _, by rw [HF.out]; exact H8.out.alloc _⟩
              case measure => simp [intOf]; omega
            have p1 : (ki2 == 1) = true := by simpa using q1
            by_cases q2 : th2 = th
            case neg =>
              have p2 : (th2 == th) = false := by simpa using q2
              have HF := hide (HNB.out (by unfold begN; dsimp only; rw [p1, p2]; rfl))
              clear q1 q2 HYB HNB
              go_wp2_with fail
              go_roundw
              case rel => exact ⟨h + 1, by omega, by go_num, moreW HZ.out _, H7.out.alloc _, by rw [HF.out]; exact H8.out.alloc _⟩
              case measure => simp [intOf]; omega
            have p2 : (th2 == th) = true := by simpa using q2
            by_cases q3 : se2 = se
            case neg =>
              have p3 : (se2 == se) = false := by simpa using q3
              have HF := hide (HNB.out (by unfold begN; dsimp only; rw [p1, p2, p3]; rfl))
              clear q1 q2 q3 HYB HNB
              go_wp2_with fail
              go_roundw
              case rel => exact ⟨h + 1, by omega, by go_num, moreW HZ.out _, H7.out.alloc _, by rw [HF.out]; exact H8.out.alloc _⟩
              case measure => simp [intOf]; omega
            have p3 : (se2 == se) = true := by simpa using q3
            have HF := hide (HYB.out (by unfold begN; dsimp only; rw [p1, p2, p3]; rfl))
            clear q1 q2 q3 HYB HNB
            go_wp2_with fail
            go_roundw
            case rel => exact ⟨h + 1, by omega, by go_num, (by first
                | exact (moreW HZ.out _).setCell (p := ⟨g7 + 1, 0, none⟩) (by rw [HG7.out]; exact Nat.le_succ _) _
                | exact moreW (HZ.out.setCell (p := ⟨g7 + 1, 0, none⟩) (by rw [HG7.out]; exact Nat.le_succ _) _) _), (by first
                | exact (H7.out.alloc _).far (p := ⟨g7 + 1, 0, none⟩) (by simp) _
                | exact (H7.out.far (p := ⟨g7 + 1, 0, none⟩) (by simp) _).alloc _), (by
                rw [HF.out]
                first
                | exact (H8.out.alloc _).set_ 0 (.int .i64 ti2)
                | exact (H8.out.set_ 0 (.int .i64 ti2)).alloc _)⟩
            case measure => simp [intOf]; omega
          · have hkk : h = k := by omega
            subst hkk
            have hsz2 := HZ.out.size
            obtain ⟨bg, hbg⟩ : ∃ bg, bg = begTo N th se h := ⟨_, rfl⟩
            rw [← hbg] at H8 hc8 HYES
            have HF := hide (HYES.out (by unfold hitN; dsimp only; rw [d1, d2, d3]; rfl))
            have HV : Hid (valN kind ⟨ki, th, se, ti, rk, rv, qs, qc, qv⟩ = qv) := by unfold Hid valN; rw [if_neg H4.out]
            rw [HV.out] at HF
            have HOW := hide (HO.out.extW HZ.out)
            clear HYES HNO hbg HV
            go_wp2_with (at_builtin; refine wpList_appF _ rfl _ _ 44 rfl w.heap.size 47 3 24 (.agg #[.int .i64 0, .int .i64 0, .int .i64 0]) spC spC_len spC_one Try.underlying44 info_sp rfl (by decide) _ L rfl ?s1 (some ⟨wr.heap.size, 0, none⟩) 1 1 [⟨bg, ti, qv⟩] rfl rfl ?s2 ?s3 ?s4 ?s5 ?_)
            case s1 => exact HOW.out.extW (moreW (selfW wr) _)
            case s2 => exact Rd.lit wr (spC ⟨bg, ti, qv⟩) _
            case s3 => simp; omega
            case s4 => simp; omega
            case s5 => simp; omega
            intro v' w2 hown' hgrow _
            have hb2 := (HOW.out.extW (moreW (selfW wr) _)).below_step (moreW (extW HB.out HZ.out) (.cells #[.int .i64 bg, .int .i64 ti, .int .i64 qv] 47)) hgrow (by simp; omega) (Nat.le_refl _)
            have HO' := hide hown'
            have HB' := hide hb2
            clear hown' hgrow hb2
            go_wp2
            go_roundw
            case rel => exact ⟨h + 1, by omega, by go_num, by rw [HF.out]; exact HO'.out, HB'.out⟩
            case measure => simp [intOf]; omega
    · have hkn : k = n := by omega
      subst hkn
      obtain ⟨l, hl'⟩ : ∃ l, l = spTo N kind k := ⟨_, rfl⟩
      rw [← hl'] at HO
      have HL' := hide hl'
      clear hl'
      go_wp2_with fail
      obtain ⟨B, d, rfl⟩ := HO.out.shape
      go_ret
      have hfin : SpansE l w (.returned (.slice B l.length d)) wr := ⟨B, d, rfl, HO.out.rdF.2, HB.out⟩
      exact (congrArg (fun z => SpansE z w (.returned (.slice B l.length d)) wr) HL'.out).mp hfin
end
end Go.Proofs.Ythghghoikaincaa
