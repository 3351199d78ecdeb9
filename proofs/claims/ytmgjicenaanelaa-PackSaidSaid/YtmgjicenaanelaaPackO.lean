/- A call's words, read back; the walk of the law PackSaid. -/
import Derived.Test.YtmgjicenaanelaaPackM
import Derived.Test.YtmgjicenaanelaaPackR
namespace Go.Proofs.Ytmgjicenaanelaa
open Go.RowKit

theorem headW_parts {ki ar va : Int} {df : Bool} {n : Nat} (h1 : 1 ≤ ki) (h2 : ki ≤ 9) (h3 : 0 ≤ ar) (h4 : ar < 65536) (h5 : 0 ≤ va) (h6 : va < 4294967296) (hn : n ≤ 3) :
    headW ki ar va df n % 256 = ki ∧ headW ki ar va df n / 65536 % 65536 = ar ∧ headW ki ar va df n / 4294967296 = va ∧ (headW ki ar va df n / 4096 % 2 == 1) = df ∧ headW ki ar va df n / 256 % 16 = (n : Int) ∧
      0 ≤ headW ki ar va df n ∧ headW ki ar va df n < 18446744073709551616 := by
  unfold headW
  cases df
  · simp only [Bool.false_eq_true, if_false]
    refine ⟨by omega, by omega, by omega, ?_, by omega, by omega, by omega⟩
    rw [beq_eq_false_iff_ne]; omega
  · simp only [if_true]
    refine ⟨by omega, by omega, by omega, ?_, by omega, by omega, by omega⟩
    rw [beq_iff_eq]; omega
theorem caseW_parts {c : Int × Int × Int} (h : mayC c = true) : decC (caseW c) = c ∧ 0 ≤ caseW c ∧ caseW c < 18446744073709551616 := by
  obtain ⟨d, hh, v⟩ := c
  simp only [mayC, mayB, fitsB, Bool.and_eq_true, Bool.or_eq_true, beq_iff_eq, decide_eq_true_eq] at h
  obtain ⟨⟨a, b⟩, c⟩ := h
  refine ⟨?_, ?_, ?_⟩
  · simp only [decC, caseW, Prod.mk.injEq]
    refine ⟨by omega, by omega, by omega⟩
  · simp only [caseW]; omega
  · simp only [caseW]; omega
theorem dec_case {cs : List (Int × Int × Int)} (h : cs.all mayC = true) : (cs.map caseW).map decC = cs := by
  induction cs with
  | nil => rfl
  | cons c l ih =>
    simp only [List.all_cons, Bool.and_eq_true] at h
    simp only [List.map_cons, (caseW_parts h.1).1, ih h.2]

section
variable {ki ar va ph : Int} {df : Bool} {cs : List (Int × Int × Int)}
theorem callL_yes (h : fitsQ ki ar va cs = true) (hp : fitsB ph 4294967296 = true) : ∃ z0 z1 z2, callL ki ar va df cs ph = [headW ki ar va df cs.length, z0, z1, z2, ph] ∧ ([z0, z1, z2].take cs.length).map decC = cs ∧ cs.length ≤ 3 ∧
    (∀ z ∈ [z0, z1, z2], 0 ≤ z ∧ z < 18446744073709551616) := by
  have hf := h
  simp only [fitsQ, Bool.and_eq_true, decide_eq_true_eq] at hf
  obtain ⟨⟨_, k7⟩, k8⟩ := hf
  have hd := dec_case k8
  unfold callL
  rw [if_pos ⟨h, hp⟩]
  match cs, k7, k8, hd with
  | [], _, _, _ => exact ⟨0, 0, 0, rfl, rfl, by simp, by simp⟩
  | [c0], _, k8, hd =>
    simp at k8
    exact ⟨caseW c0, 0, 0, rfl, hd, by simp, by have := caseW_parts k8; simp; exact this.2⟩
  | [c0, c1], _, k8, hd =>
    simp at k8
    exact ⟨caseW c0, caseW c1, 0, rfl, hd, by simp, by have := caseW_parts k8.1; have := caseW_parts k8.2; simp; exact ⟨(caseW_parts k8.1).2, (caseW_parts k8.2).2⟩⟩
  | [c0, c1, c2], _, k8, hd =>
    simp at k8
    exact ⟨caseW c0, caseW c1, caseW c2, rfl, hd, by simp, by simp; exact ⟨(caseW_parts k8.1).2, (caseW_parts k8.2.1).2, (caseW_parts k8.2.2).2⟩⟩
  | c0 :: c1 :: c2 :: c3 :: l, k7, _, _ => simp at k7
theorem callL_back : readB (callL ki ar va df cs ph) = decide ((callL ki ar va df cs ph).length = 5) ∧ (∀ z ∈ callL ki ar va df cs ph, 0 ≤ z ∧ z < 18446744073709551616) ∧
    (readB (callL ki ar va df cs ph) = true → reqB (qK (callL ki ar va df cs ph)) (qA (callL ki ar va df cs ph)) (qV (callL ki ar va df cs ph)) (qD (callL ki ar va df cs ph)) (qC (callL ki ar va df cs ph)) ki ar va df cs = true ∧ qP (callL ki ar va df cs ph) = ph) := by
  by_cases hfit : fitsQ ki ar va cs = true ∧ fitsB ph 4294967296 = true
  · obtain ⟨h1, h2⟩ := hfit
    obtain ⟨z0, z1, z2, hL, hcs, h3, hz⟩ := callL_yes (df := df) h1 h2
    have hf := h1
    simp only [fitsQ, fitsB, Bool.and_eq_true, decide_eq_true_eq] at hf
    obtain ⟨⟨⟨⟨⟨k1, k2⟩, k3, k4⟩, k5, k6⟩, _⟩, _⟩ := hf
    have hp := h2
    simp only [fitsB, decide_eq_true_eq] at hp
    obtain ⟨p1, p2, p3, p4, p5, p6, p7⟩ := headW_parts (df := df) k1 k2 k3 k4 k5 k6 h3
    have hN : rdN (callL ki ar va df cs ph) = (cs.length : Int) := by rw [hL]; exact p5
    have hC : rdCs (callL ki ar va df cs ph) = cs := by
      unfold rdCs
      rw [hN, hL]
      show (([z0, z1, z2, ph] : List Int).take cs.length).map decC = cs
      have : ([z0, z1, z2, ph] : List Int).take cs.length = [z0, z1, z2].take cs.length := by
        obtain h | h | h | h : cs.length = 0 ∨ cs.length = 1 ∨ cs.length = 2 ∨ cs.length = 3 := by omega
        all_goals (rw [h]; rfl)
      rw [this, hcs]
    have g0 : (callL ki ar va df cs ph).getD 0 0 = headW ki ar va df cs.length := by rw [hL]; rfl
    have g4 : (callL ki ar va df cs ph).getD 4 0 = ph := by rw [hL]; rfl
    have hlen : (callL ki ar va df cs ph).length = 5 := by rw [hL]; rfl
    have hrb : readB (callL ki ar va df cs ph) = true := by
      unfold readB
      rw [hN, hC, g0, g4, p1, p2, p3, p4, hlen, decide_eq_true (p := (cs.length : Int) ≤ 3) (by omega), decide_eq_true (p := ph ≤ 4294967295) (by omega)]
      simp
    refine ⟨by rw [hrb, hlen]; rfl, ?_, fun _ => ?_⟩
    · intro z hzz
      rw [hL] at hzz
      simp only [List.mem_cons, List.not_mem_nil, or_false] at hzz
      rcases hzz with rfl | rfl | rfl | rfl | rfl
      · exact ⟨p6, p7⟩
      · exact hz _ (by simp)
      · exact hz _ (by simp)
      · exact hz _ (by simp)
      · omega
    · unfold reqB qK qA qV qD qC qP
      simp only [hrb, if_true, g0, g4, p1, p2, p3, p4, hC]
      simp
  · have hL : callL ki ar va df cs ph = [] := by unfold callL; rw [if_neg hfit]
    have hrb : readB ([] : List Int) = false := by unfold readB; simp
    rw [hL]
    exact ⟨by rw [hrb]; rfl, by simp, fun h => by rw [hrb] at h; cases h⟩
end
/-- words that are a call's are made of what they read as -/
theorem read_call {l : List Int} (h : readB l = true) : callL (qK l) (qA l) (qV l) (qD l) (qC l) (qP l) = l := by
  have h0 := h
  unfold readB at h0
  simp only [Bool.and_eq_true, beq_iff_eq] at h0
  unfold qK qA qV qD qC qP
  simp only [h, if_true]
  exact h0.2
theorem words_eq (A B : Option Addr) (c d : Nat) (xs ys : List Int) (w : World) (he : xs = ys) (hl : xs.length ≤ 17592186044416) (ha : RdI w .u64 A xs) (hb : RdI w .u64 B ys) :
    Calls Try.prog 15 #[.slice A xs.length c, .slice B ys.length d] w fun e w' => e = .returned (.bool true) ∧ Below w.heap.size w w' := by
  subst he
  refine (words_any A B c d xs xs w hl hl ha hb).mono ?_
  rintro e w' ⟨rfl, hd⟩
  exact ⟨ret_bool (by simp), hd.extW⟩

section
variable (w : World)
set_option maxHeartbeats 2000000 in
theorem said_law (ki ar va : Int) (df : Bool) (A : Option Addr) (c : Nat) (cs : List (Int × Int × Int)) (ph : Int) (B : Option Addr) (d : Nat) (l : List Int) (hcl : cs.length ≤ 9223372036854775807) (hr : RdF w caseC A cs)
    (hl : l.length ≤ 17592186044416) (hcap : l.length ≤ d) (hz : ∀ z ∈ l, 0 ≤ z ∧ z < 18446744073709551616) (hrl : RdI w .u64 B l) :
    Calls Try.prog 10 #[.agg #[.int .i64 ki, .int .i64 ar, .int .i64 va, .bool df, .slice A cs.length c], .int .i64 ph, .slice B l.length d] w fun e w' => e = .returned (.bool true) ∧ Below w.heap.size w w' := by
  have HX := hide (fun w1 (h : Below w.heap.size w w1) => readcall_any w1 B d l hl hcap hz (hrl.below h))
  have HWD := hide (fun w1 (h : Below w.heap.size w w1) C c' (xs : List Int) (he : xs = l) (hx : RdI w1 .u64 C xs) => words_eq C B c' d xs l w1 he (by rw [he]; exact hl) hx (hrl.below h))
  have HCALL := hide (fun w1 (h : Below w.heap.size w w1) => call_any w1 ki ar va df A c cs ph hcl (hr.below h))
  obtain ⟨hb1, hb2, hb3⟩ := callL_back (ki := ki) (ar := ar) (va := va) (ph := ph) (df := df) (cs := cs)
  have hb4 := callL_len ki ar va df cs ph
  have HRE := hide (fun w1 (h : Below w.heap.size w w1) k a v dd C c' (cs' : List (Int × Int × Int)) (hl' : cs'.length ≤ 9223372036854775807) (hx : RdF w1 caseC C cs') => req_any w1 C A c' c k a v dd cs' ki ar va df cs hl' hcl hx (hr.below h))
  have hrc := read_call (l := l)
  generalize callL ki ar va df cs ph = L at HCALL hb1 hb2 hb3 hb4
  have hq0 : Blk (w.alloc (.cells #[.int .i64 ki, .int .i64 ar, .int .i64 va, .bool df, .slice A cs.length c] 50)) w.heap.size 50 #[.int .i64 ki, .int .i64 ar, .int .i64 va, .bool df, .slice A cs.length c] := Blk.new _ _ _
  have HQ0 := hide hq0
  have HB0 := hide (moreW (selfW w) (.cells #[.int .i64 ki, .int .i64 ar, .int .i64 va, .bool df, .slice A cs.length c] 50))
  have HCALL1 := hide (fun w1 k a v dd C c' (cs' : List (Int × Int × Int)) p (hl' : cs'.length ≤ 9223372036854775807) (hx : RdF w1 caseC C cs') => call_any w1 k a v dd C c' cs' p hl' hx)
  have hq1 : (qC l).length ≤ 9223372036854775807 := by
    unfold qC; split
    · unfold rdCs; simp; omega
    · simp
  have HS1 := hide hq1
  have hcs3 : cs.length ≤ 9223372036854775807 := hcl
  have HLR := hide (fun w1 C c' (hx : RdI w1 .u64 C L) (hc : L.length ≤ c') => readcall_any w1 C c' L hb4 hc hb2 hx)
  have hq2 : (qC L).length ≤ 9223372036854775807 := by
    unfold qC; split
    · unfold rdCs; simp; omega
    · simp
  have HS2 := hide hq2
  have HL4 := hide hb4
  have H3 := hide hb3; have H1 := hide hb1; have HRC := hide hrc
  clear hq0 hq1 hq2 hb1 hb2 hb3 hb4 hrc hr hl hcap hz hrl hcl hcs3
  unfold RetL at HX HLR
  obtain ⟨m, hm⟩ : ∃ m, m = L.length := ⟨_, rfl⟩
  have HM := hide hm
  rw [← hm] at H1 HLR
  clear hm
  obtain ⟨n, hn⟩ : ∃ n, n = cs.length := ⟨_, rfl⟩
  have HN := hide hn
  rw [← hn] at HCALL HRE HQ0 HB0 ⊢
  clear hn
  generalize qK l = k1 at HX HRC
  generalize qA l = a1 at HX HRC
  generalize qV l = v1 at HX HRC
  generalize qD l = f1 at HX HRC
  generalize qP l = p1 at HX HRC
  generalize qC l = s1 at HX HRC HS1
  generalize qK L = k2 at HLR H3
  generalize qA L = a2 at HLR H3
  generalize qV L = v2 at HLR H3
  generalize qD L = f2 at HLR H3
  generalize qP L = p2 at HLR H3
  generalize qC L = s2 at HLR H3 HS2
  generalize hok1 : readB l = ok1 at HX HRC
  generalize hok2 : readB L = ok2 at HLR H1 H3
  clear hok1 hok2
  rcases ok1 with _ | _
  · go_enter Try.func10, Try.ntmps10
    go_wp2_with fail
    refine (HX.out _ HB0.out).mono ?_
    rintro e w1 ⟨⟨B1, d1, rfl, hr1⟩, hb⟩
    have HR1 := hide (hr1.alloc (.cells #[.int .i64 k1, .int .i64 a1, .int .i64 v1, .bool f1, .slice B1 s1.length d1] 50))
    have HQ1' := hide ((HQ0.out.extW hb).alloc (.cells #[.int .i64 k1, .int .i64 a1, .int .i64 v1, .bool f1, .slice B1 s1.length d1] 50))
    have HB1 := hide (moreW (extW HB0.out hb) (.cells #[.int .i64 k1, .int .i64 a1, .int .i64 v1, .bool f1, .slice B1 s1.length d1] 50))
    clear hb hr1
    have HQ2' := HQ1'
    clear HQ1'
    have hq1 := fun j => Blk.cell HQ2'.out j
    have hs1 := HQ2'.out.lt
    go_wp2_with fail
    refine (HCALL.out _ HB1.out).mono ?_
    rintro e w2 ⟨⟨B2, d2, rfl, hd2, hr2⟩, hb⟩
    rw [← HM.out] at hd2 ⊢
    have HR2 := hide hr2
    have HD2 := hide hd2
    have HQ2 := hide (HQ2'.out.extW hb)
    have HB2 := hide (extW HB1.out hb)
    clear hb hr2 hd2 hq1
    go_wp2_with fail
    refine (HLR.out _ _ _ HR2.out HD2.out).mono ?_
    rintro e w3 ⟨⟨B3, d3, rfl, hr3⟩, hb⟩
    have hm5 : ((m : Int) == 5) = ok2 := by rw [H1.out, Bool.eq_iff_iff]; simp; omega
    have HRr := hide (hr3.alloc (.cells #[.int .i64 k2, .int .i64 a2, .int .i64 v2, .bool f2, .slice B3 s2.length d3] 50))
    have HQ3 := hide ((HQ2.out.extW hb).alloc (.cells #[.int .i64 k2, .int .i64 a2, .int .i64 v2, .bool f2, .slice B3 s2.length d3] 50))
    have HB3 := hide (moreW (extW HB2.out hb) (.cells #[.int .i64 k2, .int .i64 a2, .int .i64 v2, .bool f2, .slice B3 s2.length d3] 50))
    clear hb hr3
    have hq3 := fun j => Blk.cell HQ3.out j
    have hs3 := HQ3.out.lt
    rcases ok2 with _ | _
    · go_wp2_with fail
      refine (awake02 _).mono ?_
      rintro e w4 ⟨rfl, hb⟩
      have HB4 := hide (extW HB3.out hb)
      clear hb
      go_wp2_with fail
      go_ret
      exact ⟨rfl, HB4.out⟩
    · obtain ⟨hre, hpp⟩ := H3.out (by first | rfl | trivial)
      subst hpp
      have HREE := hide (HRE.out _ HB3.out k2 a2 v2 f2 B3 d3 s2 HS2.out HRr.out)
      rw [hre] at HREE
      clear hre
      go_wp2_with fail
      refine HREE.out.mono ?_
      rintro e w4 ⟨rfl, hb⟩
      have HB4 := hide (extW HB3.out hb)
      clear hb hq3
      go_wp2_with fail
      refine (awake02 _).mono ?_
      rintro e w5 ⟨rfl, hb⟩
      have HB5 := hide (extW HB4.out hb)
      clear hb
      go_wp2_with fail
      go_ret
      exact ⟨rfl, HB5.out⟩
  · go_enter Try.func10, Try.ntmps10
    go_wp2_with fail
    refine (HX.out _ HB0.out).mono ?_
    rintro e w1 ⟨⟨B1, d1, rfl, hr1⟩, hb⟩
    have HR1 := hide (hr1.alloc (.cells #[.int .i64 k1, .int .i64 a1, .int .i64 v1, .bool f1, .slice B1 s1.length d1] 50))
    have HQ1' := hide ((HQ0.out.extW hb).alloc (.cells #[.int .i64 k1, .int .i64 a1, .int .i64 v1, .bool f1, .slice B1 s1.length d1] 50))
    have HB1 := hide (moreW (extW HB0.out hb) (.cells #[.int .i64 k1, .int .i64 a1, .int .i64 v1, .bool f1, .slice B1 s1.length d1] 50))
    clear hb hr1
    have hcal := HRC.out (by first | rfl | trivial)
    have HC1 := hide (HCALL1.out (w1.alloc (.cells #[.int .i64 k1, .int .i64 a1, .int .i64 v1, .bool f1, .slice B1 s1.length d1] 50)) k1 a1 v1 f1 B1 d1 s1 p1 HS1.out HR1.out)
    rw [hcal] at HC1
    clear hcal
    go_wp2_with fail
    refine HC1.out.mono ?_
    rintro e w2 ⟨⟨B2, d2, rfl, _, hr2⟩, hb⟩
    have HQ2' := hide (HQ1'.out.extW hb)
    have HB2 := hide (extW HB1.out hb)
    have HW2 := hide (HWD.out _ HB2.out B2 d2 l rfl hr2)
    clear hb hr2 HC1
    go_wp2_with fail
    refine HW2.out.mono ?_
    rintro e w3 ⟨rfl, hb⟩
    have HQ3 := hide (HQ2'.out.extW hb)
    have HB3 := hide (extW HB2.out hb)
    clear hb HW2
    have hq3 := fun j => Blk.cell HQ3.out j
    have hs3 := HQ3.out.lt
    go_wp2_with fail
    refine (HCALL.out _ HB3.out).mono ?_
    rintro e w4 ⟨⟨B4, d4, rfl, hd4, hr4⟩, hb⟩
    rw [← HM.out] at hd4 ⊢
    have HR4 := hide hr4
    have HD4 := hide hd4
    have HQ4 := hide (HQ3.out.extW hb)
    have HB4 := hide (extW HB3.out hb)
    clear hb hr4 hd4 hq3
    go_wp2_with fail
    refine (HLR.out _ _ _ HR4.out HD4.out).mono ?_
    rintro e w5 ⟨⟨B5, d5, rfl, hr5⟩, hb⟩
    have hm5 : ((m : Int) == 5) = ok2 := by rw [H1.out, Bool.eq_iff_iff]; simp; omega
    have HRr := hide (hr5.alloc (.cells #[.int .i64 k2, .int .i64 a2, .int .i64 v2, .bool f2, .slice B5 s2.length d5] 50))
    have HQ5 := hide ((HQ4.out.extW hb).alloc (.cells #[.int .i64 k2, .int .i64 a2, .int .i64 v2, .bool f2, .slice B5 s2.length d5] 50))
    have HB5 := hide (moreW (extW HB4.out hb) (.cells #[.int .i64 k2, .int .i64 a2, .int .i64 v2, .bool f2, .slice B5 s2.length d5] 50))
    clear hb hr5
    have hq5 := fun j => Blk.cell HQ5.out j
    have hs5 := HQ5.out.lt
    rcases ok2 with _ | _
    · go_wp2_with fail
      refine (awake02 _).mono ?_
      rintro e w6 ⟨rfl, hb⟩
      have HB6 := hide (extW HB5.out hb)
      clear hb
      go_wp2_with fail
      go_ret
      exact ⟨rfl, HB6.out⟩
    · obtain ⟨hre, hpp⟩ := H3.out (by first | rfl | trivial)
      subst hpp
      have HREE := hide (HRE.out _ HB5.out k2 a2 v2 f2 B5 d5 s2 HS2.out HRr.out)
      rw [hre] at HREE
      clear hre
      go_wp2_with fail
      refine HREE.out.mono ?_
      rintro e w6 ⟨rfl, hb⟩
      have HB6 := hide (extW HB5.out hb)
      clear hb hq5
      go_wp2_with fail
      refine (awake02 _).mono ?_
      rintro e w7 ⟨rfl, hb⟩
      have HB7 := hide (extW HB6.out hb)
      clear hb
      go_wp2_with fail
      go_ret
      exact ⟨rfl, HB7.out⟩
end
end Go.Proofs.Ytmgjicenaanelaa
