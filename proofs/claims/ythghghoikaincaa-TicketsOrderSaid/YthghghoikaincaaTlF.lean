/- The walk of TicketsOnce. -/
import Derived.Test.YthghghoikaincaaTlE
namespace Go.Proofs.Ythghghoikaincaa
open Go.RowKit

theorem set_len_of {l : List CmT} {i : Nat} {x : CmT} : (l.set i x).length = l.length := List.length_set
theorem pickQ_len (q : QT) (t : Int) : (pickQ q t).T.length = q.T.length := by
  unfold pickQ
  split
  · rfl
  · split
    · rfl
    · rename_i x hx
      rw [stepQ_T (q := q.tick) hx, List.length_set]; rfl
theorem beginQ_len (q : QT) (t : Int) (y : CmT) : (beginQ q t y).T.length = q.T.length := by
  unfold beginQ
  split
  · rfl
  · split
    · rfl
    · split
      · rfl
      · unfold noteQ QT.tick QT.setT; dsimp only; rw [List.length_set]
theorem putQ_len (q : QT) (t v : Int) : (putQ q t v).T.length = q.T.length := by
  unfold putQ
  split
  · rfl
  · exact beginQ_len _ _ _
/-- what holds of a queue in play: how many threads and tries, what its words and its history are -/
structure Play (q : QT) (n k : Nat) (m : Int) (I : Int) : Prop where
  inv : QInv q m m m m
  oinv : OInv q I
  len : q.T.length = n
  tries : q.tries = k
theorem Play.pick {q : QT} {n k : Nat} {m I : Int} (h : Play q n k m I) (t : Int) : Play (pickQ q t) n k (m + 1) I :=
  ⟨h.inv.pick1 t, h.oinv.pick h.inv t, (pickQ_len q t).trans h.len, (pickQ_tries q t).trans h.tries⟩
theorem Play.up {q : QT} {n k : Nat} {m m' I I' : Int} (h : Play q n k m I) (hm : m ≤ m') (hI : I ≤ I') : Play q n k m' I' := ⟨h.inv.up hm, h.oinv.up hI, h.len, h.tries⟩
theorem Play.put {q : QT} {n k : Nat} {m I : Int} (h : Play q n k m I) (t : Int) : Play (putQ q t I) n k (m + 1) (I + 1) :=
  ⟨h.inv.put1 t I, h.oinv.put t, (putQ_len q t I).trans h.len, (putQ_tries q t I).trans h.tries⟩
theorem Play.take {q : QT} {n k : Nat} {m I : Int} (h : Play q n k m I) (t : Int) : Play (takeQ q t) n k (m + 1) (I + 1) :=
  ⟨h.inv.take1 t, h.oinv.take t, (beginQ_len q t _).trans h.len, (beginQ_tries q t _).trans h.tries⟩
theorem Play.new (s n k : Nat) (h1 : 1 ≤ s) (h2 : s ≤ 4096) (h3 : 1 ≤ k) (h4 : k ≤ 64) : Play (newQ s n k) n k 0 0 :=
  ⟨new_inv s n k (by omega) (by omega) (by omega) (by omega), OInv.new _ _ _, by unfold newQ; simp, rfl⟩
/-- the call of thread t ends: so many steps were done -/
def Ends (q : QT) (t : Nat) (s : Int) : Prop := ∃ x, q.T[t]? = some x ∧ (x.pc = 0 ∨ Bnd q.tries x s)
theorem Ends.new {q : QT} {n k : Nat} {m I : Int} (h : Play q n k m I) {t : Nat} (ht : t < n) : Ends q t 0 := by
  have hl : t < q.T.length := by rw [h.len]; exact ht
  refine ⟨q.T[t], List.getElem?_eq_getElem hl, ?_⟩
  have hx := h.inv.th t _ (List.getElem?_eq_getElem hl)
  have hr := hx.r0
  have hk := h.inv.k0
  right
  refine ⟨Int.le_refl _, ?_⟩
  split
  · omega
  · unfold phase; split
    · omega
    · split <;> omega
theorem Ends.pick {q : QT} {n k : Nat} {m I : Int} (h : Play q n k m I) {t : Nat} {s : Int} (e : Ends q t s) : Ends (pickQ q t) t (s + 1) := by
  obtain ⟨x, hx, hp⟩ := e
  refine ⟨stepX q.tick x, by rw [pickQ_T hx]; exact get_set hx, ?_⟩
  rw [pickQ_tries]
  by_cases h0 : x.pc = 0
  · left; unfold stepX; rw [h0]; simp; exact h0
  · rcases hp with hp | hp
    · exact absurd hp h0
    · exact .inr (step_bnd (q := q.tick) (h.inv.tick.th t x hx) hp h0)
theorem Ends.idle {q : QT} {n k : Nat} {m I : Int} (h : Play q n k m I) {t : Nat} {s : Int} (e : Ends q t s) (hs : 3 * (k : Int) < s) : ∃ x, q.T[t]? = some x ∧ x.pc = 0 := by
  obtain ⟨x, hx, hp⟩ := e
  refine ⟨x, hx, ?_⟩
  rcases hp with hp | hp
  · exact hp
  · have := hp.le (h.inv.th t x hx)
    rw [h.tries] at this; omega
/-- the threads ahead of one are idle -/
def Idles (q : QT) (t : Nat) : Prop := ∀ (i : Nat) (x : CmT), i < t → q.T[i]? = some x → x.pc = 0
theorem Idles.pick {q : QT} {t : Nat} (h : Idles q t) (e : ∃ x, q.T[t]? = some x) : Idles (pickQ q t) t := by
  intro i x hi hx
  obtain ⟨y, hy⟩ := e
  rw [pickQ_T hy] at hx
  rcases set_cases hx with ⟨h1, _⟩ | ⟨_, hx⟩
  · omega
  · exact h i x hi hx
theorem left_at {w : World} {base gq n k : Nat} {q : QT} {m I : Int} (h : QAny w base gq q) (hp : Play q n k m I) (hn : 1 ≤ n) (hm : m ≤ 9000) :
    Calls Try.prog 15 #[.pointer (some ⟨gq, 0, none⟩)] w fun e w' => RetI .i64 (leftTo q q.L.length) w e w' := by
  obtain ⟨gm, vw, vg, vc, vt, vn, C, h, _⟩ := h
  have hi := hp.inv
  have hlen := hi.len; have hs0 := hi.s0; have hs1 := hi.s1
  have hw0 := hi.w0 0 (by decide)
  refine left_any h (by intro e; rw [e] at hlen; simp at hlen) (by omega) (by rw [hp.len]; exact hn) hw0.1 (by omega) (fun j => ?_)
  by_cases hj : j < 2
  · have := hi.w0 j hj; omega
  · exact hi.wc j (by omega)
theorem limit_at {w : World} {base gq n k : Nat} {q : QT} {m I : Int} (h : QAny w base gq q) (hp : Play q n k m I) (hn : 1 ≤ n) :
    Calls Try.prog 12 #[.pointer (some ⟨gq, 0, none⟩)] w fun e w' => e = .returned (.int .i64 (3 * (k : Int))) ∧ w = w' := by
  obtain ⟨gm, vw, vg, vc, vt, vn, C, h, _⟩ := h
  have hi := hp.inv
  have := limit_any _ h (by rw [hp.len]; exact hn) (by have := hi.k0; omega) hi.k1
  rw [hp.tries] at this
  exact this
section
variable (w : World)
set_option maxRecDepth 100000 in
set_option maxHeartbeats 4000000 in
theorem once_walk (s n k : Int) (A : Option Addr) (c : Nat) (l : List AcT) (hr : RdF w acC A l) (hl : l.length ≤ 9223372036854775807) :
    Calls Try.prog 4 #[.int .i64 s, .int .i64 n, .int .i64 k, .slice A l.length c] w fun e w' => e = .returned (.bool true) ∧ Below w.heap.size w w' := by
  obtain ⟨m, hm⟩ : ∃ m, m = l.length := ⟨_, rfl⟩
  rw [← hm] at hl ⊢
  have HM := hide hm; have HR := hide hr
  clear hm hr
  by_cases hok : newOk s n k
  case neg =>
    have HN := hide (tnew_bad w s n k hok)
    have HL := hide hl
    clear hl hok
    go_enter Try.func4, Try.ntmps4
    go_wp2_with fail
    refine HN.out.mono ?_
    rintro e w1 ⟨rfl, rfl⟩
    go_wp2_with fail
    refine (awake41 w).mono ?_
    rintro e w1 ⟨rfl, hb⟩
    have HB := hide hb
    clear hb
    go_wp2_with fail
    go_ret
    exact ⟨rfl, HB.out⟩
  obtain ⟨s1, s2, n1, n2, k1, k2⟩ := hok
  obtain ⟨s, rfl⟩ : ∃ z : Nat, s = z := ⟨s.toNat, by omega⟩
  obtain ⟨n, rfl⟩ : ∃ z : Nat, n = z := ⟨n.toNat, by omega⟩
  obtain ⟨k, rfl⟩ : ∃ z : Nat, k = z := ⟨k.toNat, by omega⟩
  have HNW := hide (tnew_any w s n k (by omega) (by omega) (by omega) (by omega) (by omega) (by omega))
  by_cases h600 : 500 < m
  · have hd : decide (500 < (m : Int)) = true := decide_eq_true (by omega)
    have hd2 : decide (500 < m) = true := decide_eq_true (by omega)
    have HL := hide hl
    clear hl s1 s2 n1 n2 k1 k2 h600
    go_enter Try.func4, Try.ntmps4
    go_wp2_with fail
    refine HNW.out.mono ?_
    rintro e w1 ⟨gq, rfl, hq1, hb1⟩
    have HB1 := hide hb1
    clear hq1 hb1 HNW
    go_wp2_with fail
    refine (awake41 w1).mono ?_
    rintro e w2 ⟨rfl, hb⟩
    have HB := hide (extW HB1.out hb)
    clear hb
    go_wp2_with fail
    go_ret
    exact ⟨rfl, HB.out⟩
  have hd : decide (500 < (m : Int)) = false := decide_eq_false (by omega)
  have hd2 : decide (500 < m) = false := decide_eq_false (by omega)
  have hl2 : m ≤ 500 := by omega
  by_cases h6 : 6 < n
  · have he : decide (6 < (n : Int)) = true := decide_eq_true (by omega)
    clear hl s1 s2 n1 n2 k1 k2 h600 h6 hl2
    go_enter Try.func4, Try.ntmps4
    go_wp2_with fail
    refine HNW.out.mono ?_
    rintro e w1 ⟨gq, rfl, hq1, hb1⟩
    have HB1 := hide hb1
    clear hq1 hb1 HNW
    go_wp2_with fail
    refine (awake41 w1).mono ?_
    rintro e w2 ⟨rfl, hb⟩
    have HB := hide (extW HB1.out hb)
    clear hb
    go_wp2_with fail
    go_ret
    exact ⟨rfl, HB.out⟩
  have he : decide (6 < (n : Int)) = false := decide_eq_false (by omega)
  by_cases h8 : 8 < k
  · have hf : decide (8 < (k : Int)) = true := decide_eq_true (by omega)
    clear hl s1 s2 n1 n2 k1 k2 h600 h6 h8 hl2
    go_enter Try.func4, Try.ntmps4
    go_wp2_with fail
    refine HNW.out.mono ?_
    rintro e w1 ⟨gq, rfl, hq1, hb1⟩
    have HB1 := hide hb1
    clear hq1 hb1 HNW
    go_wp2_with fail
    refine (awake41 w1).mono ?_
    rintro e w2 ⟨rfl, hb⟩
    have HB := hide (extW HB1.out hb)
    clear hb
    go_wp2_with fail
    go_ret
    exact ⟨rfl, HB.out⟩
  have hf : decide (8 < (k : Int)) = false := decide_eq_false (by omega)
  have hn6 : n ≤ 6 := by omega
  have hk8 : k ≤ 8 := by omega
  have HI0 := hide (Play.new s n k (by omega) (by omega) (by omega) (by omega))
  clear hl s1 s2 k2 n2 h600 h6 h8
  go_enter Try.func4, Try.ntmps4
  go_wp2_with fail
  refine HNW.out.mono ?_
  rintro e w1 ⟨gq, rfl, hq1, hb1⟩
  have HQ1 := hide hq1.any
  have HB1 := hide hb1
  clear hq1 hb1 HNW
  go_wp2_with fail
  go_loopw [11, 12, 13, 67] (fun _ _ _ i wr => ∃ j : Nat, j ≤ m ∧ i = .int .i64 j ∧ ∃ q, Hid (QAny wr w.heap.size gq q) ∧ Hid (Play q n k j j) ∧ Hid (Below w.heap.size w wr)) (fun _ _ _ i _ => m - (intOf i).toNat)
  case atStart => exact ⟨0, Nat.zero_le _, rfl, _, HQ1, HI0, HB1⟩
  case round =>
    obtain ⟨j, hj, rfl, q, HQ, HI, HB⟩ := hrel
    by_cases hlt : j < m
    · obtain ⟨ad, a, hA, ha, ca, cb, cc⟩ := RdF.ac (HR.out.below HB.out) (i := j) (by rw [← HM.out]; exact hlt)
      subst hA
      rw [add_lit _ _ (by decide)] at cb cc
      clear ha
      obtain ⟨ki, th, xx⟩ := a
      dsimp only at ca cb cc
      have hbx := moreW (selfW wr) (.cells #[.int .i64 ki, .int .i64 th, .int .i64 xx] 30)
      have HBX := hide hbx
      clear hbx
      by_cases e0 : (IntKind.u64.wrap ki).tmod 8 = 0
      · have d3 : ((IntKind.u64.wrap ki).tmod 8 == 0) = true := by simpa using e0
        clear e0
        have HP := hide (put_at HI.out.inv (by omega) th j (HQ.out.ext HBX.out))
        go_wp2_with fail
        refine HP.out.mono ?_
        rintro e w3 ⟨rfl, hq3, _, hb3⟩
        have HQ3 := hide hq3.any
        have HB3 := hide ((extW HB.out HBX.out).trans hb3)
        clear hq3 hb3 HP
        go_wp2_with fail
        go_roundw
        case rel => exact ⟨j + 1, by omega, by go_num, _, HQ3, HI.out.put th, HB3⟩
        case measure => simp [intOf]; omega
      have d3 : ((IntKind.u64.wrap ki).tmod 8 == 0) = false := by simpa using e0
      by_cases e1 : (IntKind.u64.wrap ki).tmod 8 = 1
      · have d4 : ((IntKind.u64.wrap ki).tmod 8 == 1) = true := by simpa using e1
        clear e0 e1
        have HP := hide (take_at HI.out.inv (by omega) th (HQ.out.ext HBX.out))
        go_wp2_with fail
        refine HP.out.mono ?_
        rintro e w3 ⟨rfl, hq3, _, hb3⟩
        have HQ3 := hide hq3.any
        have HB3 := hide ((extW HB.out HBX.out).trans hb3)
        clear hq3 hb3 HP
        go_wp2_with fail
        go_roundw
        case rel => exact ⟨j + 1, by omega, by go_num, _, HQ3, HI.out.take th, HB3⟩
        case measure => simp [intOf]; omega
      have d4 : ((IntKind.u64.wrap ki).tmod 8 == 1) = false := by simpa using e1
      clear e0 e1
      have HP := hide (pick_at HI.out.inv (by omega) th (HQ.out.ext HBX.out))
      go_wp2_with fail
      refine HP.out.mono ?_
      rintro e w3 ⟨rfl, hq3, _, hb3⟩
      have HQ3 := hide hq3.any
      have HB3 := hide ((extW HB.out HBX.out).trans hb3)
      clear hq3 hb3 HP
      go_wp2_with fail
      go_roundw
      case rel => exact ⟨j + 1, by omega, by go_num, _, HQ3, (HI.out.pick th).up (by omega) (by omega), HB3⟩
      case measure => simp [intOf]; omega
    · have hjm : j = m := by omega
      subst hjm
      clear hlt
      go_wp2_with fail
      obtain ⟨wo, rfl⟩ : ∃ wo : World, wo = wr := ⟨_, rfl⟩
      go_loopw [14, 15] (fun i _ wr => ∃ t : Nat, t ≤ n ∧ i = .int .i64 t ∧ ∃ q, Hid (QAny wr w.heap.size gq q) ∧ Hid (Play q n k (j + 25 * t) j) ∧ Hid (Idles q t) ∧ Hid (Below w.heap.size w wr)) (fun i _ _ => n - (intOf i).toNat)
      case atStart => exact ⟨0, Nat.zero_le _, rfl, q, HQ, HI.out.up (by omega) (by omega), fun _ _ h => absurd h (Nat.not_lt_zero _), HB⟩
      case round =>
        clear HQ HI HB
        obtain ⟨t, ht, rfl, q2, HQ, HI, HD, HB⟩ := hrel
        by_cases hlt : t < n
        · go_wp2_with fail
          obtain ⟨wo2, rfl⟩ : ∃ wo : World, wo = wr := ⟨_, rfl⟩
          go_loopw [15] (fun i wr => ∃ s : Nat, s ≤ 3 * k + 1 ∧ i = .int .i64 s ∧ ∃ q, Hid (QAny wr w.heap.size gq q) ∧ Hid (Play q n k (j + 25 * t + s) j) ∧ Hid (Idles q t) ∧ Hid (Ends q t s) ∧ Hid (Below w.heap.size w wr)) (fun i _ => 3 * k + 1 - (intOf i).toNat)
          case atStart => exact ⟨0, Nat.zero_le _, rfl, q2, HQ, HI.out.up (by omega) (by omega), HD, Ends.new HI.out hlt, HB⟩
          case round =>
            clear HQ HI HD HB
            obtain ⟨s', hs', rfl, q3, HQ, HI, HD, HE, HB⟩ := hrel
            have HL := hide (limit_at HQ.out HI.out (by omega))
            by_cases hls : s' ≤ 3 * k
            · have hds : decide ((s' : Int) ≤ 3 * (k : Int)) = true := decide_eq_true (by omega)
              have HP := hide (pick_at HI.out.inv (by omega) t HQ.out)
              go_wp2_with fail
              refine HL.out.mono ?_
              rintro e w2 ⟨rfl, rfl⟩
              go_wp2_with fail
              refine HP.out.mono ?_
              rintro e w3 ⟨rfl, hq3, _, hb3⟩
              have HQ3 := hide hq3.any
              have HB3 := hide (HB.out.trans hb3)
              clear hq3 hb3 HP
              go_wp2_with fail
              go_roundw
              case rel => exact ⟨s' + 1, by omega, by go_num, _, HQ3, (HI.out.pick t).up (by omega) (by omega), HD.out.pick (by obtain ⟨x, hx, _⟩ := HE.out; exact ⟨x, hx⟩), HE.out.pick HI.out, HB3⟩
              case measure => simp [intOf]; omega
            · have hds : decide ((s' : Int) ≤ 3 * (k : Int)) = false := decide_eq_false (by omega)
              have HX := hide (HE.out.idle HI.out (by omega))
              obtain ⟨x, hx, hx0⟩ := HX.out
              have HTH := hide (thread_at HQ.out hx)
              have F0 := field_cm0
              rw [hx0] at HTH
              have HX1 := hide hx; have HX0 := hide hx0
              clear hx hx0 HX
              go_wp2_with fail
              refine HL.out.mono ?_
              rintro e w2 ⟨rfl, rfl⟩
              go_wp2_with fail
              refine HTH.out.mono ?_
              rintro e w2 ⟨rfl, hb2⟩
              have HB2 := hide (extW HB.out hb2)
              have HQ2 := hide (HQ.out.ext hb2)
              clear hb2 HTH
              go_wp2_with fail
              go_roundw
              case rel => exact ⟨t + 1, by omega, by go_num, q3, HQ2, HI.out.up (by omega) (by omega), fun i z hi hz => by
                by_cases e : i = t
                · subst e; have := HX1.out; rw [hz] at this; injection this with this; rw [this]; exact HX0.out
                · exact HD.out i z (by omega) hz, HB2⟩
              case measure => simp [intOf]; omega
        · have htn : t = n := by omega
          subst htn
          clear hlt
          have HON := hide (once_law HI.out.oinv HI.out.inv (fun i x hx => HD.out i x (by rw [← HI.out.len]; exact len_of hx) hx))
          have hnl := HI.out.inv.nl
          have HL8 := takenTo_len q2.N 8 q2.N.length
          have HL9 := takenTo_len q2.N 9 q2.N.length
          have HLL := leftTo_len q2 q2.L.length
          have hq4 : q2.L.length ≤ 4098 := by have := HI.out.inv.len; have := HI.out.inv.s1; have := HI.out.inv.s0; omega
          change (takenL q2.N 8).length ≤ _ at HL8
          change (takenL q2.N 9).length ≤ _ at HL9
          have HNO := hide (notes_at HI.out.inv (by omega) HQ.out)
          obtain ⟨N, hN⟩ : ∃ N, N = q2.N := ⟨_, rfl⟩
          rw [← hN] at HON hnl HL8 HL9 HNO
          have HNN := hide hN
          clear hN
          go_wp2_with fail
          refine HNO.out.mono ?_
          rintro e w5 ⟨B5, d5, rfl, ho5, hb5⟩
          have HT5 := hide (taken_any w5 B5 d5 N 8 ho5.rdF.2 (by omega))
          have HB5 := hide (extW HB.out hb5)
          have HQ5 := hide (HQ.out.ext hb5)
          clear ho5 hb5 HNO
          go_wp2_with fail
          refine HT5.out.mono ?_
          rintro e w6 ⟨⟨B6, d6, rfl, hr6⟩, hb6⟩
          have HR6 := hide hr6
          have HB6 := hide (extW HB5.out hb6)
          have HQ6 := hide (HQ5.out.ext hb6)
          clear hr6 hb6 HT5
          have HNO := hide (notes_at HI.out.inv (by omega) HQ6.out)
          rw [← HNN.out] at HNO
          go_wp2_with fail
          refine HNO.out.mono ?_
          rintro e w7 ⟨B7, d7, rfl, ho7, hb7⟩
          have HT7 := hide (taken_any w7 B7 d7 N 9 ho7.rdF.2 (by omega))
          have HB7 := hide (extW HB6.out hb7)
          have HQ7 := hide (HQ6.out.ext hb7)
          have HR7 := hide (HR6.out.below hb7)
          clear ho7 hb7 HNO
          go_wp2_with fail
          refine HT7.out.mono ?_
          rintro e w8 ⟨⟨B8, d8, rfl, hr8⟩, hb8⟩
          have HG8 := hide hr8
          have HB8 := hide (extW HB7.out hb8)
          have HQ8 := hide (HQ7.out.ext hb8)
          have HR8 := hide (HR7.out.below hb8)
          clear hr8 hb8 HT7
          have hown8 := OwnI.empty w8 3 .i64
          obtain ⟨got, hgot⟩ : ∃ got, got = takenL N 9 := ⟨_, rfl⟩
          obtain ⟨put, hput⟩ : ∃ put, put = takenL N 8 := ⟨_, rfl⟩
          rw [← hgot] at HON HL9 HG8 ⊢
          rw [← hput] at HON HL8 HR8 ⊢
          clear hgot hput
          obtain ⟨lp, hlp⟩ : ∃ lp, lp = put.length := ⟨_, rfl⟩
          obtain ⟨lg, hlg⟩ : ∃ lg, lg = got.length := ⟨_, rfl⟩
          rw [← hlp] at HL8 ⊢
          rw [← hlg] at HL9 ⊢
          have HLP := hide hlp; have HLG := hide hlg
          clear hlp hlg
          go_wp2_with (at_builtin; refine wpList_appI _ rfl _ _ 28 rfl w8.heap.size 3 .i64 Try.underlying28 info_int _ [] rfl hown8 B8 lg d8 got rfl HLG.out.symm (HG8.out.alloc _) ?c4 ?c5 ?_)
          case c4 => have := HLG.out; simp; omega
          case c5 => simp
          intro v9 w9 hown9 hgrow9 _
          have hb9 := hown8.below_step (moreW (selfW w8) _) hgrow9 (by simp) (Nat.le_refl _)
          have HO9 := hide hown9
          have HB9 := hide (extW HB8.out hb9)
          have HQ9 := hide (HQ8.out.ext hb9)
          have HR9 := hide (HR8.out.below hb9)
          have HW9 := hide hb9.size
          have HY9 := hide hb9
          clear hown9 hgrow9 hb9 hown8 HG8
          have HLF := hide (left_at HQ9.out HI.out (by omega) (by omega))
          obtain ⟨lft, hlft⟩ : ∃ lft, lft = leftTo q2 q2.L.length := ⟨_, rfl⟩
          rw [← hlft] at HON HLL HLF
          clear hlft
          obtain ⟨ll, hll⟩ : ∃ ll, ll = lft.length := ⟨_, rfl⟩
          rw [← hll] at HLL
          have HLN := hide hll
          clear hll
          go_wp2_with fail
          refine HLF.out.mono ?_
          rintro e w10 ⟨⟨B10, d10, rfl, hr10⟩, hb10⟩
          rw [← HLN.out]
          have HO10 := hide (HO9.out.extW hb10)
          have HB10 := hide (extW HB9.out hb10)
          have HR10 := hide (HR9.out.below hb10)
          have HG10 := hide hr10
          have HY10 := hide (extW HY9.out hb10)
          have HW10 := hide (Nat.le_trans HW9.out hb10.size)
          clear hr10 hb10 HLF HO9 HR9 HY9 HW9
          go_wp2_with (at_builtin; refine wpList_appI _ rfl _ _ 28 rfl w8.heap.size 3 .i64 Try.underlying28 info_int _ ([] ++ got) rfl ?b1 B10 ll d10 lft rfl HLN.out.symm ?b2 ?b3 ?b4 ?_)
          case b1 => exact HO10.out
          case b2 => exact HG10.out
          case b3 => have := HLG.out; have := HLN.out; simp; omega
          case b4 => exact HW10.out
          intro v11 w11 hown11 hgrow11 _
          have hb11 := HO10.out.below_step HY10.out hgrow11 HW10.out (Nat.le_refl _)
          obtain ⟨A11, c11, rfl⟩ := hown11.shape
          have hcap := hown11.cap.2
          have HG11 := hide hown11.rdI.2
          have HB11 := hide (extW HB8.out hb11)
          have HR11 := hide (HR8.out.below hb11)
          clear hown11 hgrow11 hb11 HO10 HG10 HY10 HW10
          try rw [List.nil_append] at HG11
          try rw [List.nil_append] at hcap
          try rw [List.nil_append]
          obtain ⟨all, hall⟩ : ∃ all, all = got ++ lft := ⟨_, rfl⟩
          rw [← hall] at HON HG11 hcap ⊢
          have hlen := HON.out.1
          rw [← HLP.out] at hlen
          have HIN := hide HON.out.2
          obtain ⟨la, hla⟩ : ∃ la, la = all.length := ⟨_, rfl⟩
          rw [← hla] at hcap hlen ⊢
          have HLA := hide hla
          subst hlen
          clear hall hla HON
          have hnn : ((la : Int) != (la : Int)) = false := by simp
          have hsl := fun (m : Nat) (X : Int) (hX : X = (m : Int)) (hm : m ≤ c11) (w' : World) => run_sliceTo (P := Try.prog) 28 3 Try.underlying28 info_int A11 la c11 m X hX hm w'
          have HSL := hide hsl
          clear hsl
          go_wp2_with fail
          obtain ⟨wo3, rfl⟩ : ∃ wo : World, wo = w11 := ⟨_, rfl⟩
          go_loopw [19, 20, 131] (fun _ _ i wr => ∃ h : Nat, h ≤ la ∧ i = .int .i64 h ∧ Hid (Below wo3.heap.size wo3 wr)) (fun _ _ i _ => la - (intOf i).toNat)
          case atStart => exact ⟨0, Nat.zero_le _, rfl, selfW _⟩
          case round =>
            obtain ⟨h, hh, rfl, HZ⟩ := hrel
            by_cases hlh : h < la
            · obtain ⟨ad, z, hA, hz, hc⟩ := RdI.at_ (HG11.out.below HZ.out) (i := h) (by rw [← HLA.out]; exact hlh)
              subst hA
              have hin := HIN.out h z hz
              have HH1 := hide (has_any wr B6 d6 put z (HR11.out.below HZ.out) (by rw [← HLP.out]; omega))
              rw [decide_eq_true hin.1, ← HLP.out] at HH1
              have HH2 := hide (has_any wr (some ad) c11 (all.take h) z ((HG11.out.below HZ.out).take h) (by rw [List.length_take]; omega))
              rw [decide_eq_false hin.2, List.length_take, Nat.min_eq_left (by rw [← HLA.out]; omega)] at HH2
              have hsl := HSL.out h h rfl (by omega)
              clear hz hin
              go_wp2_with fail
              refine HH1.out.mono ?_
              rintro e w12 ⟨rfl, rfl⟩
              go_wp2_with fail
              refine HH2.out.mono ?_
              rintro e w12 ⟨rfl, rfl⟩
              go_wp2_with fail
              go_roundw
              case rel => exact ⟨h + 1, by omega, by go_num, HZ⟩
              case measure => simp [intOf]; omega
            · have hkn : h = la := by omega
              subst hkn
              go_wp2_with fail
              refine (awake41 wr).mono ?_
              rintro e w12 ⟨rfl, hb⟩
              have HB12 := hide (extW (extW HB11.out HZ.out) hb)
              clear hb
              go_wp2_with fail
              go_ret
              exact ⟨rfl, HB12.out⟩
end
end Go.Proofs.Ythghghoikaincaa
