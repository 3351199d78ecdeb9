/- The walks of ghosts.Do, whatever it is asked, and of ghosts.Play, Away. -/
import Derived.Test.YtdgnejapofkadaaGhQ
namespace Go.Proofs.Ytdgnejapofkadaa
open Go.RowKit

section
variable (w : World)
theorem gdo_any (W : WT) (A B : Option Addr) (c d : Nat) (xs : List RdX) (th ki : Int) (k0 : Nat) (h : WV w W A B xs) (hs : Sane W k0) (hk0 : k0 ≤ 400) :
    Calls Try.prog 14 #[.agg #[.int .i64 W.epoch, .int .i64 W.root, .int .i64 W.last, .slice A xs.length c, .slice B W.freed.length d], .agg #[.int .i64 th, .int .i64 ki]] w (GivesR (doW W th ki) w) := by
  by_cases h0 : th < 0
  · rw [show doW W th ki = W by unfold doW; rw [if_pos h0]]
    exact gdo_out w W A B c d xs th ki k0 h hs hk0 (.inl h0)
  · obtain ⟨t, rfl⟩ := Int.eq_ofNat_of_zero_le (show 0 ≤ th by omega)
    have hd : doW W (t : Int) ki = match W.rds[t]? with | none => W | some r => actW W t r ki := by unfold doW; rw [if_neg h0]; rfl
    rcases hr : W.rds[t]? with _ | r
    · rw [hd, hr]
      refine gdo_out w W A B c d xs _ ki k0 h hs hk0 (.inr ?_)
      have := List.getElem?_eq_none_iff.1 hr
      show _ ≤ (t : Int)
      omega
    · rw [hd, hr]
      show Calls _ _ _ _ (GivesR (actW W t r ki) w)
      by_cases k1 : ki = 1
      · subst k1; exact gdo_1 w W A B c d xs t r k0 h hs hk0 hr
      by_cases k2 : ki = 2
      · subst k2; exact gdo_2 w W A B c d xs t r k0 h hs hk0 hr
      by_cases k3 : ki = 3
      · subst k3; exact gdo_3 w W A B c d xs t r k0 h hs hk0 hr
      by_cases k4 : ki = 4
      · subst k4; exact gdo_4 w W A B c d xs t r k0 h hs hk0 hr
      by_cases k5 : ki = 5
      · subst k5; exact gdo_5 w W A B c d xs t r k0 h hs hk0 hr
      by_cases k6 : ki = 6
      · subst k6; exact gdo_6 w W A B c d xs t r k0 h hs hk0 hr
      by_cases k7 : ki = 7
      · subst k7; exact gdo_7 w W A B c d xs t r k0 h hs hk0 hr
      by_cases k8 : ki = 8
      · subst k8; exact gdo_8 w W A B c d xs t r k0 h hs hk0 hr
      by_cases k9 : ki = 9
      · subst k9; exact gdo_9 w W A B c d xs t r k0 h hs hk0 hr
      by_cases k10 : ki = 10
      · subst k10; exact gdo_10 w W A B c d xs t r k0 h hs hk0 hr
      · have hn : actW W t r ki = noneW W t r := by unfold actW; rw [if_neg k1, if_neg k2, if_neg k3, if_neg k4, if_neg k5, if_neg k6, if_neg k7, if_neg k8, if_neg k9, if_neg k10]; rfl
        rw [hn]
        exact gdo_none w W A B c d xs t r k0 h hs hk0 hr ki (by omega)
end

/-- an act: a thread, a kind -/
def actC (a : Int × Int) : List Value := [.int .i64 a.1, .int .i64 a.2]
theorem actC_len (a : Int × Int) : (actC a).length = 2 := rfl
theorem actC_one (a : Int × Int) : ∀ u ∈ actC a, u.oneCell' = true := by intro u hu; simp [actC] at hu; rcases hu with rfl | rfl <;> rfl
theorem info_act : (Try.prog.info? 27).map (fun i => (i.zero, i.size, i.bytes)) = some (some (.agg #[.int .i64 0, .int .i64 0]), 2, 16) := by kernel_rfl
theorem RdF.act {w : World} {A : Option Addr} {l : List (Int × Int)} (h : RdF w actC A l) {i : Nat} (hi : i < l.length) :
    ∃ ad a, A = some ad ∧ l[i]? = some a ∧ w.cell? (ad.add (i * 2)) = some (.int .i64 a.1) ∧ w.cell? ((ad.add (i * 2)).add 1) = some (.int .i64 a.2) := by
  obtain ⟨ad, x, h1, h2, h3⟩ := RdF.at_ actC_len (by decide) h hi
  exact ⟨ad, x, h1, h2, h3 0 _ rfl, h3 1 _ rfl⟩
/-- what is done, k acts long -/
def playN (n : Nat) (l : List (Int × Int)) (k : Nat) : WT := playW n (l.take k)
theorem playN_zero (n : Nat) (l : List (Int × Int)) : playN n l 0 = newW n := rfl
theorem playN_succ (n : Nat) {l : List (Int × Int)} {k : Nat} {a : Int × Int} (h : l[k]? = some a) : playN n l (k + 1) = doW (playN n l k) a.1 a.2 := by
  unfold playN playW
  rw [take_of h, List.foldl_append]
  rfl
theorem playN_all (n : Nat) {l : List (Int × Int)} {k : Nat} (h : l.length ≤ k) : playN n l k = playW n l := by unfold playN; rw [List.take_of_length_le h]
theorem playN_sane (n : Int) (l : List (Int × Int)) (k : Nat) (h : k ≤ l.length) : Sane (playN (cntT n) l k) k := by
  induction k with
  | zero => exact Sane.new (cntT_le n)
  | succ k ih =>
    obtain ⟨a, ha⟩ : ∃ a, l[k]? = some a := ⟨_, List.getElem?_eq_getElem (by omega)⟩
    rw [playN_succ _ ha]
    exact (ih (by omega)).doW _ _
/-- a variable holds a world -/
def VarW (w : World) (g : Nat) (W : WT) : Prop := ∃ A n c B m d xs, n = xs.length ∧ m = W.freed.length ∧ Blk w g 38 #[.int .i64 W.epoch, .int .i64 W.root, .int .i64 W.last, .slice A n c, .slice B m d] ∧ WO w 0 W (.slice A n c) (.slice B m d) xs
theorem VarW.ext {w w' : World} {g : Nat} {W : WT} (h : VarW w g W) (hb : Below w.heap.size w w') : VarW w' g W := by
  obtain ⟨A, n, c, B, m, d, xs, h1, h2, h3, h4⟩ := h
  exact ⟨A, n, c, B, m, d, xs, h1, h2, h3.extW hb, h4.ext hb⟩
theorem WO.shape {w : World} {base : Nat} {W : WT} {vr vf : Value} {xs : List RdX} (h : WO w base W vr vf xs) : ∃ A c B d, vr = .slice A xs.length c ∧ vf = .slice B W.freed.length d := by
  obtain ⟨A, c, B, d, h1, h2, _⟩ := h.rd
  exact ⟨A, c, B, d, h1, h2⟩
theorem WO.wv {w : World} {base : Nat} {W : WT} {A B : Option Addr} {n c m d : Nat} {xs : List RdX} (h : WO w base W (.slice A n c) (.slice B m d) xs) : WV w W A B xs := by
  obtain ⟨A', c', B', d', h1, h2, h3⟩ := h.rd
  injection h1 with e1 _ _
  injection h2 with e2 _ _
  rw [e1, e2]
  exact h3
theorem WO.set5 {w : World} {g b : Nat} {W : WT} {vr vf : Value} {xs : List RdX} {ys : Array Value} (h : WO w b W vr vf xs) (hb : Blk w g 38 ys) (u0 u1 u2 u3 u4 : Value) : WO (Proofs.Ytdgnejapofkadaa.set5 w g u0 u1 u2 u3 u4) b W vr vf xs :=
  ⟨h.rds, set5_own (by exact h.row) hb (by decide) _ _ _ _ _, fun z hz => set5_own (by exact h.away z hz) hb (by decide) _ _ _ _ _, h.apart, set5_own (by exact h.freed) hb (by decide) _ _ _ _ _⟩
/-- five cells of a world's variable are set -/
theorem VarW.set {w : World} {g : Nat} {W : WT} {A B : Option Addr} {n c m d : Nat} {xs : List RdX} {a0 a1 a2 a3 a4 : Value} (hb : Blk w g 38 #[a0, a1, a2, a3, a4]) (h : WO w 0 W (.slice A n c) (.slice B m d) xs) (hn : n = xs.length) (hm : m = W.freed.length) :
    VarW (set5 w g (.int .i64 W.epoch) (.int .i64 W.root) (.int .i64 W.last) (.slice A n c) (.slice B m d)) g W :=
  ⟨A, n, c, B, m, d, xs, hn, hm, set5_set hb _ _ _ _ _, ⟨h.rds, set5_own (by exact h.row) hb (by decide) _ _ _ _ _, fun z hz => set5_own (by exact h.away z hz) hb (by decide) _ _ _ _ _, h.apart, set5_own (by exact h.freed) hb (by decide) _ _ _ _ _⟩⟩
theorem VarW.far {w : World} {g g' : Nat} {W : WT} (h : VarW w g W) {ys : Array Value} (hb : Blk w g' 38 ys) (hne : g ≠ g') (u0 u1 u2 u3 u4 : Value) : VarW (set5 w g' u0 u1 u2 u3 u4) g W := by
  obtain ⟨A, n, c, B, m, d, xs, h1, h2, h3, h4⟩ := h
  exact ⟨A, n, c, B, m, d, xs, h1, h2, set5_far h3 hne _ _ _ _ _, ⟨h4.rds, set5_own (by exact h4.row) hb (by decide) _ _ _ _ _, fun z hz => set5_own (by exact h4.away z hz) hb (by decide) _ _ _ _ _, h4.apart, set5_own (by exact h4.freed) hb (by decide) _ _ _ _ _⟩⟩

section
variable (w : World)
set_option maxHeartbeats 1000000 in
theorem away_any (W : WT) (A B : Option Addr) (c d : Nat) (xs : List RdX) (k0 : Nat) (h : WV w W A B xs) (hs : Sane W k0) (hk0 : k0 ≤ 401) :
    Calls Try.prog 12 #[.agg #[.int .i64 W.epoch, .int .i64 W.root, .int .i64 W.last, .slice A xs.length c, .slice B W.freed.length d]] w fun e w' => e = .returned (.int .i64 (awayN W)) ∧ Below w.heap.size w w' := by
  have hfew : xs.length ≤ 64 := by have := hs.few; rw [← h.rds, List.length_map] at this; exact this
  have hal := hs.lens
  obtain ⟨n, hn⟩ : ∃ n, n = xs.length := ⟨_, rfl⟩
  rw [← hn] at hfew ⊢
  have haw : Hid (awayN W = (xs.map fun x => x.r.away.length).sum) := by unfold Hid awayN; rw [← h.rds, List.map_map]; rfl
  have hsum : Hid (∀ k, ((xs.take k).map fun x => x.r.away.length).sum ≤ 500) := by
    intro k
    have h1 : ((xs.take k).map fun x => x.r.away.length).sum ≤ (xs.map fun x => x.r.away.length).sum := by
      have := congrArg (fun l => (l.map fun x : RdX => x.r.away.length).sum) (List.take_append_drop k xs)
      simp only [List.map_append, List.sum_append] at this
      omega
    have := haw.out
    omega
  have HR := hide h.row; have HN := hide hn
  clear h hs hn hal
  generalize hO : W.epoch = E0
  generalize hO2 : W.root = R0
  generalize hO3 : W.last = L0
  clear hO hO2 hO3
  go_enter Try.func12, Try.ntmps12
  go_wp2_with fail
  go_loopw [3, 9] (fun s i wr => ∃ (k q : Nat), k ≤ n ∧ i = .int .i64 k ∧ q ≤ 500 ∧ s = .int .i64 q ∧ Hid (q = ((xs.take k).map fun x => x.r.away.length).sum) ∧ Hid (Below w.heap.size w wr)) (fun _ i _ => n - (intOf i).toNat)
  case atStart => exact ⟨0, 0, Nat.zero_le _, rfl, by decide, rfl, rfl, moreW (selfW _) _⟩
  case round =>
    obtain ⟨k, q, hk, rfl, hq, rfl, HQ, HB⟩ := hrel
    by_cases hlt : k < n
    · obtain ⟨ad, x, hA, hx, c0, c1, c2, c3, c4⟩ := RdF.rd (HR.out.below HB.out) (i := k) (by rw [← HN.out]; exact hlt)
      subst hA
      rw [add_lit _ _ (by decide)] at c1 c2 c3 c4
      have hq2 : q + x.r.away.length = ((xs.take (k + 1)).map fun x => x.r.away.length).sum := by rw [take_of hx, List.map_append, List.sum_append, ← HQ.out]; simp
      have hq3 : q + x.r.away.length ≤ 500 := by rw [hq2]; exact hsum.out _
      have HQ2 := hide hq2
      clear hx hq2
      go_wp2_with fail
      go_roundw
      case rel => exact ⟨k + 1, q + x.r.away.length, by omega, by go_num, hq3, by go_num, HQ2.out, moreW HB.out _⟩
      case measure => simp [intOf]; omega
    · have hq2 : q = awayN W := by rw [HQ.out, haw.out, List.take_of_length_le (by have := HN.out; omega)]
      have HQ2 := hide hq2; clear hq2
      go_wp2_with fail
      go_ret
      exact ⟨by rw [← HQ2.out]; rfl, HB.out⟩
end
end Go.Proofs.Ytdgnejapofkadaa
