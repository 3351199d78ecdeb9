/- The walk of ghosts.Safe, of a safe world. -/
import Derived.Test.YtdgnejapofkadaaGhR
import Derived.Test.YtdgnejapofkadaaSetI
namespace Go.Proofs.Ytdgnejapofkadaa
open Go.RowKit

theorem wf_small {z : Int} (h0 : 0 ≤ z) (h1 : z ≤ 1000000) : (Lit.int .i64 z).wf = true := by
  simp [Lit.wf, IntKind.min, IntKind.max, IntKind.signed, IntKind.bits]; omega
/-- nothing that is held is freed, nothing is freed twice, and the root is not -/
structure SafeP (W : WT) : Prop where
  once : W.freed.Nodup
  root : W.root ∉ W.freed
  held : ∀ r ∈ W.rds, r.holds ≠ 0 → r.holds ∉ W.freed
  f0 : ∀ z ∈ W.freed, 0 ≤ z ∧ z ≤ 1000000
  h0 : ∀ r ∈ W.rds, 0 ≤ r.holds ∧ r.holds ≤ 1000000

section
variable (w : World)
set_option maxHeartbeats 400000 in
theorem safe1 (x : RdX) (b3 bm : Nat) (S : List Int) (hc : w.cell? ⟨b3, 0, none⟩ = some (.map (some bm))) (hs : SetI w bm S) (h0 : 0 ≤ x.r.holds) (h1 : x.r.holds ≤ 1000000) :
    Calls Try.prog 29 #[.agg #[.int .i64 x.r.saw, .int .i64 x.r.inn, .int .i64 x.r.guard, .int .i64 x.r.holds, .slice x.A x.r.away.length x.c], .pointer (some ⟨b3, 0, none⟩)] w (Says (decide (x.r.holds ≠ 0) && decide (x.r.holds ∈ S)) w) := by
  have hb := cell_lt hc
  dsimp only at hb
  have hlk := (hs.ext (moreW (selfW w) (.cells #[.int .i64 x.r.saw, .int .i64 x.r.inn, .int .i64 x.r.guard, .int .i64 x.r.holds, .slice x.A x.r.away.length x.c] 48))).look (wf_small h0 h1)
  clear hs
  by_cases hh : x.r.holds = 0
  · have hd : (x.r.holds != 0) = false := by simpa using hh
    have he : (decide (x.r.holds ≠ 0) && decide (x.r.holds ∈ S)) = false := by simp [hh]
    have HE := hide he
    rw [he]
    clear hh he hlk
    go_enter Try.func29, Try.ntmps29
    go_wp2_with fail
    go_ret
    exact ⟨rfl, moreW (selfW _) _⟩
  · have hd : (x.r.holds != 0) = true := by simpa using hh
    have he : (decide (x.r.holds ≠ 0) && decide (x.r.holds ∈ S)) = decide (x.r.holds ∈ S) := by simp [hh]
    rw [he]
    clear hh he
    generalize decide (x.r.holds ∈ S) = q at hlk ⊢
    go_enter Try.func29, Try.ntmps29
    go_wp2_with fail
    go_ret
    exact ⟨rfl, moreW (selfW _) _⟩

set_option maxHeartbeats 1000000 in
theorem safe_any (W : WT) (A B : Option Addr) (c d : Nat) (xs : List RdX) (k0 : Nat) (h : WV w W A B xs) (hs : Sane W k0) (hk0 : k0 ≤ 401) (hp : SafeP W) :
    Calls Try.prog 15 #[.agg #[.int .i64 W.epoch, .int .i64 W.root, .int .i64 W.last, .slice A xs.length c, .slice B W.freed.length d]] w (Says true w) := by
  have hfew : xs.length ≤ 64 := by have := hs.few; rw [← h.rds, List.length_map] at this; exact this
  have hfl : W.freed.length ≤ 500 := by have := hs.lens; omega
  have HH := hide h; have HP := hide hp
  obtain ⟨n, hn⟩ : ∃ n, n = xs.length := ⟨_, rfl⟩
  obtain ⟨m, hm⟩ : ∃ m, m = W.freed.length := ⟨_, rfl⟩
  rw [← hn] at hfew ⊢
  rw [← hm] at hfl ⊢
  have HN := hide hn; have HM := hide hm
  obtain ⟨R0, hR⟩ : ∃ R0, R0 = W.root := ⟨_, rfl⟩
  have HR := hide hR
  rw [← hR]
  clear h hs hn hm hp hR
  have hmm := @run_makeMap Try.prog
  have hmf : ∀ (fn : Fn) (first cap : Array Value) (w : World), (Instr.makeFunc fn first cap).run Try.prog w = .ok (.func fn first cap) w := fun _ _ _ _ => rfl
  go_enter Try.func15, Try.ntmps15
  go_wp2_with fail
  clear hmm
  go_loopw [10] (fun i wr => ∃ k : Nat, k ≤ m ∧ i = .int .i64 k ∧ Hid (Blk wr w.heap.size 38 #[.int .i64 W.epoch, .int .i64 R0, .int .i64 W.last, .slice A n c, .slice B m d]) ∧ Hid (Blk wr (w.heap.size + 2) 70 #[.map (some (w.heap.size + 1))]) ∧ Hid (SetI wr (w.heap.size + 1) (W.freed.take k)) ∧ Hid (Below w.heap.size w wr)) (fun i _ => m - (intOf i).toNat)
  case atStart =>
    refine ⟨0, Nat.zero_le _, rfl, ((Blk.new _ _ _).alloc _).alloc _, Blk.newAt _ _ _ (by simp), ?_, moreW (moreW (moreW (selfW w) _) _) _⟩
    have h1 := (SetI.made (w.alloc (.cells #[.int .i64 W.epoch, .int .i64 R0, .int .i64 W.last, .slice A n c, .slice B m d] 38))).ext (moreW (selfW _) (.cells #[.map (some (w.heap.size + 1))] 70))
    simp only [World.size_alloc] at h1
    exact h1
  case round =>
    obtain ⟨k, hk, rfl, HW, HQ, HSET, HB⟩ := hrel
    have hcw := fun i => Blk.cell HW.out i
    have hcq := fun i => Blk.cell HQ.out i
    have hzw := HW.out.lt
    have hzq := HQ.out.lt
    have hzs := HSET.out.lt
    by_cases hlt : k < m
    · obtain ⟨ad, z, hA, hz, hc⟩ := RdI.at_ (HH.out.freed.below HB.out) (i := k) (by rw [← HM.out]; exact hlt)
      subst hA
      have hzm := mem_of_get hz
      have hnin : z ∉ W.freed.take k := by
        intro hmem
        obtain ⟨j, hj⟩ := List.getElem?_of_mem hmem
        have hjk : j < k := by have := len_of hj; rw [List.length_take] at this; omega
        rw [List.getElem?_take_of_lt hjk] at hj
        have hjl := len_of hj
        have hkl := len_of hz
        have := (List.pairwise_iff_getElem.1 HP.out.once) j k hjl hkl hjk
        rw [(List.getElem?_eq_some_iff.1 hj).2, (List.getElem?_eq_some_iff.1 hz).2] at this
        exact this rfl
      have hlk := HSET.out.look (wf_small (HP.out.f0 z hzm).1 (HP.out.f0 z hzm).2)
      rw [show decide (z ∈ W.freed.take k) = false from decide_eq_false hnin] at hlk
      have hzr : (z == R0) = false := by
        rw [beq_eq_false_iff_ne, HR.out]
        rintro rfl
        exact HP.out.root hzm
      obtain ⟨w4, hup, hs4, hg4⟩ := HSET.out.add (wf_small (HP.out.f0 z hzm).1 (HP.out.f0 z hzm).2) (by rw [List.length_take]; omega)
      have HS4 := hide hs4; have HZ := hide hz
      have HW4 := hide (HW.out.grown hg4 (by simp))
      have HQ4 := hide (HQ.out.grown hg4 (by simp))
      have HB4 := hide (HB.out.grown hg4 HB.out.size (fun q hq => by injection hq with hq; omega))
      clear hs4 hg4 hz hzm hnin
      go_wp2_with fail
      go_roundw
      case rel => exact ⟨k + 1, by omega, by go_num, HW4.out, HQ4.out, by rw [take_of HZ.out]; exact HS4.out, HB4.out⟩
      case measure => simp [intOf]; omega
    · have HC := hide (contains_any wr 29 (.inr rfl) ⟨w.heap.size + 2, 0, none⟩ (fun r => decide (r.holds ≠ 0) && decide (r.holds ∈ W.freed)) A c xs (HH.out.row.below HB.out) (by rw [← HN.out]; exact hfew)
        (fun x hx wx hbx => safe1 wx x (w.heap.size + 2) (w.heap.size + 1) W.freed ((hbx.cell (p := ⟨w.heap.size + 2, 0, none⟩) hzq).trans (hcq 0))
          (by have := HSET.out.ext hbx; rwa [List.take_of_length_le (by have := HM.out; omega)] at this)
          (HP.out.h0 x.r (by rw [← HH.out.rds]; exact List.mem_map.2 ⟨x, hx, rfl⟩)).1 (HP.out.h0 x.r (by rw [← HH.out.rds]; exact List.mem_map.2 ⟨x, hx, rfl⟩)).2))
      have hany : (xs.map (·.r)).any (fun r => decide (r.holds ≠ 0) && decide (r.holds ∈ W.freed)) = false := by
        rw [List.any_eq_false]
        intro r hr
        rw [HH.out.rds] at hr
        have := HP.out.held r hr
        simp only [Bool.and_eq_true, decide_eq_true_eq, not_and]
        exact this
      rw [hany, ← HN.out] at HC
      clear hany
      go_wp2_with fail
      refine HC.out.mono ?_
      rintro e w5 ⟨rfl, hb5⟩
      go_wp2_with fail
      go_ret
      exact ⟨rfl, extW HB.out hb5⟩
end
end Go.Proofs.Ytdgnejapofkadaa
