/- The walks of mem.(*Mem)'s Peek, Poke, Keep, Count, Log, and of an access out of range. -/
import Derived.Test.YthjigennjocdjaaMemD
namespace Go.Proofs.Ythjigennjocdjaa
open Go.RowKit

section
variable (w : World) (base g : Nat) (vl vg vc : Value) (L : List Int) (G : List Acc) (C : List Int) (kp : Bool)
set_option maxHeartbeats 400000 in
theorem peek_any (k : Nat) (x : Int) (h : MemV w base g vl vg vc L G C kp) (hL : L.length ≤ 2000000) (hx : L[k]? = some x) :
    Calls Try.prog 9 #[.pointer (some ⟨g, 0, none⟩), .int .i64 k] w fun e w' => e = .returned (.int .u64 x) ∧ w = w' := by
  have hne : L ≠ [] := by rintro rfl; simp at hx
  obtain ⟨gl, cl, rfl, hgl1, hgl2⟩ := h.form hne
  obtain ⟨n, hn⟩ : ∃ n, n = L.length := ⟨_, rfl⟩
  have hkn : k < n := by rw [hn]; exact (List.getElem?_eq_some_iff.1 hx).1
  rw [← hn] at h hL
  have hcx := h.words.cell hx
  have hcm := fun i => Blk.cell h.blk i
  have hgs := h.blk.lt
  have HY := hide (made_yes w g ⟨gl, 0, none⟩ n cl (h.blk.cell 0))
  have hd0 : decide ((k : Int) < 0) = false := decide_eq_false (by omega)
  have hd1 : decide ((n : Int) ≤ (k : Int)) = false := decide_eq_false (by omega)
  have hd2 : decide (n ≤ k) = false := decide_eq_false (by omega)
  clear h hx hn hne
  go_enter Try.func9, Try.ntmps9
  go_wp2_with fail
  refine HY.out.mono ?_
  rintro e w' ⟨rfl, rfl⟩
  go_wp2_with fail
  go_ret
  exact ⟨rfl, rfl⟩

set_option maxHeartbeats 400000 in
theorem keep_any (b : Bool) (h : MemV w base g vl vg vc L G C kp) (hne : L ≠ []) :
    Calls Try.prog 13 #[.pointer (some ⟨g, 0, none⟩), .bool b] w fun e w' => e = .returned (.tuple #[]) ∧ MemTo w base g L G C b w' := by
  obtain ⟨gl, cl, rfl, hgl1, hgl2⟩ := h.form hne
  have HY := hide (made_yes w g ⟨gl, 0, none⟩ L.length cl (h.blk.cell 0))
  have hcm := fun i => Blk.cell h.blk i
  have hfm := fun i => Blk.free h.blk i
  have hgs := h.blk.lt
  have H := hide h
  clear h
  go_enter Try.func13, Try.ntmps13
  go_wp2_with fail
  refine HY.out.mono ?_
  rintro e w' ⟨rfl, rfl⟩
  go_wp2_with fail
  go_end0
  have hm := H.out
  refine ⟨rfl, ⟨_, _, _, Blk.set_ hm.blk 3 (.bool b), own_far hm.words hm.blk (by decide) _ _, own_far hm.log hm.blk (by decide) _ _, own_far hm.counts hm.blk (by decide) _ _, hm.low⟩, ?_, (Below.refl _ _).setCell (p := ⟨g, 3, none⟩) hm.low _⟩
  exact Keeps.of_rest hm ((Rest.refl w g _ vg vc).set_row _)

set_option maxHeartbeats 400000 in
theorem poke1_any (k : Nat) (x y : Int) (a : Addr) (c : Nat) (h : MemV w base g vl vg vc L G C kp) (hL : L.length ≤ 2000000) (hx : L[k]? = some x) (hy : RdI w .u64 (some a) [y]) :
    Calls Try.prog 7 #[.pointer (some ⟨g, 0, none⟩), .int .i64 k, .slice (some a) 1 c] w fun e w' => e = .returned (.int .i64 0) ∧ MemTo w base g (L.set k y) G C kp w' := by
  have hne : L ≠ [] := by rintro rfl; simp at hx
  obtain ⟨gl, cl, rfl, hgl1, hgl2⟩ := h.form hne
  obtain ⟨n, hn⟩ : ∃ n, n = L.length := ⟨_, rfl⟩
  have hkn : k < n := by rw [hn]; exact (List.getElem?_eq_some_iff.1 hx).1
  rw [← hn] at h hL
  have hcl : n ≤ cl := h.words.cap.2
  have hcx := h.words.cell hx
  have hfx := h.words.frozen k
  have hcm := fun i => Blk.cell h.blk i
  have hgs := h.blk.lt
  have HY := hide (made_yes w g ⟨gl, 0, none⟩ n cl (h.blk.cell 0))
  have hd0 : decide ((k : Int) < 0) = false := decide_eq_false (by omega)
  have hd1 : decide ((n : Int) < (k : Int)) = false := decide_eq_false (by omega)
  have hd2 : decide (n < k) = false := decide_eq_false (by omega)
  have hd3 : decide ((n : Int) - (k : Int) < 1) = false := decide_eq_false (by omega)
  have hcy : w.cell? (a.add 0) = some (.int .u64 y) := by
    obtain ⟨a', h1, h2⟩ := hy 0 _ rfl
    injection h1 with h1; subst h1; exact h2
  have hkc : k < cl := by omega
  have hcp := run_copy_cells (P := Try.prog) w 36 36 3 22 gl k (n - k) (cl - k) a 1 c [.int .u64 y] Try.underlying36 (by kernel_rfl) (by show 1 = Nat.min 1 (n - k); exact (Nat.min_eq_left (by omega)).symm)
    (by intro j u hj; match j, hj with | 0, hj => simp at hj; subst hj; exact hcy)
    (by intro j hj; have : j = 0 := by simpa using hj
        subst this; simp [hcx])
    (by intro j hj; have : j = 0 := by simpa using hj
        subst this; exact hfx)
    (by intro u hu; simp at hu; subst hu; rfl)
  have H := hide h
  clear h hx hn hne hy
  go_enter Try.func7, Try.ntmps7
  go_wp2_with fail
  refine HY.out.mono ?_
  rintro e w' ⟨rfl, rfl⟩
  go_wp2_with fail
  go_ret
  exact ⟨rfl, ⟨_, _, _, H.out.store k y⟩, Keeps.of_rest H.out ((Rest.refl w g _ vg vc).set_words (p := ⟨gl, k, none⟩) rfl _), (Below.refl _ _).setCell (p := ⟨gl, k, none⟩) hgl1 _⟩

set_option maxHeartbeats 400000 in
theorem cnt_any (t : Nat) (x : Int) (h : MemV w base g vl vg vc L G C kp) (hne : L ≠ []) (hC : C.length ≤ 64) (hx : C[t]? = some x) :
    Calls Try.prog 18 #[.pointer (some ⟨g, 0, none⟩), .int .i64 t] w fun e w' => e = .returned (.int .i64 x) ∧ w = w' := by
  obtain ⟨gl, cl, rfl, hgl1, hgl2⟩ := h.form hne
  have hcne : C ≠ [] := by rintro rfl; simp at hx
  obtain ⟨gc, cc, rfl, hgc1, hgc2⟩ := h.counts.form hcne
  have HY := hide (made_yes w g ⟨gl, 0, none⟩ L.length cl (h.blk.cell 0))
  have hcx := h.counts.cell hx
  have hkn : t < C.length := (List.getElem?_eq_some_iff.1 hx).1
  obtain ⟨n, hn⟩ : ∃ n, n = C.length := ⟨_, rfl⟩
  rw [← hn] at h hC hkn
  have hcm := fun i => Blk.cell h.blk i
  have hgs := h.blk.lt
  have hd0 : decide ((t : Int) < 0) = false := decide_eq_false (by omega)
  have hd1 : decide ((n : Int) ≤ (t : Int)) = false := decide_eq_false (by omega)
  have hd2 : decide (n ≤ t) = false := decide_eq_false (by omega)
  clear h hx hn hne hcne
  go_enter Try.func18, Try.ntmps18
  go_wp2_with fail
  refine HY.out.mono ?_
  rintro e w' ⟨rfl, rfl⟩
  go_wp2_with fail
  go_ret
  exact ⟨rfl, rfl⟩

set_option maxHeartbeats 400000 in
theorem clone_acc (A : Option Addr) (c : Nat) (zs : List Acc) (hl : zs.length ≤ 1000000) (hr : RdF w accC A zs) :
    Calls Try.prog 27 #[.slice A zs.length c] w fun e w' => (∃ B d, e = .returned (.slice B zs.length d) ∧ RdF w' accC B zs) ∧ Below w.heap.size w w' := by
  obtain ⟨n, hn⟩ : ∃ n, n = zs.length := ⟨_, rfl⟩
  rw [← hn] at hl ⊢
  have HN := hide hn; clear hn
  have HR := hide hr; clear hr
  have hnil := fun w' => Lib.run_eql_slice_nil (P := Try.prog) w' 37 51 A n c 0 0 Try.underlying37
  rcases A with _ | ad
  · have hz : zs = [] := by
      rcases zs with _ | ⟨z, l⟩
      · rfl
      · obtain ⟨_, h, _⟩ := HR.out 0 (.int .i64 z.th) rfl
        cases h
    have HZ := hide hz; clear hz
    go_enter Try.func27, Try.ntmps27
    go_wp2
    go_ret
    refine ⟨⟨none, 0, ?_, ?_⟩, selfW _⟩
    · have := HN.out; rw [HZ.out] at this; rw [this]; rfl
    · rw [HZ.out]; exact RdF.nil _ _ _
  · have h0 : OwnF (w.alloc (.cells #[] 51)) w.heap.size 51 7 accC (.slice (some ⟨w.heap.size, 0, none⟩) 0 0) [] := World.ownsRow_lit w #[] 0 (Nat.le_refl _) (Nat.zero_le _) rfl
    go_enter Try.func27, Try.ntmps27
    go_wp2_with (at_builtin; refine wpList_appF _ rfl _ _ 37 rfl w.heap.size 51 7 56 (.agg #[.int .i64 0, .int .i64 0, .int .i64 0, .int .u64 0, .int .u64 0, .int .u64 0, .bool false]) accC accC_len accC_one Try.underlying37 info_acc rfl (by decide) _ [] rfl h0 (some ad) n c zs rfl HN.out.symm (RdF.alloc HR.out _) ?c4 ?c5 ?c6 ?_)
    case c4 => have := HN.out; simp; omega
    case c5 => have := HN.out; simp; omega
    case c6 => simp
    intro v' w2 hown' hgrow _
    have hb := h0.below_step (moreW (selfW _) _) hgrow (by simp) (Nat.le_refl _)
    obtain ⟨A2, c2, hv, hr⟩ := hown'.rd
    subst hv
    have HR2 := hide hr; have HB2 := hide hb
    clear hr hb hown' hgrow
    go_wp2
    go_ret
    exact ⟨⟨A2, c2, by rw [HN.out]; rfl, HR2.out⟩, HB2.out⟩

set_option maxHeartbeats 400000 in
theorem log_any (h : MemV w base g vl vg vc L G C kp) (hne : L ≠ []) (hG : G.length ≤ 1000000) :
    Calls Try.prog 17 #[.pointer (some ⟨g, 0, none⟩)] w fun e w' => (∃ B d, e = .returned (.slice B G.length d) ∧ RdF w' accC B G) ∧ Below w.heap.size w w' := by
  obtain ⟨gl, cl, rfl, hgl1, hgl2⟩ := h.form hne
  obtain ⟨A, c, rfl, hr⟩ := h.log.rd
  have HY := hide (made_yes w g ⟨gl, 0, none⟩ L.length cl (h.blk.cell 0))
  have HC := hide (clone_acc w A c G hG hr)
  obtain ⟨n, hn⟩ : ∃ n, n = G.length := ⟨_, rfl⟩
  rw [← hn] at h HC ⊢
  have hcm := fun i => Blk.cell h.blk i
  have hgs := h.blk.lt
  clear h hr hn hne
  go_enter Try.func17, Try.ntmps17
  go_wp2_with fail
  refine HY.out.mono ?_
  rintro e w' ⟨rfl, rfl⟩
  go_wp2_with fail
  refine HC.out.mono ?_
  rintro e w1 ⟨⟨B, d, rfl, hr⟩, hb⟩
  go_wp2_with fail
  go_ret
  exact ⟨⟨B, d, rfl, hr⟩, hb⟩

set_option maxHeartbeats 1000000 in
/-- an address out of range -/
theorem do_out (th ki ad wa ol nw0 : Int) (ok0 : Bool) (f : Value) (h : MemV w base g vl vg vc L G C kp) (hne : L ≠ []) (ha : ad < 0 ∨ (L.length : Int) ≤ ad) :
    Calls Try.prog 21 #[.pointer (some ⟨g, 0, none⟩), .agg #[.int .i64 th, .int .i64 ki, .int .i64 ad, .int .u64 wa, .int .u64 ol, .int .u64 nw0, .bool ok0], f] w fun e w' =>
      e = .returned (.tuple #[.agg #[.int .i64 0, .int .i64 0, .int .i64 0, .int .u64 0, .int .u64 0, .int .u64 0, .bool false], .int .i64 5]) ∧ Below w.heap.size w w' := by
  obtain ⟨gl, cl, rfl, hgl1, hgl2⟩ := h.form hne
  obtain ⟨n, hn⟩ : ∃ n, n = L.length := ⟨_, rfl⟩
  rw [← hn] at h ha
  have hcm := fun i => Blk.cell h.blk i
  have hgs := h.blk.lt
  have HMY := hide (made_yes ((w.alloc (.cells #[.int .i64 th, .int .i64 ki, .int .i64 ad, .int .u64 wa, .int .u64 ol, .int .u64 nw0, .bool ok0] 51)).alloc (.cells #[.int .i64 0, .int .i64 0, .int .i64 0, .int .u64 0, .int .u64 0, .int .u64 0, .bool false] 51)) g ⟨gl, 0, none⟩ n cl (((h.blk.alloc _).alloc _).cell 0))
  clear h hn hne
  by_cases h0 : ad < 0
  · go_enter Try.func21, Try.ntmps21
    go_wp2_with fail
    refine HMY.out.mono ?_
    rintro e w' ⟨rfl, rfl⟩
    go_wp2_with fail
    go_quiet (fail)
    go_wp2_with fail
    refine bodyPost_ret (v := ?_) ?_ rfl ?_
    rotate_left
    · simp [results, Try.results21, go_sem]
      rfl
    · exact ⟨rfl, set7_below (below_drewN (moreW (moreW (selfW _) _) _) _) (by simp) (.int .i64 0) (.int .i64 0) (.int .i64 0) (.int .u64 0) (.int .u64 0) (.int .u64 0) (.bool false)⟩
  · have hd0 : decide (ad < 0) = false := decide_eq_false h0
    have hd1 : decide ((n : Int) ≤ ad) = true := decide_eq_true (by omega)
    go_enter Try.func21, Try.ntmps21
    go_wp2_with fail
    refine HMY.out.mono ?_
    rintro e w' ⟨rfl, rfl⟩
    go_wp2_with fail
    go_quiet (fail)
    go_wp2_with fail
    refine bodyPost_ret (v := ?_) ?_ rfl ?_
    rotate_left
    · simp [results, Try.results21, go_sem]
      rfl
    · exact ⟨rfl, set7_below (below_drewN (moreW (moreW (selfW _) _) _) _) (by simp) (.int .i64 0) (.int .i64 0) (.int .i64 0) (.int .u64 0) (.int .u64 0) (.int .u64 0) (.bool false)⟩
end
end Go.Proofs.Ythjigennjocdjaa
