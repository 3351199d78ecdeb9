/- The walks of slices.Clone on notes, of tickets' Notes; the contracts over a queue whose slices have no name. -/
import Derived.Test.YthghghoikaincaaTkP
namespace Go.Proofs.Ythghghoikaincaa
open Go.RowKit

section
variable (w : World) (A : Option Addr) (c : Nat)
set_option maxHeartbeats 400000 in
theorem clone_nt (xs : List NtT) (hl : xs.length ≤ 20000) (hr : RdF w ntC A xs) :
    Calls Try.prog 23 #[.slice A xs.length c] w fun e w' => (∃ v, e = .returned v ∧ OwnF w' w.heap.size 61 13 ntC v xs) ∧ Below w.heap.size w w' := by
  obtain ⟨n, hn⟩ : ∃ n, n = xs.length := ⟨_, rfl⟩
  rw [← hn] at hl ⊢
  have HN := hide hn; clear hn
  have HR := hide hr; clear hr
  have hnil := fun w' => Lib.run_eql_slice_nil (P := Try.prog) w' 40 61 A n c 0 0 Try.underlying40
  rcases A with _ | ad
  · have hz : xs = [] := by
      rcases xs with _ | ⟨z, l⟩
      · rfl
      · obtain ⟨_, h, _⟩ := HR.out 0 (.int .i64 z.kind) rfl
        cases h
    have HZ := hide hz; clear hz
    go_enter Try.func23, Try.ntmps23
    go_wp2
    go_ret
    refine ⟨⟨.slice none 0 0, rfl, ?_⟩, selfW _⟩
    rw [HZ.out]; exact OwnF.nil _ _ _ _ _
  · have h0 : OwnF (w.alloc (.cells #[] 61)) w.heap.size 61 13 ntC (.slice (some ⟨w.heap.size, 0, none⟩) 0 0) [] := World.ownsRow_lit w #[] 0 (Nat.le_refl _) (Nat.zero_le _) rfl
    go_enter Try.func23, Try.ntmps23
    go_wp2_with (at_builtin; refine wpList_appF _ rfl _ _ 40 rfl w.heap.size 61 13 120 (.agg #[.int .i64 0, .int .i64 0, .int .i64 0, .int .i64 0, .int .i64 0, .int .i64 0, .int .i64 0, .bool false, .slice none 0 0, .int .i64 0, .int .i64 0, .int .i64 0, .int .i64 0]) ntC ntC_len ntC_one Try.underlying40 info_nt rfl (by decide) _ [] rfl h0 (some ad) n c xs rfl HN.out.symm (RdF.alloc HR.out _) ?c4 ?c5 ?c6 ?_)
    case c4 => have := HN.out; simp; omega
    case c5 => have := HN.out; simp; omega
    case c6 => simp
    intro v' w2 hown' hgrow _
    have hb := h0.below_step (moreW (selfW _) _) hgrow (by simp) (Nat.le_refl _)
    have HO2 := hide hown'; have HB2 := hide hb
    clear hb hown' hgrow
    go_wp2
    go_ret
    exact ⟨⟨_, rfl, HO2.out⟩, HB2.out⟩
end
section
variable {w : World} {base gq gm : Nat} {vw vg vc vt vn : Value} {q : QT} {C : List Int}
/-- what Notes answers -/
def NotesE (w : World) (xs : List NtT) (e : Ending) (w' : World) : Prop := ∃ B d, e = .returned (.slice B xs.length d) ∧ OwnF w' w.heap.size 61 13 ntC (.slice B xs.length d) xs ∧ Below w.heap.size w w'
set_option maxHeartbeats 400000 in
theorem notes_any (h : QV w base gq gm vw vg vc vt vn q C) (hl : q.N.length ≤ 20000) :
    Calls Try.prog 14 #[.pointer (some ⟨gq, 0, none⟩)] w (NotesE w q.N) := by
  obtain ⟨A, c, rfl⟩ := h.notes.shape
  have HC := hide (clone_nt w A c q.N hl h.notes.rdF.2)
  obtain ⟨xs, hxs⟩ : ∃ xs, xs = q.N := ⟨_, rfl⟩
  rw [← hxs] at HC ⊢
  have hcs := fun i => Blk.cell h.blk i
  rw [← hxs] at hcs
  have hgs := h.blk.lt
  obtain ⟨n, hn⟩ : ∃ n, n = xs.length := ⟨_, rfl⟩
  rw [← hn] at HC hcs
  clear h hxs
  have HN := hide hn; clear hn
  go_enter Try.func14, Try.ntmps14
  go_wp2_with fail
  refine HC.out.mono ?_
  rintro e w1 ⟨⟨v, rfl, ho⟩, hb⟩
  have HO := hide ho; have HB := hide hb
  clear ho hb HC
  go_wp2_with fail
  go_ret
  obtain ⟨B, d, rfl⟩ := HO.out.shape
  exact ⟨B, d, rfl, HO.out, HB.out⟩
end
section
variable {w : World} {base gq : Nat} {S : Nat → Prop} {q : QT}
theorem QX.to {w' : World} {gm : Nat} {vw vg vc vt vn : Value} {q' : QT} {C : List Int} (h : QV w base gq gm vw vg vc vt vn q C) (hs : ∀ b, QOwns gq gm vw vg vc vt vn b → S b) (k : QX w base gq gm vw vg vc vt vn q' w') : QTo w base gq S q' w' := by
  obtain ⟨vc', vn', C', h1, h2, h3, h4, h5⟩ := k
  refine ⟨⟨gm, vw, vg, vc', vt, vn', C', h1, fun b hb => ?_⟩, fun b hb hns => h4 b hb (fun ho => hns (hs b ho)), h5⟩
  rcases hb with hb | hb | hb | hb | hb | hb | hb
  · exact .inl (hs b (.inl hb))
  · exact .inl (hs b (.inr (.inl hb)))
  · exact .inl (hs b (.inr (.inr (.inl hb))))
  · exact .inl (hs b (.inr (.inr (.inr (.inl hb)))))
  · rcases h2 b hb with hb | hb
    · exact .inl (hs b (.inr (.inr (.inr (.inr (.inl hb))))))
    · exact .inr hb
  · exact .inl (hs b (.inr (.inr (.inr (.inr (.inr (.inl hb)))))))
  · rcases h3 b hb with hb | hb
    · exact .inl (hs b (.inr (.inr (.inr (.inr (.inr (.inr hb)))))))
    · exact .inr hb
theorem StepOk.of {wb n t s : Int} {x : CmT} {i : Nat} (h : QInv q wb n t s) (hx : q.T[i]? = some x) (h1 : wb ≤ 1000000) (h2 : n ≤ 10000) : StepOk q x := by
  have ht := h.th i x hx
  refine ⟨h.s0, h.s1, h.len, fun k z hk hz => ?_, fun z hz => ?_, ht.p0, ht.p1, ht.five, ht.r0, ?_, ht.v0, ht.v1, ?_⟩
  · have := h.w0 k hk; rw [QT.word_of hz] at this; omega
  · obtain ⟨k, hk⟩ := List.getElem?_of_mem hz
    by_cases h2 : k < 2
    · have := h.w0 k h2; rw [QT.word_of hk] at this; omega
    · have := h.wc k (by omega); rw [QT.word_of hk] at this; exact this
  · have := ht.r1; have := h.k1; omega
  · have := h.nl; omega
variable {m : Int} (hi : QInv q m m m m) (hm : m ≤ 9000)
include hi hm
theorem put_at (t v : Int) (h : QAt w base gq S q) : Calls Try.prog 8 #[.pointer (some ⟨gq, 0, none⟩), .int .i64 t, .int .i64 v] w fun e w' => e = .returned (.int .i64 (putE q t v)) ∧ QTo w base gq S (putQ q t v) w' := by
  obtain ⟨gm, vw, vg, vc, vt, vn, C, h, hs⟩ := h
  refine (put_any t v h (fun x hx => ?_) (by have := hi.nl; omega) hi.t0 (by have := hi.t1; omega)).mono fun e w' ⟨h1, h2⟩ => ⟨h1, h2.to h hs⟩
  obtain ⟨i, hx⟩ := List.getElem?_of_mem hx
  exact (hi.th i x hx).e0
theorem take_at (t : Int) (h : QAt w base gq S q) : Calls Try.prog 9 #[.pointer (some ⟨gq, 0, none⟩), .int .i64 t] w fun e w' => e = .returned (.int .i64 (beginE q t)) ∧ QTo w base gq S (takeQ q t) w' := by
  obtain ⟨gm, vw, vg, vc, vt, vn, C, h, hs⟩ := h
  refine (take_any t h (fun x hx => ?_) (by have := hi.nl; omega) hi.t0 (by have := hi.t1; omega)).mono fun e w' ⟨h1, h2⟩ => ⟨h1, h2.to h hs⟩
  obtain ⟨i, hx⟩ := List.getElem?_of_mem hx
  exact (hi.th i x hx).e0
theorem pick_at (t : Int) (h : QAt w base gq S q) : Calls Try.prog 11 #[.pointer (some ⟨gq, 0, none⟩), .int .i64 t] w fun e w' => e = .returned (.int .i64 (pickE q t)) ∧ QTo w base gq S (pickQ q t) w' := by
  obtain ⟨gm, vw, vg, vc, vt, vn, C, h, hs⟩ := h
  refine (pick_any t h (fun x hx => ?_) hi.t0 (by have := hi.t1; omega)).mono fun e w' ⟨h1, h2⟩ => ⟨h1, h2.to h hs⟩
  obtain ⟨i, hx⟩ := List.getElem?_of_mem hx
  exact ⟨StepOk.of hi hx (by omega) (by omega), (hi.th i x hx).c0, (hi.th i x hx).c6⟩
theorem notes_at (h : QAt w base gq S q) : Calls Try.prog 14 #[.pointer (some ⟨gq, 0, none⟩)] w (NotesE w q.N) := by
  obtain ⟨gm, vw, vg, vc, vt, vn, C, h, hs⟩ := h
  exact notes_any h (by have := hi.nl; omega)
omit hi hm
theorem thread_at {t : Nat} {x : CmT} (h : QAt w base gq S q) (hx : q.T[t]? = some x) : Calls Try.prog 10 #[.pointer (some ⟨gq, 0, none⟩), .int .i64 t] w fun e w' => e = .returned (.agg #[.int .i64 x.pc, .int .i64 x.seq, .int .i64 x.value, .int .i64 x.pos, .int .i64 x.tri]) ∧ Below w.heap.size w w' := by
  obtain ⟨gm, vw, vg, vc, vt, vn, C, h, hs⟩ := h
  exact thread_any _ h hx
end
end Go.Proofs.Ythghghoikaincaa
