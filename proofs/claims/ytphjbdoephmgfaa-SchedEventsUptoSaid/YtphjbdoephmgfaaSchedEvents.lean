/- SchedEvents, where what it reads is small: for every such input the law returns true, and its arguments read as before. -/
import Derived.Test.YtphjbdoephmgfaaSchedS
import Derived.Test.YtphjbdoephmgfaaLaw
import Derived.JoinedCond
namespace Go.Proofs.Ytphjbdoephmgfaa.lawSchedEvents
open Go.ChangeShapes Go.WideShapes Go.ChangeAt Go.RowKit

theorem one_le {H : Type} (d : DataW H) : 1 ≤ Rows.uptoBulk d := by
  cases d with
  | lit l => cases l <;> simp [Rows.uptoBulk]
  | nil => simp [Rows.uptoBulk]
  | ptr d => simp [Rows.uptoBulk]
  | slice elems spare => simp [Rows.uptoBulk]
  | agg parts => simp [Rows.uptoBulk]
  | iface t d => simp [Rows.uptoBulk]
  | map entries => simp [Rows.uptoBulk]
  | held h => simp [Rows.uptoBulk]
theorem len_le {H : Type} (l : List (DataW H)) : l.length ≤ Rows.uptoBulkAll l := by
  induction l with
  | nil => simp [Rows.uptoBulkAll]
  | cons x r ih => have := one_le x; simp only [Rows.uptoBulkAll, List.length_cons]; omega
theorem slice_len {H : Type} (l sp : List (DataW H)) : l.length ≤ Rows.uptoBulk (.slice l sp) := by
  have := len_le l
  simp only [Rows.uptoBulk]
  omega
theorem small {H : Type} {d0 d1 : DataW H} (h : Rows.uptoSmall H [d0, d1] = true) : Rows.uptoBulk d0 ≤ 1048576 ∧ Rows.uptoBulk d1 ≤ 1048576 := by
  have hb : Rows.uptoBulkAll [d0, d1] ≤ 1048576 := of_decide_eq_true h
  simp only [Rows.uptoBulkAll] at hb
  omega

theorem ints_small {H : Type} {enc : TypeId × Value → H} {w : World} {p : List MemPlace} {A : Option Addr} {len cap : Nat} {d : DataW H} (hk : Rows.uptoBulk d ≤ 1048576)
    (h : DataW.Trod enc Try.prog w 0 (fun _ => true) true 22 (.slice A len cap) d p) :
    ∃ zs : List Int, zs.length = len ∧ RdI w .i64 A zs ∧ zs.length ≤ 1048576 := by
  obtain ⟨fuel, hf⟩ := h
  rcases open_ints Try.underlying22 Try.underlying3 (by kernel_rfl) hf with ⟨hcs, _⟩ | ⟨x, l, c, zs, hcs, _, hl, hm, hz, hx, hcell, hwz⟩
  · simp [Value.cells] at hcs
    obtain ⟨rfl, rfl, rfl⟩ := hcs
    exact ⟨[], rfl, RdI.nil _ _ _, by simp⟩
  · simp [Value.cells] at hcs
    obtain ⟨rfl, rfl, rfl⟩ := hcs
    simp only [if_true] at hz
    simp only [Prod.mk.injEq] at hx
    obtain ⟨rfl, _⟩ := hx
    have := Nat.le_trans (slice_len _ _) hk
    simp only [lits, List.length_map, List.length_take] at this
    refine ⟨zs.take len, by simp; omega, ?_, by simp; omega⟩
    intro i u hu
    have hi : i < len ∧ i < zs.length := by
      have := (List.getElem?_eq_some_iff.1 hu).1
      simp at this
      omega
    refine ⟨x, rfl, ?_⟩
    rw [hcell i hi.2]
    simp [hi.1] at hu
    obtain ⟨z, hz1, rfl⟩ := hu
    simp [hz1]

set_option maxRecDepth 100000 in
theorem lifted (os : Os) (started : os.Started) (H : Type) (enc : TypeId × Value → H) (F : Stop.Interp) :
    ReturnsInHanded {} Try.checked os 6 .any ((Rows.OpenSpec.upto Rows.schedEventsSpec).pre6 enc Try.prog Try.f6 Rows.schedEventsUptoRow.domain false) (((Rows.OpenSpec.upto Rows.schedEventsSpec).at F).post enc Try.prog Try.f6 false true false false) := by
  refine returnsInHanded_of_cond (C := Try.checked) (s := Rows.OpenSpec.upto Rows.schedEventsSpec) (k := Rows.uptoSmall) rfl Try.own started (by kernel_rfl) Try.func6
    (OpenSpec.witness (enc := enc) (C := Try.checked) (s := Rows.OpenSpec.upto Rows.schedEventsSpec) (k := Rows.uptoSmall) rfl false ⟨#[], #[.slice none 0 0, .slice none 0 0], []⟩ 8 (by kernel_rfl) (by kernel_rfl) (by kernel_rfl)
      (x := ([.nil, .nil], [], [])) (by kernel_rfl) rfl (by kernel_rfl)) ?_
  intro W base args ds gs before hval0 hW _ hk0 _
  have hval : ∀ (j : Nat) t v, Try.f6.params[j]? = some t → args[j]? = some v → Value.okWide Try.prog W .any base t v := hval0
  have hW0 : DataW.Whole enc Try.prog Try.f6.params.toList Rows.schedEventsSpec.vars false W args.toList ds gs before := hW
  clear hval0 hW
  have hW := hW0
  obtain ⟨p, q, hA0, hV, rfl, _, _⟩ := hW
  have hA : DataW.TrodAll enc Try.prog W 0 (fun _ => true) true Try.f6.params.toList args.toList ds p := hA0
  clear hA0
  rw [Try.params6] at hA hval
  obtain ⟨v0, v1, d0, d1, p0, p1, rfl, rfl, rfl, h0, h1⟩ := trodAll_two hA
  obtain ⟨rfl, rfl⟩ := trodVars_none hV
  obtain ⟨k0, k1⟩ := small hk0
  refine law_contract (P := Try.prog) (k := 6) (fn := Try.f6) Try.laidOut rfl Try.underlying4 rfl (by rw [Try.params6]; intro t ht; simp at ht; rcases ht with rfl | rfl <;> exact ⟨by kernel_rfl, of_decide_eq_true (by kernel_rfl)⟩) ⟨rfl, rfl, rfl⟩ hW0 ?_
  obtain ⟨A0, n0, c0, rfl⟩ := okWide_slice Try.underlying22 (hval 0 22 v0 rfl rfl)
  obtain ⟨A1, n1, c1, rfl⟩ := okWide_slice Try.underlying30 (hval 1 30 v1 rfl rfl)
  obtain ⟨z0, rfl, hr0, hl0⟩ := ints_small k0 h0
  obtain ⟨fuel, hf1⟩ := h1
  obtain ⟨A2, c2, ks, sp, ds, hcs, hq, hd⟩ := arg_events hf1
  simp [Value.cells] at hcs
  obtain ⟨rfl, rfl, rfl⟩ := hcs
  have hl1 : ks.length ≤ 1048576 := by
    rcases hd with rfl | ⟨hd, hdl⟩
    · simp
    · have := slice_len ds sp
      simp only at hd
      rw [← hd] at this
      omega
  exact evlaw_any W A0 A1 c0 c1 z0 ks hl0 hl1 hr0 hq

theorem over : Rows.schedEventsUptoRow.holds Try.pinned (Rows.OpenSpec.upto Rows.schedEventsSpec) :=
  OpenClaim.holds_of_cond 6 Try.f6 rfl rfl rfl rfl rfl rfl rfl ⟨rfl, rfl, rfl, rfl, rfl⟩ rfl rfl rfl rfl rfl (by kernel_rfl) Try.func6 (by kernel_rfl)
    (of_decide_eq_true (by kernel_rfl)) (by unfold Func.isWrapper; first | (rw [if_pos (by decide +kernel)]; kernel_rfl) | (rw [if_neg (by decide +kernel)]; exact ⟨rfl, rfl⟩))
    (fun os started H enc _ F => lifted os started H enc F)

theorem proved : Rows.SchedEventsUptoSaid := over
end Go.Proofs.Ytphjbdoephmgfaa.lawSchedEvents
