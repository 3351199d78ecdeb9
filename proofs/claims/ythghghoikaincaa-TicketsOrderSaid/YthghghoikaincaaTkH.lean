/- The walk of tickets' note. -/
import Derived.Test.YthghghoikaincaaTkG
import Derived.RegionTactic
import Derived.BigRegion
import Derived.Deep.RegionLaw
namespace Go.Proofs.Ythghghoikaincaa
open Go.RowKit

section
variable {w : World} {base gq gm : Nat} {vw vg vc vt vn : Value} {q : QT} {C : List Int} {t : Nat} {x : CmT}
set_option maxHeartbeats 2000000 in
theorem note_any (kind qs qc qv : Int) (h : QV w base gq gm vw vg vc vt vn q C) (hx : q.T[t]? = some x) (hl : q.N.length ≤ 10000) :
    Calls Try.prog 26 #[.pointer (some ⟨gq, 0, none⟩), .int .i64 kind, .int .i64 t, .agg #[.int .i64 qs, .int .i64 0, .int .i64 qc, .int .i64 qv]] w fun e w' => e = .returned (.tuple #[]) ∧ QX w base gq gm vw vg vc vt vn (noteQ q kind t x qs qc qv) w' := by
  obtain ⟨A, c, rfl⟩ := h.men.shape
  obtain ⟨ad, hA, c0, c1, c2, c3, c4⟩ := RdF.cm h.men.rdF.2 hx
  subst hA
  rw [add_lit _ _ (by decide)] at c1 c2 c3 c4
  have hz0 := cell_lt c0
  have hcs := fun i => Blk.cell h.blk i
  have hfs := fun i => Blk.free h.blk i
  have hgs := h.blk.lt
  have htl := len_of hx
  have hg5 : w.cell? ⟨gq, 5, none⟩ = some (.int .i64 q.time) := hcs 5
  have hgs1 : gq < w.heap.size + 1 := by omega
  have hgs2 : gq < w.heap.size + 1 + 1 := by omega
  obtain ⟨n, hn⟩ : ∃ n, n = q.T.length := ⟨_, rfl⟩
  have H := hide h
  rw [← hn] at hcs htl
  have ht2 : (t : Int) < (n : Int) := by omega
  obtain ⟨xp, xs, xv, xa, xt⟩ := x
  dsimp only at c0 c1 c2 c3 c4
  have HX := hide hx; have HN := hide hn
  have hbs := h.base_le
  clear h hx hn
  rcases hp : isPut ⟨xp, xs, xv, xa, xt⟩ with _ | _
  · have hp1 : (xp == 1) = false := by unfold isPut at hp; simp at hp; simp; omega
    have hp2 : (xp == 2) = false := by unfold isPut at hp; simp at hp; simp; omega
    have HP := hide hp
    clear hp
    go_enter Try.func26, Try.ntmps26
    go_wp2_with fail
    go_region
    go_wp2_with fail
    generalize hw2 : World.drew (World.alloc (World.alloc (World.alloc w _) _) _) = w2
    have HB2 : Hid (Below w.heap.size w w2) := by unfold Hid; rw [← hw2]; exact (moreW (moreW (moreW (selfW w) _) _) _).drew
    have HNB : Hid (Blk w2 (w.heap.size + 1 + 1) 61 #[.int .i64 kind, .int .i64 t, .int .i64 xs, .int .i64 q.time, .int .i64 9, .int .i64 0, .int .i64 0, .bool false, .slice none 0 0, .int .i64 qs, .int .i64 0, .int .i64 qc, .int .i64 qv]) := by
      unfold Hid; rw [← hw2]; exact (Blk.newAt _ _ _ (by simp)).drewN 1
    clear hw2
    have H2 := hide (H.out.ext HB2.out)
    have hcn := fun i => Blk.cell HNB.out i
    have hzn := HNB.out.lt
    have hc2 := fun i => Blk.cell H2.out.blk i
    have hf2 := fun i => Blk.free H2.out.blk i
    have hz2 := H2.out.blk.lt
    have hb2 := H2.out.base_le
    clear hcs hfs hg5 hgs1 hgs2 hgs c0 c1 c2 c3 c4 hz0
    go_region_law (first
      | (refine step_appF rfl _ _ 40 rfl base 61 13 120 (.agg #[.int .i64 0, .int .i64 0, .int .i64 0, .int .i64 0, .int .i64 0, .int .i64 0, .int .i64 0, .bool false, .slice none 0 0, .int .i64 0, .int .i64 0, .int .i64 0, .int .i64 0]) ntC ntC_len ntC_one Try.underlying40 info_nt rfl (by decide) vn q.N rfl ?_ (some ⟨w2.heap.size, 0, none⟩) 1 1 [⟨kind, t, xs, q.time, 9, 0, qs, qc, qv⟩] rfl rfl ?_ ?_ ?_ ?_ ?_; (exact H2.out.notes.alloc _); (exact Rd.lit w2 (ntC ⟨kind, t, xs, q.time, 9, 0, qs, qc, qv⟩) _); (simp; omega); (simp; omega); (simp; omega); intro v4 W4 hown4 hgrow4 hat4; obtain ⟨A4, c4, hv4⟩ := hown4.shape; rw [List.length_append, List.length_singleton] at hv4; subst hv4; have hbk4 := QV.grownBlk H2.out (by exact (moreW (selfW _) _).drew) hgrow4; have hck4 := fun i => Blk.cell hbk4 i; have hfk4 := fun i => Blk.free hbk4 i; go_wp2_with fail))
    all_goals
      have hQ := QV.noteX H2.out (by exact (moreW (selfW w2) _).drew) hown4 hgrow4 hat4
      have HQ := hide hQ
      clear hQ hown4 hgrow4 hat4 hbk4
      go_wp2_with fail
      go_end0
      refine ⟨rfl, ?_⟩
      have hr : noteQ q kind t ⟨xp, xs, xv, xa, xt⟩ qs qc qv = { q with N := q.N ++ [⟨kind, t, xs, q.time, 9, 0, qs, qc, qv⟩] } := by unfold noteQ; rw [HP.out]; rfl
      rw [hr]
      exact QX.after HB2.out hbs HQ.out
  · by_cases hq1 : xp = 1
    · have hp1 : (xp == 1) = true := by simpa using hq1
      have HQ1 := hide hq1; clear hq1
      have HP := hide hp
      clear hp
      go_enter Try.func26, Try.ntmps26
      go_wp2_with fail
      go_region
      go_wp2_with fail
      generalize hw2 : World.drew (World.alloc (World.alloc (World.alloc w _) _) _) = w2
      have HB2 : Hid (Below w.heap.size w w2) := by unfold Hid; rw [← hw2]; exact (moreW (moreW (moreW (selfW w) _) _) _).drew
      have HNB : Hid (Blk w2 (w.heap.size + 1 + 1) 61 #[.int .i64 kind, .int .i64 t, .int .i64 xs, .int .i64 q.time, .int .i64 8, .int .i64 0, .int .i64 xv, .bool false, .slice none 0 0, .int .i64 qs, .int .i64 0, .int .i64 qc, .int .i64 qv]) := by
        unfold Hid; rw [← hw2]; exact (Blk.newAt _ _ _ (by simp)).drewN 1
      clear hw2
      have H2 := hide (H.out.ext HB2.out)
      have hcn := fun i => Blk.cell HNB.out i
      have hzn := HNB.out.lt
      have hc2 := fun i => Blk.cell H2.out.blk i
      have hf2 := fun i => Blk.free H2.out.blk i
      have hz2 := H2.out.blk.lt
      have hb2 := H2.out.base_le
      clear hcs hfs hg5 hgs1 hgs2 hgs c0 c1 c2 c3 c4 hz0
      go_region_law (first
        | (refine step_appF rfl _ _ 40 rfl base 61 13 120 (.agg #[.int .i64 0, .int .i64 0, .int .i64 0, .int .i64 0, .int .i64 0, .int .i64 0, .int .i64 0, .bool false, .slice none 0 0, .int .i64 0, .int .i64 0, .int .i64 0, .int .i64 0]) ntC ntC_len ntC_one Try.underlying40 info_nt rfl (by decide) vn q.N rfl ?_ (some ⟨w2.heap.size, 0, none⟩) 1 1 [⟨kind, t, xs, q.time, 8, xv, qs, qc, qv⟩] rfl rfl ?_ ?_ ?_ ?_ ?_; (exact H2.out.notes.alloc _); (exact Rd.lit w2 (ntC ⟨kind, t, xs, q.time, 8, xv, qs, qc, qv⟩) _); (simp; omega); (simp; omega); (simp; omega); intro v4 W4 hown4 hgrow4 hat4; obtain ⟨A4, c4, hv4⟩ := hown4.shape; rw [List.length_append, List.length_singleton] at hv4; subst hv4; have hbk4 := QV.grownBlk H2.out (by exact (moreW (selfW _) _).drew) hgrow4; have hck4 := fun i => Blk.cell hbk4 i; have hfk4 := fun i => Blk.free hbk4 i; go_wp2_with fail))
      all_goals
        have hQ := QV.noteX H2.out (by exact (moreW (selfW w2) _).drew) hown4 hgrow4 hat4
        have HQ := hide hQ
        clear hQ hown4 hgrow4 hat4 hbk4
        go_wp2_with fail
        go_end0
        refine ⟨rfl, ?_⟩
        have hr : noteQ q kind t ⟨xp, xs, xv, xa, xt⟩ qs qc qv = { q with N := q.N ++ [⟨kind, t, xs, q.time, 8, xv, qs, qc, qv⟩] } := by unfold noteQ; rw [HP.out]; rfl
        rw [hr]
        exact QX.after HB2.out hbs HQ.out
    · have hp1 : (xp == 1) = false := by simpa using hq1
      have hp2 : (xp == 2) = true := by unfold isPut at hp; simp at hp; simp; omega
      have HQ1 := hide hq1; clear hq1
      have HP := hide hp
      clear hp
      go_enter Try.func26, Try.ntmps26
      go_wp2_with fail
      go_region
      go_wp2_with fail
      generalize hw2 : World.drew (World.alloc (World.alloc (World.alloc w _) _) _) = w2
      have HB2 : Hid (Below w.heap.size w w2) := by unfold Hid; rw [← hw2]; exact (moreW (moreW (moreW (selfW w) _) _) _).drew
      have HNB : Hid (Blk w2 (w.heap.size + 1 + 1) 61 #[.int .i64 kind, .int .i64 t, .int .i64 xs, .int .i64 q.time, .int .i64 8, .int .i64 0, .int .i64 xv, .bool false, .slice none 0 0, .int .i64 qs, .int .i64 0, .int .i64 qc, .int .i64 qv]) := by
        unfold Hid; rw [← hw2]; exact (Blk.newAt _ _ _ (by simp)).drewN 1
      clear hw2
      have H2 := hide (H.out.ext HB2.out)
      have hcn := fun i => Blk.cell HNB.out i
      have hzn := HNB.out.lt
      have hc2 := fun i => Blk.cell H2.out.blk i
      have hf2 := fun i => Blk.free H2.out.blk i
      have hz2 := H2.out.blk.lt
      have hb2 := H2.out.base_le
      clear hcs hfs hg5 hgs1 hgs2 hgs c0 c1 c2 c3 c4 hz0
      go_region_law (first
        | (refine step_appF rfl _ _ 40 rfl base 61 13 120 (.agg #[.int .i64 0, .int .i64 0, .int .i64 0, .int .i64 0, .int .i64 0, .int .i64 0, .int .i64 0, .bool false, .slice none 0 0, .int .i64 0, .int .i64 0, .int .i64 0, .int .i64 0]) ntC ntC_len ntC_one Try.underlying40 info_nt rfl (by decide) vn q.N rfl ?_ (some ⟨w2.heap.size, 0, none⟩) 1 1 [⟨kind, t, xs, q.time, 8, xv, qs, qc, qv⟩] rfl rfl ?_ ?_ ?_ ?_ ?_; (exact H2.out.notes.alloc _); (exact Rd.lit w2 (ntC ⟨kind, t, xs, q.time, 8, xv, qs, qc, qv⟩) _); (simp; omega); (simp; omega); (simp; omega); intro v4 W4 hown4 hgrow4 hat4; obtain ⟨A4, c4, hv4⟩ := hown4.shape; rw [List.length_append, List.length_singleton] at hv4; subst hv4; have hbk4 := QV.grownBlk H2.out (by exact (moreW (selfW _) _).drew) hgrow4; have hck4 := fun i => Blk.cell hbk4 i; have hfk4 := fun i => Blk.free hbk4 i; go_wp2_with fail))
      all_goals
        have hQ := QV.noteX H2.out (by exact (moreW (selfW w2) _).drew) hown4 hgrow4 hat4
        have HQ := hide hQ
        clear hQ hown4 hgrow4 hat4 hbk4
        go_wp2_with fail
        go_end0
        refine ⟨rfl, ?_⟩
        have hr : noteQ q kind t ⟨xp, xs, xv, xa, xt⟩ qs qc qv = { q with N := q.N ++ [⟨kind, t, xs, q.time, 8, xv, qs, qc, qv⟩] } := by unfold noteQ; rw [HP.out]; rfl
        rw [hr]
        exact QX.after HB2.out hbs HQ.out
end
end Go.Proofs.Ythghghoikaincaa
