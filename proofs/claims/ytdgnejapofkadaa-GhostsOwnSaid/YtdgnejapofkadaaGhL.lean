/- The walk of ghosts' free, and of its two tests. -/
import Derived.Test.YtdgnejapofkadaaGhK
namespace Go.Proofs.Ytdgnejapofkadaa
open Go.RowKit

theorem RdF.old {w : World} {A : Option Addr} {xs : List OldT} (h : RdF w oldC A xs) {i : Nat} (hi : i < xs.length) :
    ∃ ad o, A = some ad ∧ xs[i]? = some o ∧ w.cell? (ad.add (i * 3)) = some (.int .i64 0) ∧ w.cell? ((ad.add (i * 3)).add 1) = some (.int .i64 o.node) ∧ w.cell? ((ad.add (i * 3)).add 2) = some (.int .i64 o.stamp) := by
  obtain ⟨ad, x, h1, h2, h3⟩ := RdF.at_ oldC_len (by decide) h hi
  exact ⟨ad, x, h1, h2, h3 0 _ rfl, h3 1 _ rfl, h3 2 _ rfl⟩
section
variable (w : World)
set_option maxHeartbeats 400000 in
theorem do1_any (b5 gs : Nat) (o : OldT) (E : Int) (hE1 : -1000000 ≤ E) (hE2 : E ≤ 1000000) (hb : Blk w b5 61 #[.pointer (some ⟨gs, 0, none⟩)]) (hc : w.cell? ⟨gs, 0, none⟩ = some (.int .i64 E)) :
    Calls Try.prog 24 #[.agg #[.int .i64 0, .int .i64 o.node, .int .i64 o.stamp], .pointer (some ⟨b5, 0, none⟩)] w (Says (pastB o.stamp E) w) := by
  have hc5 := fun i => Blk.cell hb i
  have hbl := hb.lt
  have hgl := cell_lt hc
  dsimp only at hgl
  clear hb
  go_enter Try.func24, Try.ntmps24
  go_wp2_with fail
  go_quiet ((go_at_call 25; exact same_quiet (past_any _ _ _ hE1 hE2)))
  go_wp2_with fail
  go_ret
  exact ⟨rfl, below_drewN (moreW (selfW _) _) _⟩
set_option maxHeartbeats 400000 in
theorem do2_any (b5 gs : Nat) (o : OldT) (W : WT) (A : Option Addr) (c : Nat) (vf : Value) (xs : List RdX) (hb : Blk w b5 61 #[.pointer (some ⟨gs, 0, none⟩)]) (hs : Blk w gs 63 #[.int .i64 W.epoch, .int .i64 W.root, .int .i64 W.last, .slice A xs.length c, vf]) (hr : RdF w rdC A xs) (hl : xs.length ≤ 64) (hm : xs.map (·.r) = W.rds) :
    Calls Try.prog 26 #[.agg #[.int .i64 0, .int .i64 o.node, .int .i64 o.stamp], .pointer (some ⟨b5, 0, none⟩)] w (Says (!guardedW W o.node) w) := by
  have hc5 := fun i => Blk.cell hb i
  have hbl := hb.lt
  have HG := hide (guarded_any (w.alloc (.cells #[.int .i64 0, .int .i64 o.node, .int .i64 o.stamp] 52)) gs W A c vf xs o.node (hs.alloc _) (hr.alloc _) hl hm)
  clear hb hs hr hm
  rcases hg : guardedW W o.node with _ | _
  all_goals
    rw [hg] at HG
    clear hg
    go_enter Try.func26, Try.ntmps26
    go_wp2_with fail
    refine HG.out.mono ?_
    rintro e w1 ⟨rfl, hb⟩
    have HB := hide hb; clear hb
    go_wp2_with fail
    go_ret
    exact ⟨rfl, extW (moreW (selfW _) _) HB.out⟩
end
end Go.Proofs.Ytdgnejapofkadaa
