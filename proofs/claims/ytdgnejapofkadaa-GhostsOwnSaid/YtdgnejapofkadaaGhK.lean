/- The walk of ghosts' change. -/
import Derived.Test.YtdgnejapofkadaaGhJ
import Derived.RegionTactic
import Derived.Deep.RegionLaw
namespace Go.Proofs.Ytdgnejapofkadaa
open Go.RowKit

section
variable {w : World} {base gs g1 n c1 : Nat} {W : WT} {vf : Value} {xs : List RdX} {t : Nat} {x : RdX}
set_option maxHeartbeats 2000000 in
theorem change_any (h : StV w base gs W (.slice (some ⟨g1, 0, none⟩) n c1) vf xs) (hx : xs[t]? = some x) (hl : x.r.away.length ≤ 500) (hl1 : 0 ≤ W.last) (hl2 : W.last ≤ 1000) (hh : x.r.holds = W.root) :
    Calls Try.prog 21 #[.pointer (some ⟨gs, 0, none⟩), .pointer (some ⟨g1, t * 5, none⟩)] w (Acts base gs (changeW W t x.r) w) := by
  have hch : changeW W t x.r = { W with rds := W.rds.set t { x.r with away := x.r.away ++ [⟨W.root, W.epoch⟩] }, last := W.last + 1, root := W.last + 1 } := by unfold changeW; rw [if_pos hh]
  rw [hch]
  clear hch hh
  have hcs := fun i => Blk.cell h.blk i
  have hfs := fun i => Blk.free h.blk i
  obtain ⟨k0, k1, k2, k3, k4⟩ := h.cell hx
  have hf1 := fun i => h.free1 i
  have hgs := h.blk.lt
  have hg1s := h.lt1.2
  have hne := h.ne
  have hne2 : g1 ≠ gs := fun e => hne e.symm
  have H := hide h; have HX := hide hx
  have HA := hide (h.own.away x (mem_of_get hx))
  clear h hx
  go_enter Try.func21, Try.ntmps21
  go_wp2_with fail
  go_region_law (first
    | (refine step_appF rfl _ _ 46 rfl base 52 3 24 (.agg #[.int .i64 0, .int .i64 0, .int .i64 0]) oldC oldC_len oldC_one Try.underlying46 info_old rfl (by decide) _ x.r.away rfl ?_ (some ⟨w.heap.size, 0, none⟩) 1 1 [⟨W.root, W.epoch⟩] rfl rfl ?_ ?_ ?_ ?_ ?_; (exact HA.out.alloc _); (exact Rd.lit w (oldC ⟨W.root, W.epoch⟩) _); (simp; omega); (simp; omega); (have := H.out.base_le; simp; omega); intro v4 W4 hown4 hgrow4 hat4; obtain ⟨A4, c4, hv4⟩ := hown4.shape; rw [List.length_append, List.length_singleton] at hv4; subst hv4; have hrw4 := StV.rowGrown H.out HX.out (by exact (moreW (selfW _) _).drew) hgrow4; have hck4 := OwnF.cells rdC_len hrw4 HX.out (j := 4) rfl; have hcf4 := OwnF.frozen hrw4 (t * 5 + 4); go_wp2_with fail))
  all_goals
    obtain ⟨hS, hK, hB, hG⟩ := StV.growAll H.out HX.out (r' := { x.r with away := x.r.away ++ [⟨W.root, W.epoch⟩] }) (A4 := A4) (c4 := c4) (l4 := x.r.away.length + 1) (by simp) (by exact (moreW (selfW _) _).drew) (by simp [rdC]) hown4 hgrow4 hat4
    have hcs5 := fun i => Blk.cell hG i
    have hfs5 := fun i => Blk.free hG i
    have hgs5 := hG.lt
    have HS := hide hS; have HK := hide hK; have HB := hide hB
    clear hG hS hK hB hck4 hcf4 hrw4 hat4 hgrow4 hown4 hcs hfs hf1 k0 k1 k2 k3 k4 hgs hg1s
    go_wp2_with fail
    go_end0
    have h1 := StV.top HS.out (W' := { (W.put t { x.r with away := x.r.away ++ [⟨W.root, W.epoch⟩] }) with last := W.last + 1 }) (i := 2) (u := .int .i64 (W.last + 1)) rfl rfl rfl
    have h2 := StV.top h1 (W' := { (W.put t { x.r with away := x.r.away ++ [⟨W.root, W.epoch⟩] }) with last := W.last + 1, root := W.last + 1 }) (i := 1) (u := .int .i64 (W.last + 1)) rfl rfl rfl
    exact ⟨rfl, ⟨_, _, _, h2⟩, HK.out.trans ((HS.out.keepS _ _).trans (h1.keepS _ _)), (HB.out.setCell (p := ⟨gs, 2, none⟩) HS.out.low _).setCell (p := ⟨gs, 1, none⟩) HS.out.low _⟩
end
end Go.Proofs.Ytdgnejapofkadaa
