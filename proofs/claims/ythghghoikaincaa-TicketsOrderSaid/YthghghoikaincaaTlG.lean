/- The walks of the law's find. -/
import Derived.Test.YthghghoikaincaaTlF
namespace Go.Proofs.Ythghghoikaincaa
open Go.RowKit

def spC (s : SpT) : List Value := [.int .i64 s.b, .int .i64 s.e, .int .i64 s.v]
theorem spC_len (s : SpT) : (spC s).length = 3 := rfl
theorem spC_one (s : SpT) : ∀ u ∈ spC s, u.oneCell' = true := by intro u hu; simp [spC] at hu; rcases hu with rfl | rfl | rfl <;> rfl
theorem info_sp : (Try.prog.info? 47).map (fun i => (i.zero, i.size, i.bytes)) = some (some (.agg #[.int .i64 0, .int .i64 0, .int .i64 0]), 3, 24) := by kernel_rfl
theorem RdF.sp {w : World} {A : Option Addr} {xs : List SpT} (h : RdF w spC A xs) {i : Nat} (hi : i < xs.length) :
    ∃ ad x, A = some ad ∧ xs[i]? = some x ∧ w.cell? (ad.add (i * 3)) = some (.int .i64 x.b) ∧ w.cell? ((ad.add (i * 3)).add 1) = some (.int .i64 x.e) ∧ w.cell? ((ad.add (i * 3)).add 2) = some (.int .i64 x.v) := by
  obtain ⟨ad, x, h1, h2, h3⟩ := RdF.at_ spC_len (by decide) h hi
  exact ⟨ad, x, h1, h2, h3 0 _ rfl, h3 1 _ rfl, h3 2 _ rfl⟩
/-- what find answers -/
def FindE (l : List SpT) (v : Int) (w : World) (e : Ending) (w' : World) : Prop :=
  ∃ (s : SpT) (f : Bool), e = .returned (.tuple #[.agg #[.int .i64 s.b, .int .i64 s.e, .int .i64 s.v], .bool f]) ∧ (f = true → s ∈ l ∧ s.v = v) ∧ Below w.heap.size w w'
section
variable (w : World) (A : Option Addr) (c : Nat)
set_option maxHeartbeats 1000000 in
theorem find_any (l : List SpT) (v : Int) (hr : RdF w spC A l) (hl : l.length ≤ 20000) :
    Calls Try.prog 18 #[.slice A l.length c, .int .i64 v] w (FindE l v w) := by
  obtain ⟨n, hn⟩ : ∃ n, n = l.length := ⟨_, rfl⟩
  rw [← hn] at hl ⊢
  have HN := hide hn
  have HR := hide hr
  clear hn hr
  go_enter Try.func18, Try.ntmps18
  go_wp2_with fail
  obtain ⟨g, hg⟩ : ∃ g, g = w.heap.size := ⟨_, rfl⟩
  rw [← hg]
  have HG := hide hg
  clear hg
  go_loopw [7, 10] (fun _ i wr => ∃ k : Nat, k ≤ n ∧ i = .int .i64 k ∧ Hid (Below w.heap.size w wr) ∧ Hid (Blk wr g 47 #[.int .i64 0, .int .i64 0, .int .i64 0])) (fun _ i _ => n - (intOf i).toNat)
  case atStart => exact ⟨0, Nat.zero_le _, rfl, moreW (selfW w) _, by rw [HG.out]; exact Blk.new w _ _⟩
  case round =>
    obtain ⟨k, hk, rfl, HB, HK⟩ := hrel
    have hcg := fun i => Blk.cell HK.out i
    have hfg := fun i => Blk.free HK.out i
    have hzg := HK.out.lt
    have hgne : g ≠ wr.heap.size := by omega
    have hgne2 : wr.heap.size ≠ g := by omega
    have hzg1 : g < wr.heap.size + 1 := by omega
    by_cases hlt : k < n
    · obtain ⟨ad, z, hA, hz, c0, c1, c2⟩ := RdF.sp (HR.out.below HB.out) (i := k) (by rw [← HN.out]; exact hlt)
      subst hA
      rw [add_lit _ _ (by decide)] at c1 c2
      have HZ := hide hz
      clear hz
      obtain ⟨zb, ze, zv⟩ := z
      dsimp only at c0 c1 c2
      by_cases h1 : zv = v
      · have d1 : (zv == v) = true := by simpa using h1
        have H1 := hide h1
        clear h1
        go_wp2_with fail
        have hkf : Blk ((((wr.setCell ⟨g, 0, none⟩ (.int .i64 zb)).setCell ⟨g, 1, none⟩ (.int .i64 ze)).setCell ⟨g, 2, none⟩ (.int .i64 zv)).alloc (.cells #[.int .i64 zb, .int .i64 ze, .int .i64 zv] 47)) g 47 #[.int .i64 zb, .int .i64 ze, .int .i64 zv] :=
          (((HK.out.set_ 0 (.int .i64 zb)).set_ 1 (.int .i64 ze)).set_ 2 (.int .i64 zv)).alloc _
        have hbf : Below w.heap.size w ((((wr.setCell ⟨g, 0, none⟩ (.int .i64 zb)).setCell ⟨g, 1, none⟩ (.int .i64 ze)).setCell ⟨g, 2, none⟩ (.int .i64 zv)).alloc (.cells #[.int .i64 zb, .int .i64 ze, .int .i64 zv] 47)) := by
          have hgw : w.heap.size ≤ (⟨g, 0, none⟩ : Addr).block := by show _ ≤ g; rw [HG.out]; exact Nat.le_refl _
          exact moreW (((HB.out.setCell (p := ⟨g, 0, none⟩) hgw _).setCell (p := ⟨g, 1, none⟩) hgw _).setCell (p := ⟨g, 2, none⟩) hgw _) _
        generalize ((((wr.setCell ⟨g, 0, none⟩ (.int .i64 zb)).setCell ⟨g, 1, none⟩ (.int .i64 ze)).setCell ⟨g, 2, none⟩ (.int .i64 zv)).alloc (.cells #[.int .i64 zb, .int .i64 ze, .int .i64 zv] 47)) = wf at hkf hbf ⊢
        have hcf := fun i => Blk.cell hkf i
        refine bodyPost_ret (v := .tuple #[.agg #[.int .i64 zb, .int .i64 ze, .int .i64 zv], .bool true]) ?_ rfl ?_
        · simp [results, Try.results18, go_sem, hcf]
        · exact ⟨⟨zb, ze, zv⟩, true, rfl, fun _ => ⟨List.mem_of_getElem? HZ.out, H1.out⟩, hbf⟩
      · have d1 : (zv == v) = false := by simpa using h1
        have H1 := hide h1
        clear h1
        go_wp2_with fail
        go_roundw
        case rel => exact ⟨k + 1, by omega, by go_num, moreW HB.out _, HK.out.alloc _⟩
        case measure => simp [intOf]; omega
    · go_wp2_with fail
      have hkf : Blk (((wr.setCell ⟨g, 0, none⟩ (.int .i64 0)).setCell ⟨g, 1, none⟩ (.int .i64 0)).setCell ⟨g, 2, none⟩ (.int .i64 0)) g 47 #[.int .i64 0, .int .i64 0, .int .i64 0] :=
        ((HK.out.set_ 0 (.int .i64 0)).set_ 1 (.int .i64 0)).set_ 2 (.int .i64 0)
      have hbf : Below w.heap.size w (((wr.setCell ⟨g, 0, none⟩ (.int .i64 0)).setCell ⟨g, 1, none⟩ (.int .i64 0)).setCell ⟨g, 2, none⟩ (.int .i64 0)) := by
        have hgw : w.heap.size ≤ (⟨g, 0, none⟩ : Addr).block := by show _ ≤ g; rw [HG.out]; exact Nat.le_refl _
        exact ((HB.out.setCell (p := ⟨g, 0, none⟩) hgw _).setCell (p := ⟨g, 1, none⟩) hgw _).setCell (p := ⟨g, 2, none⟩) hgw _
      generalize (((wr.setCell ⟨g, 0, none⟩ (.int .i64 0)).setCell ⟨g, 1, none⟩ (.int .i64 0)).setCell ⟨g, 2, none⟩ (.int .i64 0)) = wf at hkf hbf ⊢
      have hcf := fun i => Blk.cell hkf i
      refine bodyPost_ret (v := .tuple #[.agg #[.int .i64 0, .int .i64 0, .int .i64 0], .bool false]) ?_ rfl ?_
      · simp [results, Try.results18, go_sem, hcf]
      · exact ⟨⟨0, 0, 0⟩, false, rfl, (fun h => by cases h), hbf⟩
end
end Go.Proofs.Ythghghoikaincaa
