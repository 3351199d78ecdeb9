/- The walks of mem.(*Mem)'s Peek. -/
import Derived.Test.YthghghoikaincaaTkD
namespace Go.Proofs.Ythghghoikaincaa
open Go.RowKit

section
variable (w : World) (base g : Nat) (vl vg vc : Value) (L : List Int) (G : List Acc) (C : List Int) (kp : Bool)
set_option maxHeartbeats 400000 in
theorem peek_any (k : Nat) (x : Int) (h : MemV w base g vl vg vc L G C kp) (hL : L.length ≤ 2000000) (hx : L[k]? = some x) :
    Calls Try.prog 25 #[.pointer (some ⟨g, 0, none⟩), .int .i64 k] w fun e w' => e = .returned (.int .u64 x) ∧ w = w' := by
  have hne : L ≠ [] := by rintro rfl; simp at hx
  obtain ⟨gl, cl, rfl, hgl1, hgl2⟩ := h.form hne
  obtain ⟨n, hn⟩ : ∃ n, n = L.length := ⟨_, rfl⟩
  have hkn : k < n := by rw [hn]; exact (List.getElem?_eq_some_iff.1 hx).1
  rw [← hn] at h hL
  have hcx := h.words.cell hx
  have hcm := fun i => Blk.cell h.blk i
  have hgs := h.blk.lt
  have HY := hide (made_yes w g ⟨gl, 0, none⟩ n cl (h.blk.cell 0))
  have hd0 : decide ((k : Int) < 0) = false := decide_eq_false (by omega)
  have hd1 : decide ((n : Int) ≤ (k : Int)) = false := decide_eq_false (by omega)
  have hd2 : decide (n ≤ k) = false := decide_eq_false (by omega)
  clear h hx hn hne
  go_enter Try.func25, Try.ntmps25
  go_wp2_with fail
  refine HY.out.mono ?_
  rintro e w' ⟨rfl, rfl⟩
  go_wp2_with fail
  go_ret
  exact ⟨rfl, rfl⟩

end
end Go.Proofs.Ythghghoikaincaa
