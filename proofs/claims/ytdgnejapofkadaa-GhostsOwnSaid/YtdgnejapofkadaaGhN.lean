/- The walk of ghosts' free, by any test. -/
import Derived.Test.YtdgnejapofkadaaGhM
import Derived.RegionTactic
import Derived.Deep.RegionLaw
namespace Go.Proofs.Ytdgnejapofkadaa
open Go.RowKit

section
variable {w : World} {base gs g1 n c1 b5 : Nat} {W : WT} {vf : Value} {xs : List RdX} {t : Nat} {x : RdX}
set_option maxHeartbeats 4000000 in
theorem free_any (f : FuncId) (hf : f = 24 ∨ f = 26) (p : OldT → Bool) (h : StV w base gs W (.slice (some ⟨g1, 0, none⟩) n c1) vf xs) (hx : xs[t]? = some x) (hl : x.r.away.length ≤ 450) (hfl : W.freed.length ≤ 450) (h5 : Blk w b5 61 #[.pointer (some ⟨gs, 0, none⟩)])
    (HC : ∀ (o : OldT) (wx : World) (vf' : Value) (fr : List Int), StV wx base gs { W with freed := fr } (.slice (some ⟨g1, 0, none⟩) n c1) vf' xs → Blk wx b5 61 #[.pointer (some ⟨gs, 0, none⟩)] → Calls Try.prog f #[.agg #[.int .i64 0, .int .i64 o.node, .int .i64 o.stamp], .pointer (some ⟨b5, 0, none⟩)] wx (Says (p o) wx)) :
    Calls Try.prog 23 #[.pointer (some ⟨gs, 0, none⟩), .pointer (some ⟨g1, t * 5, none⟩), .func (.func f) #[] #[.pointer (some ⟨b5, 0, none⟩)]] w (Acts base gs (freeW W t x.r p) w) := by
  have hlow : ∀ z ∈ xs, ∀ q, (Value.slice z.A z.r.away.length z.c).ownBlock = some q → q < w.heap.size := fun z hz q hq => (own_lt (h.awy hz) hq).2
  have HP := hide hlow
  have h0 : FrV w w base gs b5 W (.slice (some ⟨g1, 0, none⟩) n c1) vf (.slice none 0 0) xs p x.r.away 0 [] W.freed := ⟨h, OwnF.nil _ _ _ _ _, rfl, by simp, h5, Keeps.refl _, Below.refl _ _⟩
  have H0 := hide h0
  obtain ⟨k0, k1, k2, k3, k4⟩ := h.cell hx
  have HX := hide hx; have HF := hide HC; have HBS := hide h.base_le
  have hg1s := h.lt1.2
  have HG1 := hide h.lt1.1
  obtain ⟨m, hm⟩ : ∃ m, m = x.r.away.length := ⟨_, rfl⟩
  rw [← hm] at hl k4
  have HM := hide hm
  have hne := h.ne
  clear hlow h0 h hx HC h5 hm
  rcases hf with rfl | rfl
  all_goals
    go_enter Try.func23, Try.ntmps23
    go_wp2_with fail
    clear k0 k1 k2 k3 k4
    go_loopw [6, 14] (fun v i wr => ∃ (k : Nat) (vf' : Value) (L : List OldT) (fr : List Int), k ≤ m ∧ i = .int .i64 k ∧ L.length ≤ k ∧ fr.length ≤ 450 + k ∧ Hid (FrV w wr base gs b5 W (.slice (some ⟨g1, 0, none⟩) n c1) vf' v xs p x.r.away k L fr)) (fun _ i _ => m - (intOf i).toNat)
    case atStart => exact ⟨0, vf, [], W.freed, Nat.zero_le _, rfl, Nat.le_refl _, by omega, H0.out⟩
    case round =>
      obtain ⟨k, vf', L, fr, hk, rfl, hLl, hfr, HR⟩ := hrel
      by_cases hlt : k < m
      · obtain ⟨ad, o, hA, ho, c0, c1', c2⟩ := RdF.old ((HR.out.st.own.away x (mem_of_get HX.out)).rdF.2) (i := k) (by rw [← HM.out]; exact hlt)
        rw [hA]
        rw [add_lit _ _ (by decide)] at c1' c2
        have HO := hide ho; have HA := hide hA
        clear ho hA
        have HT := hide (HF.out o _ vf' fr (HR.out.st.ext (moreW (selfW wr) (.cells #[.int .i64 0, .int .i64 o.node, .int .i64 o.stamp] 52))) (HR.out.ptr.alloc _))
        rcases hpo : p o with _ | _
        · rw [hpo] at HT
          have HPO := hide hpo
          clear hpo
          go_wp2_with fail
          refine HT.out.mono ?_
          rintro e w1 ⟨rfl, hb1⟩
          have hR1 := HR.out.ext (extW (moreW (selfW wr) (.cells #[.int .i64 0, .int .i64 o.node, .int .i64 o.stamp] 52)) hb1)
          have hbox := (Blk.new wr 52 #[.int .i64 0, .int .i64 o.node, .int .i64 o.stamp]).extW hb1
          have hcb := fun i => Blk.cell hbox i
          have hbl := hbox.lt
          have HR1 := hide hR1
          have hsz1 := hR1.st.base_le
          have HZ1 : Hid (w.heap.size ≤ w1.heap.size) := hR1.old.size
          clear hR1 hbox hb1 c0 c1' c2
          go_wp2_with (at_builtin; refine wpList_appF _ rfl _ _ 46 rfl w.heap.size 52 3 24 (.agg #[.int .i64 0, .int .i64 0, .int .i64 0]) oldC oldC_len oldC_one Try.underlying46 info_old rfl (by decide) _ L rfl (HR1.out.left.alloc _) (some ⟨w1.heap.size, 0, none⟩) 1 1 [o] rfl rfl ?c4 ?c5 ?c6 ?c7 ?_)
          case c4 => exact Rd.lit w1 (oldC o) _
          case c5 => simp; omega
          case c6 => simp; omega
          case c7 => have := HZ1.out; simp; omega
          intro v4 w4 hown4 hgrow4 _
          have HR4 := hide (FrV.stays (HR1.out.ext (by exact (moreW (selfW w1) _))) HO.out HPO.out HP.out HBS.out hown4 hgrow4)
          clear hown4 hgrow4
          go_wp2_with fail
          go_roundw
          case rel => exact ⟨k + 1, vf', _, fr, by omega, by go_num, by simp; omega, by omega, HR4.out⟩
          case measure => simp [intOf]; omega
        · rw [hpo] at HT
          have HPO := hide hpo
          clear hpo
          go_wp2_with fail
          refine HT.out.mono ?_
          rintro e w1 ⟨rfl, hb1⟩
          have hR1 := HR.out.ext (extW (moreW (selfW wr) (.cells #[.int .i64 0, .int .i64 o.node, .int .i64 o.stamp] 52)) hb1)
          have hbox := (Blk.new wr 52 #[.int .i64 0, .int .i64 o.node, .int .i64 o.stamp]).extW hb1
          have hcb := fun i => Blk.cell hbox i
          have hbl := hbox.lt
          have hcg := fun i => Blk.cell hR1.st.blk i
          have hgl := hR1.st.blk.lt
          have HR1 := hide hR1
          clear hR1 hbox hb1 c0 c1' c2
          go_wp2_with fail
          go_region_law (first
            | (refine step_appI rfl _ _ 30 rfl base 3 .i64 Try.underlying30 info_int vf' fr rfl ?_ (some ⟨w1.heap.size, 0, none⟩) 1 1 [o.node] rfl rfl ?_ ?_ ?_ ?_; (exact HR1.out.st.own.freed.alloc _); (exact RdI.one _ .i64 _ _); (simp; omega); (have := HR1.out.st.base_le; simp; omega); intro v4 w4 hown4 hgrow4 hat4; obtain ⟨A4, c4, hv4⟩ := hown4.shape; rw [List.length_append, List.length_singleton] at hv4; subst hv4; have hbk4 := FrV.grownBlk HR1.out (by exact (moreW (selfW _) _).drew) hgrow4; have hck4 := fun i => Blk.cell hbk4 i; have hfk4 := fun i => Blk.free hbk4 i; go_wp2_with fail))
          all_goals
            have HR4 := hide (FrV.freed (HR1.out.ext (by exact (moreW (selfW w1) _).drew)) HO.out HPO.out hown4 hgrow4)
            clear hown4 hgrow4 hbk4 hat4
            go_wp2_with fail
            clear hck4 hfk4
            go_roundw
            case rel => exact ⟨k + 1, _, L, _, by omega, by go_num, by omega, by simp; omega, HR4.out⟩
            case measure => simp [intOf]; omega
      · have hkm : m = k := by omega
        subst hkm
        obtain ⟨c0, c1', c2, c3, c4⟩ := HR.out.st.cell HX.out
        have hf4 := HR.out.st.free1 (t * 5 + 4)
        have hl1 := HR.out.st.lt1.2
        obtain ⟨AL, cL, hvL⟩ := HR.out.left.shape
        subst hvL
        go_wp2_with fail
        go_end0
        have hL : L = x.r.away.filter fun o => !p o := by rw [HR.out.ll, List.take_of_length_le (by have := HM.out; omega)]
        have hF : fr = W.freed ++ (x.r.away.filter p).map (·.node) := by rw [HR.out.lf, List.take_of_length_le (by have := HM.out; omega)]
        have h1 := StV.left HR.out.st HX.out (A4 := AL) (c4 := cL) (r' := { x.r with away := L }) rfl HR.out.left HBS.out HP.out
        have hW : freeW W t x.r p = ({ W with freed := fr } : WT).put t { x.r with away := L } := by unfold freeW; rw [← hL, ← hF]; rfl
        rw [hW]
        have hrw := HR.out.st.row
        exact ⟨rfl, ⟨_, _, _, h1⟩, HR.out.keep.trans (keep_own hrw (.inl rfl) _ _), HR.out.old.setCell (p := ⟨g1, _, none⟩) HG1.out _⟩
end
end Go.Proofs.Ytdgnejapofkadaa
