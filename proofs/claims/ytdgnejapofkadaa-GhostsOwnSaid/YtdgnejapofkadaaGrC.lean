/- The walk of the reference's free, by either rule. -/
import Derived.Test.YtdgnejapofkadaaGrB
import Derived.RegionTactic
import Derived.Deep.RegionLaw
namespace Go.Proofs.Ytdgnejapofkadaa.Ref
open Go.RowKit

section
variable {w : World} {base gs g1 n c1 : Nat} {W : WT} {vf : Value} {xs : List RdX} {t : Nat} {x : RdX}
set_option maxHeartbeats 4000000 in
theorem free_guard (h : StV w base gs W (.slice (some ⟨g1, 0, none⟩) n c1) vf xs) (hx : xs[t]? = some x) (hl : x.r.away.length ≤ 450) (hfl : W.freed.length ≤ 450) (hxl : xs.length ≤ 64) :
    Calls Try.prog 19 #[.pointer (some ⟨gs, 0, none⟩), .pointer (some ⟨g1, t * 5, none⟩), .bool false] w (Acts base gs (freeW W t x.r (fun o => !guardedW W o.node)) w) := by
  obtain ⟨p, hp⟩ : ∃ p : OldT → Bool, p = (fun o => !guardedW W o.node) := ⟨_, rfl⟩
  rw [← hp]
  have HPP := hide (fun o => congrFun hp o)
  have hlow : ∀ z ∈ xs, ∀ q, (Value.slice z.A z.r.away.length z.c).ownBlock = some q → q < w.heap.size := fun z hz q hq => (own_lt (h.awy hz) hq).2
  have HP := hide hlow
  have h0 : FrV w w base gs W (.slice (some ⟨g1, 0, none⟩) n c1) vf (.slice none 0 0) xs p x.r.away 0 [] W.freed := ⟨h, OwnF.nil _ _ _ _ _, rfl, by simp, Keeps.refl _, Below.refl _ _⟩
  have H0 := hide h0
  obtain ⟨k0, k1, k2, k3, k4⟩ := h.cell hx
  have HX := hide hx; have HBS := hide h.base_le
  have hg1s := h.lt1.2
  have HG1 := hide h.lt1.1
  obtain ⟨m, hm⟩ : ∃ m, m = x.r.away.length := ⟨_, rfl⟩
  rw [← hm] at hl k4
  have HM := hide hm
  have hne := h.ne
  have hxn : n = xs.length := h.own.row.rdF.1
  have HXN := hide hxn
  have HXL := hide hxl
  clear hlow h0 h hx hm hp hxn hxl
  go_enter Try.func19, Try.ntmps19
  go_wp2_with fail
  clear k0 k1 k2 k3 k4
  go_loopw [6, 15] (fun v i wr => ∃ (k : Nat) (vf' : Value) (L : List OldT) (fr : List Int), k ≤ m ∧ i = .int .i64 k ∧ L.length ≤ k ∧ fr.length ≤ 450 + k ∧ Hid (FrV w wr base gs W (.slice (some ⟨g1, 0, none⟩) n c1) vf' v xs p x.r.away k L fr)) (fun _ i _ => m - (intOf i).toNat)
  case atStart => exact ⟨0, vf, [], W.freed, Nat.zero_le _, rfl, Nat.le_refl _, by omega, H0.out⟩
  case round =>
    obtain ⟨k, vf', L, fr, hk, rfl, hLl, hfr, HR⟩ := hrel
    by_cases hlt : k < m
    · obtain ⟨ad, o, hA, ho, c0, c1'⟩ := RdF.old ((HR.out.st.own.away x (mem_of_get HX.out)).rdF.2) (i := k) (by rw [← HM.out]; exact hlt)
      rw [hA]
      rw [add_lit _ _ (by decide)] at c1'
      have HO := hide ho; have HA := hide hA
      clear ho hA
      have HST := hide (HR.out.st.ext (moreW (selfW wr) (.cells #[.int .i64 o.node, .int .i64 o.stamp] 58)))
      have HT := hide (guarded_any (wr.alloc (.cells #[.int .i64 o.node, .int .i64 o.stamp] 58)) gs { W with freed := fr } (some ⟨g1, 0, none⟩) c1 vf' xs o.node (by rw [← HXN.out]; exact HST.out.blk) (HST.out.own.row.rdF.2) HXL.out HST.out.own.rds)
      have hgw : guardedW { W with freed := fr } o.node = guardedW W o.node := rfl
      rw [hgw] at HT
      have HPO := hide (HPP.out o)
      clear hgw
      rcases hg : guardedW W o.node with _ | _
      · have HG0 := hide hg
        rw [hg] at HT
        clear hg
        go_wp2_with fail
        have HPF : Hid (p o = true) := by unfold Hid; rw [HPO.out]; simp [HG0.out]
        refine HT.out.mono ?_
        rintro e w1 ⟨rfl, hb1⟩
        have hR1 := HR.out.ext (extW (moreW (selfW wr) (.cells #[.int .i64 o.node, .int .i64 o.stamp] 58)) hb1)
        have hbox := (Blk.new wr 58 #[.int .i64 o.node, .int .i64 o.stamp]).extW hb1
        have hcb := fun i => Blk.cell hbox i
        have hbl := hbox.lt
        have hcg := fun i => Blk.cell hR1.st.blk i
        have hgl := hR1.st.blk.lt
        have HR1 := hide hR1
        have HBOX := hide hbox
        have HZ1 : Hid (w.heap.size ≤ w1.heap.size) := hR1.old.size
        clear hR1 hbox hb1 c0 c1'
        go_wp2_with fail
        obtain ⟨w2, rfl⟩ : ∃ w2 : World, w2 = w1 := ⟨_, rfl⟩
        have HR2 := HR1
        go_wp2_with fail
        go_region_law (first
          | (refine step_appI rfl _ _ 30 rfl base 3 .i64 Try.underlying30 info_int vf' fr rfl ?_ (some ⟨w2.heap.size, 0, none⟩) 1 1 [o.node] rfl rfl ?_ ?_ ?_ ?_; (exact HR2.out.st.own.freed.alloc _); (exact RdI.one _ .i64 _ _); (simp; omega); (have := HR2.out.st.base_le; simp; omega); intro v4 w4 hown4 hgrow4 hat4; obtain ⟨A4, c4, hv4⟩ := hown4.shape; rw [List.length_append, List.length_singleton] at hv4; subst hv4; have hbk4 := FrV.grownBlk HR2.out (by exact (moreW (selfW _) _).drew) hgrow4; have hck4 := fun i => Blk.cell hbk4 i; have hfk4 := fun i => Blk.free hbk4 i; go_wp2_with fail))
        all_goals
          have HR4 := hide (FrV.freed (HR2.out.ext (by exact (moreW (selfW w2) _).drew)) HO.out HPF.out hown4 hgrow4)
          clear hown4 hgrow4 hbk4 hat4
          go_wp2_with fail
          clear hck4 hfk4
          go_roundw
          case rel => exact ⟨k + 1, _, L, _, by omega, by go_num, by omega, by simp; omega, HR4.out⟩
          case measure => simp [intOf]; omega
      · have HG0 := hide hg
        rw [hg] at HT
        clear hg
        go_wp2_with fail
        have HPF : Hid (p o = false) := by unfold Hid; rw [HPO.out]; simp [HG0.out]
        refine HT.out.mono ?_
        rintro e w1 ⟨rfl, hb1⟩
        have hR1 := HR.out.ext (extW (moreW (selfW wr) (.cells #[.int .i64 o.node, .int .i64 o.stamp] 58)) hb1)
        have hbox := (Blk.new wr 58 #[.int .i64 o.node, .int .i64 o.stamp]).extW hb1
        have hcb := fun i => Blk.cell hbox i
        have hbl := hbox.lt
        have hcg := fun i => Blk.cell hR1.st.blk i
        have hgl := hR1.st.blk.lt
        have HR1 := hide hR1
        have HBOX := hide hbox
        have HZ1 : Hid (w.heap.size ≤ w1.heap.size) := hR1.old.size
        clear hR1 hbox hb1 c0 c1'
        obtain ⟨w2, rfl⟩ : ∃ w2 : World, w2 = w1 := ⟨_, rfl⟩
        have HR2 := HR1
        go_wp2_with (at_builtin; refine wpList_appF _ rfl _ _ 33 rfl w.heap.size 58 2 16 (.agg #[.int .i64 0, .int .i64 0]) oldC oldC_len oldC_one Try.underlying33 info_old rfl (by decide) _ L rfl (HR2.out.left.alloc _) (some ⟨w2.heap.size, 0, none⟩) 1 1 [o] rfl rfl ?c4 ?c5 ?c6 ?c7 ?_)
        case c4 => exact Rd.lit w2 (oldC o) _
        case c5 => first | omega | (simp; omega)
        case c6 => first | omega | (simp; omega)
        case c7 => have := HR2.out.old.size; simp; omega
        intro v4 w4 hown4 hgrow4 _
        have HR4 := hide (FrV.stays (HR2.out.ext (by exact (moreW (selfW w2) _))) HO.out HPF.out HP.out HBS.out hown4 hgrow4)
        clear hown4 hgrow4
        go_wp2_with fail
        go_roundw
        case rel => exact ⟨k + 1, vf', _, fr, by omega, by go_num, by simp; omega, by omega, HR4.out⟩
        case measure => simp [intOf]; omega
    · have hkm : m = k := by omega
      subst hkm
      obtain ⟨c0, c1', c2, c3, c4⟩ := HR.out.st.cell HX.out
      have hf4 := HR.out.st.free1 (t * 5 + 4)
      have hl1 := HR.out.st.lt1.2
      obtain ⟨AL, cL, hvL⟩ := HR.out.left.shape
      subst hvL
      go_wp2_with fail
      go_end0
      have hL : L = x.r.away.filter fun o => !p o := by rw [HR.out.ll, List.take_of_length_le (by have := HM.out; omega)]
      have hF : fr = W.freed ++ (x.r.away.filter p).map (·.node) := by rw [HR.out.lf, List.take_of_length_le (by have := HM.out; omega)]
      have h1 := StV.left HR.out.st HX.out (A4 := AL) (c4 := cL) (r' := { x.r with away := L }) rfl HR.out.left HBS.out HP.out
      have hW : freeW W t x.r p = ({ W with freed := fr } : WT).put t { x.r with away := L } := by unfold freeW; rw [← hL, ← hF]; rfl
      rw [hW]
      have hrw := HR.out.st.row
      exact ⟨rfl, ⟨_, _, _, h1⟩, HR.out.keep.trans (keep_own hrw (.inl rfl) _ _), HR.out.old.setCell (p := ⟨g1, _, none⟩) HG1.out _⟩
set_option maxHeartbeats 4000000 in
theorem free_epoch (h : StV w base gs W (.slice (some ⟨g1, 0, none⟩) n c1) vf xs) (hx : xs[t]? = some x) (hl : x.r.away.length ≤ 450) (hfl : W.freed.length ≤ 450) (hxl : xs.length ≤ 64) (he0 : 0 ≤ W.epoch) (he1 : W.epoch ≤ 1000) :
    Calls Try.prog 19 #[.pointer (some ⟨gs, 0, none⟩), .pointer (some ⟨g1, t * 5, none⟩), .bool true] w (Acts base gs (freeW W t x.r (fun o => pastB o.stamp W.epoch)) w) := by
  obtain ⟨p, hp⟩ : ∃ p : OldT → Bool, p = (fun o => pastB o.stamp W.epoch) := ⟨_, rfl⟩
  rw [← hp]
  have HPP := hide (fun o => congrFun hp o)
  have hlow : ∀ z ∈ xs, ∀ q, (Value.slice z.A z.r.away.length z.c).ownBlock = some q → q < w.heap.size := fun z hz q hq => (own_lt (h.awy hz) hq).2
  have HP := hide hlow
  have h0 : FrV w w base gs W (.slice (some ⟨g1, 0, none⟩) n c1) vf (.slice none 0 0) xs p x.r.away 0 [] W.freed := ⟨h, OwnF.nil _ _ _ _ _, rfl, by simp, Keeps.refl _, Below.refl _ _⟩
  have H0 := hide h0
  obtain ⟨k0, k1, k2, k3, k4⟩ := h.cell hx
  have HX := hide hx; have HBS := hide h.base_le
  have hg1s := h.lt1.2
  have HG1 := hide h.lt1.1
  obtain ⟨m, hm⟩ : ∃ m, m = x.r.away.length := ⟨_, rfl⟩
  rw [← hm] at hl k4
  have HM := hide hm
  have hne := h.ne
  have hxn : n = xs.length := h.own.row.rdF.1
  have HXN := hide hxn
  have HXL := hide hxl
  clear hlow h0 h hx hm hp hxn hxl
  go_enter Try.func19, Try.ntmps19
  go_wp2_with fail
  clear k0 k1 k2 k3 k4
  go_loopw [6, 15] (fun v i wr => ∃ (k : Nat) (vf' : Value) (L : List OldT) (fr : List Int), k ≤ m ∧ i = .int .i64 k ∧ L.length ≤ k ∧ fr.length ≤ 450 + k ∧ Hid (FrV w wr base gs W (.slice (some ⟨g1, 0, none⟩) n c1) vf' v xs p x.r.away k L fr)) (fun _ i _ => m - (intOf i).toNat)
  case atStart => exact ⟨0, vf, [], W.freed, Nat.zero_le _, rfl, Nat.le_refl _, by omega, H0.out⟩
  case round =>
    obtain ⟨k, vf', L, fr, hk, rfl, hLl, hfr, HR⟩ := hrel
    by_cases hlt : k < m
    · obtain ⟨ad, o, hA, ho, c0, c1'⟩ := RdF.old ((HR.out.st.own.away x (mem_of_get HX.out)).rdF.2) (i := k) (by rw [← HM.out]; exact hlt)
      rw [hA]
      rw [add_lit _ _ (by decide)] at c1'
      have HO := hide ho; have HA := hide hA
      clear ho hA
      have HST := hide (HR.out.st.ext (moreW (selfW wr) (.cells #[.int .i64 o.node, .int .i64 o.stamp] 58)))
      have HT := hide (guarded_any (wr.alloc (.cells #[.int .i64 o.node, .int .i64 o.stamp] 58)) gs { W with freed := fr } (some ⟨g1, 0, none⟩) c1 vf' xs o.node (by rw [← HXN.out]; exact HST.out.blk) (HST.out.own.row.rdF.2) HXL.out HST.out.own.rds)
      have hgw : guardedW { W with freed := fr } o.node = guardedW W o.node := rfl
      rw [hgw] at HT
      have HPO := hide (HPP.out o)
      clear hgw
      generalize guardedW W o.node = gb at HT
      rcases hg : pastB o.stamp W.epoch with _ | _
      · have HG0 := hide hg; have HPA := hide (fun wx => by have := past_any wx o.stamp W.epoch (by omega) (by omega); rw [hg] at this; exact this)
        clear hg
        go_wp2_with fail
        have HPF : Hid (p o = false) := by unfold Hid; rw [HPO.out]; exact HG0.out
        refine HT.out.mono ?_
        rintro e w1 ⟨rfl, hb1⟩
        have hR1 := HR.out.ext (extW (moreW (selfW wr) (.cells #[.int .i64 o.node, .int .i64 o.stamp] 58)) hb1)
        have hbox := (Blk.new wr 58 #[.int .i64 o.node, .int .i64 o.stamp]).extW hb1
        have hcb := fun i => Blk.cell hbox i
        have hbl := hbox.lt
        have hcg := fun i => Blk.cell hR1.st.blk i
        have hgl := hR1.st.blk.lt
        have HR1 := hide hR1
        have HBOX := hide hbox
        have HZ1 : Hid (w.heap.size ≤ w1.heap.size) := hR1.old.size
        clear hR1 hbox hb1 c0 c1'
        go_wp2_with fail
        go_quiet ((go_at_call 34; exact same_quiet (HPA.out _)))
        generalize hw2 : World.drewN w1 _ = w2
        have HD2 := hide (show Drew w1 w2 from ⟨_, hw2.symm⟩)
        clear hw2 hcb hbl hcg hgl
        have HR2 := hide (HR1.out.ext HD2.out.extW)
        have hbox2 := HBOX.out.extW HD2.out.extW
        have hcb := fun i => Blk.cell hbox2 i
        have hbl := hbox2.lt
        have hcg := fun i => Blk.cell HR2.out.st.blk i
        have hgl := HR2.out.st.blk.lt
        clear hbox2
        go_wp2_with (at_builtin; refine wpList_appF _ rfl _ _ 33 rfl w.heap.size 58 2 16 (.agg #[.int .i64 0, .int .i64 0]) oldC oldC_len oldC_one Try.underlying33 info_old rfl (by decide) _ L rfl (HR2.out.left.alloc _) (some ⟨w2.heap.size, 0, none⟩) 1 1 [o] rfl rfl ?c4 ?c5 ?c6 ?c7 ?_)
        case c4 => exact Rd.lit w2 (oldC o) _
        case c5 => first | omega | (simp; omega)
        case c6 => first | omega | (simp; omega)
        case c7 => have := HR2.out.old.size; simp; omega
        intro v4 w4 hown4 hgrow4 _
        have HR4 := hide (FrV.stays (HR2.out.ext (by exact (moreW (selfW w2) _))) HO.out HPF.out HP.out HBS.out hown4 hgrow4)
        clear hown4 hgrow4
        go_wp2_with fail
        go_roundw
        case rel => exact ⟨k + 1, vf', _, fr, by omega, by go_num, by simp; omega, by omega, HR4.out⟩
        case measure => simp [intOf]; omega
      · have HG0 := hide hg; have HPA := hide (fun wx => by have := past_any wx o.stamp W.epoch (by omega) (by omega); rw [hg] at this; exact this)
        clear hg
        go_wp2_with fail
        have HPF : Hid (p o = true) := by unfold Hid; rw [HPO.out]; exact HG0.out
        refine HT.out.mono ?_
        rintro e w1 ⟨rfl, hb1⟩
        have hR1 := HR.out.ext (extW (moreW (selfW wr) (.cells #[.int .i64 o.node, .int .i64 o.stamp] 58)) hb1)
        have hbox := (Blk.new wr 58 #[.int .i64 o.node, .int .i64 o.stamp]).extW hb1
        have hcb := fun i => Blk.cell hbox i
        have hbl := hbox.lt
        have hcg := fun i => Blk.cell hR1.st.blk i
        have hgl := hR1.st.blk.lt
        have HR1 := hide hR1
        have HBOX := hide hbox
        have HZ1 : Hid (w.heap.size ≤ w1.heap.size) := hR1.old.size
        clear hR1 hbox hb1 c0 c1'
        go_wp2_with fail
        go_quiet ((go_at_call 34; exact same_quiet (HPA.out _)))
        generalize hw2 : World.drewN w1 _ = w2
        have HD2 := hide (show Drew w1 w2 from ⟨_, hw2.symm⟩)
        clear hw2 hcb hbl hcg hgl
        have HR2 := hide (HR1.out.ext HD2.out.extW)
        have hbox2 := HBOX.out.extW HD2.out.extW
        have hcb := fun i => Blk.cell hbox2 i
        have hbl := hbox2.lt
        have hcg := fun i => Blk.cell HR2.out.st.blk i
        have hgl := HR2.out.st.blk.lt
        clear hbox2
        go_wp2_with fail
        go_region_law (first
          | (refine step_appI rfl _ _ 30 rfl base 3 .i64 Try.underlying30 info_int vf' fr rfl ?_ (some ⟨w2.heap.size, 0, none⟩) 1 1 [o.node] rfl rfl ?_ ?_ ?_ ?_; (exact HR2.out.st.own.freed.alloc _); (exact RdI.one _ .i64 _ _); (simp; omega); (have := HR2.out.st.base_le; simp; omega); intro v4 w4 hown4 hgrow4 hat4; obtain ⟨A4, c4, hv4⟩ := hown4.shape; rw [List.length_append, List.length_singleton] at hv4; subst hv4; have hbk4 := FrV.grownBlk HR2.out (by exact (moreW (selfW _) _).drew) hgrow4; have hck4 := fun i => Blk.cell hbk4 i; have hfk4 := fun i => Blk.free hbk4 i; go_wp2_with fail))
        all_goals
          have HR4 := hide (FrV.freed (HR2.out.ext (by exact (moreW (selfW w2) _).drew)) HO.out HPF.out hown4 hgrow4)
          clear hown4 hgrow4 hbk4 hat4
          go_wp2_with fail
          clear hck4 hfk4
          go_roundw
          case rel => exact ⟨k + 1, _, L, _, by omega, by go_num, by omega, by simp; omega, HR4.out⟩
          case measure => simp [intOf]; omega
    · have hkm : m = k := by omega
      subst hkm
      obtain ⟨c0, c1', c2, c3, c4⟩ := HR.out.st.cell HX.out
      have hf4 := HR.out.st.free1 (t * 5 + 4)
      have hl1 := HR.out.st.lt1.2
      obtain ⟨AL, cL, hvL⟩ := HR.out.left.shape
      subst hvL
      go_wp2_with fail
      go_end0
      have hL : L = x.r.away.filter fun o => !p o := by rw [HR.out.ll, List.take_of_length_le (by have := HM.out; omega)]
      have hF : fr = W.freed ++ (x.r.away.filter p).map (·.node) := by rw [HR.out.lf, List.take_of_length_le (by have := HM.out; omega)]
      have h1 := StV.left HR.out.st HX.out (A4 := AL) (c4 := cL) (r' := { x.r with away := L }) rfl HR.out.left HBS.out HP.out
      have hW : freeW W t x.r p = ({ W with freed := fr } : WT).put t { x.r with away := L } := by unfold freeW; rw [← hL, ← hF]; rfl
      rw [hW]
      have hrw := HR.out.st.row
      exact ⟨rfl, ⟨_, _, _, h1⟩, HR.out.keep.trans (keep_own hrw (.inl rfl) _ _), HR.out.old.setCell (p := ⟨g1, _, none⟩) HG1.out _⟩
end
end Go.Proofs.Ytdgnejapofkadaa.Ref
