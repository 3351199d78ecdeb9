/- The walk of the reference's Do, where a thread changes the root. -/
import Derived.Test.YtdgnejapofkadaaGrD
import Derived.RegionTactic
import Derived.Deep.RegionLaw
import Derived.Deep.RegionHeld3
namespace Go.Proofs.Ytdgnejapofkadaa.Ref
open Go.RowKit

section
variable {α : Type} {w w4 w5 : World} {e : TypeId} {m : Nat} {f : α → List Value} {v : Value} {cs : List α} {o : Obj} {us : List Value}
theorem below_first (hg : ((w.alloc (.cells #[] e)).drew).grownBy w4 (Value.slice (some ⟨w.heap.size, 0, none⟩) 0 0).ownBlock) : Below w.heap.size w w4 :=
  Below.grown ((moreW (selfW w) (.cells #[] e)).drew) hg (by simp) (fun _ hk => by simp [Value.ownBlock] at hk; omega)
theorem below_next (hown : OwnF w4 w.heap.size e m f v cs) (hb : Below w.heap.size w w4) (hg : (w4.alloc o).grownBy w5 v.ownBlock) : Below w.heap.size w w5 :=
  Below.grown (hb.alloc hb.size o) hg (by have := hb.size; simp; omega) (fun _ hk => (own_lt hown hk).1)
theorem below_nextb (hown : OwnF w4 w.heap.size e m f v cs) (hb : Below w.heap.size w w4) (hg : w4.grownBy w5 v.ownBlock) : Below w.heap.size w w5 :=
  Below.grown hb hg hb.size (fun _ hk => (own_lt hown hk).1)
/-- the literal lies behind the new row -/
theorem below_firstb (hg : (((w.alloc (.cells #[] e)).alloc (.cells us.toArray e)).drew).grownBy w4 (Value.slice (some ⟨w.heap.size, 0, none⟩) 0 0).ownBlock) : Below w.heap.size w w4 :=
  Below.grown ((moreW (moreW (selfW w) (.cells #[] e)) _).drew) hg (by simp; omega) (fun k hk => by simp [Value.ownBlock] at hk; omega)
theorem lit_firstb (hg : (((w.alloc (.cells #[] e)).alloc (.cells us.toArray e)).drew).grownBy w4 (Value.slice (some ⟨w.heap.size, 0, none⟩) 0 0).ownBlock) : Rd w4 (some ⟨w.heap.size + 1, 0, none⟩) us := by
  have h : Rd (((w.alloc (.cells #[] e)).alloc (.cells us.toArray e)).drew) (some ⟨w.heap.size + 1, 0, none⟩) us := (Rd.litAt (w.alloc (.cells #[] e)) us e (g := w.heap.size + 1) (by simp)).drew (Drew.refl _).one
  refine h.grown hg (fun ad he _ => ?_)
  injection he with he
  subst he
  simp [Value.ownBlock]
/-- the literal lies ahead of the new row -/
theorem own_c (w : World) (e : TypeId) (m : Nat) (f : α → List Value) (o : Obj) : OwnF ((w.alloc o).alloc (.cells #[] e)) w.heap.size e m f (.slice (some ⟨w.heap.size + 1, 0, none⟩) 0 0) [] := by
  have h := (OwnF.empty (w.alloc o) e m f).weak (base' := w.heap.size) (by simp)
  simp only [World.size_alloc] at h
  exact h
theorem below_firstc (hg : (((w.alloc (.cells us.toArray e)).alloc (.cells #[] e)).drew).grownBy w4 (Value.slice (some ⟨w.heap.size + 1, 0, none⟩) 0 0).ownBlock) : Below w.heap.size w w4 :=
  Below.grown ((moreW (moreW (selfW w) _) (.cells #[] e)).drew) hg (by simp; omega) (fun k hk => by simp [Value.ownBlock] at hk; omega)
theorem lit_firstc (hg : (((w.alloc (.cells us.toArray e)).alloc (.cells #[] e)).drew).grownBy w4 (Value.slice (some ⟨w.heap.size + 1, 0, none⟩) 0 0).ownBlock) : Rd w4 (some ⟨w.heap.size, 0, none⟩) us := by
  have h : Rd (((w.alloc (.cells us.toArray e)).alloc (.cells #[] e)).drew) (some ⟨w.heap.size, 0, none⟩) us := ((Rd.lit w us e).alloc _).drew (Drew.refl _).one
  refine h.grown hg (fun ad he _ => ?_)
  injection he with he
  subst he
  simp [Value.ownBlock]
end
section
variable {w : World} {base gs g1 n c1 : Nat} {W : WT} {vf : Value} {xs : List RdX} {t : Nat} {x : RdX}
set_option maxRecDepth 100000 in
set_option maxHeartbeats 4000000 in
theorem rdo_5 (h : StV w base gs W (.slice (some ⟨g1, 0, none⟩) n c1) vf xs) (hx : xs[t]? = some x) (hl : x.r.away.length ≤ 500) (hl1 : 0 ≤ W.last) (hl2 : W.last ≤ 1000) :
    Calls Try.prog 9 #[.pointer (some ⟨gs, 0, none⟩), .int .i64 t, .int .i64 5] w (Acts base gs (changeW W t x.r) w) := by
  have hcs := fun i => Blk.cell h.blk i
  have hfs := fun i => Blk.free h.blk i
  obtain ⟨k0, k1, k2, k3, k4⟩ := h.cell hx
  have hf1 := fun i => h.free1 i
  have hgs := h.blk.lt
  have hg1s := h.lt1.2
  have hne := h.ne
  have hne2 : g1 ≠ gs := fun e => hne e.symm
  have htn : t < n := by have := len_of hx; rw [h.own.row.rdF.1]; exact this
  have ht2 : (t : Int) < (n : Int) := by omega
  have H := hide h; have HX := hide hx
  have hbs := h.base_le
  have hRA : RdF w oldC x.A x.r.away := (h.own.away x (mem_of_get hx)).rdF.2
  have HRA := hide hRA
  have HF : Hid (changeW W t x.r = if x.r.holds = W.root then { W with rds := W.rds.set t { x.r with away := x.r.away ++ [⟨W.root, W.epoch⟩] }, last := W.last + 1, root := W.last + 1 } else W) := rfl
  clear h hx hRA
  by_cases h1 : x.r.holds = W.root
  · rw [HF.out, if_pos h1]
    have h3 : (x.r.holds == W.root) = true := by simpa using h1
    have H1 := hide h1; clear h1
    go_enter Try.func9, Try.ntmps9
    go_wp2_with fail
    go_quiet (fail)
    go_wp2_with fail
    generalize hw2 : World.drewN w _ = w2
    have HD2 := hide (show Drew w w2 from ⟨_, hw2.symm⟩)
    clear hw2
    have HS2 := hide (H.out.ext HD2.out.extW)
    have HRA2 := hide (HRA.out.drew HD2.out)
    have hcs2 := fun i => Blk.cell HS2.out.blk i
    have hfs2 := fun i => Blk.free HS2.out.blk i
    obtain ⟨j0, j1, j2, j3, j4⟩ := HS2.out.cell HX.out
    have hf2 := fun i => HS2.out.free1 i
    have hgs2 := HS2.out.blk.lt
    have hg1s2 := HS2.out.lt1.2
    clear hcs hfs k0 k1 k2 k3 k4 hf1 hgs hg1s
    refine wp_region_held_drew (S := fun w' => w'.cell? ⟨gs, 0, none⟩ = some (.int .i64 W.epoch) ∧ w'.cell? ⟨gs, 1, none⟩ = some (.int .i64 W.root)) (by kernel_rfl) ?_ (fun hHeld => ?_)
    · exact ⟨hcs2 0, hcs2 1⟩
    refine wpAnyH_take (i := 0) (oi := ⟨some 108, _, _, _, _, _⟩) (v := ?_) rfl (by kernel_rfl) (by kernel_rfl) (by kernel_rfl) (fun _ _ _ h => h) (Or.inl ⟨by rfl, ?_⟩) (by assumption) ?_
    rotate_left
    · (intro w hSw; (try dsimp only at hSw); first | (go_simp; done) | (go_simp; with_reducible rfl))
    (try simp only [Act.put, List.setIfInBounds_toArray, List.set_cons_zero, List.set_cons_succ])
    refine wpAnyH_take (i := 2) (oi := ⟨some 110, _, _, _, _, _⟩) (v := ?_) rfl (by kernel_rfl) (by kernel_rfl) (by kernel_rfl) (fun _ _ _ h => h) (Or.inl ⟨by rfl, ?_⟩) (by assumption) ?_
    rotate_left
    · (intro w hSw; (try dsimp only at hSw); first | (go_simp; done) | (go_simp; with_reducible rfl))
    (try simp only [Act.put, List.setIfInBounds_toArray, List.set_cons_zero, List.set_cons_succ])
    refine wpAnyH_take (i := 3) (oi := ⟨some 111, _, _, _, _, _⟩) (v := ?_) rfl (by kernel_rfl) (by kernel_rfl) (by kernel_rfl) (fun _ _ _ h => h) (Or.inl ⟨by rfl, ?_⟩) (by assumption) ?_
    rotate_left
    · (intro w hSw; (try dsimp only at hSw); first | (go_simp; done) | (go_simp; with_reducible rfl))
    (try simp only [Act.put, List.setIfInBounds_toArray, List.set_cons_zero, List.set_cons_succ])
    refine wpAnyH_take (i := 4) (oi := ⟨some 112, _, _, _, _, _⟩) (v := ?_) rfl (by kernel_rfl) (by kernel_rfl) (by kernel_rfl) (fun _ _ _ h => h) (Or.inl ⟨by rfl, ?_⟩) (by assumption) ?_
    rotate_left
    · (intro w hSw; (try dsimp only at hSw); first | (go_simp; done) | (go_simp; with_reducible rfl))
    (try simp only [Act.put, List.setIfInBounds_toArray, List.set_cons_zero, List.set_cons_succ])
    refine wpAnyH_take (i := 7) (oi := ⟨some 115, _, _, _, _, _⟩) (v := ?_) rfl (by kernel_rfl) (by kernel_rfl) (by kernel_rfl) (fun _ _ _ h => h) (Or.inl ⟨by rfl, ?_⟩) (by assumption) ?_
    rotate_left
    · (intro w hSw; (try dsimp only at hSw); first | (go_simp; done) | (go_simp; with_reducible rfl))
    (try simp only [Act.put, List.setIfInBounds_toArray, List.set_cons_zero, List.set_cons_succ])
    refine wpAnyH_take (i := 8) (oi := ⟨some 116, _, _, _, _, _⟩) (v := ?_) rfl (by kernel_rfl) (by kernel_rfl) (by kernel_rfl) (fun _ _ _ h => h) (Or.inl ⟨by rfl, ?_⟩) (by assumption) ?_
    rotate_left
    · (intro w hSw; (try dsimp only at hSw); first | (go_simp; done) | (go_simp; with_reducible rfl))
    (try simp only [Act.put, List.setIfInBounds_toArray, List.set_cons_zero, List.set_cons_succ])
    refine wpAnyH_take (i := 9) (oi := ⟨some 117, _, _, _, _, _⟩) (v := ?_) rfl (by kernel_rfl) (by kernel_rfl) (by kernel_rfl) (fun _ _ _ h => h) (Or.inl ⟨by rfl, ?_⟩) (by assumption) ?_
    rotate_left
    · (intro w hSw; (try dsimp only at hSw); first | (go_simp; done) | (go_simp; with_reducible rfl))
    (try simp only [Act.put, List.setIfInBounds_toArray, List.set_cons_zero, List.set_cons_succ])
    refine wpAnyH_take (i := 10) (oi := ⟨some 118, _, _, _, _, _⟩) (v := ?_) rfl (by kernel_rfl) (by kernel_rfl) (by kernel_rfl) (fun _ _ _ h => h) (Or.inl ⟨by rfl, ?_⟩) (by assumption) ?_
    rotate_left
    · (intro w hSw; (try dsimp only at hSw); first | (go_simp; done) | (go_simp; with_reducible rfl))
    (try simp only [Act.put, List.setIfInBounds_toArray, List.set_cons_zero, List.set_cons_succ])
    refine wpAnyH_take (i := 11) (oi := ⟨some 119, _, _, _, _, _⟩) (v := ?_) rfl (by kernel_rfl) (by kernel_rfl) (by kernel_rfl) (fun _ _ _ h => h) (Or.inl ⟨by rfl, ?_⟩) (by assumption) ?_
    rotate_left
    · (intro w hSw; (try dsimp only at hSw); first | (go_simp; done) | (go_simp; with_reducible rfl))
    (try simp only [Act.put, List.setIfInBounds_toArray, List.set_cons_zero, List.set_cons_succ])
    refine wpAnyH_take (i := 12) (oi := ⟨some 120, _, _, _, _, _⟩) (v := ?_) rfl (by kernel_rfl) (by kernel_rfl) (by kernel_rfl) (fun _ _ _ h => h) (Or.inl ⟨by rfl, ?_⟩) (by assumption) ?_
    rotate_left
    · (intro w hSw; (try dsimp only at hSw); first | (go_simp; done) | (go_simp; with_reducible rfl))
    (try simp only [Act.put, List.setIfInBounds_toArray, List.set_cons_zero, List.set_cons_succ])
    refine wpAnyH_take (i := 13) (oi := ⟨some 121, _, _, _, _, _⟩) (v := ?_) rfl (by kernel_rfl) (by kernel_rfl) (by kernel_rfl) (fun _ _ _ h => h) (Or.inl ⟨by rfl, ?_⟩) (by assumption) ?_
    rotate_left
    · (intro w hSw; (try dsimp only at hSw); first | (go_simp; done) | (go_simp; with_reducible rfl))
    (try simp only [Act.put, List.setIfInBounds_toArray, List.set_cons_zero, List.set_cons_succ])
    refine wpAnyH_take (i := 14) (oi := ⟨some 122, _, _, _, _, _⟩) (v := ?_) rfl (by kernel_rfl) (by kernel_rfl) (by kernel_rfl) (fun _ _ _ h => h) (Or.inl ⟨by rfl, ?_⟩) (by assumption) ?_
    rotate_left
    · (intro w hSw; (try dsimp only at hSw); first | (go_simp; done) | (go_simp; with_reducible rfl))
    (try simp only [Act.put, List.setIfInBounds_toArray, List.set_cons_zero, List.set_cons_succ])
    refine wpAnyH_take (i := 15) (oi := ⟨some 123, _, _, _, _, _⟩) (v := ?_) rfl (by kernel_rfl) (by kernel_rfl) (by kernel_rfl) (fun _ _ _ h => h) (Or.inl ⟨by rfl, ?_⟩) (by assumption) ?_
    rotate_left
    · (intro w hSw; (try dsimp only at hSw); first | (go_simp; done) | (go_simp; with_reducible rfl))
    (try simp only [Act.put, List.setIfInBounds_toArray, List.set_cons_zero, List.set_cons_succ])
    refine wpAnyH_ready (rs := [1, 5, 16]) (by kernel_rfl) (by simp) ?_
    refine AllReadyH.cons (o := ⟨some 109, _, _, _, _, _⟩) rfl (fun K hK => ?_) ?_
    · skip
      go_simp
      refine hK.out _ _ ?_ (fun hHeld => ?_)
      · first | assumption | go_keep
      clear hK K
      (try simp only [Act.put, List.setIfInBounds_toArray, List.set_cons_zero, List.set_cons_succ])
      refine wpAnyH_ready (rs := [5, 16]) (by kernel_rfl) (by simp) ?_
      refine AllReadyH.cons (o := ⟨some 113, _, _, _, _, _⟩) rfl (fun K hK => ?_) ?_
      · skip
        go_simp
        refine hK.out _ _ ?_ (fun hHeld => ?_)
        · first | assumption | go_keep
        clear hK K
        (try simp only [Act.put, List.setIfInBounds_toArray, List.set_cons_zero, List.set_cons_succ])
        refine wpAnyH_ready (rs := [6, 16]) (by kernel_rfl) (by simp) ?_
        refine AllReadyH.cons (o := ⟨some 114, _, _, _, _, _⟩) rfl (fun K hK => ?_) ?_
        · skip
          refine step_appF rfl _ _ 33 rfl w2.heap.size 58 2 16 (.agg #[.int .i64 0, .int .i64 0]) oldC oldC_len oldC_one Try.underlying33 info_old rfl (by decide) _ [] rfl ?_ x.A x.r.away.length x.c x.r.away rfl rfl ?_ ?_ ?_ ?_ ?_
          · exact OwnF.empty _ _ _ _
          · exact HRA2.out.alloc _
          · simp; omega
          · simp; omega
          · simp; try omega
          intro v4 w4 hown4 hgrow4 _
          simp only [List.nil_append] at hown4
          obtain ⟨A4, c4, hv4⟩ := hown4.shape
          subst hv4
          have hb4 := below_first hgrow4
          have hS4 := HS2.out.ext hb4
          have hcs4 := fun i => Blk.cell hS4.blk i
          have hzs4 := hS4.blk.lt
          refine hK.out _ _ ?_ (fun hHeld => ?_)
          · exact ⟨hcs4 0, hcs4 1⟩
          clear hK K
          (try simp only [Act.put, List.setIfInBounds_toArray, List.set_cons_zero, List.set_cons_succ])
          refine wpAnyH_ready (rs := [16]) (by kernel_rfl) (by simp) ?_
          refine AllReadyH.cons (o := ⟨some 124, _, _, _, _, _⟩) rfl (fun K hK => ?_) ?_
          · skip
            go_simp
            refine hK.out _ _ ?_ (fun hHeld => ?_)
            · first | assumption | go_keep
            clear hK K
            (try simp only [Act.put, List.setIfInBounds_toArray, List.set_cons_zero, List.set_cons_succ])
            refine wpAnyH_ready (rs := [17]) (by kernel_rfl) (by simp) ?_
            refine AllReadyH.cons (o := ⟨some 125, _, _, _, _, _⟩) rfl (fun K hK => ?_) ?_
            · skip
              refine step_appF rfl _ _ 33 rfl w2.heap.size 58 2 16 (.agg #[.int .i64 0, .int .i64 0]) oldC oldC_len oldC_one Try.underlying33 info_old rfl (by decide) (.slice A4 x.r.away.length c4) x.r.away rfl ?_ (some ⟨w4.heap.size, 0, none⟩) 1 1 [⟨W.root, W.epoch⟩] rfl rfl ?_ ?_ ?_ ?_ ?_
              · exact hown4.alloc _
              · exact Rd.lit w4 (oldC ⟨W.root, W.epoch⟩) _
              · simp; omega
              · simp; omega
              · have := hb4.size; simp; omega
              intro v5 w5 hown5 hgrow5 _
              obtain ⟨A5, c5, hv5⟩ := hown5.shape
              rw [List.length_append, List.length_singleton] at hv5
              subst hv5
              have hb5 := below_next hown4 hb4 hgrow5
              have hS5 := HS2.out.ext hb5
              have hcs5 := fun i => Blk.cell hS5.blk i
              have hzs5 := hS5.blk.lt
              obtain ⟨_, _, _, _, m5⟩ := hS5.cell HX.out
              have hf5 := hS5.free1 (t * 5 + 4)
              have hz15 := hS5.lt1.2
              refine hK.out _ _ ?_ (fun hHeld => ?_)
              · exact ⟨hcs5 0, hcs5 1⟩
              clear hK K
              (try simp only [Act.put, List.setIfInBounds_toArray, List.set_cons_zero, List.set_cons_succ])
              refine wpAnyH_take (i := 18) (oi := ⟨some 126, _, _, _, _, _⟩) (v := ?_) rfl (by kernel_rfl) (by kernel_rfl) (by kernel_rfl) (fun _ _ _ h => h) (Or.inl ⟨by rfl, ?_⟩) (by assumption) ?_
              rotate_left
              · (intro w hSw; (try dsimp only at hSw); first | (go_simp; done) | (go_simp; with_reducible rfl))
              (try simp only [Act.put, List.setIfInBounds_toArray, List.set_cons_zero, List.set_cons_succ])
              refine wpAnyH_take (i := 19) (oi := ⟨some 127, _, _, _, _, _⟩) (v := ?_) rfl (by kernel_rfl) (by kernel_rfl) (by kernel_rfl) (fun _ _ _ h => h) (Or.inl ⟨by rfl, ?_⟩) (by assumption) ?_
              rotate_left
              · (intro w hSw; (try dsimp only at hSw); first | (go_simp; done) | (go_simp; with_reducible rfl))
              (try simp only [Act.put, List.setIfInBounds_toArray, List.set_cons_zero, List.set_cons_succ])
              refine wpAnyH_ready (rs := [20]) (by kernel_rfl) (by simp) ?_
              refine AllReadyH.cons (o := ⟨none, _, _, _, _, _⟩) rfl (fun K hK => ?_) ?_
              · skip
                go_simp
                refine hK.out _ _ ?_ (fun hHeld => ?_)
                · first | assumption | go_keep
                clear hK K
                (try simp only [Act.put, List.setIfInBounds_toArray, List.set_cons_zero, List.set_cons_succ])
                refine wpAnyH_done (by kernel_rfl) ?_ _
                have hown6 : OwnF w5 w2.heap.size 58 2 oldC (.slice A5 (x.r.away ++ [(⟨W.root, W.epoch⟩ : OldT)]).length c5) (x.r.away ++ [⟨W.root, W.epoch⟩]) := by rw [List.length_append]; exact hown5
                have hS6 := StV.left hS5 HX.out (A4 := A5) (c4 := c5) (B := w2.heap.size) (r' := { x.r with away := x.r.away ++ [⟨W.root, W.epoch⟩] }) rfl hown6 HS2.out.base_le (fun z hz q hq => (own_lt (HS2.out.awy hz) hq).2)
                simp only [List.length_append, List.length_singleton] at hS6
                have hK6 := (Keeps.of_ext hb5).trans (keep_own hS5.row (.inl rfl) (t * 5 + 4) (.slice A5 (x.r.away.length + 1) c5))
                have hB6 := (hb5.mono HS2.out.base_le).setCell (p := ⟨g1, t * 5 + 4, none⟩) HS2.out.lt1.1 (.slice A5 (x.r.away.length + 1) c5)
                have hfg5 := fun i => Blk.free hS5.blk i
                have HS6 := hide hS6; have HK6 := hide hK6; have HB6 := hide hB6
                clear hS6 hK6 hB6 hown6 hown5 hgrow5 hb5 hHeld
                go_wp2_with fail
                go_end0
                have h1 := StV.top HS6.out (W' := { (W.put t { x.r with away := x.r.away ++ [⟨W.root, W.epoch⟩] }) with last := W.last + 1 }) (i := 2) (u := .int .i64 (W.last + 1)) rfl rfl rfl
                have h2 := StV.top h1 (W' := { (W.put t { x.r with away := x.r.away ++ [⟨W.root, W.epoch⟩] }) with last := W.last + 1, root := W.last + 1 }) (i := 1) (u := .int .i64 (W.last + 1)) rfl rfl rfl
                exact Acts.after HD2.out.extW hbs ⟨rfl, ⟨_, _, _, h2⟩, HK6.out.trans ((HS6.out.keepS _ _).trans (h1.keepS _ _)), (HB6.out.setCell (p := ⟨gs, 2, none⟩) HS6.out.low _).setCell (p := ⟨gs, 1, none⟩) HS6.out.low _⟩
              exact AllReadyH.nil
            exact AllReadyH.nil
          exact AllReadyH.nil
        refine AllReadyH.cons (o := ⟨some 124, _, _, _, _, _⟩) rfl (fun K hK => ?_) ?_
        · skip
          go_simp
          refine hK.out _ _ ?_ (fun hHeld => ?_)
          · first | assumption | go_keep
          clear hK K
          (try simp only [Act.put, List.setIfInBounds_toArray, List.set_cons_zero, List.set_cons_succ])
          refine wpAnyH_ready (rs := [6]) (by kernel_rfl) (by simp) ?_
          refine AllReadyH.cons (o := ⟨some 114, _, _, _, _, _⟩) rfl (fun K hK => ?_) ?_
          · skip
            refine step_appF rfl _ _ 33 rfl w2.heap.size 58 2 16 (.agg #[.int .i64 0, .int .i64 0]) oldC oldC_len oldC_one Try.underlying33 info_old rfl (by decide) _ [] rfl ?_ x.A x.r.away.length x.c x.r.away rfl rfl ?_ ?_ ?_ ?_ ?_
            · exact (OwnF.empty _ _ _ _).alloc _
            · exact RdF.alloc (HRA2.out.alloc _) _
            · simp; omega
            · simp; omega
            · simp; try omega
            intro v4 w4 hown4 hgrow4 _
            simp only [List.nil_append] at hown4
            obtain ⟨A4, c4, hv4⟩ := hown4.shape
            subst hv4
            have hb4 := below_firstb hgrow4
            have hlit4 := lit_firstb hgrow4
            have hS4 := HS2.out.ext hb4
            have hcs4 := fun i => Blk.cell hS4.blk i
            have hzs4 := hS4.blk.lt
            refine hK.out _ _ ?_ (fun hHeld => ?_)
            · exact ⟨hcs4 0, hcs4 1⟩
            clear hK K
            (try simp only [Act.put, List.setIfInBounds_toArray, List.set_cons_zero, List.set_cons_succ])
            refine wpAnyH_ready (rs := [17]) (by kernel_rfl) (by simp) ?_
            refine AllReadyH.cons (o := ⟨some 125, _, _, _, _, _⟩) rfl (fun K hK => ?_) ?_
            · skip
              refine step_appF rfl _ _ 33 rfl w2.heap.size 58 2 16 (.agg #[.int .i64 0, .int .i64 0]) oldC oldC_len oldC_one Try.underlying33 info_old rfl (by decide) (.slice A4 x.r.away.length c4) x.r.away rfl ?_ (some ⟨w2.heap.size + 1, 0, none⟩) 1 1 [⟨W.root, W.epoch⟩] rfl rfl ?_ ?_ ?_ ?_ ?_
              · exact hown4
              · exact hlit4
              · simp; omega
              · simp; omega
              · have := hb4.size; simp; omega
              intro v5 w5 hown5 hgrow5 _
              obtain ⟨A5, c5, hv5⟩ := hown5.shape
              rw [List.length_append, List.length_singleton] at hv5
              subst hv5
              have hb5 := below_nextb hown4 hb4 hgrow5
              have hS5 := HS2.out.ext hb5
              have hcs5 := fun i => Blk.cell hS5.blk i
              have hzs5 := hS5.blk.lt
              obtain ⟨_, _, _, _, m5⟩ := hS5.cell HX.out
              have hf5 := hS5.free1 (t * 5 + 4)
              have hz15 := hS5.lt1.2
              refine hK.out _ _ ?_ (fun hHeld => ?_)
              · exact ⟨hcs5 0, hcs5 1⟩
              clear hK K
              (try simp only [Act.put, List.setIfInBounds_toArray, List.set_cons_zero, List.set_cons_succ])
              refine wpAnyH_take (i := 18) (oi := ⟨some 126, _, _, _, _, _⟩) (v := ?_) rfl (by kernel_rfl) (by kernel_rfl) (by kernel_rfl) (fun _ _ _ h => h) (Or.inl ⟨by rfl, ?_⟩) (by assumption) ?_
              rotate_left
              · (intro w hSw; (try dsimp only at hSw); first | (go_simp; done) | (go_simp; with_reducible rfl))
              (try simp only [Act.put, List.setIfInBounds_toArray, List.set_cons_zero, List.set_cons_succ])
              refine wpAnyH_take (i := 19) (oi := ⟨some 127, _, _, _, _, _⟩) (v := ?_) rfl (by kernel_rfl) (by kernel_rfl) (by kernel_rfl) (fun _ _ _ h => h) (Or.inl ⟨by rfl, ?_⟩) (by assumption) ?_
              rotate_left
              · (intro w hSw; (try dsimp only at hSw); first | (go_simp; done) | (go_simp; with_reducible rfl))
              (try simp only [Act.put, List.setIfInBounds_toArray, List.set_cons_zero, List.set_cons_succ])
              refine wpAnyH_ready (rs := [20]) (by kernel_rfl) (by simp) ?_
              refine AllReadyH.cons (o := ⟨none, _, _, _, _, _⟩) rfl (fun K hK => ?_) ?_
              · skip
                go_simp
                refine hK.out _ _ ?_ (fun hHeld => ?_)
                · first | assumption | go_keep
                clear hK K
                (try simp only [Act.put, List.setIfInBounds_toArray, List.set_cons_zero, List.set_cons_succ])
                refine wpAnyH_done (by kernel_rfl) ?_ _
                have hown6 : OwnF w5 w2.heap.size 58 2 oldC (.slice A5 (x.r.away ++ [(⟨W.root, W.epoch⟩ : OldT)]).length c5) (x.r.away ++ [⟨W.root, W.epoch⟩]) := by rw [List.length_append]; exact hown5
                have hS6 := StV.left hS5 HX.out (A4 := A5) (c4 := c5) (B := w2.heap.size) (r' := { x.r with away := x.r.away ++ [⟨W.root, W.epoch⟩] }) rfl hown6 HS2.out.base_le (fun z hz q hq => (own_lt (HS2.out.awy hz) hq).2)
                simp only [List.length_append, List.length_singleton] at hS6
                have hK6 := (Keeps.of_ext hb5).trans (keep_own hS5.row (.inl rfl) (t * 5 + 4) (.slice A5 (x.r.away.length + 1) c5))
                have hB6 := (hb5.mono HS2.out.base_le).setCell (p := ⟨g1, t * 5 + 4, none⟩) HS2.out.lt1.1 (.slice A5 (x.r.away.length + 1) c5)
                have hfg5 := fun i => Blk.free hS5.blk i
                have HS6 := hide hS6; have HK6 := hide hK6; have HB6 := hide hB6
                clear hS6 hK6 hB6 hown6 hown5 hgrow5 hb5 hHeld
                go_wp2_with fail
                go_end0
                have h1 := StV.top HS6.out (W' := { (W.put t { x.r with away := x.r.away ++ [⟨W.root, W.epoch⟩] }) with last := W.last + 1 }) (i := 2) (u := .int .i64 (W.last + 1)) rfl rfl rfl
                have h2 := StV.top h1 (W' := { (W.put t { x.r with away := x.r.away ++ [⟨W.root, W.epoch⟩] }) with last := W.last + 1, root := W.last + 1 }) (i := 1) (u := .int .i64 (W.last + 1)) rfl rfl rfl
                exact Acts.after HD2.out.extW hbs ⟨rfl, ⟨_, _, _, h2⟩, HK6.out.trans ((HS6.out.keepS _ _).trans (h1.keepS _ _)), (HB6.out.setCell (p := ⟨gs, 2, none⟩) HS6.out.low _).setCell (p := ⟨gs, 1, none⟩) HS6.out.low _⟩
              exact AllReadyH.nil
            exact AllReadyH.nil
          exact AllReadyH.nil
        exact AllReadyH.nil
      refine AllReadyH.cons (o := ⟨some 124, _, _, _, _, _⟩) rfl (fun K hK => ?_) ?_
      · skip
        go_simp
        refine hK.out _ _ ?_ (fun hHeld => ?_)
        · first | assumption | go_keep
        clear hK K
        (try simp only [Act.put, List.setIfInBounds_toArray, List.set_cons_zero, List.set_cons_succ])
        refine wpAnyH_ready (rs := [5]) (by kernel_rfl) (by simp) ?_
        refine AllReadyH.cons (o := ⟨some 113, _, _, _, _, _⟩) rfl (fun K hK => ?_) ?_
        · skip
          go_simp
          refine hK.out _ _ ?_ (fun hHeld => ?_)
          · first | assumption | go_keep
          clear hK K
          (try simp only [Act.put, List.setIfInBounds_toArray, List.set_cons_zero, List.set_cons_succ])
          refine wpAnyH_ready (rs := [6]) (by kernel_rfl) (by simp) ?_
          refine AllReadyH.cons (o := ⟨some 114, _, _, _, _, _⟩) rfl (fun K hK => ?_) ?_
          · skip
            refine step_appF rfl _ _ 33 rfl w2.heap.size 58 2 16 (.agg #[.int .i64 0, .int .i64 0]) oldC oldC_len oldC_one Try.underlying33 info_old rfl (by decide) _ [] rfl ?_ x.A x.r.away.length x.c x.r.away rfl rfl ?_ ?_ ?_ ?_ ?_
            · exact (OwnF.empty _ _ _ _).alloc _
            · exact RdF.alloc (HRA2.out.alloc _) _
            · simp; omega
            · simp; omega
            · simp; try omega
            intro v4 w4 hown4 hgrow4 _
            simp only [List.nil_append] at hown4
            obtain ⟨A4, c4, hv4⟩ := hown4.shape
            subst hv4
            have hb4 := below_firstb hgrow4
            have hlit4 := lit_firstb hgrow4
            have hS4 := HS2.out.ext hb4
            have hcs4 := fun i => Blk.cell hS4.blk i
            have hzs4 := hS4.blk.lt
            refine hK.out _ _ ?_ (fun hHeld => ?_)
            · exact ⟨hcs4 0, hcs4 1⟩
            clear hK K
            (try simp only [Act.put, List.setIfInBounds_toArray, List.set_cons_zero, List.set_cons_succ])
            refine wpAnyH_ready (rs := [17]) (by kernel_rfl) (by simp) ?_
            refine AllReadyH.cons (o := ⟨some 125, _, _, _, _, _⟩) rfl (fun K hK => ?_) ?_
            · skip
              refine step_appF rfl _ _ 33 rfl w2.heap.size 58 2 16 (.agg #[.int .i64 0, .int .i64 0]) oldC oldC_len oldC_one Try.underlying33 info_old rfl (by decide) (.slice A4 x.r.away.length c4) x.r.away rfl ?_ (some ⟨w2.heap.size + 1, 0, none⟩) 1 1 [⟨W.root, W.epoch⟩] rfl rfl ?_ ?_ ?_ ?_ ?_
              · exact hown4
              · exact hlit4
              · simp; omega
              · simp; omega
              · have := hb4.size; simp; omega
              intro v5 w5 hown5 hgrow5 _
              obtain ⟨A5, c5, hv5⟩ := hown5.shape
              rw [List.length_append, List.length_singleton] at hv5
              subst hv5
              have hb5 := below_nextb hown4 hb4 hgrow5
              have hS5 := HS2.out.ext hb5
              have hcs5 := fun i => Blk.cell hS5.blk i
              have hzs5 := hS5.blk.lt
              obtain ⟨_, _, _, _, m5⟩ := hS5.cell HX.out
              have hf5 := hS5.free1 (t * 5 + 4)
              have hz15 := hS5.lt1.2
              refine hK.out _ _ ?_ (fun hHeld => ?_)
              · exact ⟨hcs5 0, hcs5 1⟩
              clear hK K
              (try simp only [Act.put, List.setIfInBounds_toArray, List.set_cons_zero, List.set_cons_succ])
              refine wpAnyH_take (i := 18) (oi := ⟨some 126, _, _, _, _, _⟩) (v := ?_) rfl (by kernel_rfl) (by kernel_rfl) (by kernel_rfl) (fun _ _ _ h => h) (Or.inl ⟨by rfl, ?_⟩) (by assumption) ?_
              rotate_left
              · (intro w hSw; (try dsimp only at hSw); first | (go_simp; done) | (go_simp; with_reducible rfl))
              (try simp only [Act.put, List.setIfInBounds_toArray, List.set_cons_zero, List.set_cons_succ])
              refine wpAnyH_take (i := 19) (oi := ⟨some 127, _, _, _, _, _⟩) (v := ?_) rfl (by kernel_rfl) (by kernel_rfl) (by kernel_rfl) (fun _ _ _ h => h) (Or.inl ⟨by rfl, ?_⟩) (by assumption) ?_
              rotate_left
              · (intro w hSw; (try dsimp only at hSw); first | (go_simp; done) | (go_simp; with_reducible rfl))
              (try simp only [Act.put, List.setIfInBounds_toArray, List.set_cons_zero, List.set_cons_succ])
              refine wpAnyH_ready (rs := [20]) (by kernel_rfl) (by simp) ?_
              refine AllReadyH.cons (o := ⟨none, _, _, _, _, _⟩) rfl (fun K hK => ?_) ?_
              · skip
                go_simp
                refine hK.out _ _ ?_ (fun hHeld => ?_)
                · first | assumption | go_keep
                clear hK K
                (try simp only [Act.put, List.setIfInBounds_toArray, List.set_cons_zero, List.set_cons_succ])
                refine wpAnyH_done (by kernel_rfl) ?_ _
                have hown6 : OwnF w5 w2.heap.size 58 2 oldC (.slice A5 (x.r.away ++ [(⟨W.root, W.epoch⟩ : OldT)]).length c5) (x.r.away ++ [⟨W.root, W.epoch⟩]) := by rw [List.length_append]; exact hown5
                have hS6 := StV.left hS5 HX.out (A4 := A5) (c4 := c5) (B := w2.heap.size) (r' := { x.r with away := x.r.away ++ [⟨W.root, W.epoch⟩] }) rfl hown6 HS2.out.base_le (fun z hz q hq => (own_lt (HS2.out.awy hz) hq).2)
                simp only [List.length_append, List.length_singleton] at hS6
                have hK6 := (Keeps.of_ext hb5).trans (keep_own hS5.row (.inl rfl) (t * 5 + 4) (.slice A5 (x.r.away.length + 1) c5))
                have hB6 := (hb5.mono HS2.out.base_le).setCell (p := ⟨g1, t * 5 + 4, none⟩) HS2.out.lt1.1 (.slice A5 (x.r.away.length + 1) c5)
                have hfg5 := fun i => Blk.free hS5.blk i
                have HS6 := hide hS6; have HK6 := hide hK6; have HB6 := hide hB6
                clear hS6 hK6 hB6 hown6 hown5 hgrow5 hb5 hHeld
                go_wp2_with fail
                go_end0
                have h1 := StV.top HS6.out (W' := { (W.put t { x.r with away := x.r.away ++ [⟨W.root, W.epoch⟩] }) with last := W.last + 1 }) (i := 2) (u := .int .i64 (W.last + 1)) rfl rfl rfl
                have h2 := StV.top h1 (W' := { (W.put t { x.r with away := x.r.away ++ [⟨W.root, W.epoch⟩] }) with last := W.last + 1, root := W.last + 1 }) (i := 1) (u := .int .i64 (W.last + 1)) rfl rfl rfl
                exact Acts.after HD2.out.extW hbs ⟨rfl, ⟨_, _, _, h2⟩, HK6.out.trans ((HS6.out.keepS _ _).trans (h1.keepS _ _)), (HB6.out.setCell (p := ⟨gs, 2, none⟩) HS6.out.low _).setCell (p := ⟨gs, 1, none⟩) HS6.out.low _⟩
              exact AllReadyH.nil
            exact AllReadyH.nil
          exact AllReadyH.nil
        exact AllReadyH.nil
      exact AllReadyH.nil
    refine AllReadyH.cons (o := ⟨some 113, _, _, _, _, _⟩) rfl (fun K hK => ?_) ?_
    · skip
      go_simp
      refine hK.out _ _ ?_ (fun hHeld => ?_)
      · first | assumption | go_keep
      clear hK K
      (try simp only [Act.put, List.setIfInBounds_toArray, List.set_cons_zero, List.set_cons_succ])
      refine wpAnyH_ready (rs := [1, 16]) (by kernel_rfl) (by simp) ?_
      refine AllReadyH.cons (o := ⟨some 109, _, _, _, _, _⟩) rfl (fun K hK => ?_) ?_
      · skip
        go_simp
        refine hK.out _ _ ?_ (fun hHeld => ?_)
        · first | assumption | go_keep
        clear hK K
        (try simp only [Act.put, List.setIfInBounds_toArray, List.set_cons_zero, List.set_cons_succ])
        refine wpAnyH_ready (rs := [6, 16]) (by kernel_rfl) (by simp) ?_
        refine AllReadyH.cons (o := ⟨some 114, _, _, _, _, _⟩) rfl (fun K hK => ?_) ?_
        · skip
          refine step_appF rfl _ _ 33 rfl w2.heap.size 58 2 16 (.agg #[.int .i64 0, .int .i64 0]) oldC oldC_len oldC_one Try.underlying33 info_old rfl (by decide) _ [] rfl ?_ x.A x.r.away.length x.c x.r.away rfl rfl ?_ ?_ ?_ ?_ ?_
          · exact OwnF.empty _ _ _ _
          · exact HRA2.out.alloc _
          · simp; omega
          · simp; omega
          · simp; try omega
          intro v4 w4 hown4 hgrow4 _
          simp only [List.nil_append] at hown4
          obtain ⟨A4, c4, hv4⟩ := hown4.shape
          subst hv4
          have hb4 := below_first hgrow4
          have hS4 := HS2.out.ext hb4
          have hcs4 := fun i => Blk.cell hS4.blk i
          have hzs4 := hS4.blk.lt
          refine hK.out _ _ ?_ (fun hHeld => ?_)
          · exact ⟨hcs4 0, hcs4 1⟩
          clear hK K
          (try simp only [Act.put, List.setIfInBounds_toArray, List.set_cons_zero, List.set_cons_succ])
          refine wpAnyH_ready (rs := [16]) (by kernel_rfl) (by simp) ?_
          refine AllReadyH.cons (o := ⟨some 124, _, _, _, _, _⟩) rfl (fun K hK => ?_) ?_
          · skip
            go_simp
            refine hK.out _ _ ?_ (fun hHeld => ?_)
            · first | assumption | go_keep
            clear hK K
            (try simp only [Act.put, List.setIfInBounds_toArray, List.set_cons_zero, List.set_cons_succ])
            refine wpAnyH_ready (rs := [17]) (by kernel_rfl) (by simp) ?_
            refine AllReadyH.cons (o := ⟨some 125, _, _, _, _, _⟩) rfl (fun K hK => ?_) ?_
            · skip
              refine step_appF rfl _ _ 33 rfl w2.heap.size 58 2 16 (.agg #[.int .i64 0, .int .i64 0]) oldC oldC_len oldC_one Try.underlying33 info_old rfl (by decide) (.slice A4 x.r.away.length c4) x.r.away rfl ?_ (some ⟨w4.heap.size, 0, none⟩) 1 1 [⟨W.root, W.epoch⟩] rfl rfl ?_ ?_ ?_ ?_ ?_
              · exact hown4.alloc _
              · exact Rd.lit w4 (oldC ⟨W.root, W.epoch⟩) _
              · simp; omega
              · simp; omega
              · have := hb4.size; simp; omega
              intro v5 w5 hown5 hgrow5 _
              obtain ⟨A5, c5, hv5⟩ := hown5.shape
              rw [List.length_append, List.length_singleton] at hv5
              subst hv5
              have hb5 := below_next hown4 hb4 hgrow5
              have hS5 := HS2.out.ext hb5
              have hcs5 := fun i => Blk.cell hS5.blk i
              have hzs5 := hS5.blk.lt
              obtain ⟨_, _, _, _, m5⟩ := hS5.cell HX.out
              have hf5 := hS5.free1 (t * 5 + 4)
              have hz15 := hS5.lt1.2
              refine hK.out _ _ ?_ (fun hHeld => ?_)
              · exact ⟨hcs5 0, hcs5 1⟩
              clear hK K
              (try simp only [Act.put, List.setIfInBounds_toArray, List.set_cons_zero, List.set_cons_succ])
              refine wpAnyH_take (i := 18) (oi := ⟨some 126, _, _, _, _, _⟩) (v := ?_) rfl (by kernel_rfl) (by kernel_rfl) (by kernel_rfl) (fun _ _ _ h => h) (Or.inl ⟨by rfl, ?_⟩) (by assumption) ?_
              rotate_left
              · (intro w hSw; (try dsimp only at hSw); first | (go_simp; done) | (go_simp; with_reducible rfl))
              (try simp only [Act.put, List.setIfInBounds_toArray, List.set_cons_zero, List.set_cons_succ])
              refine wpAnyH_take (i := 19) (oi := ⟨some 127, _, _, _, _, _⟩) (v := ?_) rfl (by kernel_rfl) (by kernel_rfl) (by kernel_rfl) (fun _ _ _ h => h) (Or.inl ⟨by rfl, ?_⟩) (by assumption) ?_
              rotate_left
              · (intro w hSw; (try dsimp only at hSw); first | (go_simp; done) | (go_simp; with_reducible rfl))
              (try simp only [Act.put, List.setIfInBounds_toArray, List.set_cons_zero, List.set_cons_succ])
              refine wpAnyH_ready (rs := [20]) (by kernel_rfl) (by simp) ?_
              refine AllReadyH.cons (o := ⟨none, _, _, _, _, _⟩) rfl (fun K hK => ?_) ?_
              · skip
                go_simp
                refine hK.out _ _ ?_ (fun hHeld => ?_)
                · first | assumption | go_keep
                clear hK K
                (try simp only [Act.put, List.setIfInBounds_toArray, List.set_cons_zero, List.set_cons_succ])
                refine wpAnyH_done (by kernel_rfl) ?_ _
                have hown6 : OwnF w5 w2.heap.size 58 2 oldC (.slice A5 (x.r.away ++ [(⟨W.root, W.epoch⟩ : OldT)]).length c5) (x.r.away ++ [⟨W.root, W.epoch⟩]) := by rw [List.length_append]; exact hown5
                have hS6 := StV.left hS5 HX.out (A4 := A5) (c4 := c5) (B := w2.heap.size) (r' := { x.r with away := x.r.away ++ [⟨W.root, W.epoch⟩] }) rfl hown6 HS2.out.base_le (fun z hz q hq => (own_lt (HS2.out.awy hz) hq).2)
                simp only [List.length_append, List.length_singleton] at hS6
                have hK6 := (Keeps.of_ext hb5).trans (keep_own hS5.row (.inl rfl) (t * 5 + 4) (.slice A5 (x.r.away.length + 1) c5))
                have hB6 := (hb5.mono HS2.out.base_le).setCell (p := ⟨g1, t * 5 + 4, none⟩) HS2.out.lt1.1 (.slice A5 (x.r.away.length + 1) c5)
                have hfg5 := fun i => Blk.free hS5.blk i
                have HS6 := hide hS6; have HK6 := hide hK6; have HB6 := hide hB6
                clear hS6 hK6 hB6 hown6 hown5 hgrow5 hb5 hHeld
                go_wp2_with fail
                go_end0
                have h1 := StV.top HS6.out (W' := { (W.put t { x.r with away := x.r.away ++ [⟨W.root, W.epoch⟩] }) with last := W.last + 1 }) (i := 2) (u := .int .i64 (W.last + 1)) rfl rfl rfl
                have h2 := StV.top h1 (W' := { (W.put t { x.r with away := x.r.away ++ [⟨W.root, W.epoch⟩] }) with last := W.last + 1, root := W.last + 1 }) (i := 1) (u := .int .i64 (W.last + 1)) rfl rfl rfl
                exact Acts.after HD2.out.extW hbs ⟨rfl, ⟨_, _, _, h2⟩, HK6.out.trans ((HS6.out.keepS _ _).trans (h1.keepS _ _)), (HB6.out.setCell (p := ⟨gs, 2, none⟩) HS6.out.low _).setCell (p := ⟨gs, 1, none⟩) HS6.out.low _⟩
              exact AllReadyH.nil
            exact AllReadyH.nil
          exact AllReadyH.nil
        refine AllReadyH.cons (o := ⟨some 124, _, _, _, _, _⟩) rfl (fun K hK => ?_) ?_
        · skip
          go_simp
          refine hK.out _ _ ?_ (fun hHeld => ?_)
          · first | assumption | go_keep
          clear hK K
          (try simp only [Act.put, List.setIfInBounds_toArray, List.set_cons_zero, List.set_cons_succ])
          refine wpAnyH_ready (rs := [6]) (by kernel_rfl) (by simp) ?_
          refine AllReadyH.cons (o := ⟨some 114, _, _, _, _, _⟩) rfl (fun K hK => ?_) ?_
          · skip
            refine step_appF rfl _ _ 33 rfl w2.heap.size 58 2 16 (.agg #[.int .i64 0, .int .i64 0]) oldC oldC_len oldC_one Try.underlying33 info_old rfl (by decide) _ [] rfl ?_ x.A x.r.away.length x.c x.r.away rfl rfl ?_ ?_ ?_ ?_ ?_
            · exact (OwnF.empty _ _ _ _).alloc _
            · exact RdF.alloc (HRA2.out.alloc _) _
            · simp; omega
            · simp; omega
            · simp; try omega
            intro v4 w4 hown4 hgrow4 _
            simp only [List.nil_append] at hown4
            obtain ⟨A4, c4, hv4⟩ := hown4.shape
            subst hv4
            have hb4 := below_firstb hgrow4
            have hlit4 := lit_firstb hgrow4
            have hS4 := HS2.out.ext hb4
            have hcs4 := fun i => Blk.cell hS4.blk i
            have hzs4 := hS4.blk.lt
            refine hK.out _ _ ?_ (fun hHeld => ?_)
            · exact ⟨hcs4 0, hcs4 1⟩
            clear hK K
            (try simp only [Act.put, List.setIfInBounds_toArray, List.set_cons_zero, List.set_cons_succ])
            refine wpAnyH_ready (rs := [17]) (by kernel_rfl) (by simp) ?_
            refine AllReadyH.cons (o := ⟨some 125, _, _, _, _, _⟩) rfl (fun K hK => ?_) ?_
            · skip
              refine step_appF rfl _ _ 33 rfl w2.heap.size 58 2 16 (.agg #[.int .i64 0, .int .i64 0]) oldC oldC_len oldC_one Try.underlying33 info_old rfl (by decide) (.slice A4 x.r.away.length c4) x.r.away rfl ?_ (some ⟨w2.heap.size + 1, 0, none⟩) 1 1 [⟨W.root, W.epoch⟩] rfl rfl ?_ ?_ ?_ ?_ ?_
              · exact hown4
              · exact hlit4
              · simp; omega
              · simp; omega
              · have := hb4.size; simp; omega
              intro v5 w5 hown5 hgrow5 _
              obtain ⟨A5, c5, hv5⟩ := hown5.shape
              rw [List.length_append, List.length_singleton] at hv5
              subst hv5
              have hb5 := below_nextb hown4 hb4 hgrow5
              have hS5 := HS2.out.ext hb5
              have hcs5 := fun i => Blk.cell hS5.blk i
              have hzs5 := hS5.blk.lt
              obtain ⟨_, _, _, _, m5⟩ := hS5.cell HX.out
              have hf5 := hS5.free1 (t * 5 + 4)
              have hz15 := hS5.lt1.2
              refine hK.out _ _ ?_ (fun hHeld => ?_)
              · exact ⟨hcs5 0, hcs5 1⟩
              clear hK K
              (try simp only [Act.put, List.setIfInBounds_toArray, List.set_cons_zero, List.set_cons_succ])
              refine wpAnyH_take (i := 18) (oi := ⟨some 126, _, _, _, _, _⟩) (v := ?_) rfl (by kernel_rfl) (by kernel_rfl) (by kernel_rfl) (fun _ _ _ h => h) (Or.inl ⟨by rfl, ?_⟩) (by assumption) ?_
              rotate_left
              · (intro w hSw; (try dsimp only at hSw); first | (go_simp; done) | (go_simp; with_reducible rfl))
              (try simp only [Act.put, List.setIfInBounds_toArray, List.set_cons_zero, List.set_cons_succ])
              refine wpAnyH_take (i := 19) (oi := ⟨some 127, _, _, _, _, _⟩) (v := ?_) rfl (by kernel_rfl) (by kernel_rfl) (by kernel_rfl) (fun _ _ _ h => h) (Or.inl ⟨by rfl, ?_⟩) (by assumption) ?_
              rotate_left
              · (intro w hSw; (try dsimp only at hSw); first | (go_simp; done) | (go_simp; with_reducible rfl))
              (try simp only [Act.put, List.setIfInBounds_toArray, List.set_cons_zero, List.set_cons_succ])
              refine wpAnyH_ready (rs := [20]) (by kernel_rfl) (by simp) ?_
              refine AllReadyH.cons (o := ⟨none, _, _, _, _, _⟩) rfl (fun K hK => ?_) ?_
              · skip
                go_simp
                refine hK.out _ _ ?_ (fun hHeld => ?_)
                · first | assumption | go_keep
                clear hK K
                (try simp only [Act.put, List.setIfInBounds_toArray, List.set_cons_zero, List.set_cons_succ])
                refine wpAnyH_done (by kernel_rfl) ?_ _
                have hown6 : OwnF w5 w2.heap.size 58 2 oldC (.slice A5 (x.r.away ++ [(⟨W.root, W.epoch⟩ : OldT)]).length c5) (x.r.away ++ [⟨W.root, W.epoch⟩]) := by rw [List.length_append]; exact hown5
                have hS6 := StV.left hS5 HX.out (A4 := A5) (c4 := c5) (B := w2.heap.size) (r' := { x.r with away := x.r.away ++ [⟨W.root, W.epoch⟩] }) rfl hown6 HS2.out.base_le (fun z hz q hq => (own_lt (HS2.out.awy hz) hq).2)
                simp only [List.length_append, List.length_singleton] at hS6
                have hK6 := (Keeps.of_ext hb5).trans (keep_own hS5.row (.inl rfl) (t * 5 + 4) (.slice A5 (x.r.away.length + 1) c5))
                have hB6 := (hb5.mono HS2.out.base_le).setCell (p := ⟨g1, t * 5 + 4, none⟩) HS2.out.lt1.1 (.slice A5 (x.r.away.length + 1) c5)
                have hfg5 := fun i => Blk.free hS5.blk i
                have HS6 := hide hS6; have HK6 := hide hK6; have HB6 := hide hB6
                clear hS6 hK6 hB6 hown6 hown5 hgrow5 hb5 hHeld
                go_wp2_with fail
                go_end0
                have h1 := StV.top HS6.out (W' := { (W.put t { x.r with away := x.r.away ++ [⟨W.root, W.epoch⟩] }) with last := W.last + 1 }) (i := 2) (u := .int .i64 (W.last + 1)) rfl rfl rfl
                have h2 := StV.top h1 (W' := { (W.put t { x.r with away := x.r.away ++ [⟨W.root, W.epoch⟩] }) with last := W.last + 1, root := W.last + 1 }) (i := 1) (u := .int .i64 (W.last + 1)) rfl rfl rfl
                exact Acts.after HD2.out.extW hbs ⟨rfl, ⟨_, _, _, h2⟩, HK6.out.trans ((HS6.out.keepS _ _).trans (h1.keepS _ _)), (HB6.out.setCell (p := ⟨gs, 2, none⟩) HS6.out.low _).setCell (p := ⟨gs, 1, none⟩) HS6.out.low _⟩
              exact AllReadyH.nil
            exact AllReadyH.nil
          exact AllReadyH.nil
        exact AllReadyH.nil
      refine AllReadyH.cons (o := ⟨some 124, _, _, _, _, _⟩) rfl (fun K hK => ?_) ?_
      · skip
        go_simp
        refine hK.out _ _ ?_ (fun hHeld => ?_)
        · first | assumption | go_keep
        clear hK K
        (try simp only [Act.put, List.setIfInBounds_toArray, List.set_cons_zero, List.set_cons_succ])
        refine wpAnyH_ready (rs := [1]) (by kernel_rfl) (by simp) ?_
        refine AllReadyH.cons (o := ⟨some 109, _, _, _, _, _⟩) rfl (fun K hK => ?_) ?_
        · skip
          go_simp
          refine hK.out _ _ ?_ (fun hHeld => ?_)
          · first | assumption | go_keep
          clear hK K
          (try simp only [Act.put, List.setIfInBounds_toArray, List.set_cons_zero, List.set_cons_succ])
          refine wpAnyH_ready (rs := [6]) (by kernel_rfl) (by simp) ?_
          refine AllReadyH.cons (o := ⟨some 114, _, _, _, _, _⟩) rfl (fun K hK => ?_) ?_
          · skip
            refine step_appF rfl _ _ 33 rfl w2.heap.size 58 2 16 (.agg #[.int .i64 0, .int .i64 0]) oldC oldC_len oldC_one Try.underlying33 info_old rfl (by decide) _ [] rfl ?_ x.A x.r.away.length x.c x.r.away rfl rfl ?_ ?_ ?_ ?_ ?_
            · exact own_c _ _ _ _ _
            · exact RdF.alloc (HRA2.out.alloc _) _
            · simp; omega
            · simp; omega
            · simp; try omega
            intro v4 w4 hown4 hgrow4 _
            simp only [List.nil_append] at hown4
            obtain ⟨A4, c4, hv4⟩ := hown4.shape
            subst hv4
            have hb4 := below_firstc hgrow4
            have hlit4 := lit_firstc hgrow4
            have hS4 := HS2.out.ext hb4
            have hcs4 := fun i => Blk.cell hS4.blk i
            have hzs4 := hS4.blk.lt
            refine hK.out _ _ ?_ (fun hHeld => ?_)
            · exact ⟨hcs4 0, hcs4 1⟩
            clear hK K
            (try simp only [Act.put, List.setIfInBounds_toArray, List.set_cons_zero, List.set_cons_succ])
            refine wpAnyH_ready (rs := [17]) (by kernel_rfl) (by simp) ?_
            refine AllReadyH.cons (o := ⟨some 125, _, _, _, _, _⟩) rfl (fun K hK => ?_) ?_
            · skip
              refine step_appF rfl _ _ 33 rfl w2.heap.size 58 2 16 (.agg #[.int .i64 0, .int .i64 0]) oldC oldC_len oldC_one Try.underlying33 info_old rfl (by decide) (.slice A4 x.r.away.length c4) x.r.away rfl ?_ (some ⟨w2.heap.size, 0, none⟩) 1 1 [⟨W.root, W.epoch⟩] rfl rfl ?_ ?_ ?_ ?_ ?_
              · exact hown4
              · exact hlit4
              · simp; omega
              · simp; omega
              · have := hb4.size; simp; omega
              intro v5 w5 hown5 hgrow5 _
              obtain ⟨A5, c5, hv5⟩ := hown5.shape
              rw [List.length_append, List.length_singleton] at hv5
              subst hv5
              have hb5 := below_nextb hown4 hb4 hgrow5
              have hS5 := HS2.out.ext hb5
              have hcs5 := fun i => Blk.cell hS5.blk i
              have hzs5 := hS5.blk.lt
              obtain ⟨_, _, _, _, m5⟩ := hS5.cell HX.out
              have hf5 := hS5.free1 (t * 5 + 4)
              have hz15 := hS5.lt1.2
              refine hK.out _ _ ?_ (fun hHeld => ?_)
              · exact ⟨hcs5 0, hcs5 1⟩
              clear hK K
              (try simp only [Act.put, List.setIfInBounds_toArray, List.set_cons_zero, List.set_cons_succ])
              refine wpAnyH_take (i := 18) (oi := ⟨some 126, _, _, _, _, _⟩) (v := ?_) rfl (by kernel_rfl) (by kernel_rfl) (by kernel_rfl) (fun _ _ _ h => h) (Or.inl ⟨by rfl, ?_⟩) (by assumption) ?_
              rotate_left
              · (intro w hSw; (try dsimp only at hSw); first | (go_simp; done) | (go_simp; with_reducible rfl))
              (try simp only [Act.put, List.setIfInBounds_toArray, List.set_cons_zero, List.set_cons_succ])
              refine wpAnyH_take (i := 19) (oi := ⟨some 127, _, _, _, _, _⟩) (v := ?_) rfl (by kernel_rfl) (by kernel_rfl) (by kernel_rfl) (fun _ _ _ h => h) (Or.inl ⟨by rfl, ?_⟩) (by assumption) ?_
              rotate_left
              · (intro w hSw; (try dsimp only at hSw); first | (go_simp; done) | (go_simp; with_reducible rfl))
              (try simp only [Act.put, List.setIfInBounds_toArray, List.set_cons_zero, List.set_cons_succ])
              refine wpAnyH_ready (rs := [20]) (by kernel_rfl) (by simp) ?_
              refine AllReadyH.cons (o := ⟨none, _, _, _, _, _⟩) rfl (fun K hK => ?_) ?_
              · skip
                go_simp
                refine hK.out _ _ ?_ (fun hHeld => ?_)
                · first | assumption | go_keep
                clear hK K
                (try simp only [Act.put, List.setIfInBounds_toArray, List.set_cons_zero, List.set_cons_succ])
                refine wpAnyH_done (by kernel_rfl) ?_ _
                have hown6 : OwnF w5 w2.heap.size 58 2 oldC (.slice A5 (x.r.away ++ [(⟨W.root, W.epoch⟩ : OldT)]).length c5) (x.r.away ++ [⟨W.root, W.epoch⟩]) := by rw [List.length_append]; exact hown5
                have hS6 := StV.left hS5 HX.out (A4 := A5) (c4 := c5) (B := w2.heap.size) (r' := { x.r with away := x.r.away ++ [⟨W.root, W.epoch⟩] }) rfl hown6 HS2.out.base_le (fun z hz q hq => (own_lt (HS2.out.awy hz) hq).2)
                simp only [List.length_append, List.length_singleton] at hS6
                have hK6 := (Keeps.of_ext hb5).trans (keep_own hS5.row (.inl rfl) (t * 5 + 4) (.slice A5 (x.r.away.length + 1) c5))
                have hB6 := (hb5.mono HS2.out.base_le).setCell (p := ⟨g1, t * 5 + 4, none⟩) HS2.out.lt1.1 (.slice A5 (x.r.away.length + 1) c5)
                have hfg5 := fun i => Blk.free hS5.blk i
                have HS6 := hide hS6; have HK6 := hide hK6; have HB6 := hide hB6
                clear hS6 hK6 hB6 hown6 hown5 hgrow5 hb5 hHeld
                go_wp2_with fail
                go_end0
                have h1 := StV.top HS6.out (W' := { (W.put t { x.r with away := x.r.away ++ [⟨W.root, W.epoch⟩] }) with last := W.last + 1 }) (i := 2) (u := .int .i64 (W.last + 1)) rfl rfl rfl
                have h2 := StV.top h1 (W' := { (W.put t { x.r with away := x.r.away ++ [⟨W.root, W.epoch⟩] }) with last := W.last + 1, root := W.last + 1 }) (i := 1) (u := .int .i64 (W.last + 1)) rfl rfl rfl
                exact Acts.after HD2.out.extW hbs ⟨rfl, ⟨_, _, _, h2⟩, HK6.out.trans ((HS6.out.keepS _ _).trans (h1.keepS _ _)), (HB6.out.setCell (p := ⟨gs, 2, none⟩) HS6.out.low _).setCell (p := ⟨gs, 1, none⟩) HS6.out.low _⟩
              exact AllReadyH.nil
            exact AllReadyH.nil
          exact AllReadyH.nil
        exact AllReadyH.nil
      exact AllReadyH.nil
    refine AllReadyH.cons (o := ⟨some 124, _, _, _, _, _⟩) rfl (fun K hK => ?_) ?_
    · skip
      go_simp
      refine hK.out _ _ ?_ (fun hHeld => ?_)
      · first | assumption | go_keep
      clear hK K
      (try simp only [Act.put, List.setIfInBounds_toArray, List.set_cons_zero, List.set_cons_succ])
      refine wpAnyH_ready (rs := [1, 5]) (by kernel_rfl) (by simp) ?_
      refine AllReadyH.cons (o := ⟨some 109, _, _, _, _, _⟩) rfl (fun K hK => ?_) ?_
      · skip
        go_simp
        refine hK.out _ _ ?_ (fun hHeld => ?_)
        · first | assumption | go_keep
        clear hK K
        (try simp only [Act.put, List.setIfInBounds_toArray, List.set_cons_zero, List.set_cons_succ])
        refine wpAnyH_ready (rs := [5]) (by kernel_rfl) (by simp) ?_
        refine AllReadyH.cons (o := ⟨some 113, _, _, _, _, _⟩) rfl (fun K hK => ?_) ?_
        · skip
          go_simp
          refine hK.out _ _ ?_ (fun hHeld => ?_)
          · first | assumption | go_keep
          clear hK K
          (try simp only [Act.put, List.setIfInBounds_toArray, List.set_cons_zero, List.set_cons_succ])
          refine wpAnyH_ready (rs := [6]) (by kernel_rfl) (by simp) ?_
          refine AllReadyH.cons (o := ⟨some 114, _, _, _, _, _⟩) rfl (fun K hK => ?_) ?_
          · skip
            refine step_appF rfl _ _ 33 rfl w2.heap.size 58 2 16 (.agg #[.int .i64 0, .int .i64 0]) oldC oldC_len oldC_one Try.underlying33 info_old rfl (by decide) _ [] rfl ?_ x.A x.r.away.length x.c x.r.away rfl rfl ?_ ?_ ?_ ?_ ?_
            · exact own_c _ _ _ _ _
            · exact RdF.alloc (HRA2.out.alloc _) _
            · simp; omega
            · simp; omega
            · simp; try omega
            intro v4 w4 hown4 hgrow4 _
            simp only [List.nil_append] at hown4
            obtain ⟨A4, c4, hv4⟩ := hown4.shape
            subst hv4
            have hb4 := below_firstc hgrow4
            have hlit4 := lit_firstc hgrow4
            have hS4 := HS2.out.ext hb4
            have hcs4 := fun i => Blk.cell hS4.blk i
            have hzs4 := hS4.blk.lt
            refine hK.out _ _ ?_ (fun hHeld => ?_)
            · exact ⟨hcs4 0, hcs4 1⟩
            clear hK K
            (try simp only [Act.put, List.setIfInBounds_toArray, List.set_cons_zero, List.set_cons_succ])
            refine wpAnyH_ready (rs := [17]) (by kernel_rfl) (by simp) ?_
            refine AllReadyH.cons (o := ⟨some 125, _, _, _, _, _⟩) rfl (fun K hK => ?_) ?_
            · skip
              refine step_appF rfl _ _ 33 rfl w2.heap.size 58 2 16 (.agg #[.int .i64 0, .int .i64 0]) oldC oldC_len oldC_one Try.underlying33 info_old rfl (by decide) (.slice A4 x.r.away.length c4) x.r.away rfl ?_ (some ⟨w2.heap.size, 0, none⟩) 1 1 [⟨W.root, W.epoch⟩] rfl rfl ?_ ?_ ?_ ?_ ?_
              · exact hown4
              · exact hlit4
              · simp; omega
              · simp; omega
              · have := hb4.size; simp; omega
              intro v5 w5 hown5 hgrow5 _
              obtain ⟨A5, c5, hv5⟩ := hown5.shape
              rw [List.length_append, List.length_singleton] at hv5
              subst hv5
              have hb5 := below_nextb hown4 hb4 hgrow5
              have hS5 := HS2.out.ext hb5
              have hcs5 := fun i => Blk.cell hS5.blk i
              have hzs5 := hS5.blk.lt
              obtain ⟨_, _, _, _, m5⟩ := hS5.cell HX.out
              have hf5 := hS5.free1 (t * 5 + 4)
              have hz15 := hS5.lt1.2
              refine hK.out _ _ ?_ (fun hHeld => ?_)
              · exact ⟨hcs5 0, hcs5 1⟩
              clear hK K
              (try simp only [Act.put, List.setIfInBounds_toArray, List.set_cons_zero, List.set_cons_succ])
              refine wpAnyH_take (i := 18) (oi := ⟨some 126, _, _, _, _, _⟩) (v := ?_) rfl (by kernel_rfl) (by kernel_rfl) (by kernel_rfl) (fun _ _ _ h => h) (Or.inl ⟨by rfl, ?_⟩) (by assumption) ?_
              rotate_left
              · (intro w hSw; (try dsimp only at hSw); first | (go_simp; done) | (go_simp; with_reducible rfl))
              (try simp only [Act.put, List.setIfInBounds_toArray, List.set_cons_zero, List.set_cons_succ])
              refine wpAnyH_take (i := 19) (oi := ⟨some 127, _, _, _, _, _⟩) (v := ?_) rfl (by kernel_rfl) (by kernel_rfl) (by kernel_rfl) (fun _ _ _ h => h) (Or.inl ⟨by rfl, ?_⟩) (by assumption) ?_
              rotate_left
              · (intro w hSw; (try dsimp only at hSw); first | (go_simp; done) | (go_simp; with_reducible rfl))
              (try simp only [Act.put, List.setIfInBounds_toArray, List.set_cons_zero, List.set_cons_succ])
              refine wpAnyH_ready (rs := [20]) (by kernel_rfl) (by simp) ?_
              refine AllReadyH.cons (o := ⟨none, _, _, _, _, _⟩) rfl (fun K hK => ?_) ?_
              · skip
                go_simp
                refine hK.out _ _ ?_ (fun hHeld => ?_)
                · first | assumption | go_keep
                clear hK K
                (try simp only [Act.put, List.setIfInBounds_toArray, List.set_cons_zero, List.set_cons_succ])
                refine wpAnyH_done (by kernel_rfl) ?_ _
                have hown6 : OwnF w5 w2.heap.size 58 2 oldC (.slice A5 (x.r.away ++ [(⟨W.root, W.epoch⟩ : OldT)]).length c5) (x.r.away ++ [⟨W.root, W.epoch⟩]) := by rw [List.length_append]; exact hown5
                have hS6 := StV.left hS5 HX.out (A4 := A5) (c4 := c5) (B := w2.heap.size) (r' := { x.r with away := x.r.away ++ [⟨W.root, W.epoch⟩] }) rfl hown6 HS2.out.base_le (fun z hz q hq => (own_lt (HS2.out.awy hz) hq).2)
                simp only [List.length_append, List.length_singleton] at hS6
                have hK6 := (Keeps.of_ext hb5).trans (keep_own hS5.row (.inl rfl) (t * 5 + 4) (.slice A5 (x.r.away.length + 1) c5))
                have hB6 := (hb5.mono HS2.out.base_le).setCell (p := ⟨g1, t * 5 + 4, none⟩) HS2.out.lt1.1 (.slice A5 (x.r.away.length + 1) c5)
                have hfg5 := fun i => Blk.free hS5.blk i
                have HS6 := hide hS6; have HK6 := hide hK6; have HB6 := hide hB6
                clear hS6 hK6 hB6 hown6 hown5 hgrow5 hb5 hHeld
                go_wp2_with fail
                go_end0
                have h1 := StV.top HS6.out (W' := { (W.put t { x.r with away := x.r.away ++ [⟨W.root, W.epoch⟩] }) with last := W.last + 1 }) (i := 2) (u := .int .i64 (W.last + 1)) rfl rfl rfl
                have h2 := StV.top h1 (W' := { (W.put t { x.r with away := x.r.away ++ [⟨W.root, W.epoch⟩] }) with last := W.last + 1, root := W.last + 1 }) (i := 1) (u := .int .i64 (W.last + 1)) rfl rfl rfl
                exact Acts.after HD2.out.extW hbs ⟨rfl, ⟨_, _, _, h2⟩, HK6.out.trans ((HS6.out.keepS _ _).trans (h1.keepS _ _)), (HB6.out.setCell (p := ⟨gs, 2, none⟩) HS6.out.low _).setCell (p := ⟨gs, 1, none⟩) HS6.out.low _⟩
              exact AllReadyH.nil
            exact AllReadyH.nil
          exact AllReadyH.nil
        exact AllReadyH.nil
      refine AllReadyH.cons (o := ⟨some 113, _, _, _, _, _⟩) rfl (fun K hK => ?_) ?_
      · skip
        go_simp
        refine hK.out _ _ ?_ (fun hHeld => ?_)
        · first | assumption | go_keep
        clear hK K
        (try simp only [Act.put, List.setIfInBounds_toArray, List.set_cons_zero, List.set_cons_succ])
        refine wpAnyH_ready (rs := [1]) (by kernel_rfl) (by simp) ?_
        refine AllReadyH.cons (o := ⟨some 109, _, _, _, _, _⟩) rfl (fun K hK => ?_) ?_
        · skip
          go_simp
          refine hK.out _ _ ?_ (fun hHeld => ?_)
          · first | assumption | go_keep
          clear hK K
          (try simp only [Act.put, List.setIfInBounds_toArray, List.set_cons_zero, List.set_cons_succ])
          refine wpAnyH_ready (rs := [6]) (by kernel_rfl) (by simp) ?_
          refine AllReadyH.cons (o := ⟨some 114, _, _, _, _, _⟩) rfl (fun K hK => ?_) ?_
          · skip
            refine step_appF rfl _ _ 33 rfl w2.heap.size 58 2 16 (.agg #[.int .i64 0, .int .i64 0]) oldC oldC_len oldC_one Try.underlying33 info_old rfl (by decide) _ [] rfl ?_ x.A x.r.away.length x.c x.r.away rfl rfl ?_ ?_ ?_ ?_ ?_
            · exact own_c _ _ _ _ _
            · exact RdF.alloc (HRA2.out.alloc _) _
            · simp; omega
            · simp; omega
            · simp; try omega
            intro v4 w4 hown4 hgrow4 _
            simp only [List.nil_append] at hown4
            obtain ⟨A4, c4, hv4⟩ := hown4.shape
            subst hv4
            have hb4 := below_firstc hgrow4
            have hlit4 := lit_firstc hgrow4
            have hS4 := HS2.out.ext hb4
            have hcs4 := fun i => Blk.cell hS4.blk i
            have hzs4 := hS4.blk.lt
            refine hK.out _ _ ?_ (fun hHeld => ?_)
            · exact ⟨hcs4 0, hcs4 1⟩
            clear hK K
            (try simp only [Act.put, List.setIfInBounds_toArray, List.set_cons_zero, List.set_cons_succ])
            refine wpAnyH_ready (rs := [17]) (by kernel_rfl) (by simp) ?_
            refine AllReadyH.cons (o := ⟨some 125, _, _, _, _, _⟩) rfl (fun K hK => ?_) ?_
            · skip
              refine step_appF rfl _ _ 33 rfl w2.heap.size 58 2 16 (.agg #[.int .i64 0, .int .i64 0]) oldC oldC_len oldC_one Try.underlying33 info_old rfl (by decide) (.slice A4 x.r.away.length c4) x.r.away rfl ?_ (some ⟨w2.heap.size, 0, none⟩) 1 1 [⟨W.root, W.epoch⟩] rfl rfl ?_ ?_ ?_ ?_ ?_
              · exact hown4
              · exact hlit4
              · simp; omega
              · simp; omega
              · have := hb4.size; simp; omega
              intro v5 w5 hown5 hgrow5 _
              obtain ⟨A5, c5, hv5⟩ := hown5.shape
              rw [List.length_append, List.length_singleton] at hv5
              subst hv5
              have hb5 := below_nextb hown4 hb4 hgrow5
              have hS5 := HS2.out.ext hb5
              have hcs5 := fun i => Blk.cell hS5.blk i
              have hzs5 := hS5.blk.lt
              obtain ⟨_, _, _, _, m5⟩ := hS5.cell HX.out
              have hf5 := hS5.free1 (t * 5 + 4)
              have hz15 := hS5.lt1.2
              refine hK.out _ _ ?_ (fun hHeld => ?_)
              · exact ⟨hcs5 0, hcs5 1⟩
              clear hK K
              (try simp only [Act.put, List.setIfInBounds_toArray, List.set_cons_zero, List.set_cons_succ])
              refine wpAnyH_take (i := 18) (oi := ⟨some 126, _, _, _, _, _⟩) (v := ?_) rfl (by kernel_rfl) (by kernel_rfl) (by kernel_rfl) (fun _ _ _ h => h) (Or.inl ⟨by rfl, ?_⟩) (by assumption) ?_
              rotate_left
              · (intro w hSw; (try dsimp only at hSw); first | (go_simp; done) | (go_simp; with_reducible rfl))
              (try simp only [Act.put, List.setIfInBounds_toArray, List.set_cons_zero, List.set_cons_succ])
              refine wpAnyH_take (i := 19) (oi := ⟨some 127, _, _, _, _, _⟩) (v := ?_) rfl (by kernel_rfl) (by kernel_rfl) (by kernel_rfl) (fun _ _ _ h => h) (Or.inl ⟨by rfl, ?_⟩) (by assumption) ?_
              rotate_left
              · (intro w hSw; (try dsimp only at hSw); first | (go_simp; done) | (go_simp; with_reducible rfl))
              (try simp only [Act.put, List.setIfInBounds_toArray, List.set_cons_zero, List.set_cons_succ])
              refine wpAnyH_ready (rs := [20]) (by kernel_rfl) (by simp) ?_
              refine AllReadyH.cons (o := ⟨none, _, _, _, _, _⟩) rfl (fun K hK => ?_) ?_
              · skip
                go_simp
                refine hK.out _ _ ?_ (fun hHeld => ?_)
                · first | assumption | go_keep
                clear hK K
                (try simp only [Act.put, List.setIfInBounds_toArray, List.set_cons_zero, List.set_cons_succ])
                refine wpAnyH_done (by kernel_rfl) ?_ _
                have hown6 : OwnF w5 w2.heap.size 58 2 oldC (.slice A5 (x.r.away ++ [(⟨W.root, W.epoch⟩ : OldT)]).length c5) (x.r.away ++ [⟨W.root, W.epoch⟩]) := by rw [List.length_append]; exact hown5
                have hS6 := StV.left hS5 HX.out (A4 := A5) (c4 := c5) (B := w2.heap.size) (r' := { x.r with away := x.r.away ++ [⟨W.root, W.epoch⟩] }) rfl hown6 HS2.out.base_le (fun z hz q hq => (own_lt (HS2.out.awy hz) hq).2)
                simp only [List.length_append, List.length_singleton] at hS6
                have hK6 := (Keeps.of_ext hb5).trans (keep_own hS5.row (.inl rfl) (t * 5 + 4) (.slice A5 (x.r.away.length + 1) c5))
                have hB6 := (hb5.mono HS2.out.base_le).setCell (p := ⟨g1, t * 5 + 4, none⟩) HS2.out.lt1.1 (.slice A5 (x.r.away.length + 1) c5)
                have hfg5 := fun i => Blk.free hS5.blk i
                have HS6 := hide hS6; have HK6 := hide hK6; have HB6 := hide hB6
                clear hS6 hK6 hB6 hown6 hown5 hgrow5 hb5 hHeld
                go_wp2_with fail
                go_end0
                have h1 := StV.top HS6.out (W' := { (W.put t { x.r with away := x.r.away ++ [⟨W.root, W.epoch⟩] }) with last := W.last + 1 }) (i := 2) (u := .int .i64 (W.last + 1)) rfl rfl rfl
                have h2 := StV.top h1 (W' := { (W.put t { x.r with away := x.r.away ++ [⟨W.root, W.epoch⟩] }) with last := W.last + 1, root := W.last + 1 }) (i := 1) (u := .int .i64 (W.last + 1)) rfl rfl rfl
                exact Acts.after HD2.out.extW hbs ⟨rfl, ⟨_, _, _, h2⟩, HK6.out.trans ((HS6.out.keepS _ _).trans (h1.keepS _ _)), (HB6.out.setCell (p := ⟨gs, 2, none⟩) HS6.out.low _).setCell (p := ⟨gs, 1, none⟩) HS6.out.low _⟩
              exact AllReadyH.nil
            exact AllReadyH.nil
          exact AllReadyH.nil
        exact AllReadyH.nil
      exact AllReadyH.nil
    exact AllReadyH.nil
  · rw [HF.out, if_neg h1]
    have h3 : (x.r.holds == W.root) = false := by simpa using h1
    have H1 := hide h1; clear h1
    go_enter Try.func9, Try.ntmps9
    go_wp2_with fail
    go_quiet (fail)
    go_wp2_with fail
    go_end0
    exact Acts.after (below_drewN (selfW w) _) H.out.base_le (StV.stay (H.out.ext (below_drewN (selfW w) _)))
end
end Go.Proofs.Ytdgnejapofkadaa.Ref
