/- What holds of each world that was played: nothing that is held is freed, and what is held was put away an epoch ago at most. -/
import Derived.Test.YtdgnejapofkadaaGhU
namespace Go.Proofs.Ytdgnejapofkadaa
open Go.RowKit

def awayNodes (r : RdT) : List Int := r.away.map (·.node)
def nodesW (W : WT) : List Int := W.freed ++ W.rds.flatMap awayNodes
/-- what is put away and held is not old -/
def Young (E : Int) (r : RdT) (o : OldT) : Prop := E ≤ o.stamp ∨ (E = o.stamp + 1 ∧ r.inn ≠ E)
structure InvW (W : WT) : Prop where
  nodup : (nodesW W).Nodup
  range : ∀ z ∈ nodesW W, 1 ≤ z ∧ z < W.root
  stamp : ∀ r ∈ W.rds, ∀ o ∈ r.away, o.stamp ≤ W.epoch
  grd : ∀ r ∈ W.rds, r.guard ≠ 0 → 0 < r.inn
  hold : ∀ r ∈ W.rds, r.holds ≠ 0 → r.guard = r.holds ∧ r.holds ∉ W.freed ∧ 1 ≤ r.holds ∧ r.holds ≤ W.root
  young : ∀ r ∈ W.rds, r.holds ≠ 0 → ∀ q ∈ W.rds, ∀ o ∈ q.away, o.node = r.holds → Young W.epoch r o

theorem flat_erase {l : List RdT} {t : Nat} {r : RdT} (h : l[t]? = some r) : (l.flatMap awayNodes).Perm (awayNodes r ++ (l.eraseIdx t).flatMap awayNodes) := by
  induction l generalizing t with
  | nil => simp at h
  | cons x l ih =>
    rcases t with _ | t
    · simp at h; subst h; simp
    · simp only [List.getElem?_cons_succ] at h
      have := ih h
      simp only [List.eraseIdx_cons_succ, List.flatMap_cons]
      refine (List.Perm.append_left _ this).trans ?_
      rw [← List.append_assoc, ← List.append_assoc]
      exact List.Perm.append_right _ List.perm_append_comm
theorem erase_set {α : Type} {l : List α} {t : Nat} {y : α} : (l.set t y).eraseIdx t = l.eraseIdx t := by
  induction l generalizing t with
  | nil => rfl
  | cons x l ih =>
    rcases t with _ | t
    · rfl
    · simp only [List.set_cons_succ, List.eraseIdx_cons_succ, ih]
theorem flat_set_perm {l : List RdT} {t : Nat} {r r' : RdT} (h : l[t]? = some r) : ((l.set t r').flatMap awayNodes).Perm (awayNodes r' ++ (l.eraseIdx t).flatMap awayNodes) := by
  have := flat_erase (get_set (y := r') h)
  rwa [erase_set] at this
theorem mem_nodes {W : WT} {r : RdT} {o : OldT} (hr : r ∈ W.rds) (ho : o ∈ r.away) : o.node ∈ nodesW W :=
  List.mem_append_right _ (List.mem_flatMap.2 ⟨r, hr, List.mem_map.2 ⟨o, ho, rfl⟩⟩)
theorem InvW.rootNot {W : WT} (h : InvW W) {z : Int} (hz : z ∈ nodesW W) : z ≠ W.root := by have := h.range z hz; omega

/-- a thread turns, and puts nothing away -/
theorem InvW.put {W : WT} {t : Nat} {r r' : RdT} (h : InvW W) (hr : W.rds[t]? = some r) (ha : r'.away = r.away) (hg : r'.guard ≠ 0 → 0 < r'.inn)
    (hh : r'.holds ≠ 0 → r'.guard = r'.holds ∧ r'.holds ∉ W.freed ∧ 1 ≤ r'.holds ∧ r'.holds ≤ W.root ∧ ∀ q ∈ W.rds, ∀ o ∈ q.away, o.node = r'.holds → Young W.epoch r' o) : InvW (W.put t r') := by
  have hm := mem_of_get hr
  have hperm : (nodesW (W.put t r')).Perm (nodesW W) := by
    refine List.Perm.append_left _ ?_
    refine (flat_set_perm hr).trans ?_
    rw [show awayNodes r' = awayNodes r by unfold awayNodes; rw [ha]]
    exact (flat_erase hr).symm
  have haw : ∀ q ∈ (W.put t r').rds, ∃ q' ∈ W.rds, q.away = q'.away := by
    intro q hq
    rcases mem_put hq with rfl | hq
    · exact ⟨r, hm, ha⟩
    · exact ⟨q, hq, rfl⟩
  refine ⟨hperm.nodup_iff.2 h.nodup, fun z hz => h.range z (hperm.mem_iff.1 hz), fun q hq o ho => ?_, fun q hq => ?_, fun q hq => ?_, fun q hq hq0 p hp o ho => ?_⟩
  · obtain ⟨q', h1, h2⟩ := haw q hq
    rw [h2] at ho
    exact h.stamp q' h1 o ho
  · rcases mem_put hq with rfl | hq
    · exact hg
    · exact h.grd q hq
  · rcases mem_put hq with rfl | hq
    · intro h0; obtain ⟨a, b, c, d, _⟩ := hh h0; exact ⟨a, b, c, d⟩
    · exact h.hold q hq
  · obtain ⟨p', h1, h2⟩ := haw p hp
    rw [h2] at ho
    rcases mem_put hq with rfl | hq
    · exact (hh hq0).2.2.2.2 p' h1 o ho
    · exact h.young q hq hq0 p' h1 o ho
/-- a thread frees what a test tells: none of it held -/
theorem InvW.free {W : WT} {t : Nat} {r : RdT} (h : InvW W) (hr : W.rds[t]? = some r) (p : OldT → Bool) (hp : ∀ o ∈ r.away, p o = true → ∀ q ∈ W.rds, q.holds ≠ 0 → o.node ≠ q.holds) : InvW (freeW W t r p) := by
  have hm := mem_of_get hr
  have hsub : ∀ q ∈ (freeW W t r p).rds, ∃ q' ∈ W.rds, q.guard = q'.guard ∧ q.holds = q'.holds ∧ q.inn = q'.inn ∧ ∀ o ∈ q.away, o ∈ q'.away := by
    intro q hq
    rcases mem_put hq with rfl | hq
    · exact ⟨r, hm, rfl, rfl, rfl, fun o ho => (List.mem_filter.1 ho).1⟩
    · exact ⟨q, hq, rfl, rfl, rfl, fun o ho => ho⟩
  have hperm : (nodesW (freeW W t r p)).Perm (nodesW W) := by
    unfold nodesW
    refine (List.Perm.append_left _ (flat_set_perm hr)).trans (List.Perm.trans ?_ (List.Perm.append_left _ (flat_erase hr).symm))
    show (W.freed ++ (r.away.filter p).map (·.node) ++ (((r.away.filter fun o => !p o).map (·.node)) ++ _)).Perm _
    rw [List.append_assoc]
    refine List.Perm.append_left _ ?_
    rw [← List.append_assoc]
    refine List.Perm.append_right _ ?_
    rw [← List.map_append]
    exact List.Perm.map _ (List.filter_append_perm p r.away)
  refine ⟨hperm.nodup_iff.2 h.nodup, fun z hz => h.range z (hperm.mem_iff.1 hz), fun q hq o ho => ?_, fun q hq h0 => ?_, fun q hq h0 => ?_, fun q hq hq0 a ha o ho => ?_⟩
  · obtain ⟨q', h1, _, _, _, h2⟩ := hsub q hq
    exact h.stamp q' h1 o (h2 o ho)
  · obtain ⟨q', h1, h2, _, h3, _⟩ := hsub q hq
    rw [h3]; rw [h2] at h0
    exact h.grd q' h1 h0
  · obtain ⟨q', h1, h2, h3, _, _⟩ := hsub q hq
    rw [h3] at h0
    obtain ⟨a, b, c, d⟩ := h.hold q' h1 h0
    refine ⟨by rw [h2, h3]; exact a, ?_, by rw [h3]; exact c, by rw [h3]; exact d⟩
    rw [h3]
    intro hmem
    rcases List.mem_append.1 hmem with hmem | hmem
    · exact b hmem
    · obtain ⟨o, ho, hn⟩ := List.mem_map.1 hmem
      obtain ⟨ho1, ho2⟩ := List.mem_filter.1 ho
      exact hp o ho1 ho2 q' h1 h0 hn
  · obtain ⟨q', h1, _, h3, h4, _⟩ := hsub q hq
    obtain ⟨a', h5, _, _, _, h6⟩ := hsub a ha
    rw [h3] at hq0
    have := h.young q' h1 hq0 a' h5 o (h6 o ho)
    rw [← h3] at this
    intro hn
    have := this hn
    unfold Young at this ⊢
    rw [h4]
    exact this
theorem letsW_of {W : WT} {t i : Nat} {r : RdT} (h : letsW W t = true) (hr : W.rds[i]? = some r) (hi : i ≠ t) : r.inn < 0 ∨ r.inn = W.epoch := by
  rcases hb : letsOk W.epoch t i r with _ | _
  · rw [lets_no hr hb] at h; cases h
  · unfold letsOk at hb
    simp at hb
    omega
theorem InvW.act {W : WT} {k t : Nat} {r : RdT} (h : InvW W) (hs : Sane W k) (hr : W.rds[t]? = some r) (kd : Int) : InvW (actW W t r kd) := by
  have hm := mem_of_get hr
  have hroot := hs.r1
  have hin := hs.inn r hm
  unfold actW
  split
  · exact h.put hr rfl (h.grd r hm) (fun h0 => by obtain ⟨a, b, c, d⟩ := h.hold r hm h0; exact ⟨a, b, c, d, h.young r hm h0⟩)
  split
  · unfold enterW
    split
    · next he =>
      have hg0 : r.guard = 0 := by
        by_cases hg : r.guard = 0
        · exact hg
        · have := h.grd r hm hg; omega
      have hh0 : r.holds = 0 := by
        by_cases hh : r.holds = 0
        · exact hh
        · have := (h.hold r hm hh).1; omega
      exact h.put hr rfl (fun hg => absurd hg0 hg) (fun hh => absurd hh0 hh)
    · exact h
  split
  · unfold guardW
    split
    · next hg => exact h.put hr rfl (fun _ => by show 0 < r.inn; omega) (fun hh => absurd hg.2 hh)
    · exact h
  split
  · unfold holdW
    split
    · next hg =>
      refine h.put hr rfl (h.grd r hm) (fun _ => ⟨rfl, ?_, by show 1 ≤ r.guard; omega, by show r.guard ≤ _; omega, ?_⟩)
      · show r.guard ∉ _
        rw [hg]
        intro hmem
        exact h.rootNot (List.mem_append_left _ hmem) rfl
      · intro q hq o ho hn
        have : o.node = W.root := hn.trans hg
        exact absurd this (h.rootNot (mem_nodes hq ho))
    · exact h
  split
  · unfold changeW
    split
    · next hc =>
      have hperm : (nodesW { W with rds := W.rds.set t { r with away := r.away ++ [⟨W.root, W.epoch⟩] }, last := W.last + 1, root := W.last + 1 }).Perm (W.root :: nodesW W) := by
        unfold nodesW
        refine (List.Perm.append_left _ (flat_set_perm hr)).trans ?_
        refine List.Perm.trans ?_ (List.Perm.cons _ (List.Perm.append_left _ (flat_erase hr).symm))
        have e : awayNodes { r with away := r.away ++ [⟨W.root, W.epoch⟩] } = awayNodes r ++ [W.root] := by unfold awayNodes; simp
        rw [e, List.append_assoc]
        refine List.Perm.trans (List.Perm.append_left _ List.perm_middle) ?_
        exact List.perm_middle
      have hmem : ∀ q ∈ W.rds.set t { r with away := r.away ++ [⟨W.root, W.epoch⟩] }, ∃ q' ∈ W.rds, q.guard = q'.guard ∧ q.holds = q'.holds ∧ q.inn = q'.inn ∧ ∀ o ∈ q.away, o ∈ q'.away ∨ o = ⟨W.root, W.epoch⟩ := by
        intro q hq
        rcases mem_put hq with rfl | hq
        · exact ⟨r, hm, rfl, rfl, rfl, fun o ho => by simpa using ho⟩
        · exact ⟨q, hq, rfl, rfl, rfl, fun o ho => .inl ho⟩
      have hrl := hs.rl
      refine ⟨hperm.nodup_iff.2 (List.nodup_cons.2 ⟨fun hmem => h.rootNot hmem rfl, h.nodup⟩), fun z hz => ?_, fun q hq o ho => ?_, fun q hq h0 => ?_, fun q hq h0 => ?_, fun q hq hq0 a ha o ho => ?_⟩
      · rcases List.mem_cons.1 (hperm.mem_iff.1 hz) with rfl | hz
        · show 1 ≤ W.root ∧ W.root < W.last + 1; omega
        · have := h.range z hz; show 1 ≤ z ∧ z < W.last + 1; omega
      · obtain ⟨q', h1, _, _, _, h2⟩ := hmem q hq
        rcases h2 o ho with h2 | rfl
        · exact h.stamp q' h1 o h2
        · exact Int.le_refl _
      · obtain ⟨q', h1, h2, _, h3, _⟩ := hmem q hq
        rw [h3]; rw [h2] at h0
        exact h.grd q' h1 h0
      · obtain ⟨q', h1, h2, h3, _, _⟩ := hmem q hq
        rw [h3] at h0
        obtain ⟨a, b, c, d⟩ := h.hold q' h1 h0
        exact ⟨by rw [h2, h3]; exact a, by rw [h3]; exact b, by rw [h3]; exact c, by rw [h3]; show q'.holds ≤ W.last + 1; omega⟩
      · obtain ⟨q', h1, _, h3, h4, _⟩ := hmem q hq
        obtain ⟨a', h5, _, _, _, h6⟩ := hmem a ha
        rw [h3] at hq0
        intro hn
        rw [h3] at hn
        unfold Young
        rw [h4]
        rcases h6 o ho with h6 | rfl
        · exact h.young q' h1 hq0 a' h5 o h6 hn
        · exact .inl (Int.le_refl _)
    · exact h
  split
  · exact h.put hr rfl (fun h0 => absurd rfl h0) (fun h0 => absurd rfl h0)
  split
  · unfold leaveW
    split
    · next hl => exact h.put hr rfl (fun h0 => absurd rfl h0) (fun h0 => absurd hl h0)
    · exact h
  split
  · unfold advW
    split
    · next ha =>
      refine ⟨h.nodup, h.range, fun q hq o ho => by have := h.stamp q hq o ho; show o.stamp ≤ W.epoch + 1; omega, h.grd, h.hold, fun q hq hq0 a haa o ho hn => ?_⟩
      obtain ⟨i, hi⟩ := List.getElem?_of_mem hq
      have hit : i ≠ t := by
        rintro rfl
        rw [hr] at hi
        injection hi with hi
        subst hi
        exact hq0 ha.1
      have hl := letsW_of ha.2 hi hit
      have hg := h.hold q hq hq0
      have hg1 := h.grd q hq (by omega)
      have hy := h.young q hq hq0 a haa o ho hn
      have hst := h.stamp a haa o ho
      unfold Young at hy ⊢
      show W.epoch + 1 ≤ o.stamp ∨ (W.epoch + 1 = o.stamp + 1 ∧ q.inn ≠ W.epoch + 1)
      omega
    · exact h
  split
  · refine h.free hr _ (fun o ho hpo q hq hq0 hn => ?_)
    have hy := h.young q hq hq0 r hm o ho hn
    unfold Young at hy
    unfold pastB at hpo
    simp at hpo
    omega
  split
  · refine h.free hr _ (fun o ho hpo q hq hq0 hn => ?_)
    have hg := (h.hold q hq hq0).1
    have : guardedW W o.node = true := by
      unfold guardedW
      rw [List.any_eq_true]
      exact ⟨q, hq, by rw [hg, hn]; simp⟩
    rw [this] at hpo
    cases hpo
  exact h
theorem InvW.doW {W : WT} {k : Nat} (h : InvW W) (hs : Sane W k) (t kd : Int) : InvW (doW W t kd) := by
  unfold Proofs.Ytdgnejapofkadaa.doW
  split
  · exact h
  · split
    · exact h
    · next r hr => exact h.act hs hr kd
theorem InvW.new (n : Nat) : InvW (newW n) := by
  have hfl : nodesW (newW n) = [] := by
    unfold nodesW newW
    simp only [List.nil_append]
    rw [List.flatMap_eq_nil_iff]
    intro r hr
    have := (List.mem_replicate.1 hr).2
    subst this
    rfl
  refine ⟨by rw [hfl]; exact List.nodup_nil, fun z hz => (by rw [hfl] at hz; cases hz), fun r hr o ho => ?_, fun r hr h0 => ?_, fun r hr h0 => ?_, fun r hr h0 => ?_⟩
  all_goals
    have := (List.mem_replicate.1 hr).2
    subst this
  · cases ho
  · exact absurd rfl h0
  · exact absurd rfl h0
  · exact absurd rfl h0
theorem playN_inv (n : Int) (l : List (Int × Int)) (k : Nat) (h : k ≤ l.length) : InvW (playN (cntT n) l k) := by
  induction k with
  | zero => exact InvW.new _
  | succ k ih =>
    obtain ⟨a, ha⟩ : ∃ a, l[k]? = some a := ⟨_, List.getElem?_eq_getElem (by omega)⟩
    rw [playN_succ _ ha]
    exact (ih (by omega)).doW (playN_sane n l k (by omega)) _ _
theorem InvW.safe {W : WT} {k : Nat} (h : InvW W) (hs : Sane W k) (hk : k ≤ 1000) : SafeP W := by
  have hr := hs.rl
  have hl := hs.l2
  refine ⟨(List.nodup_append.1 h.nodup).1, fun hm => h.rootNot (List.mem_append_left _ hm) rfl, fun r hr h0 => (h.hold r hr h0).2.1, fun z hz => ?_, fun r hr => ?_⟩
  · have := h.range z (List.mem_append_left _ hz); omega
  · by_cases h0 : r.holds = 0
    · omega
    · have := (h.hold r hr h0).2.2; omega
theorem epoch_step (W : WT) (t kd : Int) : (doW W t kd).epoch = W.epoch ∨ (doW W t kd).epoch = W.epoch + 1 := by
  unfold doW
  split
  · exact .inl rfl
  · split
    · exact .inl rfl
    · next r hr =>
      unfold actW
      split; · exact .inl rfl
      split
      · unfold enterW; split <;> exact .inl rfl
      split
      · unfold guardW; split <;> exact .inl rfl
      split
      · unfold holdW; split <;> exact .inl rfl
      split
      · unfold changeW; split <;> exact .inl rfl
      split; · exact .inl rfl
      split
      · unfold leaveW; split <;> exact .inl rfl
      split
      · unfold advW
        split
        · exact .inr rfl
        · exact .inl rfl
      split; · exact .inl rfl
      split; · exact .inl rfl
      exact .inl rfl
end Go.Proofs.Ytdgnejapofkadaa
