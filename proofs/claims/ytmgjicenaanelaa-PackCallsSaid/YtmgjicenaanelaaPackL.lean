/- The walk of the law PackCalls. -/
import Derived.Test.YtmgjicenaanelaaPackO
import Derived.Deep.RegionHeld3
namespace Go.Proofs.Ytmgjicenaanelaa
open Go.RowKit

theorem stepS {W a b : World} {g0 g1 g2 : Nat} {t0 t1 t2 : TypeId} {c0 c1 c2 : Array Value} {p : Prop} (k0 : Blk W g0 t0 c0) (k1 : Blk W g1 t1 c1) (k2 : Blk W g2 t2 c2)
    (h : Below W.heap.size W a ∧ p) (hb : Below a.heap.size a b) :
    Below W.heap.size W b ∧ (∀ i, b.cell? ⟨g0, i, none⟩ = c0[i]?) ∧ (∀ i, b.cell? ⟨g1, i, none⟩ = c1[i]?) ∧ (∀ i, b.cell? ⟨g2, i, none⟩ = c2[i]?) :=
  ⟨extW h.1 hb, fun i => (k0.extW (extW h.1 hb)).cell i, fun i => (k1.extW (extW h.1 hb)).cell i, fun i => (k2.extW (extW h.1 hb)).cell i⟩

section
variable (w : World)
set_option maxHeartbeats 2000000 in
theorem calls_law (ki ar va : Int) (df : Bool) (A : Option Addr) (c : Nat) (cs : List (Int × Int × Int)) (ph : Int) (B : Option Addr) (d : Nat) (l : List Int) (hcl : cs.length ≤ 9223372036854775807) (hr : RdF w caseC A cs)
    (hl : l.length ≤ 17592186044416) (hcap : l.length ≤ d) (hz : ∀ z ∈ l, 0 ≤ z ∧ z < 18446744073709551616) (hrl : RdI w .u64 B l) :
    Calls Try.prog 9 #[.agg #[.int .i64 ki, .int .i64 ar, .int .i64 va, .bool df, .slice A cs.length c], .int .i64 ph, .slice B l.length d] w fun e w' => e = .returned (.bool true) ∧ Below w.heap.size w w' := by
  have HX := hide (fun w1 (h : Below w.heap.size w w1) => readcall_any w1 B d l hl hcap hz (hrl.below h))
  have HY := hide (fun w1 (h : Below w.heap.size w w1) => rreadcall_any w1 B d l hcap hz (hrl.below h))
  have HF := hide (fun w1 (h : Below w.heap.size w w1) => fits_any w1 ki ar va df A c cs hcl (hr.below h))
  have HG := hide (fun w1 (h : Below w.heap.size w w1) => rfits_any w1 ki ar va df A c cs hcl (hr.below h))
  have HC := hide (fun w1 (h : Below w.heap.size w w1) => call_any w1 ki ar va df A c cs ph hcl (hr.below h))
  have HD := hide (fun w1 (h : Below w.heap.size w w1) => rcall_any w1 ki ar va df A c cs ph hcl (hr.below h))
  have hb4 := callL_len ki ar va df cs ph
  have HW := hide (fun w1 C c' D d' (hx : RdI w1 .u64 C (callL ki ar va df cs ph)) (hy : RdI w1 .u64 D (callL ki ar va df cs ph)) => words_eq C D c' d' _ _ w1 rfl hb4 hx hy)
  have hq1 : (qC l).length ≤ 9223372036854775807 := by
    unfold qC; split
    · unfold rdCs; simp; omega
    · simp
  have HR := hide (fun w1 C c' D d' (hx : RdF w1 caseC C (qC l)) (hy : RdF w1 caseC D (qC l)) => req_any w1 C D c' d' (qK l) (qA l) (qV l) (qD l) (qC l) (qK l) (qA l) (qV l) (qD l) (qC l) hq1 hq1 hx hy)
  rw [show reqB (qK l) (qA l) (qV l) (qD l) (qC l) (qK l) (qA l) (qV l) (qD l) (qC l) = true from by simp [reqB]] at HR
  unfold RetL at HX HY
  generalize callL ki ar va df cs ph = L at HC HD HW
  generalize fitsQ ki ar va cs = ft at HF HG
  generalize qK l = k1 at HX HY HR
  generalize qA l = a1 at HX HY HR
  generalize qV l = v1 at HX HY HR
  generalize qD l = f1 at HX HY HR
  generalize qP l = p1 at HX HY
  generalize qC l = s1 at HX HY HR
  generalize readB l = ok at HX HY
  obtain ⟨n, hn⟩ : ∃ n, n = cs.length := ⟨_, rfl⟩
  rw [← hn] at HF HG HC HD ⊢
  obtain ⟨nl, hnl⟩ : ∃ nl, nl = l.length := ⟨_, rfl⟩
  rw [← hnl] at HX HY ⊢
  clear hn hnl hb4 hq1 hl hcap hz hrl hr hcl
  have HQ0 := hide (Blk.new w 50 #[.int .i64 ki, .int .i64 ar, .int .i64 va, .bool df, .slice A n c])
  have HB0 := hide (moreW (selfW w) (.cells #[.int .i64 ki, .int .i64 ar, .int .i64 va, .bool df, .slice A n c] 50))
  go_enter Try.func9, Try.ntmps9
  go_wp2_with fail
  refine (HX.out _ HB0.out).mono ?_
  rintro e w1 ⟨⟨B1, d1, rfl, hr1⟩, hb⟩
  have HQ1 := hide ((HQ0.out.extW hb).alloc (.cells #[.int .i64 k1, .int .i64 a1, .int .i64 v1, .bool f1, .slice B1 s1.length d1] 50))
  have HP1 := hide (Blk.new w1 50 #[.int .i64 k1, .int .i64 a1, .int .i64 v1, .bool f1, .slice B1 s1.length d1])
  have HB1 := hide (moreW (extW HB0.out hb) (.cells #[.int .i64 k1, .int .i64 a1, .int .i64 v1, .bool f1, .slice B1 s1.length d1] 50))
  have HR1 := hide (hr1.alloc (.cells #[.int .i64 k1, .int .i64 a1, .int .i64 v1, .bool f1, .slice B1 s1.length d1] 50))
  clear hb hr1 HQ0 HB0
  go_wp2_with fail
  refine (HY.out _ HB1.out).mono ?_
  rintro e w2 ⟨⟨B2, d2, rfl, hr2⟩, hb⟩
  have HQ2 := hide ((HQ1.out.extW hb).alloc (.cells #[.int .i64 k1, .int .i64 a1, .int .i64 v1, .bool f1, .slice B2 s1.length d2] 50))
  have HP2 := hide ((HP1.out.extW hb).alloc (.cells #[.int .i64 k1, .int .i64 a1, .int .i64 v1, .bool f1, .slice B2 s1.length d2] 50))
  have HT2 := hide (Blk.new w2 50 #[.int .i64 k1, .int .i64 a1, .int .i64 v1, .bool f1, .slice B2 s1.length d2])
  have HB2 := hide (moreW (extW HB1.out hb) (.cells #[.int .i64 k1, .int .i64 a1, .int .i64 v1, .bool f1, .slice B2 s1.length d2] 50))
  have HR2 := hide ((HR1.out.below hb).alloc (.cells #[.int .i64 k1, .int .i64 a1, .int .i64 v1, .bool f1, .slice B2 s1.length d2] 50))
  have HS2 := hide (hr2.alloc (.cells #[.int .i64 k1, .int .i64 a1, .int .i64 v1, .bool f1, .slice B2 s1.length d2] 50))
  clear hb hr2 HQ1 HP1 HB1 HR1
  go_wp2_with fail
  generalize w2.alloc (.cells #[.int .i64 k1, .int .i64 a1, .int .i64 v1, .bool f1, .slice B2 s1.length d2] 50) = W at HQ2 HP2 HT2 HB2 HR2 HS2 ⊢
  have HBX := hide (fun (w1 : World) (p : Prop) (h : Below W.heap.size W w1 ∧ p) => extW HB2.out h.1)
  go_region_held3 (fun w' => Below W.heap.size W w' ∧ (∀ i, w'.cell? ⟨w.heap.size, i, none⟩ = #[.int .i64 ki, .int .i64 ar, .int .i64 va, .bool df, .slice A n c][i]?) ∧ (∀ i, w'.cell? ⟨w1.heap.size, i, none⟩ = #[.int .i64 k1, .int .i64 a1, .int .i64 v1, .bool f1, .slice B1 s1.length d1][i]?) ∧ (∀ i, w'.cell? ⟨w2.heap.size, i, none⟩ = #[.int .i64 k1, .int .i64 a1, .int .i64 v1, .bool f1, .slice B2 s1.length d2][i]?))
    (first | assumption | (exact stepS HQ2.out HP2.out HT2.out (p := True) ⟨selfW _, trivial⟩ (below_drewN (n := 1) (selfW _))))
    (first
      | (go_at_call 40; refine (HF.out _ (HBX.out _ _ (by assumption))).mono ?_; rintro e w' ⟨rfl, hb⟩; have hS := stepS HQ2.out HP2.out HT2.out (by assumption) hb; clear hb)
      | (go_at_call 41; refine (HG.out _ (HBX.out _ _ (by assumption))).mono ?_; rintro e w' ⟨rfl, hb⟩; have hS := stepS HQ2.out HP2.out HT2.out (by assumption) hb; clear hb)
      | (go_at_call 42; refine (HC.out _ (HBX.out _ _ (by assumption))).mono ?_; rintro e w' ⟨⟨BX, dX, rfl, _, hrX⟩, hb⟩; have hS := stepS HQ2.out HP2.out HT2.out (by assumption) hb; clear hb)
      | (go_at_call 43; refine (HD.out _ (HBX.out _ _ (by assumption))).mono ?_; rintro e w' ⟨⟨BY, dY, rfl, hrY⟩, hb⟩; have hS := stepS HQ2.out HP2.out HT2.out (by assumption) hb; have hrX2 := hrX.below hb; clear hb)
      | (go_at_call 15; refine (HW.out _ BX dX BY dY hrX2 hrY).mono ?_; rintro e w' ⟨rfl, hb⟩; have hS := stepS HQ2.out HP2.out HT2.out (by assumption) hb; clear hb)
      | (go_at_call 44; refine (HR.out _ B1 d1 B2 d2 (HR2.out.below (And.left (by assumption))) (HS2.out.below (And.left (by assumption)))).mono ?_; rintro e w' ⟨rfl, hb⟩; have hS := stepS HQ2.out HP2.out HT2.out (by assumption) hb; clear hb)
      | (go_at_call 37; refine (awake02 _).mono ?_; rintro e w' ⟨rfl, hb⟩; have hS := stepS HQ2.out HP2.out HT2.out (by assumption) hb; clear hb))
  go_wp2_with fail
  go_ret
  exact ⟨rfl, HBX.out _ _ (by assumption)⟩
end
end Go.Proofs.Ytmgjicenaanelaa
