/- TopTeeEnds: for every input the law returns true, and its arguments read as before. No condition. -/
import Derived.Test.YtjcjjiieblineaaGreatPC
namespace Go.Proofs.YtjcjjiieblineaaGreat.lawTopTeeEnds
open Go.ChangeShapes Go.WideShapes Go.ChangeAt Go.RowKit Go.Proofs.Tryz Mo
set_option maxHeartbeats 8000000
set_option maxRecDepth 100000
set_option linter.all false
theorem lifted(o:Os)(a:o.Started)(H:Type)(enc:TypeId×Value->H) :
 ReturnsInHanded {} Tryz.checked o 4 .any (Rows.topTeeEndsSpec.pre6 enc Tryz.prog Tryz.f4 Rows.topTeeEndsRow.domain false) (Rows.topTeeEndsSpec.post enc Tryz.prog Tryz.f4 false true false false):=by
 refine returnsInHanded_of_change_sized (C:=Tryz.checked) Tryz.own a (by kernel_rfl) Tryz.func4
  (ChangeSpec.witness6 (enc:=enc) (C:=Tryz.checked) false ⟨#[],#[.slice none 0 0,.int .i64 0],[]⟩ 8 (by kernel_rfl) (by kernel_rfl) (by kernel_rfl) (by kernel_rfl)) ?_
 intro W base args f i before h e _ n _
 have d:(DataW.weightsEach Tryz.prog (Tryz.f4.params.toList++Rows.topTeeEndsSpec.plain.varTypes Tryz.prog) (f++i)).all (·<=reachBytes)=true:=n
 have hval:∀(j:Nat) t v,Tryz.f4.params[j]?=some t->args[j]?=some v->Value.okWide Tryz.prog W .any base t v:=h
 have c:DataW.Whole enc Tryz.prog Tryz.f4.params.toList Rows.topTeeEndsSpec.vars false W args.toList f i before:=e
 clear n h e
 have e:=c
 obtain⟨p,q,b,u,rfl,_,_⟩:=e
 have l:DataW.TrodAll enc Tryz.prog W 0 (fun _=>true) true Tryz.f4.params.toList args.toList f p:=b
 clear b
 rw[Tryz.params4]at l hval d
 obtain⟨y,z,d0,d1,E,F,rfl,rfl,rfl,r,s⟩:=trodAll_two l
 obtain⟨rfl,rfl⟩:=trodVars_none u
 refine CV (P:=Tryz.prog) (k:=4) (fn:=Tryz.f4) Tryz.laidOut rfl Tryz.underlying4 rfl (by rw[Tryz.params4];intro t m;simp at m;rcases m with rfl|rfl<;>exact⟨by kernel_rfl,of_decide_eq_true (by kernel_rfl)⟩) ⟨rfl,rfl,rfl⟩ c ?_
 obtain⟨A,D,B,rfl⟩:=okWide_slice Tryz.underlying22 (hval 0 22 y rfl rfl)
 obtain⟨J,rfl,g,x,w⟩:=Ss (j:=0) Tryz.underlying22 Tryz.underlying3 (by kernel_rfl) (by kernel_rfl) d rfl rfl r
 obtain⟨I,rfl,rfl,rfl,G⟩:=open_int Tryz.underlying3 (hval 1 3 z rfl rfl) s
 exact WM g
theorem over:Rows.topTeeEndsRow.holds Tryz.pinned (OpenSpec.ofChange Rows.topTeeEndsSpec) :=
 OpenClaim.holds_of_wide 4 Tryz.f4 rfl rfl rfl rfl rfl rfl rfl ⟨rfl,rfl,rfl,rfl,rfl⟩ rfl rfl rfl rfl rfl (by kernel_rfl) Tryz.func4 (by kernel_rfl)
  (of_decide_eq_true (by kernel_rfl)) (by unfold Func.isWrapper;first|(rw[au (by decide+kernel)];kernel_rfl)|(rw[ah (by decide+kernel)];exact⟨rfl,rfl⟩))
  (fun c a H b _=>lifted c a H b)
theorem proved:Rows.TopTeeEndsSaid:=over
end Go.Proofs.YtjcjjiieblineaaGreat.lawTopTeeEnds
