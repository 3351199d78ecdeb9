/- Walks and plain facts. No condition. -/
import Derived.Test.YtjcjjiieblineaaGreatSd
import Derived.ChangeSame
import Derived.Deep.Fields
import Derived.Deep.Slices
import Derived.Lib.SmallJoins
import Derived.OpenShut
import Derived.ProofKit
import Derived.SizedLaws
namespace Go.Proofs.YtjcjjiieblineaaGreat
open Go.RowKit Go.Proofs.Tryz
set_option maxHeartbeats 8000000
set_option maxRecDepth 100000
set_option linter.all false
theorem Vx{P:Prop}(h:P:=by
 go_wp2_with fail;refine HD.out.mono ?_;rintro e w5 ⟨⟨v,rfl⟩,h⟩;have Z6:=aa h;clear h HD;go_wp2_with fail;go_roundw;case rel=>exact⟨j+1,by omega,by go_num,Z6⟩
 case measure=>simp[intOf];omega):P:=h
theorem Vy{P:Prop}(h:P:=by
 go_wp2_with fail;refine(Zm.out w2).mono ?_;rintro e w3 ⟨rfl,hb⟩;have bZ:=aa (ag bq.out hb);clear hb;go_wp2_with fail;go_ret;exact⟨rfl,bZ.out⟩):P:=h
end Go.Proofs.YtjcjjiieblineaaGreat
