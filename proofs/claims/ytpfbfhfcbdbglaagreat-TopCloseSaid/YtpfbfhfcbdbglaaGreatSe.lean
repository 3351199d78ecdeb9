/- Walks and plain facts. No condition. -/
import Derived.Test.YtpfbfhfcbdbglaaGreatSd
import Derived.ChangeSame
import Derived.Deep.Fields
import Derived.Deep.Slices
import Derived.Lib.SmallJoins
import Derived.OpenShut
import Derived.ProofKit
import Derived.SizedLaws
namespace Go.Proofs.YtpfbfhfcbdbglaaGreat
open Go.RowKit Go.Proofs.Tryz
set_option maxHeartbeats 8000000
set_option maxRecDepth 100000
set_option linter.all false
theorem XM{P:Prop}(h:P:=by
 go_wp2_with fail;refine HD.Y.mono ?_;rintro e a ⟨⟨v,rfl⟩,h⟩;have HA2:=ae h;clear h HD;go_wp2_with fail;go_roundw;case rel=>exact⟨j+1,by omega,by go_num,HA2⟩
 case measure=>simp[intOf];omega):P:=h
theorem RS{P:Prop}(h:P:=by
 go_wp2_with fail;refine(HAW.Y w2).mono ?_;rintro e b ⟨rfl,a⟩;have bU:=ae (ah bB.Y a);clear a;go_wp2_with fail;go_ret;exact⟨rfl,bU.Y⟩):P:=h
end Go.Proofs.YtpfbfhfcbdbglaaGreat
