/- Walks and plain facts. No condition. -/
import Derived.Test.YtpfbfhfcbdbglaaGreatPa
namespace Go.Proofs.YtpfbfhfcbdbglaaGreat
open Go.Proofs.Tryz Mo
set_option maxHeartbeats 8000000
set_option maxRecDepth 100000
set_option linter.all false
namespace Mo
variable{x:Mc}
theorem DA{t:Nat}(h:t<x.T.length):x.T[t]?=some (cC x t):=by unfold cC;rw[ew,cq h];rfl
theorem KM{t:Nat}{q:Rq}:(eu x t q).1.T.length=x.T.length/\(eu x t q).1.c=x.c:=by
 unfold eu;dsimp only;split
 .exact⟨rfl,rfl⟩
 .exact⟨dN,rfl⟩
end Mo
end Go.Proofs.YtpfbfhfcbdbglaaGreat
