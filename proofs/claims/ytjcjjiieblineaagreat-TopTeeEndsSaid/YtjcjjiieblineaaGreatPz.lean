/- Walks and plain facts. No condition. -/
import Derived.Test.YtjcjjiieblineaaGreatPu
import Derived.Test.YtjcjjiieblineaaGreatPy
namespace Go.Proofs.YtjcjjiieblineaaGreat
open Go.ChangeShapes Go.WideShapes Go.Deep Go.Joins Go.RowKit Go.Proofs.Tryz Mo
set_option maxHeartbeats 8000000
set_option maxRecDepth 100000
set_option linter.all false
section
variable{H:Type} {enc:TypeId×Value->H} {P:Program} {w:World} {base:Nat} {spare:Nat->Bool} {held:Bool}
end
section
variable{H:Type} {enc:TypeId×Value->H} {w:World}
end
end Go.Proofs.YtjcjjiieblineaaGreat
