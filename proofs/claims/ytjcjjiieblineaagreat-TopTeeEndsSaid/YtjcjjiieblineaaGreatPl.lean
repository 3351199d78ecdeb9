/- Walks and plain facts. No condition. -/
import Derived.Test.YtjcjjiieblineaaGreatPh
import Derived.Test.YtjcjjiieblineaaGreatPi
import Derived.Test.YtjcjjiieblineaaGreatPj
import Derived.Test.YtjcjjiieblineaaGreatPk
namespace Go.Proofs.YtjcjjiieblineaaGreat
open Go.Proofs.Tryz Mo
set_option maxHeartbeats 8000000
set_option maxRecDepth 100000
set_option linter.all false
namespace Mo
theorem aei:DM 1 0=true:=by decide+kernel
end Mo
end Go.Proofs.YtjcjjiieblineaaGreat
