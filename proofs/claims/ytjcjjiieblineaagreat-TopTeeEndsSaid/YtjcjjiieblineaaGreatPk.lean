/- Walks and plain facts. No condition. -/
import Derived.Test.YtjcjjiieblineaaGreatPg
namespace Go.Proofs.YtjcjjiieblineaaGreat
open Go.Proofs.Tryz Mo
set_option maxHeartbeats 8000000
set_option maxRecDepth 100000
set_option linter.all false
namespace Mo
theorem aeh:DM 2 6=true:=by decide+kernel
end Mo
end Go.Proofs.YtjcjjiieblineaaGreat
