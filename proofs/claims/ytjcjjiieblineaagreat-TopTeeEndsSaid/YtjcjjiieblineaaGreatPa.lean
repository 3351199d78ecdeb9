/- Walks and plain facts. No condition. -/
import Derived.Test.YtjcjjiieblineaaGreatSa
namespace Go.Proofs.YtjcjjiieblineaaGreat
open Go.Proofs.Tryz
set_option maxHeartbeats 8000000
set_option maxRecDepth 100000
set_option linter.all false

end Go.Proofs.YtjcjjiieblineaaGreat
