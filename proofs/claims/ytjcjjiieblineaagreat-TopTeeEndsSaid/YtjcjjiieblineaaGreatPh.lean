/- Walks and plain facts. No condition. -/
import Derived.Test.YtjcjjiieblineaaGreatPg
namespace Go.Proofs.YtjcjjiieblineaaGreat
open Go.Proofs.Tryz Mo
set_option maxHeartbeats 8000000
set_option maxRecDepth 100000
set_option linter.all false
namespace Mo
theorem ad4:DM 1 1=true:=by decide+kernel
end Mo
namespace Mo
theorem ad6:DM 1 2=true:=by decide+kernel
end Mo
namespace Mo
theorem ad7:DM 1 3=true:=by decide+kernel
end Mo
namespace Mo
theorem ad8:DM 1 4=true:=by decide+kernel
end Mo
namespace Mo
theorem ad9:DM 1 5=true:=by decide+kernel
end Mo
namespace Mo
theorem aea:DM 1 6=true:=by decide+kernel
end Mo
namespace Mo
theorem aeb:DM 2 0=true:=by decide+kernel
end Mo
namespace Mo
theorem aec:DM 2 1=true:=by decide+kernel
end Mo
namespace Mo
theorem aed:DM 2 2=true:=by decide+kernel
end Mo
namespace Mo
theorem aee:DM 2 3=true:=by decide+kernel
end Mo
end Go.Proofs.YtjcjjiieblineaaGreat
