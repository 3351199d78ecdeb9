/- Walks and plain facts. No condition. -/
import Derived.Test.YtjcjjiieblineaaGreatPm
namespace Go.Proofs.YtjcjjiieblineaaGreat
open Go.RowKit Go.Proofs.Tryz Mo
set_option maxHeartbeats 8000000
set_option maxRecDepth 100000
set_option linter.all false
section
variable(w:World)
def P13(c:bA)(w:World)(e:Ending)(a:World):Prop:=∃r,e=.returned (.int .i64 r)/\(r=0↔aU c=true)/\Below w w a
theorem P13.no{c:bA}{w a:World}(h:aU c=false)(b:Below w w a):P13 c w (.returned (.int .i64 1)) a:=⟨1,rfl,⟨fun e=>absurd e ag,fun e=>by rw[h]at e;cases e⟩,b⟩
end
end Go.Proofs.YtjcjjiieblineaaGreat
