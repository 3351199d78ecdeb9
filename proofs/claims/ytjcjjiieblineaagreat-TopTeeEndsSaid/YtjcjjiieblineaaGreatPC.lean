/- Walks and plain facts. No condition. -/
import Derived.Test.YtjcjjiieblineaaGreatPl
import Derived.Test.YtjcjjiieblineaaGreatPB
namespace Go.Proofs.YtjcjjiieblineaaGreat
open Go.RowKit Go.Proofs.Tryz Mo
set_option maxHeartbeats 8000000
set_option maxRecDepth 100000
set_option linter.all false
theorem WK{n m:Nat}(a:n=1\/n=2)(b:m<=6):DM n m=true:=by
 rcases a with rfl|rfl
 ·rcases(by omega:m=0\/m=1\/m=2\/m=3\/m=4\/m=5\/m=6)with rfl|rfl|rfl|rfl|rfl|rfl|rfl
  ·exact aei
  ·exact ad4
  ·exact ad6
  ·exact ad7
  ·exact ad8
  ·exact ad9
  ·exact aea
 ·rcases(by omega:m=0\/m=1\/m=2\/m=3\/m=4\/m=5\/m=6)with rfl|rfl|rfl|rfl|rfl|rfl|rfl
  ·exact aeb
  ·exact aec
  ·exact aed
  ·exact aee
  ·exact aef
  ·exact aeg
  ·exact aeh
theorem aa9(v:Int):0<=I5 v/\I5 v<=999:=by unfold I5;omega
section
variable{w:World} {A:Option Addr} {m c:Nat} {vals:List Int} {x:Int}
theorem WL(g:6<m\/x<1\/2<x):Calls prog 4 #[.slice A m c,x] w fun e l=>e=.returned true/\Below w w l:=by
 have b:=ae (BB w);go_enter func4,ntmps4;by_cases h:6<m
 ·have f:(6:Int)<(m:Int):=by omega
  clear g;go_wp2_with fail;refine b.Y.mono ?_;rintro e i ⟨rfl,a⟩;have d:=ae a;clear a;go_wp2_with fail;go_ret;exact⟨rfl,d⟩
 ·have f:(m:Int)<=6:=by omega
  by_cases j:x<1
  ·clear g h;go_wp2_with fail;refine b.Y.mono ?_;rintro e i ⟨rfl,a⟩;have d:=ae a;clear a;go_wp2_with fail;go_ret;exact⟨rfl,d⟩
  ·have k:1<=x:=by omega
   have n:2<x:=by omega
   clear g h j;go_wp2_with fail;refine b.Y.mono ?_;rintro e i ⟨rfl,a⟩;have d:=ae a;clear a;go_wp2_with fail;go_ret;exact⟨rfl,d⟩
theorem WM(d:bJ w .i64 A vals):Calls prog 4 #[.slice A vals.length c,x] w fun e g=>e=.returned true/\Below w w g:=by
 by_cases h:6<vals.length\/x<1\/2<x
 ·exact WL h
 ·obtain⟨n,rfl⟩:∃n:Nat,x=n:=⟨x.toNat,by omega⟩
  have b:(vals.map I5).length=vals.length:=cW _;obtain⟨N,a⟩:=Us (n:=n) (by omega) b (by omega) (fun v f=>by obtain⟨u,-,rfl⟩:=List.mem_map.1 f;exact aa9 u) (WK (by omega) (by omega));exact SD rfl d (by omega) (by omega) (by omega) _ rfl N a
end
end Go.Proofs.YtjcjjiieblineaaGreat
