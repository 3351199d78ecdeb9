/-
  No cell of these rows narrows 'for every input' (looked for: loops, veiled, ifaces, maps, wideKeys, modest, calm, conditions, laid).
  DERIVED. THE GIVEN ROWS OF THIS SEAT. 6 by the template 'for every input the law returns true; each argument reads behind the call as it read before'; 0 by the template 'total and deterministic' (their statements: YtjcjjiieblineaaGreatTotals.lean).
  GIVEN WITH THE SEED: the statements are not yours to turn. If you find one false, say at which input.
  Laid BY PROGRAM, IN A SANDBOX (cutbox-rows.mjs): the forced cells as the released guide's own fill.sh prints them over the translation e3304d53f2908eb7… (all of the seat's roots in one cut). By AI agents, Wed Nov 11 2026. No macro, syntax, notation, axiom, sorry.
-/
import Derived.Test.YtjcjjiieblineaaGreatChecked
import GoSem.Claim
import GoSem.ClaimJoined
import GoSem.ClaimMapViews
import Derived.JoinedTies
import Derived.KernelRfl
namespace Go.Proofs.YtjcjjiieblineaaGreat
/- THE CELL 'sum', in the pinned program and in every row, IS THE sha256 OF THE DUMP (.gsa) THAT YtjcjjiieblineaaGreatProg.lean LOADS. Nothing in Lean hashes anything: it is a label: what it is worth is what the hold of that sum in a sandbox is worth. -/
noncomputable def Tryz.pinned : Pinned := { name := "ytjcjjiieblineaagreat", sum := "e3304d53f2908eb735e62cb12e800099edb1290cbb2478ee5a2d5c4fae042a0a", checked := Tryz.checked }
namespace Rows
def none {H : Type} : Left H := { results := [], args := [] }

/-- 'stopgatetop.TopWithdrawn': WHATEVER THE INPUT: true; the input reads as it did. -/
def topWithdrawnSpec : ChangeSpec := { name := "topWithdrawn", fn := fun _ => fun
  | [d1, d2] => { results := [.lit (.bool true)], args := [d1, d2] }
  | _ => none }
def topWithdrawnRow : OpenClaim := { program := "ytjcjjiieblineaagreat", sum := "e3304d53f2908eb735e62cb12e800099edb1290cbb2478ee5a2d5c4fae042a0a", func := "stopgate/stopgatetop.TopWithdrawn", spec := "topWithdrawn", unfollowed := true, recurses := true, apart := false }
def TopWithdrawnSaid : Prop := topWithdrawnRow.holds Tryz.pinned (OpenSpec.ofChange topWithdrawnSpec)

/-- ITS FALSE NEIGHBOUR: 'it returns false'. Refute it at one input. -/
def topWithdrawnWrong : ChangeSpec := { name := "topWithdrawn", fn := fun _ => fun
  | [d1, d2] => { results := [.lit (.bool false)], args := [d1, d2] }
  | _ => none }
def TopWithdrawnWrongFalsely : Prop := topWithdrawnRow.holds Tryz.pinned (OpenSpec.ofChange topWithdrawnWrong)

/-- 'stopgatetop.TopTeeEnds': WHATEVER THE INPUT: true; the input reads as it did. -/
def topTeeEndsSpec : ChangeSpec := { name := "topTeeEnds", fn := fun _ => fun
  | [d1, d2] => { results := [.lit (.bool true)], args := [d1, d2] }
  | _ => none }
def topTeeEndsRow : OpenClaim := { program := "ytjcjjiieblineaagreat", sum := "e3304d53f2908eb735e62cb12e800099edb1290cbb2478ee5a2d5c4fae042a0a", func := "stopgate/stopgatetop.TopTeeEnds", spec := "topTeeEnds", unfollowed := true, recurses := true, apart := false }
def TopTeeEndsSaid : Prop := topTeeEndsRow.holds Tryz.pinned (OpenSpec.ofChange topTeeEndsSpec)

/-- ITS FALSE NEIGHBOUR: 'it returns false'. Refute it at one input. -/
def topTeeEndsWrong : ChangeSpec := { name := "topTeeEnds", fn := fun _ => fun
  | [d1, d2] => { results := [.lit (.bool false)], args := [d1, d2] }
  | _ => none }
def TopTeeEndsWrongFalsely : Prop := topTeeEndsRow.holds Tryz.pinned (OpenSpec.ofChange topTeeEndsWrong)

/-- 'stopgatetop.TopSelect': WHATEVER THE INPUT: true; the input reads as it did. -/
def topSelectSpec : ChangeSpec := { name := "topSelect", fn := fun _ => fun
  | [d1, d2] => { results := [.lit (.bool true)], args := [d1, d2] }
  | _ => none }
def topSelectRow : OpenClaim := { program := "ytjcjjiieblineaagreat", sum := "e3304d53f2908eb735e62cb12e800099edb1290cbb2478ee5a2d5c4fae042a0a", func := "stopgate/stopgatetop.TopSelect", spec := "topSelect", unfollowed := true, recurses := true, apart := false }
def TopSelectSaid : Prop := topSelectRow.holds Tryz.pinned (OpenSpec.ofChange topSelectSpec)

/-- ITS FALSE NEIGHBOUR: 'it returns false'. Refute it at one input. -/
def topSelectWrong : ChangeSpec := { name := "topSelect", fn := fun _ => fun
  | [d1, d2] => { results := [.lit (.bool false)], args := [d1, d2] }
  | _ => none }
def TopSelectWrongFalsely : Prop := topSelectRow.holds Tryz.pinned (OpenSpec.ofChange topSelectWrong)

/-- 'stopgatetop.TopCancel': WHATEVER THE INPUT: true; the input reads as it did. -/
def topCancelSpec : ChangeSpec := { name := "topCancel", fn := fun _ => fun
  | [d1, d2] => { results := [.lit (.bool true)], args := [d1, d2] }
  | _ => none }
def topCancelRow : OpenClaim := { program := "ytjcjjiieblineaagreat", sum := "e3304d53f2908eb735e62cb12e800099edb1290cbb2478ee5a2d5c4fae042a0a", func := "stopgate/stopgatetop.TopCancel", spec := "topCancel", unfollowed := true, recurses := true, apart := false }
def TopCancelSaid : Prop := topCancelRow.holds Tryz.pinned (OpenSpec.ofChange topCancelSpec)

/-- ITS FALSE NEIGHBOUR: 'it returns false'. Refute it at one input. -/
def topCancelWrong : ChangeSpec := { name := "topCancel", fn := fun _ => fun
  | [d1, d2] => { results := [.lit (.bool false)], args := [d1, d2] }
  | _ => none }
def TopCancelWrongFalsely : Prop := topCancelRow.holds Tryz.pinned (OpenSpec.ofChange topCancelWrong)

/-- 'stopgatetop.TopClose': WHATEVER THE INPUT: true; the input reads as it did. -/
def topCloseSpec : ChangeSpec := { name := "topClose", fn := fun _ => fun
  | [d1, d2] => { results := [.lit (.bool true)], args := [d1, d2] }
  | _ => none }
def topCloseRow : OpenClaim := { program := "ytjcjjiieblineaagreat", sum := "e3304d53f2908eb735e62cb12e800099edb1290cbb2478ee5a2d5c4fae042a0a", func := "stopgate/stopgatetop.TopClose", spec := "topClose", unfollowed := true, recurses := true, apart := false }
def TopCloseSaid : Prop := topCloseRow.holds Tryz.pinned (OpenSpec.ofChange topCloseSpec)

/-- ITS FALSE NEIGHBOUR: 'it returns false'. Refute it at one input. -/
def topCloseWrong : ChangeSpec := { name := "topClose", fn := fun _ => fun
  | [d1, d2] => { results := [.lit (.bool false)], args := [d1, d2] }
  | _ => none }
def TopCloseWrongFalsely : Prop := topCloseRow.holds Tryz.pinned (OpenSpec.ofChange topCloseWrong)

/-- 'stopgatetop.TopTee': WHATEVER THE INPUT: true; the input reads as it did. -/
def topTeeSpec : ChangeSpec := { name := "topTee", fn := fun _ => fun
  | [d1, d2] => { results := [.lit (.bool true)], args := [d1, d2] }
  | _ => none }
def topTeeRow : OpenClaim := { program := "ytjcjjiieblineaagreat", sum := "e3304d53f2908eb735e62cb12e800099edb1290cbb2478ee5a2d5c4fae042a0a", func := "stopgate/stopgatetop.TopTee", spec := "topTee", unfollowed := true, recurses := true, apart := false }
def TopTeeSaid : Prop := topTeeRow.holds Tryz.pinned (OpenSpec.ofChange topTeeSpec)

/-- ITS FALSE NEIGHBOUR: 'it returns false'. Refute it at one input. -/
def topTeeWrong : ChangeSpec := { name := "topTee", fn := fun _ => fun
  | [d1, d2] => { results := [.lit (.bool false)], args := [d1, d2] }
  | _ => none }
def TopTeeWrongFalsely : Prop := topTeeRow.holds Tryz.pinned (OpenSpec.ofChange topTeeWrong)

/- THE SECOND FORM. 'bulk': how many values and letters a reading holds, each counted each time it is reached (what is shared counts as often as it is met; a slice's spare places count too). A statement '..UptoSaid' is the law's where the arguments, and the package variables that the reading takes, are together of bulk at most 1048576: NARROWER than '..Said'. Prove '..Said' where nothing that the law and all that it calls make is longer than what came in: it says more and counts as full. Else prove '..UptoSaid'. A law counts once. -/
mutual
def uptoBulk {H : Type} : DataW H → Nat
  | .lit (.string bytes) => bytes.length + 1
  | .lit _ => 1
  | .nil => 1
  | .ptr d => uptoBulk d + 1
  | .slice elems spare => uptoBulkAll elems + uptoBulkAll spare + 1
  | .agg parts => uptoBulkAll parts + 1
  | .iface _ d => uptoBulk d + 1
  | .map entries => uptoBulkEntries entries + 1
  | .held _ => 1
def uptoBulkAll {H : Type} : List (DataW H) → Nat
  | [] => 0
  | d :: r => uptoBulk d + uptoBulkAll r
def uptoBulkEntries {H : Type} : List (Lit × DataW H) → Nat
  | [] => 0
  | x :: r => uptoBulkEntry x + uptoBulkEntries r
def uptoBulkEntry {H : Type} : Lit × DataW H → Nat
  | (.string bytes, d) => bytes.length + uptoBulk d + 1
  | (_, d) => uptoBulk d + 1
 end
def uptoSmall : (H : Type) → List (DataW H) → Bool := fun _ ds => decide (uptoBulkAll ds ≤ 1048576)
def OpenSpec.upto (s : _root_.Go.ChangeSpec) : _root_.Go.OpenSpec := { _root_.Go.OpenSpec.ofChange s with cond := some uptoSmall }

/-- 'stopgatetop.TopWithdrawn', WHERE WHAT IT READS IS OF BULK AT MOST 1048576: true; the input reads as it did. -/
def topWithdrawnUptoRow : OpenClaim := { program := "ytjcjjiieblineaagreat", sum := "e3304d53f2908eb735e62cb12e800099edb1290cbb2478ee5a2d5c4fae042a0a", func := "stopgate/stopgatetop.TopWithdrawn", spec := "topWithdrawn", unfollowed := true, recurses := true, apart := false, narrowed := true }
def TopWithdrawnUptoSaid : Prop := topWithdrawnUptoRow.holds Tryz.pinned (OpenSpec.upto topWithdrawnSpec)

/-- 'stopgatetop.TopTeeEnds', WHERE WHAT IT READS IS OF BULK AT MOST 1048576: true; the input reads as it did. -/
def topTeeEndsUptoRow : OpenClaim := { program := "ytjcjjiieblineaagreat", sum := "e3304d53f2908eb735e62cb12e800099edb1290cbb2478ee5a2d5c4fae042a0a", func := "stopgate/stopgatetop.TopTeeEnds", spec := "topTeeEnds", unfollowed := true, recurses := true, apart := false, narrowed := true }
def TopTeeEndsUptoSaid : Prop := topTeeEndsUptoRow.holds Tryz.pinned (OpenSpec.upto topTeeEndsSpec)

/-- 'stopgatetop.TopSelect', WHERE WHAT IT READS IS OF BULK AT MOST 1048576: true; the input reads as it did. -/
def topSelectUptoRow : OpenClaim := { program := "ytjcjjiieblineaagreat", sum := "e3304d53f2908eb735e62cb12e800099edb1290cbb2478ee5a2d5c4fae042a0a", func := "stopgate/stopgatetop.TopSelect", spec := "topSelect", unfollowed := true, recurses := true, apart := false, narrowed := true }
def TopSelectUptoSaid : Prop := topSelectUptoRow.holds Tryz.pinned (OpenSpec.upto topSelectSpec)

/-- 'stopgatetop.TopCancel', WHERE WHAT IT READS IS OF BULK AT MOST 1048576: true; the input reads as it did. -/
def topCancelUptoRow : OpenClaim := { program := "ytjcjjiieblineaagreat", sum := "e3304d53f2908eb735e62cb12e800099edb1290cbb2478ee5a2d5c4fae042a0a", func := "stopgate/stopgatetop.TopCancel", spec := "topCancel", unfollowed := true, recurses := true, apart := false, narrowed := true }
def TopCancelUptoSaid : Prop := topCancelUptoRow.holds Tryz.pinned (OpenSpec.upto topCancelSpec)

/-- 'stopgatetop.TopClose', WHERE WHAT IT READS IS OF BULK AT MOST 1048576: true; the input reads as it did. -/
def topCloseUptoRow : OpenClaim := { program := "ytjcjjiieblineaagreat", sum := "e3304d53f2908eb735e62cb12e800099edb1290cbb2478ee5a2d5c4fae042a0a", func := "stopgate/stopgatetop.TopClose", spec := "topClose", unfollowed := true, recurses := true, apart := false, narrowed := true }
def TopCloseUptoSaid : Prop := topCloseUptoRow.holds Tryz.pinned (OpenSpec.upto topCloseSpec)

/-- 'stopgatetop.TopTee', WHERE WHAT IT READS IS OF BULK AT MOST 1048576: true; the input reads as it did. -/
def topTeeUptoRow : OpenClaim := { program := "ytjcjjiieblineaagreat", sum := "e3304d53f2908eb735e62cb12e800099edb1290cbb2478ee5a2d5c4fae042a0a", func := "stopgate/stopgatetop.TopTee", spec := "topTee", unfollowed := true, recurses := true, apart := false, narrowed := true }
def TopTeeUptoSaid : Prop := topTeeUptoRow.holds Tryz.pinned (OpenSpec.upto topTeeSpec)

end Rows
end Go.Proofs.YtjcjjiieblineaaGreat
