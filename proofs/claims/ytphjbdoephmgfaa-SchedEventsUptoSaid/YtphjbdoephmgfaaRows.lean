/-
  No cell of these rows narrows 'for every input' (looked for: loops, veiled, ifaces, maps, wideKeys, modest, calm, conditions, laid).
  DERIVED. THE GIVEN ROWS OF THIS SEAT. 5 by the template 'for every input the law returns true; each argument reads behind the call as it read before'; 0 by the template 'total and deterministic' (their statements: YtphjbdoephmgfaaTotals.lean).
  GIVEN WITH THE SEED: the statements are not yours to turn. If you find one false, say at which input.
  Laid BY PROGRAM, IN A SANDBOX (cutbox-rows.mjs): the forced cells as the released guide's own fill.sh prints them over the translation 69e3522d6bbd00e9… (all of the seat's roots in one cut). By AI agents, Wed Nov 11 2026. No macro, syntax, notation, axiom, sorry.
-/
import Derived.Test.YtphjbdoephmgfaaChecked
import GoSem.Claim
import GoSem.ClaimJoined
import GoSem.ClaimMapViews
import Derived.JoinedTies
import Derived.KernelRfl
namespace Go.Proofs.Ytphjbdoephmgfaa
/- THE CELL 'sum', in the pinned program and in every row, IS THE sha256 OF THE DUMP (.gsa) THAT YtphjbdoephmgfaaProg.lean LOADS. Nothing in Lean hashes anything: it is a label: what it is worth is what the hold of that sum in a sandbox is worth. -/
noncomputable def Try.pinned : Pinned := { name := "ytphjbdoephmgfaa", sum := "69e3522d6bbd00e9b6bd5bee15040c16231faaa56027954d7a5d1a5e389e7f88", checked := Try.checked }
namespace Rows
def none {H : Type} : Left H := { results := [], args := [] }

/-- 'stopgatelaw29.SchedStalls': WHATEVER THE INPUT: true; the input reads as it did. -/
def schedStallsSpec : ChangeSpec := { name := "schedStalls", fn := fun _ => fun
  | [d1, d2, d3, d4] => { results := [.lit (.bool true)], args := [d1, d2, d3, d4] }
  | _ => none }
def schedStallsRow : OpenClaim := { program := "ytphjbdoephmgfaa", sum := "69e3522d6bbd00e9b6bd5bee15040c16231faaa56027954d7a5d1a5e389e7f88", func := "stopgate/stopgatelaw29.SchedStalls", spec := "schedStalls", unfollowed := true, recurses := true, apart := false }
def SchedStallsSaid : Prop := schedStallsRow.holds Try.pinned (OpenSpec.ofChange schedStallsSpec)

/-- ITS FALSE NEIGHBOUR: 'it returns false'. Refute it at one input. -/
def schedStallsWrong : ChangeSpec := { name := "schedStalls", fn := fun _ => fun
  | [d1, d2, d3, d4] => { results := [.lit (.bool false)], args := [d1, d2, d3, d4] }
  | _ => none }
def SchedStallsWrongFalsely : Prop := schedStallsRow.holds Try.pinned (OpenSpec.ofChange schedStallsWrong)

/-- 'stopgatelaw29.SchedFair': WHATEVER THE INPUT: true; the input reads as it did. -/
def schedFairSpec : ChangeSpec := { name := "schedFair", fn := fun _ => fun
  | [d1, d2, d3] => { results := [.lit (.bool true)], args := [d1, d2, d3] }
  | _ => none }
def schedFairRow : OpenClaim := { program := "ytphjbdoephmgfaa", sum := "69e3522d6bbd00e9b6bd5bee15040c16231faaa56027954d7a5d1a5e389e7f88", func := "stopgate/stopgatelaw29.SchedFair", spec := "schedFair", unfollowed := true, recurses := true, apart := false }
def SchedFairSaid : Prop := schedFairRow.holds Try.pinned (OpenSpec.ofChange schedFairSpec)

/-- ITS FALSE NEIGHBOUR: 'it returns false'. Refute it at one input. -/
def schedFairWrong : ChangeSpec := { name := "schedFair", fn := fun _ => fun
  | [d1, d2, d3] => { results := [.lit (.bool false)], args := [d1, d2, d3] }
  | _ => none }
def SchedFairWrongFalsely : Prop := schedFairRow.holds Try.pinned (OpenSpec.ofChange schedFairWrong)

/-- 'stopgatelaw29.SchedWider': WHATEVER THE INPUT: true; the input reads as it did. -/
def schedWiderSpec : ChangeSpec := { name := "schedWider", fn := fun _ => fun
  | [d1, d2, d3, d4] => { results := [.lit (.bool true)], args := [d1, d2, d3, d4] }
  | _ => none }
def schedWiderRow : OpenClaim := { program := "ytphjbdoephmgfaa", sum := "69e3522d6bbd00e9b6bd5bee15040c16231faaa56027954d7a5d1a5e389e7f88", func := "stopgate/stopgatelaw29.SchedWider", spec := "schedWider", unfollowed := true, recurses := true, apart := false }
def SchedWiderSaid : Prop := schedWiderRow.holds Try.pinned (OpenSpec.ofChange schedWiderSpec)

/-- ITS FALSE NEIGHBOUR: 'it returns false'. Refute it at one input. -/
def schedWiderWrong : ChangeSpec := { name := "schedWider", fn := fun _ => fun
  | [d1, d2, d3, d4] => { results := [.lit (.bool false)], args := [d1, d2, d3, d4] }
  | _ => none }
def SchedWiderWrongFalsely : Prop := schedWiderRow.holds Try.pinned (OpenSpec.ofChange schedWiderWrong)

/-- 'stopgatelaw29.SchedEvents': WHATEVER THE INPUT: true; the input reads as it did. -/
def schedEventsSpec : ChangeSpec := { name := "schedEvents", fn := fun _ => fun
  | [d1, d2] => { results := [.lit (.bool true)], args := [d1, d2] }
  | _ => none }
def schedEventsRow : OpenClaim := { program := "ytphjbdoephmgfaa", sum := "69e3522d6bbd00e9b6bd5bee15040c16231faaa56027954d7a5d1a5e389e7f88", func := "stopgate/stopgatelaw29.SchedEvents", spec := "schedEvents", unfollowed := true, recurses := true, apart := false }
def SchedEventsSaid : Prop := schedEventsRow.holds Try.pinned (OpenSpec.ofChange schedEventsSpec)

/-- ITS FALSE NEIGHBOUR: 'it returns false'. Refute it at one input. -/
def schedEventsWrong : ChangeSpec := { name := "schedEvents", fn := fun _ => fun
  | [d1, d2] => { results := [.lit (.bool false)], args := [d1, d2] }
  | _ => none }
def SchedEventsWrongFalsely : Prop := schedEventsRow.holds Try.pinned (OpenSpec.ofChange schedEventsWrong)

/-- 'stopgatelaw29.SchedMakes': WHATEVER THE INPUT: true; the input reads as it did. -/
def schedMakesSpec : ChangeSpec := { name := "schedMakes", fn := fun _ => fun
  | [d1, d2, d3, d4, d5] => { results := [.lit (.bool true)], args := [d1, d2, d3, d4, d5] }
  | _ => none }
def schedMakesRow : OpenClaim := { program := "ytphjbdoephmgfaa", sum := "69e3522d6bbd00e9b6bd5bee15040c16231faaa56027954d7a5d1a5e389e7f88", func := "stopgate/stopgatelaw29.SchedMakes", spec := "schedMakes", unfollowed := true, recurses := true, apart := false }
def SchedMakesSaid : Prop := schedMakesRow.holds Try.pinned (OpenSpec.ofChange schedMakesSpec)

/-- ITS FALSE NEIGHBOUR: 'it returns false'. Refute it at one input. -/
def schedMakesWrong : ChangeSpec := { name := "schedMakes", fn := fun _ => fun
  | [d1, d2, d3, d4, d5] => { results := [.lit (.bool false)], args := [d1, d2, d3, d4, d5] }
  | _ => none }
def SchedMakesWrongFalsely : Prop := schedMakesRow.holds Try.pinned (OpenSpec.ofChange schedMakesWrong)

/- THE SECOND FORM. 'bulk': how many values and letters a reading holds, each counted each time it is reached (what is shared counts as often as it is met; a slice's spare places count too). A statement '..UptoSaid' is the law's where the arguments, and the package variables that the reading takes, are together of bulk at most 1048576: NARROWER than '..Said'. Prove '..Said' where nothing that the law and all that it calls make is longer than what came in: it says more and counts as full. Else prove '..UptoSaid'. A law counts once. -/
mutual
def uptoBulk {H : Type} : DataW H → Nat
  | .lit (.string bytes) => bytes.length + 1
  | .lit _ => 1
  | .nil => 1
  | .ptr d => uptoBulk d + 1
  | .slice elems spare => uptoBulkAll elems + uptoBulkAll spare + 1
  | .agg parts => uptoBulkAll parts + 1
  | .iface _ d => uptoBulk d + 1
  | .map entries => uptoBulkEntries entries + 1
  | .held _ => 1
def uptoBulkAll {H : Type} : List (DataW H) → Nat
  | [] => 0
  | d :: r => uptoBulk d + uptoBulkAll r
def uptoBulkEntries {H : Type} : List (Lit × DataW H) → Nat
  | [] => 0
  | x :: r => uptoBulkEntry x + uptoBulkEntries r
def uptoBulkEntry {H : Type} : Lit × DataW H → Nat
  | (.string bytes, d) => bytes.length + uptoBulk d + 1
  | (_, d) => uptoBulk d + 1
 end
def uptoSmall : (H : Type) → List (DataW H) → Bool := fun _ ds => decide (uptoBulkAll ds ≤ 1048576)
def OpenSpec.upto (s : _root_.Go.ChangeSpec) : _root_.Go.OpenSpec := { _root_.Go.OpenSpec.ofChange s with cond := some uptoSmall }

/-- 'stopgatelaw29.SchedStalls', WHERE WHAT IT READS IS OF BULK AT MOST 1048576: true; the input reads as it did. -/
def schedStallsUptoRow : OpenClaim := { program := "ytphjbdoephmgfaa", sum := "69e3522d6bbd00e9b6bd5bee15040c16231faaa56027954d7a5d1a5e389e7f88", func := "stopgate/stopgatelaw29.SchedStalls", spec := "schedStalls", unfollowed := true, recurses := true, apart := false, narrowed := true }
def SchedStallsUptoSaid : Prop := schedStallsUptoRow.holds Try.pinned (OpenSpec.upto schedStallsSpec)

/-- 'stopgatelaw29.SchedFair', WHERE WHAT IT READS IS OF BULK AT MOST 1048576: true; the input reads as it did. -/
def schedFairUptoRow : OpenClaim := { program := "ytphjbdoephmgfaa", sum := "69e3522d6bbd00e9b6bd5bee15040c16231faaa56027954d7a5d1a5e389e7f88", func := "stopgate/stopgatelaw29.SchedFair", spec := "schedFair", unfollowed := true, recurses := true, apart := false, narrowed := true }
def SchedFairUptoSaid : Prop := schedFairUptoRow.holds Try.pinned (OpenSpec.upto schedFairSpec)

/-- 'stopgatelaw29.SchedWider', WHERE WHAT IT READS IS OF BULK AT MOST 1048576: true; the input reads as it did. -/
def schedWiderUptoRow : OpenClaim := { program := "ytphjbdoephmgfaa", sum := "69e3522d6bbd00e9b6bd5bee15040c16231faaa56027954d7a5d1a5e389e7f88", func := "stopgate/stopgatelaw29.SchedWider", spec := "schedWider", unfollowed := true, recurses := true, apart := false, narrowed := true }
def SchedWiderUptoSaid : Prop := schedWiderUptoRow.holds Try.pinned (OpenSpec.upto schedWiderSpec)

/-- 'stopgatelaw29.SchedEvents', WHERE WHAT IT READS IS OF BULK AT MOST 1048576: true; the input reads as it did. -/
def schedEventsUptoRow : OpenClaim := { program := "ytphjbdoephmgfaa", sum := "69e3522d6bbd00e9b6bd5bee15040c16231faaa56027954d7a5d1a5e389e7f88", func := "stopgate/stopgatelaw29.SchedEvents", spec := "schedEvents", unfollowed := true, recurses := true, apart := false, narrowed := true }
def SchedEventsUptoSaid : Prop := schedEventsUptoRow.holds Try.pinned (OpenSpec.upto schedEventsSpec)

/-- 'stopgatelaw29.SchedMakes', WHERE WHAT IT READS IS OF BULK AT MOST 1048576: true; the input reads as it did. -/
def schedMakesUptoRow : OpenClaim := { program := "ytphjbdoephmgfaa", sum := "69e3522d6bbd00e9b6bd5bee15040c16231faaa56027954d7a5d1a5e389e7f88", func := "stopgate/stopgatelaw29.SchedMakes", spec := "schedMakes", unfollowed := true, recurses := true, apart := false, narrowed := true }
def SchedMakesUptoSaid : Prop := schedMakesUptoRow.holds Try.pinned (OpenSpec.upto schedMakesSpec)

end Rows
end Go.Proofs.Ytphjbdoephmgfaa
