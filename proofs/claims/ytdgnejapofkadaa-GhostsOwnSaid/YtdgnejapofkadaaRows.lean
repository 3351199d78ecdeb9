/-
  No cell of these rows narrows 'for every input' (looked for: loops, veiled, ifaces, maps, wideKeys, modest, calm, conditions, laid).
  DERIVED. THE GIVEN ROWS OF THIS SEAT. 4 by the template 'for every input the law returns true; each argument reads behind the call as it read before'; 0 by the template 'total and deterministic' (their statements: YtdgnejapofkadaaTotals.lean).
  GIVEN WITH THE SEED: the statements are not yours to turn. If you find one false, say at which input.
  Laid BY PROGRAM, IN A SANDBOX (cutbox-rows.mjs): the forced cells as the released guide's own fill.sh prints them over the translation 9c28d1250afdccdc… (all of the seat's roots in one cut). By AI agents, Wed Nov 11 2026. No macro, syntax, notation, axiom, sorry.
-/
import Derived.Test.YtdgnejapofkadaaChecked
import GoSem.Claim
import GoSem.ClaimJoined
import GoSem.ClaimMapViews
import Derived.JoinedTies
import Derived.KernelRfl
namespace Go.Proofs.Ytdgnejapofkadaa
/- THE CELL 'sum', in the pinned program and in every row, IS THE sha256 OF THE DUMP (.gsa) THAT YtdgnejapofkadaaProg.lean LOADS. Nothing in Lean hashes anything: it is a label: what it is worth is what the hold of that sum in a sandbox is worth. -/
noncomputable def Try.pinned : Pinned := { name := "ytdgnejapofkadaa", sum := "9c28d1250afdccdcf4599d36f53b236e0e26590f4e8a3de9b28be6f9578d1d9a", checked := Try.checked }
namespace Rows
def none {H : Type} : Left H := { results := [], args := [] }

/-- 'stopgatelaw38.GhostsPlay': WHATEVER THE INPUT: true; the input reads as it did. -/
def ghostsPlaySpec : ChangeSpec := { name := "ghostsPlay", fn := fun _ => fun
  | [d1, d2] => { results := [.lit (.bool true)], args := [d1, d2] }
  | _ => none }
def ghostsPlayRow : OpenClaim := { program := "ytdgnejapofkadaa", sum := "9c28d1250afdccdcf4599d36f53b236e0e26590f4e8a3de9b28be6f9578d1d9a", func := "stopgate/stopgatelaw38.GhostsPlay", spec := "ghostsPlay", unfollowed := true, recurses := true, apart := false }
def GhostsPlaySaid : Prop := ghostsPlayRow.holds Try.pinned (OpenSpec.ofChange ghostsPlaySpec)

/-- ITS FALSE NEIGHBOUR: 'it returns false'. Refute it at one input. -/
def ghostsPlayWrong : ChangeSpec := { name := "ghostsPlay", fn := fun _ => fun
  | [d1, d2] => { results := [.lit (.bool false)], args := [d1, d2] }
  | _ => none }
def GhostsPlayWrongFalsely : Prop := ghostsPlayRow.holds Try.pinned (OpenSpec.ofChange ghostsPlayWrong)

/-- 'stopgatelaw38.GhostsSafe': WHATEVER THE INPUT: true; the input reads as it did. -/
def ghostsSafeSpec : ChangeSpec := { name := "ghostsSafe", fn := fun _ => fun
  | [d1, d2] => { results := [.lit (.bool true)], args := [d1, d2] }
  | _ => none }
def ghostsSafeRow : OpenClaim := { program := "ytdgnejapofkadaa", sum := "9c28d1250afdccdcf4599d36f53b236e0e26590f4e8a3de9b28be6f9578d1d9a", func := "stopgate/stopgatelaw38.GhostsSafe", spec := "ghostsSafe", unfollowed := true, recurses := true, apart := false }
def GhostsSafeSaid : Prop := ghostsSafeRow.holds Try.pinned (OpenSpec.ofChange ghostsSafeSpec)

/-- ITS FALSE NEIGHBOUR: 'it returns false'. Refute it at one input. -/
def ghostsSafeWrong : ChangeSpec := { name := "ghostsSafe", fn := fun _ => fun
  | [d1, d2] => { results := [.lit (.bool false)], args := [d1, d2] }
  | _ => none }
def GhostsSafeWrongFalsely : Prop := ghostsSafeRow.holds Try.pinned (OpenSpec.ofChange ghostsSafeWrong)

/-- 'stopgatelaw38.GhostsBehind': WHATEVER THE INPUT: true; the input reads as it did. -/
def ghostsBehindSpec : ChangeSpec := { name := "ghostsBehind", fn := fun _ => fun
  | [d1, d2] => { results := [.lit (.bool true)], args := [d1, d2] }
  | _ => none }
def ghostsBehindRow : OpenClaim := { program := "ytdgnejapofkadaa", sum := "9c28d1250afdccdcf4599d36f53b236e0e26590f4e8a3de9b28be6f9578d1d9a", func := "stopgate/stopgatelaw38.GhostsBehind", spec := "ghostsBehind", unfollowed := true, recurses := true, apart := false }
def GhostsBehindSaid : Prop := ghostsBehindRow.holds Try.pinned (OpenSpec.ofChange ghostsBehindSpec)

/-- ITS FALSE NEIGHBOUR: 'it returns false'. Refute it at one input. -/
def ghostsBehindWrong : ChangeSpec := { name := "ghostsBehind", fn := fun _ => fun
  | [d1, d2] => { results := [.lit (.bool false)], args := [d1, d2] }
  | _ => none }
def GhostsBehindWrongFalsely : Prop := ghostsBehindRow.holds Try.pinned (OpenSpec.ofChange ghostsBehindWrong)

/-- 'stopgatelaw38.GhostsOwn': WHATEVER THE INPUT: true; the input reads as it did. -/
def ghostsOwnSpec : ChangeSpec := { name := "ghostsOwn", fn := fun _ => fun
  | [d1, d2, d3] => { results := [.lit (.bool true)], args := [d1, d2, d3] }
  | _ => none }
def ghostsOwnRow : OpenClaim := { program := "ytdgnejapofkadaa", sum := "9c28d1250afdccdcf4599d36f53b236e0e26590f4e8a3de9b28be6f9578d1d9a", func := "stopgate/stopgatelaw38.GhostsOwn", spec := "ghostsOwn", unfollowed := true, recurses := true, apart := false }
def GhostsOwnSaid : Prop := ghostsOwnRow.holds Try.pinned (OpenSpec.ofChange ghostsOwnSpec)

/-- ITS FALSE NEIGHBOUR: 'it returns false'. Refute it at one input. -/
def ghostsOwnWrong : ChangeSpec := { name := "ghostsOwn", fn := fun _ => fun
  | [d1, d2, d3] => { results := [.lit (.bool false)], args := [d1, d2, d3] }
  | _ => none }
def GhostsOwnWrongFalsely : Prop := ghostsOwnRow.holds Try.pinned (OpenSpec.ofChange ghostsOwnWrong)

/- THE SECOND FORM. 'bulk': how many values and letters a reading holds, each counted each time it is reached (what is shared counts as often as it is met; a slice's spare places count too). A statement '..UptoSaid' is the law's where the arguments, and the package variables that the reading takes, are together of bulk at most 1048576: NARROWER than '..Said'. Prove '..Said' where nothing that the law and all that it calls make is longer than what came in: it says more and counts as full. Else prove '..UptoSaid'. A law counts once. -/
mutual
def uptoBulk {H : Type} : DataW H → Nat
  | .lit (.string bytes) => bytes.length + 1
  | .lit _ => 1
  | .nil => 1
  | .ptr d => uptoBulk d + 1
  | .slice elems spare => uptoBulkAll elems + uptoBulkAll spare + 1
  | .agg parts => uptoBulkAll parts + 1
  | .iface _ d => uptoBulk d + 1
  | .map entries => uptoBulkEntries entries + 1
  | .held _ => 1
def uptoBulkAll {H : Type} : List (DataW H) → Nat
  | [] => 0
  | d :: r => uptoBulk d + uptoBulkAll r
def uptoBulkEntries {H : Type} : List (Lit × DataW H) → Nat
  | [] => 0
  | x :: r => uptoBulkEntry x + uptoBulkEntries r
def uptoBulkEntry {H : Type} : Lit × DataW H → Nat
  | (.string bytes, d) => bytes.length + uptoBulk d + 1
  | (_, d) => uptoBulk d + 1
 end
def uptoSmall : (H : Type) → List (DataW H) → Bool := fun _ ds => decide (uptoBulkAll ds ≤ 1048576)
def OpenSpec.upto (s : _root_.Go.ChangeSpec) : _root_.Go.OpenSpec := { _root_.Go.OpenSpec.ofChange s with cond := some uptoSmall }

/-- 'stopgatelaw38.GhostsPlay', WHERE WHAT IT READS IS OF BULK AT MOST 1048576: true; the input reads as it did. -/
def ghostsPlayUptoRow : OpenClaim := { program := "ytdgnejapofkadaa", sum := "9c28d1250afdccdcf4599d36f53b236e0e26590f4e8a3de9b28be6f9578d1d9a", func := "stopgate/stopgatelaw38.GhostsPlay", spec := "ghostsPlay", unfollowed := true, recurses := true, apart := false, narrowed := true }
def GhostsPlayUptoSaid : Prop := ghostsPlayUptoRow.holds Try.pinned (OpenSpec.upto ghostsPlaySpec)

/-- 'stopgatelaw38.GhostsSafe', WHERE WHAT IT READS IS OF BULK AT MOST 1048576: true; the input reads as it did. -/
def ghostsSafeUptoRow : OpenClaim := { program := "ytdgnejapofkadaa", sum := "9c28d1250afdccdcf4599d36f53b236e0e26590f4e8a3de9b28be6f9578d1d9a", func := "stopgate/stopgatelaw38.GhostsSafe", spec := "ghostsSafe", unfollowed := true, recurses := true, apart := false, narrowed := true }
def GhostsSafeUptoSaid : Prop := ghostsSafeUptoRow.holds Try.pinned (OpenSpec.upto ghostsSafeSpec)

/-- 'stopgatelaw38.GhostsBehind', WHERE WHAT IT READS IS OF BULK AT MOST 1048576: true; the input reads as it did. -/
def ghostsBehindUptoRow : OpenClaim := { program := "ytdgnejapofkadaa", sum := "9c28d1250afdccdcf4599d36f53b236e0e26590f4e8a3de9b28be6f9578d1d9a", func := "stopgate/stopgatelaw38.GhostsBehind", spec := "ghostsBehind", unfollowed := true, recurses := true, apart := false, narrowed := true }
def GhostsBehindUptoSaid : Prop := ghostsBehindUptoRow.holds Try.pinned (OpenSpec.upto ghostsBehindSpec)

/-- 'stopgatelaw38.GhostsOwn', WHERE WHAT IT READS IS OF BULK AT MOST 1048576: true; the input reads as it did. -/
def ghostsOwnUptoRow : OpenClaim := { program := "ytdgnejapofkadaa", sum := "9c28d1250afdccdcf4599d36f53b236e0e26590f4e8a3de9b28be6f9578d1d9a", func := "stopgate/stopgatelaw38.GhostsOwn", spec := "ghostsOwn", unfollowed := true, recurses := true, apart := false, narrowed := true }
def GhostsOwnUptoSaid : Prop := ghostsOwnUptoRow.holds Try.pinned (OpenSpec.upto ghostsOwnSpec)

end Rows
end Go.Proofs.Ytdgnejapofkadaa
