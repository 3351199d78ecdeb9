/-
  No cell of these rows narrows 'for every input' (looked for: loops, veiled, ifaces, maps, wideKeys, modest, calm, conditions, laid).
  DERIVED. THE GIVEN ROWS OF THIS SEAT. 10 by the template 'for every input the law returns true; each argument reads behind the call as it read before'; 0 by the template 'total and deterministic' (their statements: YtmgjicenaanelaaTotals.lean).
  GIVEN WITH THE SEED: the statements are not yours to turn. If you find one false, say at which input.
  Laid BY PROGRAM, IN A SANDBOX (cutbox-rows.mjs): the forced cells as the released guide's own fill.sh prints them over the translation a9437b1dbf5d1188… (all of the seat's roots in one cut). By AI agents, Wed Nov 11 2026. No macro, syntax, notation, axiom, sorry.
-/
import Derived.Test.YtmgjicenaanelaaChecked
import GoSem.Claim
import GoSem.ClaimJoined
import GoSem.ClaimMapViews
import Derived.JoinedTies
import Derived.KernelRfl
namespace Go.Proofs.Ytmgjicenaanelaa
/- THE CELL 'sum', in the pinned program and in every row, IS THE sha256 OF THE DUMP (.gsa) THAT YtmgjicenaanelaaProg.lean LOADS. Nothing in Lean hashes anything: it is a label: what it is worth is what the hold of that sum in a sandbox is worth. -/
noncomputable def Try.pinned : Pinned := { name := "ytmgjicenaanelaa", sum := "a9437b1dbf5d118898cee5e66811e68c8d50d9b5f48e592a47c26b08739668b1", checked := Try.checked }
namespace Rows
def none {H : Type} : Left H := { results := [], args := [] }

/-- 'stopgatelaw07.EpochMoves': WHATEVER THE INPUT: true; the input reads as it did. -/
def epochMovesSpec : ChangeSpec := { name := "epochMoves", fn := fun _ => fun
  | [d1, d2, d3] => { results := [.lit (.bool true)], args := [d1, d2, d3] }
  | _ => none }
def epochMovesRow : OpenClaim := { program := "ytmgjicenaanelaa", sum := "a9437b1dbf5d118898cee5e66811e68c8d50d9b5f48e592a47c26b08739668b1", func := "stopgate/stopgatelaw07.EpochMoves", spec := "epochMoves", apart := false }
def EpochMovesSaid : Prop := epochMovesRow.holds Try.pinned (OpenSpec.ofChange epochMovesSpec)

/-- ITS FALSE NEIGHBOUR: 'it returns false'. Refute it at one input. -/
def epochMovesWrong : ChangeSpec := { name := "epochMoves", fn := fun _ => fun
  | [d1, d2, d3] => { results := [.lit (.bool false)], args := [d1, d2, d3] }
  | _ => none }
def EpochMovesWrongFalsely : Prop := epochMovesRow.holds Try.pinned (OpenSpec.ofChange epochMovesWrong)

/-- 'stopgatelaw07.EpochSpread': WHATEVER THE INPUT: true; the input reads as it did. -/
def epochSpreadSpec : ChangeSpec := { name := "epochSpread", fn := fun _ => fun
  | [d1, d2] => { results := [.lit (.bool true)], args := [d1, d2] }
  | _ => none }
def epochSpreadRow : OpenClaim := { program := "ytmgjicenaanelaa", sum := "a9437b1dbf5d118898cee5e66811e68c8d50d9b5f48e592a47c26b08739668b1", func := "stopgate/stopgatelaw07.EpochSpread", spec := "epochSpread", apart := false }
def EpochSpreadSaid : Prop := epochSpreadRow.holds Try.pinned (OpenSpec.ofChange epochSpreadSpec)

/-- ITS FALSE NEIGHBOUR: 'it returns false'. Refute it at one input. -/
def epochSpreadWrong : ChangeSpec := { name := "epochSpread", fn := fun _ => fun
  | [d1, d2] => { results := [.lit (.bool false)], args := [d1, d2] }
  | _ => none }
def EpochSpreadWrongFalsely : Prop := epochSpreadRow.holds Try.pinned (OpenSpec.ofChange epochSpreadWrong)

/-- 'stopgatelaw07.EpochTells': WHATEVER THE INPUT: true; the input reads as it did. -/
def epochTellsSpec : ChangeSpec := { name := "epochTells", fn := fun _ => fun
  | [d1, d2, d3] => { results := [.lit (.bool true)], args := [d1, d2, d3] }
  | _ => none }
def epochTellsRow : OpenClaim := { program := "ytmgjicenaanelaa", sum := "a9437b1dbf5d118898cee5e66811e68c8d50d9b5f48e592a47c26b08739668b1", func := "stopgate/stopgatelaw07.EpochTells", spec := "epochTells", apart := false }
def EpochTellsSaid : Prop := epochTellsRow.holds Try.pinned (OpenSpec.ofChange epochTellsSpec)

/-- ITS FALSE NEIGHBOUR: 'it returns false'. Refute it at one input. -/
def epochTellsWrong : ChangeSpec := { name := "epochTells", fn := fun _ => fun
  | [d1, d2, d3] => { results := [.lit (.bool false)], args := [d1, d2, d3] }
  | _ => none }
def EpochTellsWrongFalsely : Prop := epochTellsRow.holds Try.pinned (OpenSpec.ofChange epochTellsWrong)

/-- 'stopgatelaw07.EpochStays': WHATEVER THE INPUT: true; the input reads as it did. -/
def epochStaysSpec : ChangeSpec := { name := "epochStays", fn := fun _ => fun
  | [d1, d2, d3] => { results := [.lit (.bool true)], args := [d1, d2, d3] }
  | _ => none }
def epochStaysRow : OpenClaim := { program := "ytmgjicenaanelaa", sum := "a9437b1dbf5d118898cee5e66811e68c8d50d9b5f48e592a47c26b08739668b1", func := "stopgate/stopgatelaw07.EpochStays", spec := "epochStays", apart := false }
def EpochStaysSaid : Prop := epochStaysRow.holds Try.pinned (OpenSpec.ofChange epochStaysSpec)

/-- ITS FALSE NEIGHBOUR: 'it returns false'. Refute it at one input. -/
def epochStaysWrong : ChangeSpec := { name := "epochStays", fn := fun _ => fun
  | [d1, d2, d3] => { results := [.lit (.bool false)], args := [d1, d2, d3] }
  | _ => none }
def EpochStaysWrongFalsely : Prop := epochStaysRow.holds Try.pinned (OpenSpec.ofChange epochStaysWrong)

/-- 'stopgatelaw02.PackResults': WHATEVER THE INPUT: true; the input reads as it did. -/
def packResultsSpec : ChangeSpec := { name := "packResults", fn := fun _ => fun
  | [d1, d2] => { results := [.lit (.bool true)], args := [d1, d2] }
  | _ => none }
def packResultsRow : OpenClaim := { program := "ytmgjicenaanelaa", sum := "a9437b1dbf5d118898cee5e66811e68c8d50d9b5f48e592a47c26b08739668b1", func := "stopgate/stopgatelaw02.PackResults", spec := "packResults", apart := false }
def PackResultsSaid : Prop := packResultsRow.holds Try.pinned (OpenSpec.ofChange packResultsSpec)

/-- ITS FALSE NEIGHBOUR: 'it returns false'. Refute it at one input. -/
def packResultsWrong : ChangeSpec := { name := "packResults", fn := fun _ => fun
  | [d1, d2] => { results := [.lit (.bool false)], args := [d1, d2] }
  | _ => none }
def PackResultsWrongFalsely : Prop := packResultsRow.holds Try.pinned (OpenSpec.ofChange packResultsWrong)

/-- 'stopgatelaw02.PackBack': WHATEVER THE INPUT: true; the input reads as it did. -/
def packBackSpec : ChangeSpec := { name := "packBack", fn := fun _ => fun
  | [d1, d2] => { results := [.lit (.bool true)], args := [d1, d2] }
  | _ => none }
def packBackRow : OpenClaim := { program := "ytmgjicenaanelaa", sum := "a9437b1dbf5d118898cee5e66811e68c8d50d9b5f48e592a47c26b08739668b1", func := "stopgate/stopgatelaw02.PackBack", spec := "packBack", apart := false }
def PackBackSaid : Prop := packBackRow.holds Try.pinned (OpenSpec.ofChange packBackSpec)

/-- ITS FALSE NEIGHBOUR: 'it returns false'. Refute it at one input. -/
def packBackWrong : ChangeSpec := { name := "packBack", fn := fun _ => fun
  | [d1, d2] => { results := [.lit (.bool false)], args := [d1, d2] }
  | _ => none }
def PackBackWrongFalsely : Prop := packBackRow.holds Try.pinned (OpenSpec.ofChange packBackWrong)

/-- 'stopgatelaw02.PackCalls': WHATEVER THE INPUT: true; the input reads as it did. -/
def packCallsSpec : ChangeSpec := { name := "packCalls", fn := fun _ => fun
  | [d1, d2, d3] => { results := [.lit (.bool true)], args := [d1, d2, d3] }
  | _ => none }
def packCallsRow : OpenClaim := { program := "ytmgjicenaanelaa", sum := "a9437b1dbf5d118898cee5e66811e68c8d50d9b5f48e592a47c26b08739668b1", func := "stopgate/stopgatelaw02.PackCalls", spec := "packCalls", apart := false }
def PackCallsSaid : Prop := packCallsRow.holds Try.pinned (OpenSpec.ofChange packCallsSpec)

/-- ITS FALSE NEIGHBOUR: 'it returns false'. Refute it at one input. -/
def packCallsWrong : ChangeSpec := { name := "packCalls", fn := fun _ => fun
  | [d1, d2, d3] => { results := [.lit (.bool false)], args := [d1, d2, d3] }
  | _ => none }
def PackCallsWrongFalsely : Prop := packCallsRow.holds Try.pinned (OpenSpec.ofChange packCallsWrong)

/-- 'stopgatelaw02.PackSaid': WHATEVER THE INPUT: true; the input reads as it did. -/
def packSaidSpec : ChangeSpec := { name := "packSaid", fn := fun _ => fun
  | [d1, d2, d3] => { results := [.lit (.bool true)], args := [d1, d2, d3] }
  | _ => none }
def packSaidRow : OpenClaim := { program := "ytmgjicenaanelaa", sum := "a9437b1dbf5d118898cee5e66811e68c8d50d9b5f48e592a47c26b08739668b1", func := "stopgate/stopgatelaw02.PackSaid", spec := "packSaid", apart := false }
def PackSaidSaid : Prop := packSaidRow.holds Try.pinned (OpenSpec.ofChange packSaidSpec)

/-- ITS FALSE NEIGHBOUR: 'it returns false'. Refute it at one input. -/
def packSaidWrong : ChangeSpec := { name := "packSaid", fn := fun _ => fun
  | [d1, d2, d3] => { results := [.lit (.bool false)], args := [d1, d2, d3] }
  | _ => none }
def PackSaidWrongFalsely : Prop := packSaidRow.holds Try.pinned (OpenSpec.ofChange packSaidWrong)

/-- 'stopgatelaw02.PackRanks': WHATEVER THE INPUT: true; the input reads as it did. -/
def packRanksSpec : ChangeSpec := { name := "packRanks", fn := fun _ => fun
  | [d1, d2, d3] => { results := [.lit (.bool true)], args := [d1, d2, d3] }
  | _ => none }
def packRanksRow : OpenClaim := { program := "ytmgjicenaanelaa", sum := "a9437b1dbf5d118898cee5e66811e68c8d50d9b5f48e592a47c26b08739668b1", func := "stopgate/stopgatelaw02.PackRanks", spec := "packRanks", apart := false }
def PackRanksSaid : Prop := packRanksRow.holds Try.pinned (OpenSpec.ofChange packRanksSpec)

/-- ITS FALSE NEIGHBOUR: 'it returns false'. Refute it at one input. -/
def packRanksWrong : ChangeSpec := { name := "packRanks", fn := fun _ => fun
  | [d1, d2, d3] => { results := [.lit (.bool false)], args := [d1, d2, d3] }
  | _ => none }
def PackRanksWrongFalsely : Prop := packRanksRow.holds Try.pinned (OpenSpec.ofChange packRanksWrong)

/-- 'stopgatelaw02.PackEpochs': WHATEVER THE INPUT: true; the input reads as it did. -/
def packEpochsSpec : ChangeSpec := { name := "packEpochs", fn := fun _ => fun
  | [d1, d2] => { results := [.lit (.bool true)], args := [d1, d2] }
  | _ => none }
def packEpochsRow : OpenClaim := { program := "ytmgjicenaanelaa", sum := "a9437b1dbf5d118898cee5e66811e68c8d50d9b5f48e592a47c26b08739668b1", func := "stopgate/stopgatelaw02.PackEpochs", spec := "packEpochs", apart := false }
def PackEpochsSaid : Prop := packEpochsRow.holds Try.pinned (OpenSpec.ofChange packEpochsSpec)

/-- ITS FALSE NEIGHBOUR: 'it returns false'. Refute it at one input. -/
def packEpochsWrong : ChangeSpec := { name := "packEpochs", fn := fun _ => fun
  | [d1, d2] => { results := [.lit (.bool false)], args := [d1, d2] }
  | _ => none }
def PackEpochsWrongFalsely : Prop := packEpochsRow.holds Try.pinned (OpenSpec.ofChange packEpochsWrong)

/- THE SECOND FORM. 'bulk': how many values and letters a reading holds, each counted each time it is reached (what is shared counts as often as it is met; a slice's spare places count too). A statement '..UptoSaid' is the law's where the arguments, and the package variables that the reading takes, are together of bulk at most 1048576: NARROWER than '..Said'. Prove '..Said' where nothing that the law and all that it calls make is longer than what came in: it says more and counts as full. Else prove '..UptoSaid'. A law counts once. -/
mutual
def uptoBulk {H : Type} : DataW H → Nat
  | .lit (.string bytes) => bytes.length + 1
  | .lit _ => 1
  | .nil => 1
  | .ptr d => uptoBulk d + 1
  | .slice elems spare => uptoBulkAll elems + uptoBulkAll spare + 1
  | .agg parts => uptoBulkAll parts + 1
  | .iface _ d => uptoBulk d + 1
  | .map entries => uptoBulkEntries entries + 1
  | .held _ => 1
def uptoBulkAll {H : Type} : List (DataW H) → Nat
  | [] => 0
  | d :: r => uptoBulk d + uptoBulkAll r
def uptoBulkEntries {H : Type} : List (Lit × DataW H) → Nat
  | [] => 0
  | x :: r => uptoBulkEntry x + uptoBulkEntries r
def uptoBulkEntry {H : Type} : Lit × DataW H → Nat
  | (.string bytes, d) => bytes.length + uptoBulk d + 1
  | (_, d) => uptoBulk d + 1
 end
def uptoSmall : (H : Type) → List (DataW H) → Bool := fun _ ds => decide (uptoBulkAll ds ≤ 1048576)
def OpenSpec.upto (s : _root_.Go.ChangeSpec) : _root_.Go.OpenSpec := { _root_.Go.OpenSpec.ofChange s with cond := some uptoSmall }

/-- 'stopgatelaw07.EpochMoves', WHERE WHAT IT READS IS OF BULK AT MOST 1048576: true; the input reads as it did. -/
def epochMovesUptoRow : OpenClaim := { program := "ytmgjicenaanelaa", sum := "a9437b1dbf5d118898cee5e66811e68c8d50d9b5f48e592a47c26b08739668b1", func := "stopgate/stopgatelaw07.EpochMoves", spec := "epochMoves", apart := false, narrowed := true }
def EpochMovesUptoSaid : Prop := epochMovesUptoRow.holds Try.pinned (OpenSpec.upto epochMovesSpec)

/-- 'stopgatelaw07.EpochSpread', WHERE WHAT IT READS IS OF BULK AT MOST 1048576: true; the input reads as it did. -/
def epochSpreadUptoRow : OpenClaim := { program := "ytmgjicenaanelaa", sum := "a9437b1dbf5d118898cee5e66811e68c8d50d9b5f48e592a47c26b08739668b1", func := "stopgate/stopgatelaw07.EpochSpread", spec := "epochSpread", apart := false, narrowed := true }
def EpochSpreadUptoSaid : Prop := epochSpreadUptoRow.holds Try.pinned (OpenSpec.upto epochSpreadSpec)

/-- 'stopgatelaw07.EpochTells', WHERE WHAT IT READS IS OF BULK AT MOST 1048576: true; the input reads as it did. -/
def epochTellsUptoRow : OpenClaim := { program := "ytmgjicenaanelaa", sum := "a9437b1dbf5d118898cee5e66811e68c8d50d9b5f48e592a47c26b08739668b1", func := "stopgate/stopgatelaw07.EpochTells", spec := "epochTells", apart := false, narrowed := true }
def EpochTellsUptoSaid : Prop := epochTellsUptoRow.holds Try.pinned (OpenSpec.upto epochTellsSpec)

/-- 'stopgatelaw07.EpochStays', WHERE WHAT IT READS IS OF BULK AT MOST 1048576: true; the input reads as it did. -/
def epochStaysUptoRow : OpenClaim := { program := "ytmgjicenaanelaa", sum := "a9437b1dbf5d118898cee5e66811e68c8d50d9b5f48e592a47c26b08739668b1", func := "stopgate/stopgatelaw07.EpochStays", spec := "epochStays", apart := false, narrowed := true }
def EpochStaysUptoSaid : Prop := epochStaysUptoRow.holds Try.pinned (OpenSpec.upto epochStaysSpec)

/-- 'stopgatelaw02.PackResults', WHERE WHAT IT READS IS OF BULK AT MOST 1048576: true; the input reads as it did. -/
def packResultsUptoRow : OpenClaim := { program := "ytmgjicenaanelaa", sum := "a9437b1dbf5d118898cee5e66811e68c8d50d9b5f48e592a47c26b08739668b1", func := "stopgate/stopgatelaw02.PackResults", spec := "packResults", apart := false, narrowed := true }
def PackResultsUptoSaid : Prop := packResultsUptoRow.holds Try.pinned (OpenSpec.upto packResultsSpec)

/-- 'stopgatelaw02.PackBack', WHERE WHAT IT READS IS OF BULK AT MOST 1048576: true; the input reads as it did. -/
def packBackUptoRow : OpenClaim := { program := "ytmgjicenaanelaa", sum := "a9437b1dbf5d118898cee5e66811e68c8d50d9b5f48e592a47c26b08739668b1", func := "stopgate/stopgatelaw02.PackBack", spec := "packBack", apart := false, narrowed := true }
def PackBackUptoSaid : Prop := packBackUptoRow.holds Try.pinned (OpenSpec.upto packBackSpec)

/-- 'stopgatelaw02.PackCalls', WHERE WHAT IT READS IS OF BULK AT MOST 1048576: true; the input reads as it did. -/
def packCallsUptoRow : OpenClaim := { program := "ytmgjicenaanelaa", sum := "a9437b1dbf5d118898cee5e66811e68c8d50d9b5f48e592a47c26b08739668b1", func := "stopgate/stopgatelaw02.PackCalls", spec := "packCalls", apart := false, narrowed := true }
def PackCallsUptoSaid : Prop := packCallsUptoRow.holds Try.pinned (OpenSpec.upto packCallsSpec)

/-- 'stopgatelaw02.PackSaid', WHERE WHAT IT READS IS OF BULK AT MOST 1048576: true; the input reads as it did. -/
def packSaidUptoRow : OpenClaim := { program := "ytmgjicenaanelaa", sum := "a9437b1dbf5d118898cee5e66811e68c8d50d9b5f48e592a47c26b08739668b1", func := "stopgate/stopgatelaw02.PackSaid", spec := "packSaid", apart := false, narrowed := true }
def PackSaidUptoSaid : Prop := packSaidUptoRow.holds Try.pinned (OpenSpec.upto packSaidSpec)

/-- 'stopgatelaw02.PackRanks', WHERE WHAT IT READS IS OF BULK AT MOST 1048576: true; the input reads as it did. -/
def packRanksUptoRow : OpenClaim := { program := "ytmgjicenaanelaa", sum := "a9437b1dbf5d118898cee5e66811e68c8d50d9b5f48e592a47c26b08739668b1", func := "stopgate/stopgatelaw02.PackRanks", spec := "packRanks", apart := false, narrowed := true }
def PackRanksUptoSaid : Prop := packRanksUptoRow.holds Try.pinned (OpenSpec.upto packRanksSpec)

/-- 'stopgatelaw02.PackEpochs', WHERE WHAT IT READS IS OF BULK AT MOST 1048576: true; the input reads as it did. -/
def packEpochsUptoRow : OpenClaim := { program := "ytmgjicenaanelaa", sum := "a9437b1dbf5d118898cee5e66811e68c8d50d9b5f48e592a47c26b08739668b1", func := "stopgate/stopgatelaw02.PackEpochs", spec := "packEpochs", apart := false, narrowed := true }
def PackEpochsUptoSaid : Prop := packEpochsUptoRow.holds Try.pinned (OpenSpec.upto packEpochsSpec)

end Rows
end Go.Proofs.Ytmgjicenaanelaa
