/-
  No cell of these rows narrows 'for every input' (looked for: loops, veiled, ifaces, maps, wideKeys, modest, calm, conditions, laid).
  DERIVED. THE GIVEN ROWS OF THIS SEAT. 3 by the template 'for every input the law returns true; each argument reads behind the call as it read before'; 0 by the template 'total and deterministic' (their statements: YthghghoikaincaaTotals.lean).
  GIVEN WITH THE SEED: the statements are not yours to turn. If you find one false, say at which input.
  Laid BY PROGRAM, IN A SANDBOX (cutbox-rows.mjs): the forced cells as the released guide's own fill.sh prints them over the translation cddbac9a5dfc1c52… (all of the seat's roots in one cut). By AI agents, Wed Nov 11 2026. No macro, syntax, notation, axiom, sorry.
-/
import Derived.Test.YthghghoikaincaaChecked
import GoSem.Claim
import GoSem.ClaimJoined
import GoSem.ClaimMapViews
import Derived.JoinedTies
import Derived.KernelRfl
namespace Go.Proofs.Ythghghoikaincaa
/- THE CELL 'sum', in the pinned program and in every row, IS THE sha256 OF THE DUMP (.gsa) THAT YthghghoikaincaaProg.lean LOADS. Nothing in Lean hashes anything: it is a label: what it is worth is what the hold of that sum in a sandbox is worth. -/
noncomputable def Try.pinned : Pinned := { name := "ythghghoikaincaa", sum := "cddbac9a5dfc1c52e19dd079f7457de935f5398dd1681edaecbb1c67ee2c0b5f", checked := Try.checked }
namespace Rows
def none {H : Type} : Left H := { results := [], args := [] }

/-- 'stopgatelaw41.TicketsBound': WHATEVER THE INPUT: true; the input reads as it did. -/
def ticketsBoundSpec : ChangeSpec := { name := "ticketsBound", fn := fun _ => fun
  | [d1, d2, d3, d4] => { results := [.lit (.bool true)], args := [d1, d2, d3, d4] }
  | _ => none }
def ticketsBoundRow : OpenClaim := { program := "ythghghoikaincaa", sum := "cddbac9a5dfc1c52e19dd079f7457de935f5398dd1681edaecbb1c67ee2c0b5f", func := "stopgate/stopgatelaw41.TicketsBound", spec := "ticketsBound", unfollowed := true, recurses := true, apart := false }
def TicketsBoundSaid : Prop := ticketsBoundRow.holds Try.pinned (OpenSpec.ofChange ticketsBoundSpec)

/-- ITS FALSE NEIGHBOUR: 'it returns false'. Refute it at one input. -/
def ticketsBoundWrong : ChangeSpec := { name := "ticketsBound", fn := fun _ => fun
  | [d1, d2, d3, d4] => { results := [.lit (.bool false)], args := [d1, d2, d3, d4] }
  | _ => none }
def TicketsBoundWrongFalsely : Prop := ticketsBoundRow.holds Try.pinned (OpenSpec.ofChange ticketsBoundWrong)

/-- 'stopgatelaw41.TicketsOnce': WHATEVER THE INPUT: true; the input reads as it did. -/
def ticketsOnceSpec : ChangeSpec := { name := "ticketsOnce", fn := fun _ => fun
  | [d1, d2, d3, d4] => { results := [.lit (.bool true)], args := [d1, d2, d3, d4] }
  | _ => none }
def ticketsOnceRow : OpenClaim := { program := "ythghghoikaincaa", sum := "cddbac9a5dfc1c52e19dd079f7457de935f5398dd1681edaecbb1c67ee2c0b5f", func := "stopgate/stopgatelaw41.TicketsOnce", spec := "ticketsOnce", unfollowed := true, recurses := true, apart := false }
def TicketsOnceSaid : Prop := ticketsOnceRow.holds Try.pinned (OpenSpec.ofChange ticketsOnceSpec)

/-- ITS FALSE NEIGHBOUR: 'it returns false'. Refute it at one input. -/
def ticketsOnceWrong : ChangeSpec := { name := "ticketsOnce", fn := fun _ => fun
  | [d1, d2, d3, d4] => { results := [.lit (.bool false)], args := [d1, d2, d3, d4] }
  | _ => none }
def TicketsOnceWrongFalsely : Prop := ticketsOnceRow.holds Try.pinned (OpenSpec.ofChange ticketsOnceWrong)

/-- 'stopgatelaw41.TicketsOrder': WHATEVER THE INPUT: true; the input reads as it did. -/
def ticketsOrderSpec : ChangeSpec := { name := "ticketsOrder", fn := fun _ => fun
  | [d1, d2, d3, d4] => { results := [.lit (.bool true)], args := [d1, d2, d3, d4] }
  | _ => none }
def ticketsOrderRow : OpenClaim := { program := "ythghghoikaincaa", sum := "cddbac9a5dfc1c52e19dd079f7457de935f5398dd1681edaecbb1c67ee2c0b5f", func := "stopgate/stopgatelaw41.TicketsOrder", spec := "ticketsOrder", unfollowed := true, recurses := true, apart := false }
def TicketsOrderSaid : Prop := ticketsOrderRow.holds Try.pinned (OpenSpec.ofChange ticketsOrderSpec)

/-- ITS FALSE NEIGHBOUR: 'it returns false'. Refute it at one input. -/
def ticketsOrderWrong : ChangeSpec := { name := "ticketsOrder", fn := fun _ => fun
  | [d1, d2, d3, d4] => { results := [.lit (.bool false)], args := [d1, d2, d3, d4] }
  | _ => none }
def TicketsOrderWrongFalsely : Prop := ticketsOrderRow.holds Try.pinned (OpenSpec.ofChange ticketsOrderWrong)

/- THE SECOND FORM. 'bulk': how many values and letters a reading holds, each counted each time it is reached (what is shared counts as often as it is met; a slice's spare places count too). A statement '..UptoSaid' is the law's where the arguments, and the package variables that the reading takes, are together of bulk at most 1048576: NARROWER than '..Said'. Prove '..Said' where nothing that the law and all that it calls make is longer than what came in: it says more and counts as full. Else prove '..UptoSaid'. A law counts once. -/
mutual
def uptoBulk {H : Type} : DataW H → Nat
  | .lit (.string bytes) => bytes.length + 1
  | .lit _ => 1
  | .nil => 1
  | .ptr d => uptoBulk d + 1
  | .slice elems spare => uptoBulkAll elems + uptoBulkAll spare + 1
  | .agg parts => uptoBulkAll parts + 1
  | .iface _ d => uptoBulk d + 1
  | .map entries => uptoBulkEntries entries + 1
  | .held _ => 1
def uptoBulkAll {H : Type} : List (DataW H) → Nat
  | [] => 0
  | d :: r => uptoBulk d + uptoBulkAll r
def uptoBulkEntries {H : Type} : List (Lit × DataW H) → Nat
  | [] => 0
  | x :: r => uptoBulkEntry x + uptoBulkEntries r
def uptoBulkEntry {H : Type} : Lit × DataW H → Nat
  | (.string bytes, d) => bytes.length + uptoBulk d + 1
  | (_, d) => uptoBulk d + 1
 end
def uptoSmall : (H : Type) → List (DataW H) → Bool := fun _ ds => decide (uptoBulkAll ds ≤ 1048576)
def OpenSpec.upto (s : _root_.Go.ChangeSpec) : _root_.Go.OpenSpec := { _root_.Go.OpenSpec.ofChange s with cond := some uptoSmall }

/-- 'stopgatelaw41.TicketsBound', WHERE WHAT IT READS IS OF BULK AT MOST 1048576: true; the input reads as it did. -/
def ticketsBoundUptoRow : OpenClaim := { program := "ythghghoikaincaa", sum := "cddbac9a5dfc1c52e19dd079f7457de935f5398dd1681edaecbb1c67ee2c0b5f", func := "stopgate/stopgatelaw41.TicketsBound", spec := "ticketsBound", unfollowed := true, recurses := true, apart := false, narrowed := true }
def TicketsBoundUptoSaid : Prop := ticketsBoundUptoRow.holds Try.pinned (OpenSpec.upto ticketsBoundSpec)

/-- 'stopgatelaw41.TicketsOnce', WHERE WHAT IT READS IS OF BULK AT MOST 1048576: true; the input reads as it did. -/
def ticketsOnceUptoRow : OpenClaim := { program := "ythghghoikaincaa", sum := "cddbac9a5dfc1c52e19dd079f7457de935f5398dd1681edaecbb1c67ee2c0b5f", func := "stopgate/stopgatelaw41.TicketsOnce", spec := "ticketsOnce", unfollowed := true, recurses := true, apart := false, narrowed := true }
def TicketsOnceUptoSaid : Prop := ticketsOnceUptoRow.holds Try.pinned (OpenSpec.upto ticketsOnceSpec)

/-- 'stopgatelaw41.TicketsOrder', WHERE WHAT IT READS IS OF BULK AT MOST 1048576: true; the input reads as it did. -/
def ticketsOrderUptoRow : OpenClaim := { program := "ythghghoikaincaa", sum := "cddbac9a5dfc1c52e19dd079f7457de935f5398dd1681edaecbb1c67ee2c0b5f", func := "stopgate/stopgatelaw41.TicketsOrder", spec := "ticketsOrder", unfollowed := true, recurses := true, apart := false, narrowed := true }
def TicketsOrderUptoSaid : Prop := ticketsOrderUptoRow.holds Try.pinned (OpenSpec.upto ticketsOrderSpec)

end Rows
end Go.Proofs.Ythghghoikaincaa
