/-
  No cell of these rows narrows 'for every input' (looked for: loops, veiled, ifaces, maps, wideKeys, modest, calm, conditions, laid).
  DERIVED. THE GIVEN ROWS OF THIS SEAT. 5 by the template 'for every input the law returns true; each argument reads behind the call as it read before'; 0 by the template 'total and deterministic' (their statements: YtdchnaghmmhkhaaTotals.lean).
  GIVEN WITH THE SEED: the statements are not yours to turn. If you find one false, say at which input.
  Laid BY PROGRAM, IN A SANDBOX (cutbox-rows.mjs): the forced cells as the released guide's own fill.sh prints them over the translation 404b776cb59bda96… (all of the seat's roots in one cut). By AI agents, Wed Nov 11 2026. No macro, syntax, notation, axiom, sorry.
-/
import Derived.Test.YtdchnaghmmhkhaaChecked
import GoSem.Claim
import GoSem.ClaimJoined
import GoSem.ClaimMapViews
import Derived.JoinedTies
import Derived.KernelRfl
namespace Go.Proofs.Ytdchnaghmmhkhaa
/- THE CELL 'sum', in the pinned program and in every row, IS THE sha256 OF THE DUMP (.gsa) THAT YtdchnaghmmhkhaaProg.lean LOADS. Nothing in Lean hashes anything: it is a label: what it is worth is what the hold of that sum in a sandbox is worth. -/
noncomputable def Try.pinned : Pinned := { name := "ytdchnaghmmhkhaa", sum := "404b776cb59bda96f03df93c6e6249d3db9557cb667d59e66ce84390fb71fa52", checked := Try.checked }
namespace Rows
def none {H : Type} : Left H := { results := [], args := [] }

/-- 'coronerlaw19.CsrGraphs': WHATEVER THE INPUT: true; the input reads as it did. -/
def csrGraphsSpec : ChangeSpec := { name := "csrGraphs", fn := fun _ => fun
  | [d1, d2, d3, d4] => { results := [.lit (.bool true)], args := [d1, d2, d3, d4] }
  | _ => none }
def csrGraphsRow : OpenClaim := { program := "ytdchnaghmmhkhaa", sum := "404b776cb59bda96f03df93c6e6249d3db9557cb667d59e66ce84390fb71fa52", func := "coroner/coronerlaw19.CsrGraphs", spec := "csrGraphs", unfollowed := true, recurses := true, apart := false }
def CsrGraphsSaid : Prop := csrGraphsRow.holds Try.pinned (OpenSpec.ofChange csrGraphsSpec)

/-- ITS FALSE NEIGHBOUR: 'it returns false'. Refute it at one input. -/
def csrGraphsWrong : ChangeSpec := { name := "csrGraphs", fn := fun _ => fun
  | [d1, d2, d3, d4] => { results := [.lit (.bool false)], args := [d1, d2, d3, d4] }
  | _ => none }
def CsrGraphsWrongFalsely : Prop := csrGraphsRow.holds Try.pinned (OpenSpec.ofChange csrGraphsWrong)

/-- 'coronerlaw19.CsrOut': WHATEVER THE INPUT: true; the input reads as it did. -/
def csrOutSpec : ChangeSpec := { name := "csrOut", fn := fun _ => fun
  | [d1, d2, d3, d4, d5] => { results := [.lit (.bool true)], args := [d1, d2, d3, d4, d5] }
  | _ => none }
def csrOutRow : OpenClaim := { program := "ytdchnaghmmhkhaa", sum := "404b776cb59bda96f03df93c6e6249d3db9557cb667d59e66ce84390fb71fa52", func := "coroner/coronerlaw19.CsrOut", spec := "csrOut", unfollowed := true, recurses := true, apart := false }
def CsrOutSaid : Prop := csrOutRow.holds Try.pinned (OpenSpec.ofChange csrOutSpec)

/-- ITS FALSE NEIGHBOUR: 'it returns false'. Refute it at one input. -/
def csrOutWrong : ChangeSpec := { name := "csrOut", fn := fun _ => fun
  | [d1, d2, d3, d4, d5] => { results := [.lit (.bool false)], args := [d1, d2, d3, d4, d5] }
  | _ => none }
def CsrOutWrongFalsely : Prop := csrOutRow.holds Try.pinned (OpenSpec.ofChange csrOutWrong)

/-- 'coronerlaw19.CsrTurned': WHATEVER THE INPUT: true; the input reads as it did. -/
def csrTurnedSpec : ChangeSpec := { name := "csrTurned", fn := fun _ => fun
  | [d1, d2, d3, d4] => { results := [.lit (.bool true)], args := [d1, d2, d3, d4] }
  | _ => none }
def csrTurnedRow : OpenClaim := { program := "ytdchnaghmmhkhaa", sum := "404b776cb59bda96f03df93c6e6249d3db9557cb667d59e66ce84390fb71fa52", func := "coroner/coronerlaw19.CsrTurned", spec := "csrTurned", unfollowed := true, recurses := true, apart := false }
def CsrTurnedSaid : Prop := csrTurnedRow.holds Try.pinned (OpenSpec.ofChange csrTurnedSpec)

/-- ITS FALSE NEIGHBOUR: 'it returns false'. Refute it at one input. -/
def csrTurnedWrong : ChangeSpec := { name := "csrTurned", fn := fun _ => fun
  | [d1, d2, d3, d4] => { results := [.lit (.bool false)], args := [d1, d2, d3, d4] }
  | _ => none }
def CsrTurnedWrongFalsely : Prop := csrTurnedRow.holds Try.pinned (OpenSpec.ofChange csrTurnedWrong)

/-- 'coronerlaw19.CsrOrder': WHATEVER THE INPUT: true; the input reads as it did. -/
def csrOrderSpec : ChangeSpec := { name := "csrOrder", fn := fun _ => fun
  | [d1, d2, d3] => { results := [.lit (.bool true)], args := [d1, d2, d3] }
  | _ => none }
def csrOrderRow : OpenClaim := { program := "ytdchnaghmmhkhaa", sum := "404b776cb59bda96f03df93c6e6249d3db9557cb667d59e66ce84390fb71fa52", func := "coroner/coronerlaw19.CsrOrder", spec := "csrOrder", unfollowed := true, recurses := true, apart := false }
def CsrOrderSaid : Prop := csrOrderRow.holds Try.pinned (OpenSpec.ofChange csrOrderSpec)

/-- ITS FALSE NEIGHBOUR: 'it returns false'. Refute it at one input. -/
def csrOrderWrong : ChangeSpec := { name := "csrOrder", fn := fun _ => fun
  | [d1, d2, d3] => { results := [.lit (.bool false)], args := [d1, d2, d3] }
  | _ => none }
def CsrOrderWrongFalsely : Prop := csrOrderRow.holds Try.pinned (OpenSpec.ofChange csrOrderWrong)

/-- 'coronerlaw19.CsrNone': WHATEVER THE INPUT: true; the input reads as it did. -/
def csrNoneSpec : ChangeSpec := { name := "csrNone", fn := fun _ => fun
  | [d1, d2] => { results := [.lit (.bool true)], args := [d1, d2] }
  | _ => none }
def csrNoneRow : OpenClaim := { program := "ytdchnaghmmhkhaa", sum := "404b776cb59bda96f03df93c6e6249d3db9557cb667d59e66ce84390fb71fa52", func := "coroner/coronerlaw19.CsrNone", spec := "csrNone", unfollowed := true, recurses := true, apart := false }
def CsrNoneSaid : Prop := csrNoneRow.holds Try.pinned (OpenSpec.ofChange csrNoneSpec)

/-- ITS FALSE NEIGHBOUR: 'it returns false'. Refute it at one input. -/
def csrNoneWrong : ChangeSpec := { name := "csrNone", fn := fun _ => fun
  | [d1, d2] => { results := [.lit (.bool false)], args := [d1, d2] }
  | _ => none }
def CsrNoneWrongFalsely : Prop := csrNoneRow.holds Try.pinned (OpenSpec.ofChange csrNoneWrong)

/- THE SECOND FORM. 'bulk': how many values and letters a reading holds, each counted each time it is reached (what is shared counts as often as it is met; a slice's spare places count too). A statement '..UptoSaid' is the law's where the arguments, and the package variables that the reading takes, are together of bulk at most 1048576: NARROWER than '..Said'. Prove '..Said' where nothing that the law and all that it calls make is longer than what came in: it says more and counts as full. Else prove '..UptoSaid'. A law counts once. -/
mutual
def uptoBulk {H : Type} : DataW H → Nat
  | .lit (.string bytes) => bytes.length + 1
  | .lit _ => 1
  | .nil => 1
  | .ptr d => uptoBulk d + 1
  | .slice elems spare => uptoBulkAll elems + uptoBulkAll spare + 1
  | .agg parts => uptoBulkAll parts + 1
  | .iface _ d => uptoBulk d + 1
  | .map entries => uptoBulkEntries entries + 1
  | .held _ => 1
def uptoBulkAll {H : Type} : List (DataW H) → Nat
  | [] => 0
  | d :: r => uptoBulk d + uptoBulkAll r
def uptoBulkEntries {H : Type} : List (Lit × DataW H) → Nat
  | [] => 0
  | x :: r => uptoBulkEntry x + uptoBulkEntries r
def uptoBulkEntry {H : Type} : Lit × DataW H → Nat
  | (.string bytes, d) => bytes.length + uptoBulk d + 1
  | (_, d) => uptoBulk d + 1
 end
def uptoSmall : (H : Type) → List (DataW H) → Bool := fun _ ds => decide (uptoBulkAll ds ≤ 1048576)
def OpenSpec.upto (s : _root_.Go.ChangeSpec) : _root_.Go.OpenSpec := { _root_.Go.OpenSpec.ofChange s with cond := some uptoSmall }

/-- 'coronerlaw19.CsrGraphs', WHERE WHAT IT READS IS OF BULK AT MOST 1048576: true; the input reads as it did. -/
def csrGraphsUptoRow : OpenClaim := { program := "ytdchnaghmmhkhaa", sum := "404b776cb59bda96f03df93c6e6249d3db9557cb667d59e66ce84390fb71fa52", func := "coroner/coronerlaw19.CsrGraphs", spec := "csrGraphs", unfollowed := true, recurses := true, apart := false, narrowed := true }
def CsrGraphsUptoSaid : Prop := csrGraphsUptoRow.holds Try.pinned (OpenSpec.upto csrGraphsSpec)

/-- 'coronerlaw19.CsrOut', WHERE WHAT IT READS IS OF BULK AT MOST 1048576: true; the input reads as it did. -/
def csrOutUptoRow : OpenClaim := { program := "ytdchnaghmmhkhaa", sum := "404b776cb59bda96f03df93c6e6249d3db9557cb667d59e66ce84390fb71fa52", func := "coroner/coronerlaw19.CsrOut", spec := "csrOut", unfollowed := true, recurses := true, apart := false, narrowed := true }
def CsrOutUptoSaid : Prop := csrOutUptoRow.holds Try.pinned (OpenSpec.upto csrOutSpec)

/-- 'coronerlaw19.CsrTurned', WHERE WHAT IT READS IS OF BULK AT MOST 1048576: true; the input reads as it did. -/
def csrTurnedUptoRow : OpenClaim := { program := "ytdchnaghmmhkhaa", sum := "404b776cb59bda96f03df93c6e6249d3db9557cb667d59e66ce84390fb71fa52", func := "coroner/coronerlaw19.CsrTurned", spec := "csrTurned", unfollowed := true, recurses := true, apart := false, narrowed := true }
def CsrTurnedUptoSaid : Prop := csrTurnedUptoRow.holds Try.pinned (OpenSpec.upto csrTurnedSpec)

/-- 'coronerlaw19.CsrOrder', WHERE WHAT IT READS IS OF BULK AT MOST 1048576: true; the input reads as it did. -/
def csrOrderUptoRow : OpenClaim := { program := "ytdchnaghmmhkhaa", sum := "404b776cb59bda96f03df93c6e6249d3db9557cb667d59e66ce84390fb71fa52", func := "coroner/coronerlaw19.CsrOrder", spec := "csrOrder", unfollowed := true, recurses := true, apart := false, narrowed := true }
def CsrOrderUptoSaid : Prop := csrOrderUptoRow.holds Try.pinned (OpenSpec.upto csrOrderSpec)

/-- 'coronerlaw19.CsrNone', WHERE WHAT IT READS IS OF BULK AT MOST 1048576: true; the input reads as it did. -/
def csrNoneUptoRow : OpenClaim := { program := "ytdchnaghmmhkhaa", sum := "404b776cb59bda96f03df93c6e6249d3db9557cb667d59e66ce84390fb71fa52", func := "coroner/coronerlaw19.CsrNone", spec := "csrNone", unfollowed := true, recurses := true, apart := false, narrowed := true }
def CsrNoneUptoSaid : Prop := csrNoneUptoRow.holds Try.pinned (OpenSpec.upto csrNoneSpec)

end Rows
end Go.Proofs.Ytdchnaghmmhkhaa
