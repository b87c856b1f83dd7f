/-
  No cell of these rows narrows 'for every input' (looked for: loops, veiled, ifaces, maps, wideKeys, modest, calm, conditions, laid).
  DERIVED. THE GIVEN ROWS OF THIS SEAT. 16 by the template 'for every input the law returns true; each argument reads behind the call as it read before'; 0 by the template 'total and deterministic' (their statements: YtndciilmnnaemaaTotals.lean).
  GIVEN WITH THE SEED: the statements are not yours to turn. If you find one false, say at which input.
  Laid BY PROGRAM, IN A SANDBOX (cutbox-rows.mjs): the forced cells as the released guide's own fill.sh prints them over the translation 63200f59ba7a0e18… (all of the seat's roots in one cut). By AI agents, Wed Nov 11 2026. No macro, syntax, notation, axiom, sorry.
-/
import Derived.Test.YtndciilmnnaemaaChecked
import GoSem.Claim
import GoSem.ClaimJoined
import GoSem.ClaimMapViews
import Derived.JoinedTies
import Derived.KernelRfl
namespace Go.Proofs.Ytndciilmnnaemaa
/- THE CELL 'sum', in the pinned program and in every row, IS THE sha256 OF THE DUMP (.gsa) THAT YtndciilmnnaemaaProg.lean LOADS. Nothing in Lean hashes anything: it is a label: what it is worth is what the hold of that sum in a sandbox is worth. -/
noncomputable def Try.pinned : Pinned := { name := "ytndciilmnnaemaa", sum := "63200f59ba7a0e1802b5dcc2bd305dd9a9fa1cbb22a09bb66c37f9dce1365145", checked := Try.checked }
namespace Rows
def none {H : Type} : Left H := { results := [], args := [] }

/-- 'coronerlaw01.DigitsParses': WHATEVER THE INPUT: true; the input reads as it did. -/
def digitsParsesSpec : ChangeSpec := { name := "digitsParses", fn := fun _ => fun
  | [d1, d2] => { results := [.lit (.bool true)], args := [d1, d2] }
  | _ => none }
def digitsParsesRow : OpenClaim := { program := "ytndciilmnnaemaa", sum := "63200f59ba7a0e1802b5dcc2bd305dd9a9fa1cbb22a09bb66c37f9dce1365145", func := "coroner/coronerlaw01.DigitsParses", spec := "digitsParses", apart := false }
def DigitsParsesSaid : Prop := digitsParsesRow.holds Try.pinned (OpenSpec.ofChange digitsParsesSpec)

/-- ITS FALSE NEIGHBOUR: 'it returns false'. Refute it at one input. -/
def digitsParsesWrong : ChangeSpec := { name := "digitsParses", fn := fun _ => fun
  | [d1, d2] => { results := [.lit (.bool false)], args := [d1, d2] }
  | _ => none }
def DigitsParsesWrongFalsely : Prop := digitsParsesRow.holds Try.pinned (OpenSpec.ofChange digitsParsesWrong)

/-- 'coronerlaw01.DigitsLists': WHATEVER THE INPUT: true; the input reads as it did. -/
def digitsListsSpec : ChangeSpec := { name := "digitsLists", fn := fun _ => fun
  | [d1, d2] => { results := [.lit (.bool true)], args := [d1, d2] }
  | _ => none }
def digitsListsRow : OpenClaim := { program := "ytndciilmnnaemaa", sum := "63200f59ba7a0e1802b5dcc2bd305dd9a9fa1cbb22a09bb66c37f9dce1365145", func := "coroner/coronerlaw01.DigitsLists", spec := "digitsLists", apart := false }
def DigitsListsSaid : Prop := digitsListsRow.holds Try.pinned (OpenSpec.ofChange digitsListsSpec)

/-- ITS FALSE NEIGHBOUR: 'it returns false'. Refute it at one input. -/
def digitsListsWrong : ChangeSpec := { name := "digitsLists", fn := fun _ => fun
  | [d1, d2] => { results := [.lit (.bool false)], args := [d1, d2] }
  | _ => none }
def DigitsListsWrongFalsely : Prop := digitsListsRow.holds Try.pinned (OpenSpec.ofChange digitsListsWrong)

/-- 'coronerlaw01.DigitsPrints': WHATEVER THE INPUT: true; the input reads as it did. -/
def digitsPrintsSpec : ChangeSpec := { name := "digitsPrints", fn := fun _ => fun
  | [d] => { results := [.lit (.bool true)], args := [d] }
  | _ => none }
def digitsPrintsRow : OpenClaim := { program := "ytndciilmnnaemaa", sum := "63200f59ba7a0e1802b5dcc2bd305dd9a9fa1cbb22a09bb66c37f9dce1365145", func := "coroner/coronerlaw01.DigitsPrints", spec := "digitsPrints", apart := false }
def DigitsPrintsSaid : Prop := digitsPrintsRow.holds Try.pinned (OpenSpec.ofChange digitsPrintsSpec)

/-- ITS FALSE NEIGHBOUR: 'it returns false'. Refute it at one input. -/
def digitsPrintsWrong : ChangeSpec := { name := "digitsPrints", fn := fun _ => fun
  | [d] => { results := [.lit (.bool false)], args := [d] }
  | _ => none }
def DigitsPrintsWrongFalsely : Prop := digitsPrintsRow.holds Try.pinned (OpenSpec.ofChange digitsPrintsWrong)

/-- 'coronerlaw01.DigitsBack': WHATEVER THE INPUT: true; the input reads as it did. -/
def digitsBackSpec : ChangeSpec := { name := "digitsBack", fn := fun _ => fun
  | [d1, d2, d3] => { results := [.lit (.bool true)], args := [d1, d2, d3] }
  | _ => none }
def digitsBackRow : OpenClaim := { program := "ytndciilmnnaemaa", sum := "63200f59ba7a0e1802b5dcc2bd305dd9a9fa1cbb22a09bb66c37f9dce1365145", func := "coroner/coronerlaw01.DigitsBack", spec := "digitsBack", apart := false }
def DigitsBackSaid : Prop := digitsBackRow.holds Try.pinned (OpenSpec.ofChange digitsBackSpec)

/-- ITS FALSE NEIGHBOUR: 'it returns false'. Refute it at one input. -/
def digitsBackWrong : ChangeSpec := { name := "digitsBack", fn := fun _ => fun
  | [d1, d2, d3] => { results := [.lit (.bool false)], args := [d1, d2, d3] }
  | _ => none }
def DigitsBackWrongFalsely : Prop := digitsBackRow.holds Try.pinned (OpenSpec.ofChange digitsBackWrong)

/-- 'coronerlaw01.DigitsWrong': WHATEVER THE INPUT: true; the input reads as it did. -/
def digitsWrongSpec : ChangeSpec := { name := "digitsWrong", fn := fun _ => fun
  | [d1, d2] => { results := [.lit (.bool true)], args := [d1, d2] }
  | _ => none }
def digitsWrongRow : OpenClaim := { program := "ytndciilmnnaemaa", sum := "63200f59ba7a0e1802b5dcc2bd305dd9a9fa1cbb22a09bb66c37f9dce1365145", func := "coroner/coronerlaw01.DigitsWrong", spec := "digitsWrong", apart := false }
def DigitsWrongSaid : Prop := digitsWrongRow.holds Try.pinned (OpenSpec.ofChange digitsWrongSpec)

/-- ITS FALSE NEIGHBOUR: 'it returns false'. Refute it at one input. -/
def digitsWrongWrong : ChangeSpec := { name := "digitsWrong", fn := fun _ => fun
  | [d1, d2] => { results := [.lit (.bool false)], args := [d1, d2] }
  | _ => none }
def DigitsWrongWrongFalsely : Prop := digitsWrongRow.holds Try.pinned (OpenSpec.ofChange digitsWrongWrong)

/-- 'coronerlaw07.DequePlays': WHATEVER THE INPUT: true; the input reads as it did. -/
def dequePlaysSpec : ChangeSpec := { name := "dequePlays", fn := fun _ => fun
  | [d] => { results := [.lit (.bool true)], args := [d] }
  | _ => none }
def dequePlaysRow : OpenClaim := { program := "ytndciilmnnaemaa", sum := "63200f59ba7a0e1802b5dcc2bd305dd9a9fa1cbb22a09bb66c37f9dce1365145", func := "coroner/coronerlaw07.DequePlays", spec := "dequePlays", unfollowed := true, recurses := true, apart := false }
def DequePlaysSaid : Prop := dequePlaysRow.holds Try.pinned (OpenSpec.ofChange dequePlaysSpec)

/-- ITS FALSE NEIGHBOUR: 'it returns false'. Refute it at one input. -/
def dequePlaysWrong : ChangeSpec := { name := "dequePlays", fn := fun _ => fun
  | [d] => { results := [.lit (.bool false)], args := [d] }
  | _ => none }
def DequePlaysWrongFalsely : Prop := dequePlaysRow.holds Try.pinned (OpenSpec.ofChange dequePlaysWrong)

/-- 'coronerlaw07.DequeOnce': WHATEVER THE INPUT: true; the input reads as it did. -/
def dequeOnceSpec : ChangeSpec := { name := "dequeOnce", fn := fun _ => fun
  | [d1, d2] => { results := [.lit (.bool true)], args := [d1, d2] }
  | _ => none }
def dequeOnceRow : OpenClaim := { program := "ytndciilmnnaemaa", sum := "63200f59ba7a0e1802b5dcc2bd305dd9a9fa1cbb22a09bb66c37f9dce1365145", func := "coroner/coronerlaw07.DequeOnce", spec := "dequeOnce", unfollowed := true, recurses := true, apart := false }
def DequeOnceSaid : Prop := dequeOnceRow.holds Try.pinned (OpenSpec.ofChange dequeOnceSpec)

/-- ITS FALSE NEIGHBOUR: 'it returns false'. Refute it at one input. -/
def dequeOnceWrong : ChangeSpec := { name := "dequeOnce", fn := fun _ => fun
  | [d1, d2] => { results := [.lit (.bool false)], args := [d1, d2] }
  | _ => none }
def DequeOnceWrongFalsely : Prop := dequeOnceRow.holds Try.pinned (OpenSpec.ofChange dequeOnceWrong)

/-- 'coronerlaw07.DequeGoes': WHATEVER THE INPUT: true; the input reads as it did. -/
def dequeGoesSpec : ChangeSpec := { name := "dequeGoes", fn := fun _ => fun
  | [d1, d2, d3] => { results := [.lit (.bool true)], args := [d1, d2, d3] }
  | _ => none }
def dequeGoesRow : OpenClaim := { program := "ytndciilmnnaemaa", sum := "63200f59ba7a0e1802b5dcc2bd305dd9a9fa1cbb22a09bb66c37f9dce1365145", func := "coroner/coronerlaw07.DequeGoes", spec := "dequeGoes", unfollowed := true, recurses := true, apart := false }
def DequeGoesSaid : Prop := dequeGoesRow.holds Try.pinned (OpenSpec.ofChange dequeGoesSpec)

/-- ITS FALSE NEIGHBOUR: 'it returns false'. Refute it at one input. -/
def dequeGoesWrong : ChangeSpec := { name := "dequeGoes", fn := fun _ => fun
  | [d1, d2, d3] => { results := [.lit (.bool false)], args := [d1, d2, d3] }
  | _ => none }
def DequeGoesWrongFalsely : Prop := dequeGoesRow.holds Try.pinned (OpenSpec.ofChange dequeGoesWrong)

/-- 'coronerlaw07.DequeNone': WHATEVER THE INPUT: true; the input reads as it did. -/
def dequeNoneSpec : ChangeSpec := { name := "dequeNone", fn := fun _ => fun
  | [d] => { results := [.lit (.bool true)], args := [d] }
  | _ => none }
def dequeNoneRow : OpenClaim := { program := "ytndciilmnnaemaa", sum := "63200f59ba7a0e1802b5dcc2bd305dd9a9fa1cbb22a09bb66c37f9dce1365145", func := "coroner/coronerlaw07.DequeNone", spec := "dequeNone", unfollowed := true, recurses := true, apart := false }
def DequeNoneSaid : Prop := dequeNoneRow.holds Try.pinned (OpenSpec.ofChange dequeNoneSpec)

/-- ITS FALSE NEIGHBOUR: 'it returns false'. Refute it at one input. -/
def dequeNoneWrong : ChangeSpec := { name := "dequeNone", fn := fun _ => fun
  | [d] => { results := [.lit (.bool false)], args := [d] }
  | _ => none }
def DequeNoneWrongFalsely : Prop := dequeNoneRow.holds Try.pinned (OpenSpec.ofChange dequeNoneWrong)

/-- 'coronerlaw02.CursorPlays': WHATEVER THE INPUT: true; the input reads as it did. -/
def cursorPlaysSpec : ChangeSpec := { name := "cursorPlays", fn := fun _ => fun
  | [d1, d2] => { results := [.lit (.bool true)], args := [d1, d2] }
  | _ => none }
def cursorPlaysRow : OpenClaim := { program := "ytndciilmnnaemaa", sum := "63200f59ba7a0e1802b5dcc2bd305dd9a9fa1cbb22a09bb66c37f9dce1365145", func := "coroner/coronerlaw02.CursorPlays", spec := "cursorPlays", apart := false }
def CursorPlaysSaid : Prop := cursorPlaysRow.holds Try.pinned (OpenSpec.ofChange cursorPlaysSpec)

/-- ITS FALSE NEIGHBOUR: 'it returns false'. Refute it at one input. -/
def cursorPlaysWrong : ChangeSpec := { name := "cursorPlays", fn := fun _ => fun
  | [d1, d2] => { results := [.lit (.bool false)], args := [d1, d2] }
  | _ => none }
def CursorPlaysWrongFalsely : Prop := cursorPlaysRow.holds Try.pinned (OpenSpec.ofChange cursorPlaysWrong)

/-- 'coronerlaw02.CursorSticks': WHATEVER THE INPUT: true; the input reads as it did. -/
def cursorSticksSpec : ChangeSpec := { name := "cursorSticks", fn := fun _ => fun
  | [d1, d2, d3] => { results := [.lit (.bool true)], args := [d1, d2, d3] }
  | _ => none }
def cursorSticksRow : OpenClaim := { program := "ytndciilmnnaemaa", sum := "63200f59ba7a0e1802b5dcc2bd305dd9a9fa1cbb22a09bb66c37f9dce1365145", func := "coroner/coronerlaw02.CursorSticks", spec := "cursorSticks", apart := false }
def CursorSticksSaid : Prop := cursorSticksRow.holds Try.pinned (OpenSpec.ofChange cursorSticksSpec)

/-- ITS FALSE NEIGHBOUR: 'it returns false'. Refute it at one input. -/
def cursorSticksWrong : ChangeSpec := { name := "cursorSticks", fn := fun _ => fun
  | [d1, d2, d3] => { results := [.lit (.bool false)], args := [d1, d2, d3] }
  | _ => none }
def CursorSticksWrongFalsely : Prop := cursorSticksRow.holds Try.pinned (OpenSpec.ofChange cursorSticksWrong)

/-- 'coronerlaw02.CursorReads': WHATEVER THE INPUT: true; the input reads as it did. -/
def cursorReadsSpec : ChangeSpec := { name := "cursorReads", fn := fun _ => fun
  | [d1, d2] => { results := [.lit (.bool true)], args := [d1, d2] }
  | _ => none }
def cursorReadsRow : OpenClaim := { program := "ytndciilmnnaemaa", sum := "63200f59ba7a0e1802b5dcc2bd305dd9a9fa1cbb22a09bb66c37f9dce1365145", func := "coroner/coronerlaw02.CursorReads", spec := "cursorReads", apart := false }
def CursorReadsSaid : Prop := cursorReadsRow.holds Try.pinned (OpenSpec.ofChange cursorReadsSpec)

/-- ITS FALSE NEIGHBOUR: 'it returns false'. Refute it at one input. -/
def cursorReadsWrong : ChangeSpec := { name := "cursorReads", fn := fun _ => fun
  | [d1, d2] => { results := [.lit (.bool false)], args := [d1, d2] }
  | _ => none }
def CursorReadsWrongFalsely : Prop := cursorReadsRow.holds Try.pinned (OpenSpec.ofChange cursorReadsWrong)

/-- 'coronerlaw02.CursorNone': WHATEVER THE INPUT: true; the input reads as it did. -/
def cursorNoneSpec : ChangeSpec := { name := "cursorNone", fn := fun _ => fun
  | [d1, d2] => { results := [.lit (.bool true)], args := [d1, d2] }
  | _ => none }
def cursorNoneRow : OpenClaim := { program := "ytndciilmnnaemaa", sum := "63200f59ba7a0e1802b5dcc2bd305dd9a9fa1cbb22a09bb66c37f9dce1365145", func := "coroner/coronerlaw02.CursorNone", spec := "cursorNone", apart := false }
def CursorNoneSaid : Prop := cursorNoneRow.holds Try.pinned (OpenSpec.ofChange cursorNoneSpec)

/-- ITS FALSE NEIGHBOUR: 'it returns false'. Refute it at one input. -/
def cursorNoneWrong : ChangeSpec := { name := "cursorNone", fn := fun _ => fun
  | [d1, d2] => { results := [.lit (.bool false)], args := [d1, d2] }
  | _ => none }
def CursorNoneWrongFalsely : Prop := cursorNoneRow.holds Try.pinned (OpenSpec.ofChange cursorNoneWrong)

/-- 'coronerlaw08.PipeOrder': WHATEVER THE INPUT: true; the input reads as it did. -/
def pipeOrderSpec : ChangeSpec := { name := "pipeOrder", fn := fun _ => fun
  | [d1, d2, d3] => { results := [.lit (.bool true)], args := [d1, d2, d3] }
  | _ => none }
def pipeOrderRow : OpenClaim := { program := "ytndciilmnnaemaa", sum := "63200f59ba7a0e1802b5dcc2bd305dd9a9fa1cbb22a09bb66c37f9dce1365145", func := "coroner/coronerlaw08.PipeOrder", spec := "pipeOrder", unfollowed := true, recurses := true, apart := false }
def PipeOrderSaid : Prop := pipeOrderRow.holds Try.pinned (OpenSpec.ofChange pipeOrderSpec)

/-- ITS FALSE NEIGHBOUR: 'it returns false'. Refute it at one input. -/
def pipeOrderWrong : ChangeSpec := { name := "pipeOrder", fn := fun _ => fun
  | [d1, d2, d3] => { results := [.lit (.bool false)], args := [d1, d2, d3] }
  | _ => none }
def PipeOrderWrongFalsely : Prop := pipeOrderRow.holds Try.pinned (OpenSpec.ofChange pipeOrderWrong)

/-- 'coronerlaw08.PipePlays': WHATEVER THE INPUT: true; the input reads as it did. -/
def pipePlaysSpec : ChangeSpec := { name := "pipePlays", fn := fun _ => fun
  | [d1, d2] => { results := [.lit (.bool true)], args := [d1, d2] }
  | _ => none }
def pipePlaysRow : OpenClaim := { program := "ytndciilmnnaemaa", sum := "63200f59ba7a0e1802b5dcc2bd305dd9a9fa1cbb22a09bb66c37f9dce1365145", func := "coroner/coronerlaw08.PipePlays", spec := "pipePlays", unfollowed := true, recurses := true, apart := false }
def PipePlaysSaid : Prop := pipePlaysRow.holds Try.pinned (OpenSpec.ofChange pipePlaysSpec)

/-- ITS FALSE NEIGHBOUR: 'it returns false'. Refute it at one input. -/
def pipePlaysWrong : ChangeSpec := { name := "pipePlays", fn := fun _ => fun
  | [d1, d2] => { results := [.lit (.bool false)], args := [d1, d2] }
  | _ => none }
def PipePlaysWrongFalsely : Prop := pipePlaysRow.holds Try.pinned (OpenSpec.ofChange pipePlaysWrong)

/-- 'coronerlaw08.PipeNone': WHATEVER THE INPUT: true; the input reads as it did. -/
def pipeNoneSpec : ChangeSpec := { name := "pipeNone", fn := fun _ => fun
  | [d] => { results := [.lit (.bool true)], args := [d] }
  | _ => none }
def pipeNoneRow : OpenClaim := { program := "ytndciilmnnaemaa", sum := "63200f59ba7a0e1802b5dcc2bd305dd9a9fa1cbb22a09bb66c37f9dce1365145", func := "coroner/coronerlaw08.PipeNone", spec := "pipeNone", unfollowed := true, recurses := true, apart := false }
def PipeNoneSaid : Prop := pipeNoneRow.holds Try.pinned (OpenSpec.ofChange pipeNoneSpec)

/-- ITS FALSE NEIGHBOUR: 'it returns false'. Refute it at one input. -/
def pipeNoneWrong : ChangeSpec := { name := "pipeNone", fn := fun _ => fun
  | [d] => { results := [.lit (.bool false)], args := [d] }
  | _ => none }
def PipeNoneWrongFalsely : Prop := pipeNoneRow.holds Try.pinned (OpenSpec.ofChange pipeNoneWrong)

/- THE SECOND FORM. 'bulk': how many values and letters a reading holds, each counted each time it is reached (what is shared counts as often as it is met; a slice's spare places count too). A statement '..UptoSaid' is the law's where the arguments, and the package variables that the reading takes, are together of bulk at most 1048576: NARROWER than '..Said'. Prove '..Said' where nothing that the law and all that it calls make is longer than what came in: it says more and counts as full. Else prove '..UptoSaid'. A law counts once. -/
mutual
def uptoBulk {H : Type} : DataW H → Nat
  | .lit (.string bytes) => bytes.length + 1
  | .lit _ => 1
  | .nil => 1
  | .ptr d => uptoBulk d + 1
  | .slice elems spare => uptoBulkAll elems + uptoBulkAll spare + 1
  | .agg parts => uptoBulkAll parts + 1
  | .iface _ d => uptoBulk d + 1
  | .map entries => uptoBulkEntries entries + 1
  | .held _ => 1
def uptoBulkAll {H : Type} : List (DataW H) → Nat
  | [] => 0
  | d :: r => uptoBulk d + uptoBulkAll r
def uptoBulkEntries {H : Type} : List (Lit × DataW H) → Nat
  | [] => 0
  | x :: r => uptoBulkEntry x + uptoBulkEntries r
def uptoBulkEntry {H : Type} : Lit × DataW H → Nat
  | (.string bytes, d) => bytes.length + uptoBulk d + 1
  | (_, d) => uptoBulk d + 1
 end
def uptoSmall : (H : Type) → List (DataW H) → Bool := fun _ ds => decide (uptoBulkAll ds ≤ 1048576)
def OpenSpec.upto (s : _root_.Go.ChangeSpec) : _root_.Go.OpenSpec := { _root_.Go.OpenSpec.ofChange s with cond := some uptoSmall }

/-- 'coronerlaw01.DigitsParses', WHERE WHAT IT READS IS OF BULK AT MOST 1048576: true; the input reads as it did. -/
def digitsParsesUptoRow : OpenClaim := { program := "ytndciilmnnaemaa", sum := "63200f59ba7a0e1802b5dcc2bd305dd9a9fa1cbb22a09bb66c37f9dce1365145", func := "coroner/coronerlaw01.DigitsParses", spec := "digitsParses", apart := false, narrowed := true }
def DigitsParsesUptoSaid : Prop := digitsParsesUptoRow.holds Try.pinned (OpenSpec.upto digitsParsesSpec)

/-- 'coronerlaw01.DigitsLists', WHERE WHAT IT READS IS OF BULK AT MOST 1048576: true; the input reads as it did. -/
def digitsListsUptoRow : OpenClaim := { program := "ytndciilmnnaemaa", sum := "63200f59ba7a0e1802b5dcc2bd305dd9a9fa1cbb22a09bb66c37f9dce1365145", func := "coroner/coronerlaw01.DigitsLists", spec := "digitsLists", apart := false, narrowed := true }
def DigitsListsUptoSaid : Prop := digitsListsUptoRow.holds Try.pinned (OpenSpec.upto digitsListsSpec)

/-- 'coronerlaw01.DigitsPrints', WHERE WHAT IT READS IS OF BULK AT MOST 1048576: true; the input reads as it did. -/
def digitsPrintsUptoRow : OpenClaim := { program := "ytndciilmnnaemaa", sum := "63200f59ba7a0e1802b5dcc2bd305dd9a9fa1cbb22a09bb66c37f9dce1365145", func := "coroner/coronerlaw01.DigitsPrints", spec := "digitsPrints", apart := false, narrowed := true }
def DigitsPrintsUptoSaid : Prop := digitsPrintsUptoRow.holds Try.pinned (OpenSpec.upto digitsPrintsSpec)

/-- 'coronerlaw01.DigitsBack', WHERE WHAT IT READS IS OF BULK AT MOST 1048576: true; the input reads as it did. -/
def digitsBackUptoRow : OpenClaim := { program := "ytndciilmnnaemaa", sum := "63200f59ba7a0e1802b5dcc2bd305dd9a9fa1cbb22a09bb66c37f9dce1365145", func := "coroner/coronerlaw01.DigitsBack", spec := "digitsBack", apart := false, narrowed := true }
def DigitsBackUptoSaid : Prop := digitsBackUptoRow.holds Try.pinned (OpenSpec.upto digitsBackSpec)

/-- 'coronerlaw01.DigitsWrong', WHERE WHAT IT READS IS OF BULK AT MOST 1048576: true; the input reads as it did. -/
def digitsWrongUptoRow : OpenClaim := { program := "ytndciilmnnaemaa", sum := "63200f59ba7a0e1802b5dcc2bd305dd9a9fa1cbb22a09bb66c37f9dce1365145", func := "coroner/coronerlaw01.DigitsWrong", spec := "digitsWrong", apart := false, narrowed := true }
def DigitsWrongUptoSaid : Prop := digitsWrongUptoRow.holds Try.pinned (OpenSpec.upto digitsWrongSpec)

/-- 'coronerlaw07.DequePlays', WHERE WHAT IT READS IS OF BULK AT MOST 1048576: true; the input reads as it did. -/
def dequePlaysUptoRow : OpenClaim := { program := "ytndciilmnnaemaa", sum := "63200f59ba7a0e1802b5dcc2bd305dd9a9fa1cbb22a09bb66c37f9dce1365145", func := "coroner/coronerlaw07.DequePlays", spec := "dequePlays", unfollowed := true, recurses := true, apart := false, narrowed := true }
def DequePlaysUptoSaid : Prop := dequePlaysUptoRow.holds Try.pinned (OpenSpec.upto dequePlaysSpec)

/-- 'coronerlaw07.DequeOnce', WHERE WHAT IT READS IS OF BULK AT MOST 1048576: true; the input reads as it did. -/
def dequeOnceUptoRow : OpenClaim := { program := "ytndciilmnnaemaa", sum := "63200f59ba7a0e1802b5dcc2bd305dd9a9fa1cbb22a09bb66c37f9dce1365145", func := "coroner/coronerlaw07.DequeOnce", spec := "dequeOnce", unfollowed := true, recurses := true, apart := false, narrowed := true }
def DequeOnceUptoSaid : Prop := dequeOnceUptoRow.holds Try.pinned (OpenSpec.upto dequeOnceSpec)

/-- 'coronerlaw07.DequeGoes', WHERE WHAT IT READS IS OF BULK AT MOST 1048576: true; the input reads as it did. -/
def dequeGoesUptoRow : OpenClaim := { program := "ytndciilmnnaemaa", sum := "63200f59ba7a0e1802b5dcc2bd305dd9a9fa1cbb22a09bb66c37f9dce1365145", func := "coroner/coronerlaw07.DequeGoes", spec := "dequeGoes", unfollowed := true, recurses := true, apart := false, narrowed := true }
def DequeGoesUptoSaid : Prop := dequeGoesUptoRow.holds Try.pinned (OpenSpec.upto dequeGoesSpec)

/-- 'coronerlaw07.DequeNone', WHERE WHAT IT READS IS OF BULK AT MOST 1048576: true; the input reads as it did. -/
def dequeNoneUptoRow : OpenClaim := { program := "ytndciilmnnaemaa", sum := "63200f59ba7a0e1802b5dcc2bd305dd9a9fa1cbb22a09bb66c37f9dce1365145", func := "coroner/coronerlaw07.DequeNone", spec := "dequeNone", unfollowed := true, recurses := true, apart := false, narrowed := true }
def DequeNoneUptoSaid : Prop := dequeNoneUptoRow.holds Try.pinned (OpenSpec.upto dequeNoneSpec)

/-- 'coronerlaw02.CursorPlays', WHERE WHAT IT READS IS OF BULK AT MOST 1048576: true; the input reads as it did. -/
def cursorPlaysUptoRow : OpenClaim := { program := "ytndciilmnnaemaa", sum := "63200f59ba7a0e1802b5dcc2bd305dd9a9fa1cbb22a09bb66c37f9dce1365145", func := "coroner/coronerlaw02.CursorPlays", spec := "cursorPlays", apart := false, narrowed := true }
def CursorPlaysUptoSaid : Prop := cursorPlaysUptoRow.holds Try.pinned (OpenSpec.upto cursorPlaysSpec)

/-- 'coronerlaw02.CursorSticks', WHERE WHAT IT READS IS OF BULK AT MOST 1048576: true; the input reads as it did. -/
def cursorSticksUptoRow : OpenClaim := { program := "ytndciilmnnaemaa", sum := "63200f59ba7a0e1802b5dcc2bd305dd9a9fa1cbb22a09bb66c37f9dce1365145", func := "coroner/coronerlaw02.CursorSticks", spec := "cursorSticks", apart := false, narrowed := true }
def CursorSticksUptoSaid : Prop := cursorSticksUptoRow.holds Try.pinned (OpenSpec.upto cursorSticksSpec)

/-- 'coronerlaw02.CursorReads', WHERE WHAT IT READS IS OF BULK AT MOST 1048576: true; the input reads as it did. -/
def cursorReadsUptoRow : OpenClaim := { program := "ytndciilmnnaemaa", sum := "63200f59ba7a0e1802b5dcc2bd305dd9a9fa1cbb22a09bb66c37f9dce1365145", func := "coroner/coronerlaw02.CursorReads", spec := "cursorReads", apart := false, narrowed := true }
def CursorReadsUptoSaid : Prop := cursorReadsUptoRow.holds Try.pinned (OpenSpec.upto cursorReadsSpec)

/-- 'coronerlaw02.CursorNone', WHERE WHAT IT READS IS OF BULK AT MOST 1048576: true; the input reads as it did. -/
def cursorNoneUptoRow : OpenClaim := { program := "ytndciilmnnaemaa", sum := "63200f59ba7a0e1802b5dcc2bd305dd9a9fa1cbb22a09bb66c37f9dce1365145", func := "coroner/coronerlaw02.CursorNone", spec := "cursorNone", apart := false, narrowed := true }
def CursorNoneUptoSaid : Prop := cursorNoneUptoRow.holds Try.pinned (OpenSpec.upto cursorNoneSpec)

/-- 'coronerlaw08.PipeOrder', WHERE WHAT IT READS IS OF BULK AT MOST 1048576: true; the input reads as it did. -/
def pipeOrderUptoRow : OpenClaim := { program := "ytndciilmnnaemaa", sum := "63200f59ba7a0e1802b5dcc2bd305dd9a9fa1cbb22a09bb66c37f9dce1365145", func := "coroner/coronerlaw08.PipeOrder", spec := "pipeOrder", unfollowed := true, recurses := true, apart := false, narrowed := true }
def PipeOrderUptoSaid : Prop := pipeOrderUptoRow.holds Try.pinned (OpenSpec.upto pipeOrderSpec)

/-- 'coronerlaw08.PipePlays', WHERE WHAT IT READS IS OF BULK AT MOST 1048576: true; the input reads as it did. -/
def pipePlaysUptoRow : OpenClaim := { program := "ytndciilmnnaemaa", sum := "63200f59ba7a0e1802b5dcc2bd305dd9a9fa1cbb22a09bb66c37f9dce1365145", func := "coroner/coronerlaw08.PipePlays", spec := "pipePlays", unfollowed := true, recurses := true, apart := false, narrowed := true }
def PipePlaysUptoSaid : Prop := pipePlaysUptoRow.holds Try.pinned (OpenSpec.upto pipePlaysSpec)

/-- 'coronerlaw08.PipeNone', WHERE WHAT IT READS IS OF BULK AT MOST 1048576: true; the input reads as it did. -/
def pipeNoneUptoRow : OpenClaim := { program := "ytndciilmnnaemaa", sum := "63200f59ba7a0e1802b5dcc2bd305dd9a9fa1cbb22a09bb66c37f9dce1365145", func := "coroner/coronerlaw08.PipeNone", spec := "pipeNone", unfollowed := true, recurses := true, apart := false, narrowed := true }
def PipeNoneUptoSaid : Prop := pipeNoneUptoRow.holds Try.pinned (OpenSpec.upto pipeNoneSpec)

end Rows
end Go.Proofs.Ytndciilmnnaemaa
