/-
  No cell of these rows narrows 'for every input' (looked for: loops, veiled, ifaces, maps, wideKeys, modest, calm, conditions, laid).
  DERIVED. THE GIVEN ROWS OF THIS SEAT. 8 by the template 'for every input the law returns true; each argument reads behind the call as it read before'; 0 by the template 'total and deterministic' (their statements: YtlcioegdmopppaaTotals.lean).
  GIVEN WITH THE SEED: the statements are not yours to turn. If you find one false, say at which input.
  Laid BY PROGRAM, IN A SANDBOX (cutbox-rows.mjs): the forced cells as the released guide's own fill.sh prints them over the translation 4881b32d11c82249… (all of the seat's roots in one cut). By AI agents, Wed Nov 11 2026. No macro, syntax, notation, axiom, sorry.
-/
import Derived.Test.YtlcioegdmopppaaChecked
import GoSem.Claim
import GoSem.ClaimJoined
import GoSem.ClaimMapViews
import Derived.JoinedTies
import Derived.KernelRfl
namespace Go.Proofs.Ytlcioegdmopppaa
/- THE CELL 'sum', in the pinned program and in every row, IS THE sha256 OF THE DUMP (.gsa) THAT YtlcioegdmopppaaProg.lean LOADS. Nothing in Lean hashes anything: it is a label: what it is worth is what the hold of that sum in a sandbox is worth. -/
noncomputable def Try.pinned : Pinned := { name := "ytlcioegdmopppaa", sum := "4881b32d11c822493fa9a2aaad20e526e9b438a9df81bf04f2d99e2fd6a54f28", checked := Try.checked }
namespace Rows
def none {H : Type} : Left H := { results := [], args := [] }

/-- 'coronerlaw04.EncodeTexts': WHATEVER THE INPUT: true; the input reads as it did. -/
def encodeTextsSpec : ChangeSpec := { name := "encodeTexts", fn := fun _ => fun
  | [d] => { results := [.lit (.bool true)], args := [d] }
  | _ => none }
def encodeTextsRow : OpenClaim := { program := "ytlcioegdmopppaa", sum := "4881b32d11c822493fa9a2aaad20e526e9b438a9df81bf04f2d99e2fd6a54f28", func := "coroner/coronerlaw04.EncodeTexts", spec := "encodeTexts", unfollowed := true, recurses := true, plainKeys := false, apart := false }
def EncodeTextsSaid : Prop := encodeTextsRow.holds Try.pinned (OpenSpec.ofChange encodeTextsSpec)

/-- ITS FALSE NEIGHBOUR: 'it returns false'. Refute it at one input. -/
def encodeTextsWrong : ChangeSpec := { name := "encodeTexts", fn := fun _ => fun
  | [d] => { results := [.lit (.bool false)], args := [d] }
  | _ => none }
def EncodeTextsWrongFalsely : Prop := encodeTextsRow.holds Try.pinned (OpenSpec.ofChange encodeTextsWrong)

/-- 'coronerlaw04.EncodeMost': WHATEVER THE INPUT: true; the input reads as it did. -/
def encodeMostSpec : ChangeSpec := { name := "encodeMost", fn := fun _ => fun
  | [d1, d2, d3] => { results := [.lit (.bool true)], args := [d1, d2, d3] }
  | _ => none }
def encodeMostRow : OpenClaim := { program := "ytlcioegdmopppaa", sum := "4881b32d11c822493fa9a2aaad20e526e9b438a9df81bf04f2d99e2fd6a54f28", func := "coroner/coronerlaw04.EncodeMost", spec := "encodeMost", unfollowed := true, recurses := true, plainKeys := false, apart := false }
def EncodeMostSaid : Prop := encodeMostRow.holds Try.pinned (OpenSpec.ofChange encodeMostSpec)

/-- ITS FALSE NEIGHBOUR: 'it returns false'. Refute it at one input. -/
def encodeMostWrong : ChangeSpec := { name := "encodeMost", fn := fun _ => fun
  | [d1, d2, d3] => { results := [.lit (.bool false)], args := [d1, d2, d3] }
  | _ => none }
def EncodeMostWrongFalsely : Prop := encodeMostRow.holds Try.pinned (OpenSpec.ofChange encodeMostWrong)

/-- 'coronerlaw03.HistoryDecodes': WHATEVER THE INPUT: true; the input reads as it did. -/
def historyDecodesSpec : ChangeSpec := { name := "historyDecodes", fn := fun _ => fun
  | [d1, d2] => { results := [.lit (.bool true)], args := [d1, d2] }
  | _ => none }
def historyDecodesRow : OpenClaim := { program := "ytlcioegdmopppaa", sum := "4881b32d11c822493fa9a2aaad20e526e9b438a9df81bf04f2d99e2fd6a54f28", func := "coroner/coronerlaw03.HistoryDecodes", spec := "historyDecodes", unfollowed := true, recurses := true, plainKeys := false, apart := false }
def HistoryDecodesSaid : Prop := historyDecodesRow.holds Try.pinned (OpenSpec.ofChange historyDecodesSpec)

/-- ITS FALSE NEIGHBOUR: 'it returns false'. Refute it at one input. -/
def historyDecodesWrong : ChangeSpec := { name := "historyDecodes", fn := fun _ => fun
  | [d1, d2] => { results := [.lit (.bool false)], args := [d1, d2] }
  | _ => none }
def HistoryDecodesWrongFalsely : Prop := historyDecodesRow.holds Try.pinned (OpenSpec.ofChange historyDecodesWrong)

/-- 'coronerlaw03.HistorySame': WHATEVER THE INPUT: true; the input reads as it did. -/
def historySameSpec : ChangeSpec := { name := "historySame", fn := fun _ => fun
  | [d1, d2] => { results := [.lit (.bool true)], args := [d1, d2] }
  | _ => none }
def historySameRow : OpenClaim := { program := "ytlcioegdmopppaa", sum := "4881b32d11c822493fa9a2aaad20e526e9b438a9df81bf04f2d99e2fd6a54f28", func := "coroner/coronerlaw03.HistorySame", spec := "historySame", unfollowed := true, recurses := true, plainKeys := false, apart := false }
def HistorySameSaid : Prop := historySameRow.holds Try.pinned (OpenSpec.ofChange historySameSpec)

/-- ITS FALSE NEIGHBOUR: 'it returns false'. Refute it at one input. -/
def historySameWrong : ChangeSpec := { name := "historySame", fn := fun _ => fun
  | [d1, d2] => { results := [.lit (.bool false)], args := [d1, d2] }
  | _ => none }
def HistorySameWrongFalsely : Prop := historySameRow.holds Try.pinned (OpenSpec.ofChange historySameWrong)

/-- 'coronerlaw03.HistoryLines': WHATEVER THE INPUT: true; the input reads as it did. -/
def historyLinesSpec : ChangeSpec := { name := "historyLines", fn := fun _ => fun
  | [d1, d2, d3] => { results := [.lit (.bool true)], args := [d1, d2, d3] }
  | _ => none }
def historyLinesRow : OpenClaim := { program := "ytlcioegdmopppaa", sum := "4881b32d11c822493fa9a2aaad20e526e9b438a9df81bf04f2d99e2fd6a54f28", func := "coroner/coronerlaw03.HistoryLines", spec := "historyLines", unfollowed := true, recurses := true, plainKeys := false, apart := false }
def HistoryLinesSaid : Prop := historyLinesRow.holds Try.pinned (OpenSpec.ofChange historyLinesSpec)

/-- ITS FALSE NEIGHBOUR: 'it returns false'. Refute it at one input. -/
def historyLinesWrong : ChangeSpec := { name := "historyLines", fn := fun _ => fun
  | [d1, d2, d3] => { results := [.lit (.bool false)], args := [d1, d2, d3] }
  | _ => none }
def HistoryLinesWrongFalsely : Prop := historyLinesRow.holds Try.pinned (OpenSpec.ofChange historyLinesWrong)

/-- 'coronerlaw03.HistoryMost': WHATEVER THE INPUT: true; the input reads as it did. -/
def historyMostSpec : ChangeSpec := { name := "historyMost", fn := fun _ => fun
  | [d1, d2] => { results := [.lit (.bool true)], args := [d1, d2] }
  | _ => none }
def historyMostRow : OpenClaim := { program := "ytlcioegdmopppaa", sum := "4881b32d11c822493fa9a2aaad20e526e9b438a9df81bf04f2d99e2fd6a54f28", func := "coroner/coronerlaw03.HistoryMost", spec := "historyMost", unfollowed := true, recurses := true, plainKeys := false, apart := false }
def HistoryMostSaid : Prop := historyMostRow.holds Try.pinned (OpenSpec.ofChange historyMostSpec)

/-- ITS FALSE NEIGHBOUR: 'it returns false'. Refute it at one input. -/
def historyMostWrong : ChangeSpec := { name := "historyMost", fn := fun _ => fun
  | [d1, d2] => { results := [.lit (.bool false)], args := [d1, d2] }
  | _ => none }
def HistoryMostWrongFalsely : Prop := historyMostRow.holds Try.pinned (OpenSpec.ofChange historyMostWrong)

/-- 'coronerlaw04.EncodeBack': WHATEVER THE INPUT: true; the input reads as it did. -/
def encodeBackSpec : ChangeSpec := { name := "encodeBack", fn := fun _ => fun
  | [d] => { results := [.lit (.bool true)], args := [d] }
  | _ => none }
def encodeBackRow : OpenClaim := { program := "ytlcioegdmopppaa", sum := "4881b32d11c822493fa9a2aaad20e526e9b438a9df81bf04f2d99e2fd6a54f28", func := "coroner/coronerlaw04.EncodeBack", spec := "encodeBack", unfollowed := true, recurses := true, plainKeys := false, apart := false }
def EncodeBackSaid : Prop := encodeBackRow.holds Try.pinned (OpenSpec.ofChange encodeBackSpec)

/-- ITS FALSE NEIGHBOUR: 'it returns false'. Refute it at one input. -/
def encodeBackWrong : ChangeSpec := { name := "encodeBack", fn := fun _ => fun
  | [d] => { results := [.lit (.bool false)], args := [d] }
  | _ => none }
def EncodeBackWrongFalsely : Prop := encodeBackRow.holds Try.pinned (OpenSpec.ofChange encodeBackWrong)

/-- 'coronerlaw04.EncodeOne': WHATEVER THE INPUT: true; the input reads as it did. -/
def encodeOneSpec : ChangeSpec := { name := "encodeOne", fn := fun _ => fun
  | [d] => { results := [.lit (.bool true)], args := [d] }
  | _ => none }
def encodeOneRow : OpenClaim := { program := "ytlcioegdmopppaa", sum := "4881b32d11c822493fa9a2aaad20e526e9b438a9df81bf04f2d99e2fd6a54f28", func := "coroner/coronerlaw04.EncodeOne", spec := "encodeOne", unfollowed := true, recurses := true, plainKeys := false, apart := false }
def EncodeOneSaid : Prop := encodeOneRow.holds Try.pinned (OpenSpec.ofChange encodeOneSpec)

/-- ITS FALSE NEIGHBOUR: 'it returns false'. Refute it at one input. -/
def encodeOneWrong : ChangeSpec := { name := "encodeOne", fn := fun _ => fun
  | [d] => { results := [.lit (.bool false)], args := [d] }
  | _ => none }
def EncodeOneWrongFalsely : Prop := encodeOneRow.holds Try.pinned (OpenSpec.ofChange encodeOneWrong)

/- THE SECOND FORM. 'bulk': how many values and letters a reading holds, each counted each time it is reached (what is shared counts as often as it is met; a slice's spare places count too). A statement '..UptoSaid' is the law's where the arguments, and the package variables that the reading takes, are together of bulk at most 1048576: NARROWER than '..Said'. Prove '..Said' where nothing that the law and all that it calls make is longer than what came in: it says more and counts as full. Else prove '..UptoSaid'. A law counts once. -/
mutual
def uptoBulk {H : Type} : DataW H → Nat
  | .lit (.string bytes) => bytes.length + 1
  | .lit _ => 1
  | .nil => 1
  | .ptr d => uptoBulk d + 1
  | .slice elems spare => uptoBulkAll elems + uptoBulkAll spare + 1
  | .agg parts => uptoBulkAll parts + 1
  | .iface _ d => uptoBulk d + 1
  | .map entries => uptoBulkEntries entries + 1
  | .held _ => 1
def uptoBulkAll {H : Type} : List (DataW H) → Nat
  | [] => 0
  | d :: r => uptoBulk d + uptoBulkAll r
def uptoBulkEntries {H : Type} : List (Lit × DataW H) → Nat
  | [] => 0
  | x :: r => uptoBulkEntry x + uptoBulkEntries r
def uptoBulkEntry {H : Type} : Lit × DataW H → Nat
  | (.string bytes, d) => bytes.length + uptoBulk d + 1
  | (_, d) => uptoBulk d + 1
 end
def uptoSmall : (H : Type) → List (DataW H) → Bool := fun _ ds => decide (uptoBulkAll ds ≤ 1048576)
def OpenSpec.upto (s : _root_.Go.ChangeSpec) : _root_.Go.OpenSpec := { _root_.Go.OpenSpec.ofChange s with cond := some uptoSmall }

/-- 'coronerlaw04.EncodeTexts', WHERE WHAT IT READS IS OF BULK AT MOST 1048576: true; the input reads as it did. -/
def encodeTextsUptoRow : OpenClaim := { program := "ytlcioegdmopppaa", sum := "4881b32d11c822493fa9a2aaad20e526e9b438a9df81bf04f2d99e2fd6a54f28", func := "coroner/coronerlaw04.EncodeTexts", spec := "encodeTexts", unfollowed := true, recurses := true, plainKeys := false, apart := false, narrowed := true }
def EncodeTextsUptoSaid : Prop := encodeTextsUptoRow.holds Try.pinned (OpenSpec.upto encodeTextsSpec)

/-- 'coronerlaw04.EncodeMost', WHERE WHAT IT READS IS OF BULK AT MOST 1048576: true; the input reads as it did. -/
def encodeMostUptoRow : OpenClaim := { program := "ytlcioegdmopppaa", sum := "4881b32d11c822493fa9a2aaad20e526e9b438a9df81bf04f2d99e2fd6a54f28", func := "coroner/coronerlaw04.EncodeMost", spec := "encodeMost", unfollowed := true, recurses := true, plainKeys := false, apart := false, narrowed := true }
def EncodeMostUptoSaid : Prop := encodeMostUptoRow.holds Try.pinned (OpenSpec.upto encodeMostSpec)

/-- 'coronerlaw03.HistoryDecodes', WHERE WHAT IT READS IS OF BULK AT MOST 1048576: true; the input reads as it did. -/
def historyDecodesUptoRow : OpenClaim := { program := "ytlcioegdmopppaa", sum := "4881b32d11c822493fa9a2aaad20e526e9b438a9df81bf04f2d99e2fd6a54f28", func := "coroner/coronerlaw03.HistoryDecodes", spec := "historyDecodes", unfollowed := true, recurses := true, plainKeys := false, apart := false, narrowed := true }
def HistoryDecodesUptoSaid : Prop := historyDecodesUptoRow.holds Try.pinned (OpenSpec.upto historyDecodesSpec)

/-- 'coronerlaw03.HistorySame', WHERE WHAT IT READS IS OF BULK AT MOST 1048576: true; the input reads as it did. -/
def historySameUptoRow : OpenClaim := { program := "ytlcioegdmopppaa", sum := "4881b32d11c822493fa9a2aaad20e526e9b438a9df81bf04f2d99e2fd6a54f28", func := "coroner/coronerlaw03.HistorySame", spec := "historySame", unfollowed := true, recurses := true, plainKeys := false, apart := false, narrowed := true }
def HistorySameUptoSaid : Prop := historySameUptoRow.holds Try.pinned (OpenSpec.upto historySameSpec)

/-- 'coronerlaw03.HistoryLines', WHERE WHAT IT READS IS OF BULK AT MOST 1048576: true; the input reads as it did. -/
def historyLinesUptoRow : OpenClaim := { program := "ytlcioegdmopppaa", sum := "4881b32d11c822493fa9a2aaad20e526e9b438a9df81bf04f2d99e2fd6a54f28", func := "coroner/coronerlaw03.HistoryLines", spec := "historyLines", unfollowed := true, recurses := true, plainKeys := false, apart := false, narrowed := true }
def HistoryLinesUptoSaid : Prop := historyLinesUptoRow.holds Try.pinned (OpenSpec.upto historyLinesSpec)

/-- 'coronerlaw03.HistoryMost', WHERE WHAT IT READS IS OF BULK AT MOST 1048576: true; the input reads as it did. -/
def historyMostUptoRow : OpenClaim := { program := "ytlcioegdmopppaa", sum := "4881b32d11c822493fa9a2aaad20e526e9b438a9df81bf04f2d99e2fd6a54f28", func := "coroner/coronerlaw03.HistoryMost", spec := "historyMost", unfollowed := true, recurses := true, plainKeys := false, apart := false, narrowed := true }
def HistoryMostUptoSaid : Prop := historyMostUptoRow.holds Try.pinned (OpenSpec.upto historyMostSpec)

/-- 'coronerlaw04.EncodeBack', WHERE WHAT IT READS IS OF BULK AT MOST 1048576: true; the input reads as it did. -/
def encodeBackUptoRow : OpenClaim := { program := "ytlcioegdmopppaa", sum := "4881b32d11c822493fa9a2aaad20e526e9b438a9df81bf04f2d99e2fd6a54f28", func := "coroner/coronerlaw04.EncodeBack", spec := "encodeBack", unfollowed := true, recurses := true, plainKeys := false, apart := false, narrowed := true }
def EncodeBackUptoSaid : Prop := encodeBackUptoRow.holds Try.pinned (OpenSpec.upto encodeBackSpec)

/-- 'coronerlaw04.EncodeOne', WHERE WHAT IT READS IS OF BULK AT MOST 1048576: true; the input reads as it did. -/
def encodeOneUptoRow : OpenClaim := { program := "ytlcioegdmopppaa", sum := "4881b32d11c822493fa9a2aaad20e526e9b438a9df81bf04f2d99e2fd6a54f28", func := "coroner/coronerlaw04.EncodeOne", spec := "encodeOne", unfollowed := true, recurses := true, plainKeys := false, apart := false, narrowed := true }
def EncodeOneUptoSaid : Prop := encodeOneUptoRow.holds Try.pinned (OpenSpec.upto encodeOneSpec)

end Rows
end Go.Proofs.Ytlcioegdmopppaa
