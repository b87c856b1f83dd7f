/-
  No cell of these rows narrows 'for every input' (looked for: loops, veiled, ifaces, maps, wideKeys, modest, calm, conditions, laid).
  DERIVED. THE GIVEN ROWS OF THIS SEAT. 4 by the template 'for every input the law returns true; each argument reads behind the call as it read before'; 0 by the template 'total and deterministic' (their statements: YtkoddmedhnhgiaaTotals.lean).
  GIVEN WITH THE SEED: the statements are not yours to turn. If you find one false, say at which input.
  Laid BY PROGRAM, IN A SANDBOX (cutbox-rows.mjs): the forced cells as the released guide's own fill.sh prints them over the translation b19047ad018c711f… (all of the seat's roots in one cut). By AI agents, Wed Nov 11 2026. No macro, syntax, notation, axiom, sorry.
-/
import Derived.Test.YtkoddmedhnhgiaaChecked
import GoSem.Claim
import GoSem.ClaimJoined
import GoSem.ClaimMapViews
import Derived.JoinedTies
import Derived.KernelRfl
namespace Go.Proofs.Ytkoddmedhnhgiaa
/- THE CELL 'sum', in the pinned program and in every row, IS THE sha256 OF THE DUMP (.gsa) THAT YtkoddmedhnhgiaaProg.lean LOADS. Nothing in Lean hashes anything: it is a label: what it is worth is what the hold of that sum in a sandbox is worth. -/
noncomputable def Try.pinned : Pinned := { name := "ytkoddmedhnhgiaa", sum := "b19047ad018c711f5ddb60f970961376df8e13f3af94b062a6ac401092df9bbc", checked := Try.checked }
namespace Rows
def none {H : Type} : Left H := { results := [], args := [] }

/-- 'coronerlaw31.ReportPrints': WHATEVER THE INPUT: true; the input reads as it did. -/
def reportPrintsSpec : ChangeSpec := { name := "reportPrints", fn := fun _ => fun
  | [d] => { results := [.lit (.bool true)], args := [d] }
  | _ => none }
def reportPrintsRow : OpenClaim := { program := "ytkoddmedhnhgiaa", sum := "b19047ad018c711f5ddb60f970961376df8e13f3af94b062a6ac401092df9bbc", func := "coroner/coronerlaw31.ReportPrints", spec := "reportPrints", unfollowed := true, recurses := true, apart := false }
def ReportPrintsSaid : Prop := reportPrintsRow.holds Try.pinned (OpenSpec.ofChange reportPrintsSpec)

/-- ITS FALSE NEIGHBOUR: 'it returns false'. Refute it at one input. -/
def reportPrintsWrong : ChangeSpec := { name := "reportPrints", fn := fun _ => fun
  | [d] => { results := [.lit (.bool false)], args := [d] }
  | _ => none }
def ReportPrintsWrongFalsely : Prop := reportPrintsRow.holds Try.pinned (OpenSpec.ofChange reportPrintsWrong)

/-- 'coronerlaw31.ReportParses': WHATEVER THE INPUT: true; the input reads as it did. -/
def reportParsesSpec : ChangeSpec := { name := "reportParses", fn := fun _ => fun
  | [d] => { results := [.lit (.bool true)], args := [d] }
  | _ => none }
def reportParsesRow : OpenClaim := { program := "ytkoddmedhnhgiaa", sum := "b19047ad018c711f5ddb60f970961376df8e13f3af94b062a6ac401092df9bbc", func := "coroner/coronerlaw31.ReportParses", spec := "reportParses", unfollowed := true, recurses := true, apart := false }
def ReportParsesSaid : Prop := reportParsesRow.holds Try.pinned (OpenSpec.ofChange reportParsesSpec)

/-- ITS FALSE NEIGHBOUR: 'it returns false'. Refute it at one input. -/
def reportParsesWrong : ChangeSpec := { name := "reportParses", fn := fun _ => fun
  | [d] => { results := [.lit (.bool false)], args := [d] }
  | _ => none }
def ReportParsesWrongFalsely : Prop := reportParsesRow.holds Try.pinned (OpenSpec.ofChange reportParsesWrong)

/-- 'coronerlaw31.ReportBack': WHATEVER THE INPUT: true; the input reads as it did. -/
def reportBackSpec : ChangeSpec := { name := "reportBack", fn := fun _ => fun
  | [d] => { results := [.lit (.bool true)], args := [d] }
  | _ => none }
def reportBackRow : OpenClaim := { program := "ytkoddmedhnhgiaa", sum := "b19047ad018c711f5ddb60f970961376df8e13f3af94b062a6ac401092df9bbc", func := "coroner/coronerlaw31.ReportBack", spec := "reportBack", unfollowed := true, recurses := true, apart := false }
def ReportBackSaid : Prop := reportBackRow.holds Try.pinned (OpenSpec.ofChange reportBackSpec)

/-- ITS FALSE NEIGHBOUR: 'it returns false'. Refute it at one input. -/
def reportBackWrong : ChangeSpec := { name := "reportBack", fn := fun _ => fun
  | [d] => { results := [.lit (.bool false)], args := [d] }
  | _ => none }
def ReportBackWrongFalsely : Prop := reportBackRow.holds Try.pinned (OpenSpec.ofChange reportBackWrong)

/-- 'coronerlaw31.ReportSame': WHATEVER THE INPUT: true; the input reads as it did. -/
def reportSameSpec : ChangeSpec := { name := "reportSame", fn := fun _ => fun
  | [d1, d2] => { results := [.lit (.bool true)], args := [d1, d2] }
  | _ => none }
def reportSameRow : OpenClaim := { program := "ytkoddmedhnhgiaa", sum := "b19047ad018c711f5ddb60f970961376df8e13f3af94b062a6ac401092df9bbc", func := "coroner/coronerlaw31.ReportSame", spec := "reportSame", unfollowed := true, recurses := true, apart := false }
def ReportSameSaid : Prop := reportSameRow.holds Try.pinned (OpenSpec.ofChange reportSameSpec)

/-- ITS FALSE NEIGHBOUR: 'it returns false'. Refute it at one input. -/
def reportSameWrong : ChangeSpec := { name := "reportSame", fn := fun _ => fun
  | [d1, d2] => { results := [.lit (.bool false)], args := [d1, d2] }
  | _ => none }
def ReportSameWrongFalsely : Prop := reportSameRow.holds Try.pinned (OpenSpec.ofChange reportSameWrong)

/- THE SECOND FORM. 'bulk': how many values and letters a reading holds, each counted each time it is reached (what is shared counts as often as it is met; a slice's spare places count too). A statement '..UptoSaid' is the law's where the arguments, and the package variables that the reading takes, are together of bulk at most 1048576: NARROWER than '..Said'. Prove '..Said' where nothing that the law and all that it calls make is longer than what came in: it says more and counts as full. Else prove '..UptoSaid'. A law counts once. -/
mutual
def uptoBulk {H : Type} : DataW H → Nat
  | .lit (.string bytes) => bytes.length + 1
  | .lit _ => 1
  | .nil => 1
  | .ptr d => uptoBulk d + 1
  | .slice elems spare => uptoBulkAll elems + uptoBulkAll spare + 1
  | .agg parts => uptoBulkAll parts + 1
  | .iface _ d => uptoBulk d + 1
  | .map entries => uptoBulkEntries entries + 1
  | .held _ => 1
def uptoBulkAll {H : Type} : List (DataW H) → Nat
  | [] => 0
  | d :: r => uptoBulk d + uptoBulkAll r
def uptoBulkEntries {H : Type} : List (Lit × DataW H) → Nat
  | [] => 0
  | x :: r => uptoBulkEntry x + uptoBulkEntries r
def uptoBulkEntry {H : Type} : Lit × DataW H → Nat
  | (.string bytes, d) => bytes.length + uptoBulk d + 1
  | (_, d) => uptoBulk d + 1
 end
def uptoSmall : (H : Type) → List (DataW H) → Bool := fun _ ds => decide (uptoBulkAll ds ≤ 1048576)
def OpenSpec.upto (s : _root_.Go.ChangeSpec) : _root_.Go.OpenSpec := { _root_.Go.OpenSpec.ofChange s with cond := some uptoSmall }

/-- 'coronerlaw31.ReportPrints', WHERE WHAT IT READS IS OF BULK AT MOST 1048576: true; the input reads as it did. -/
def reportPrintsUptoRow : OpenClaim := { program := "ytkoddmedhnhgiaa", sum := "b19047ad018c711f5ddb60f970961376df8e13f3af94b062a6ac401092df9bbc", func := "coroner/coronerlaw31.ReportPrints", spec := "reportPrints", unfollowed := true, recurses := true, apart := false, narrowed := true }
def ReportPrintsUptoSaid : Prop := reportPrintsUptoRow.holds Try.pinned (OpenSpec.upto reportPrintsSpec)

/-- 'coronerlaw31.ReportParses', WHERE WHAT IT READS IS OF BULK AT MOST 1048576: true; the input reads as it did. -/
def reportParsesUptoRow : OpenClaim := { program := "ytkoddmedhnhgiaa", sum := "b19047ad018c711f5ddb60f970961376df8e13f3af94b062a6ac401092df9bbc", func := "coroner/coronerlaw31.ReportParses", spec := "reportParses", unfollowed := true, recurses := true, apart := false, narrowed := true }
def ReportParsesUptoSaid : Prop := reportParsesUptoRow.holds Try.pinned (OpenSpec.upto reportParsesSpec)

/-- 'coronerlaw31.ReportBack', WHERE WHAT IT READS IS OF BULK AT MOST 1048576: true; the input reads as it did. -/
def reportBackUptoRow : OpenClaim := { program := "ytkoddmedhnhgiaa", sum := "b19047ad018c711f5ddb60f970961376df8e13f3af94b062a6ac401092df9bbc", func := "coroner/coronerlaw31.ReportBack", spec := "reportBack", unfollowed := true, recurses := true, apart := false, narrowed := true }
def ReportBackUptoSaid : Prop := reportBackUptoRow.holds Try.pinned (OpenSpec.upto reportBackSpec)

/-- 'coronerlaw31.ReportSame', WHERE WHAT IT READS IS OF BULK AT MOST 1048576: true; the input reads as it did. -/
def reportSameUptoRow : OpenClaim := { program := "ytkoddmedhnhgiaa", sum := "b19047ad018c711f5ddb60f970961376df8e13f3af94b062a6ac401092df9bbc", func := "coroner/coronerlaw31.ReportSame", spec := "reportSame", unfollowed := true, recurses := true, apart := false, narrowed := true }
def ReportSameUptoSaid : Prop := reportSameUptoRow.holds Try.pinned (OpenSpec.upto reportSameSpec)

end Rows
end Go.Proofs.Ytkoddmedhnhgiaa
