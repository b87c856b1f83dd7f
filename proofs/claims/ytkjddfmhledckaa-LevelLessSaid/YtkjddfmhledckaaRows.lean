/-
  No cell of these rows narrows 'for every input' (looked for: loops, veiled, ifaces, maps, wideKeys, modest, calm, conditions, laid).
  DERIVED. THE GIVEN ROWS OF THIS SEAT. 3 by the template 'for every input the law returns true; each argument reads behind the call as it read before'; 0 by the template 'total and deterministic' (their statements: YtkjddfmhledckaaTotals.lean).
  GIVEN WITH THE SEED: the statements are not yours to turn. If you find one false, say at which input.
  Laid BY PROGRAM, IN A SANDBOX (cutbox-rows.mjs): the forced cells as the released guide's own fill.sh prints them over the translation c7da1e48a4b121a4… (all of the seat's roots in one cut). By AI agents, Wed Nov 11 2026. No macro, syntax, notation, axiom, sorry.
-/
import Derived.Test.YtkjddfmhledckaaChecked
import GoSem.Claim
import GoSem.ClaimJoined
import GoSem.ClaimMapViews
import Derived.JoinedTies
import Derived.KernelRfl
namespace Go.Proofs.Ytkjddfmhledckaa
/- THE CELL 'sum', in the pinned program and in every row, IS THE sha256 OF THE DUMP (.gsa) THAT YtkjddfmhledckaaProg.lean LOADS. Nothing in Lean hashes anything: it is a label: what it is worth is what the hold of that sum in a sandbox is worth. -/
noncomputable def Try.pinned : Pinned := { name := "ytkjddfmhledckaa", sum := "c7da1e48a4b121a4dd7ac064a58f121e95108dcc21e244f56731d1003f98a91f", checked := Try.checked }
namespace Rows
def none {H : Type} : Left H := { results := [], args := [] }

/-- 'coronerlaw30.LevelBars': WHATEVER THE INPUT: true; the input reads as it did. -/
def levelBarsSpec : ChangeSpec := { name := "levelBars", fn := fun _ => fun
  | [d1, d2] => { results := [.lit (.bool true)], args := [d1, d2] }
  | _ => none }
def levelBarsRow : OpenClaim := { program := "ytkjddfmhledckaa", sum := "c7da1e48a4b121a4dd7ac064a58f121e95108dcc21e244f56731d1003f98a91f", func := "coroner/coronerlaw30.LevelBars", spec := "levelBars", unfollowed := true, recurses := true, apart := false }
def LevelBarsSaid : Prop := levelBarsRow.holds Try.pinned (OpenSpec.ofChange levelBarsSpec)

/-- ITS FALSE NEIGHBOUR: 'it returns false'. Refute it at one input. -/
def levelBarsWrong : ChangeSpec := { name := "levelBars", fn := fun _ => fun
  | [d1, d2] => { results := [.lit (.bool false)], args := [d1, d2] }
  | _ => none }
def LevelBarsWrongFalsely : Prop := levelBarsRow.holds Try.pinned (OpenSpec.ofChange levelBarsWrong)

/-- 'coronerlaw30.LevelOf': WHATEVER THE INPUT: true; the input reads as it did. -/
def levelOfSpec : ChangeSpec := { name := "levelOf", fn := fun _ => fun
  | [d] => { results := [.lit (.bool true)], args := [d] }
  | _ => none }
def levelOfRow : OpenClaim := { program := "ytkjddfmhledckaa", sum := "c7da1e48a4b121a4dd7ac064a58f121e95108dcc21e244f56731d1003f98a91f", func := "coroner/coronerlaw30.LevelOf", spec := "levelOf", unfollowed := true, recurses := true, apart := false }
def LevelOfSaid : Prop := levelOfRow.holds Try.pinned (OpenSpec.ofChange levelOfSpec)

/-- ITS FALSE NEIGHBOUR: 'it returns false'. Refute it at one input. -/
def levelOfWrong : ChangeSpec := { name := "levelOf", fn := fun _ => fun
  | [d] => { results := [.lit (.bool false)], args := [d] }
  | _ => none }
def LevelOfWrongFalsely : Prop := levelOfRow.holds Try.pinned (OpenSpec.ofChange levelOfWrong)

/-- 'coronerlaw30.LevelLess': WHATEVER THE INPUT: true; the input reads as it did. -/
def levelLessSpec : ChangeSpec := { name := "levelLess", fn := fun _ => fun
  | [d1, d2, d3] => { results := [.lit (.bool true)], args := [d1, d2, d3] }
  | _ => none }
def levelLessRow : OpenClaim := { program := "ytkjddfmhledckaa", sum := "c7da1e48a4b121a4dd7ac064a58f121e95108dcc21e244f56731d1003f98a91f", func := "coroner/coronerlaw30.LevelLess", spec := "levelLess", unfollowed := true, recurses := true, apart := false }
def LevelLessSaid : Prop := levelLessRow.holds Try.pinned (OpenSpec.ofChange levelLessSpec)

/-- ITS FALSE NEIGHBOUR: 'it returns false'. Refute it at one input. -/
def levelLessWrong : ChangeSpec := { name := "levelLess", fn := fun _ => fun
  | [d1, d2, d3] => { results := [.lit (.bool false)], args := [d1, d2, d3] }
  | _ => none }
def LevelLessWrongFalsely : Prop := levelLessRow.holds Try.pinned (OpenSpec.ofChange levelLessWrong)

/- THE SECOND FORM. 'bulk': how many values and letters a reading holds, each counted each time it is reached (what is shared counts as often as it is met; a slice's spare places count too). A statement '..UptoSaid' is the law's where the arguments, and the package variables that the reading takes, are together of bulk at most 1048576: NARROWER than '..Said'. Prove '..Said' where nothing that the law and all that it calls make is longer than what came in: it says more and counts as full. Else prove '..UptoSaid'. A law counts once. -/
mutual
def uptoBulk {H : Type} : DataW H → Nat
  | .lit (.string bytes) => bytes.length + 1
  | .lit _ => 1
  | .nil => 1
  | .ptr d => uptoBulk d + 1
  | .slice elems spare => uptoBulkAll elems + uptoBulkAll spare + 1
  | .agg parts => uptoBulkAll parts + 1
  | .iface _ d => uptoBulk d + 1
  | .map entries => uptoBulkEntries entries + 1
  | .held _ => 1
def uptoBulkAll {H : Type} : List (DataW H) → Nat
  | [] => 0
  | d :: r => uptoBulk d + uptoBulkAll r
def uptoBulkEntries {H : Type} : List (Lit × DataW H) → Nat
  | [] => 0
  | x :: r => uptoBulkEntry x + uptoBulkEntries r
def uptoBulkEntry {H : Type} : Lit × DataW H → Nat
  | (.string bytes, d) => bytes.length + uptoBulk d + 1
  | (_, d) => uptoBulk d + 1
 end
def uptoSmall : (H : Type) → List (DataW H) → Bool := fun _ ds => decide (uptoBulkAll ds ≤ 1048576)
def OpenSpec.upto (s : _root_.Go.ChangeSpec) : _root_.Go.OpenSpec := { _root_.Go.OpenSpec.ofChange s with cond := some uptoSmall }

/-- 'coronerlaw30.LevelBars', WHERE WHAT IT READS IS OF BULK AT MOST 1048576: true; the input reads as it did. -/
def levelBarsUptoRow : OpenClaim := { program := "ytkjddfmhledckaa", sum := "c7da1e48a4b121a4dd7ac064a58f121e95108dcc21e244f56731d1003f98a91f", func := "coroner/coronerlaw30.LevelBars", spec := "levelBars", unfollowed := true, recurses := true, apart := false, narrowed := true }
def LevelBarsUptoSaid : Prop := levelBarsUptoRow.holds Try.pinned (OpenSpec.upto levelBarsSpec)

/-- 'coronerlaw30.LevelOf', WHERE WHAT IT READS IS OF BULK AT MOST 1048576: true; the input reads as it did. -/
def levelOfUptoRow : OpenClaim := { program := "ytkjddfmhledckaa", sum := "c7da1e48a4b121a4dd7ac064a58f121e95108dcc21e244f56731d1003f98a91f", func := "coroner/coronerlaw30.LevelOf", spec := "levelOf", unfollowed := true, recurses := true, apart := false, narrowed := true }
def LevelOfUptoSaid : Prop := levelOfUptoRow.holds Try.pinned (OpenSpec.upto levelOfSpec)

/-- 'coronerlaw30.LevelLess', WHERE WHAT IT READS IS OF BULK AT MOST 1048576: true; the input reads as it did. -/
def levelLessUptoRow : OpenClaim := { program := "ytkjddfmhledckaa", sum := "c7da1e48a4b121a4dd7ac064a58f121e95108dcc21e244f56731d1003f98a91f", func := "coroner/coronerlaw30.LevelLess", spec := "levelLess", unfollowed := true, recurses := true, apart := false, narrowed := true }
def LevelLessUptoSaid : Prop := levelLessUptoRow.holds Try.pinned (OpenSpec.upto levelLessSpec)

end Rows
end Go.Proofs.Ytkjddfmhledckaa
