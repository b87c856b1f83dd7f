/- Printed by shake.py. -/
import Derived.Test.YtdchnaghmmhkhaaKz39
set_option linter.unusedSimpArgs false
namespace Go.Proofs.Ytdchnaghmmhkhaa
open Go.Shelf Go.RowKit Go.Lib Go.Sort Go.Proofs.Ytdchnaghmmhkhaa.RowAt Go.Proofs.Ytdchnaghmmhkhaa.PCsrGraphs Go.Proofs.YtdchnaghmmhkhaaW.PrintWords Cs Cs.Ai
set_option linter.unusedSectionVars false
set_option linter.unusedVariables false
theorem few_off (w : World) (n : Int) (A : Option Addr) (c : Nat) (l : List S53) (hi : InA w A l) (hc : l.length ≤ c) (h : fewB n l 60 200 = false) : Calls Try.prog 19 #[.int .i64 n, .slice A l.length c, .int .i64 60, .int .i64 200] w fun e w' => e = .returned (.bool false) ∧ Drawn0 w w' := by
 obtain ⟨k, hk⟩ := few_f n l 60 200 (by decide)
 rw [h] at hk
 exact coronerref19_Few.calls k n A c l 60 200 false w hi.each.1 hc hk
end Go.Proofs.Ytdchnaghmmhkhaa
