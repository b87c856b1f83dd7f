/- Printed by shake.py. -/
import Derived.Test.YtdchnaghmmhkhaaKz40
import Derived.Test.YtdchnaghmmhkhaaKz41
import Derived.Test.YtdchnaghmmhkhaaKz42
set_option linter.unusedSimpArgs false
namespace Go.Proofs.Ytdchnaghmmhkhaa
open Go.Shelf Go.RowKit Go.Lib Go.Sort Go.Proofs.Ytdchnaghmmhkhaa.RowAt Go.Proofs.Ytdchnaghmmhkhaa.PCsrGraphs Go.Proofs.YtdchnaghmmhkhaaW.PrintWords Go.Proofs.YtdchnaghmmhkhaaW.PrintLast Cs Cs.Ai
set_option linter.unusedSectionVars false
set_option linter.unusedVariables false
theorem rnew_ok (w : World) (n : Nat) (A : Option Addr) (c : Nat) (l : List S53) (hi : InA w A l) (hc : l.length ≤ c) (hl : l.length ≤ 200) (hok : l.any (fun x => outA n (ofR x)) = false) (hn : n ≤ 1024) (w1 : World) (hb : Below w.heap.size w w1) :
 Calls Try.prog 11 #[.int .i64 n, .slice A l.length c] w1 fun e w' => ∃ A2 c2, e = .returned (.tuple #[.agg #[.int .i64 n, .slice A2 (l.foldl upd (sq0 n)).length c2], .int .i64 0]) ∧ Kd.C (Kd.slice 3 (Kd.int .i64)) w' A2 (l.foldl upd (sq0 n)).length (l.foldl upd (sq0 n)) ∧ (l.foldl upd (sq0 n)).length ≤ c2 ∧ Below w1.heap.size w1 w' := by
 obtain ⟨k, hk⟩ := new_f n l hn (by omega)
 rw [if_neg (by rw [hok]; exact Bool.false_ne_true)] at hk
 refine (coronerref19_New.calls k n A c l _ _ _ w1 (Kd.C_below hi.each.1 hb) hc hk).mono ?_
 rintro e w2 ⟨v, rfl, h1, h2⟩
 obtain ⟨A2, c2, rfl⟩ := Kd.S_slice h1
 obtain ⟨a1, a2, a3⟩ := Kd.S_reads' h1
 exact ⟨A2, c2, rfl, a3, a2, h2⟩
end Go.Proofs.Ytdchnaghmmhkhaa
