/- Law 30's plain laws: the program's answers and the reference's are alike. -/
import Derived.Test.YtkjddfmhledckaaLvP4
import Derived.Test.YtkjddfmhledckaaLvN
import Derived.Test.YtkjddfmhledckaaLvF
set_option linter.unusedSimpArgs false
namespace Go.Proofs.Ytkjddfmhledckaa.Lv
open Go.RowKit Go.Proofs.Ytkjddfmhledckaa.PLevelOf Go.Proofs.YtkjddfmhledckaaW.PrintWords
set_option linter.unusedVariables false

def fromP (x : Int) : Int := if x = 11 then 4 else if x = 10 then 3 else if 7 ≤ x ∧ x ≤ 9 then 2 else if 1 ≤ x ∧ x ≤ 6 then 1 else 5
theorem fromP_in (x : Int) : 1 ≤ fromP x ∧ fromP x ≤ 5 := by
  unfold fromP; split <;> (try split) <;> (try split) <;> (try split) <;> omega
theorem cases11 {x : Int} (h : 1 ≤ x ∧ x ≤ 11) : x = 1 ∨ x = 2 ∨ x = 3 ∨ x = 4 ∨ x = 5 ∨ x = 6 ∨ x = 7 ∨ x = 8 ∨ x = 9 ∨ x = 10 ∨ x = 11 := by omega
theorem cases5 {x : Int} (h : 0 ≤ x ∧ x ≤ 4) : x = 0 ∨ x = 1 ∨ x = 2 ∨ x = 3 ∨ x = 4 := by omega
theorem from_plain (k : Nat) (x : Int) : level_from.f (k + 1) x = some (fromP x) := by
  by_cases h : 1 ≤ x ∧ x ≤ 11
  · rcases cases11 h with rfl | rfl | rfl | rfl | rfl | rfl | rfl | rfl | rfl | rfl | rfl <;> first | rfl | (simp [level_from.f, level_from.j0, fromP, wrap64]; done)
  · have e1 : ¬ x = 1 := by omega
    have e2 : ¬ x = 2 := by omega
    have e3 : ¬ x = 3 := by omega
    have e4 : ¬ x = 4 := by omega
    have e5 : ¬ x = 5 := by omega
    have e6 : ¬ x = 6 := by omega
    have e7 : ¬ x = 7 := by omega
    have e8 : ¬ x = 8 := by omega
    have e9 : ¬ x = 9 := by omega
    have e10 : ¬ x = 10 := by omega
    have e11 : ¬ x = 11 := by omega
    have f9 : (x == 9) = false := by simp [e9]
    unfold level_from.f fromP
    rw [if_neg e11, if_neg e10, if_neg e7, if_neg e8, f9, if_neg e11, if_neg e10, if_neg (by omega), if_neg (by omega)]
    simp only [level_from.j0]
    rw [if_neg (by decide), if_neg e1, if_neg e2, if_neg e3, if_neg e4, if_neg e5, if_neg e6]
def barsP (n x : Int) : Bool := decide (n ≤ 4 ∧ fromP x ≤ n)
theorem bars_plain (k : Nat) (n x : Int) : level_Bars.f (k + 1) n x = some (barsP n x) := by
  unfold level_Bars.f barsP
  rw [from_plain]
  by_cases h : n ≤ 4
  · rw [if_pos h]; simp [h]
  · rw [if_neg h]; simp [h]
theorem rbars_in : ∀ n : Fin 5, ∀ x : Fin 11, coronerref30_Bars.f 40 (n.val : Int) ((x.val : Int) + 1) = some (barsP (n.val : Int) ((x.val : Int) + 1)) := by decide +kernel
theorem kinds_all (n x : Int) (h : ¬ (1 ≤ x ∧ x ≤ 11)) : ∃ L, coronerref30_kinds.f n = some L ∧ L.length ≤ 6 ∧ ∀ y ∈ L, y ≠ x := by
  unfold coronerref30_kinds.f
  split
  · exact ⟨_, rfl, by decide, fun y hy => by simp at hy; omega⟩
  · split
    · exact ⟨_, rfl, by decide, fun y hy => by simp at hy; omega⟩
    · split
      · exact ⟨_, rfl, by decide, fun y hy => by simp at hy; omega⟩
      · split
        · exact ⟨_, rfl, by decide, fun y hy => by simp at hy; omega⟩
        · exact ⟨_, rfl, by decide, fun y hy => by simp at hy⟩
theorem rbars_l1 (n x : Int) (a : Int) (L : List Int) (hL : ∀ y ∈ L, y ≠ x) (hl : L.length ≤ 6) : ∀ (d i k : Nat), i + d = L.length → coronerref30_Bars.l1 (k + d + 1) n x a L (i : Int) = coronerref30_Bars.l0 k n x (wrap64 (a + 1))
  | 0, i, k, hi => by
    simp only [coronerref30_Bars.l1]
    rw [if_neg (by omega)]
  | d + 1, i, k, hi => by
    have e : k + (d + 1) + 1 = (k + d + 1) + 1 := by omega
    have hlt : i < L.length := by omega
    have hne : ¬ rd L (i : Int) = x := by
      have : rd L (i : Int) = L[i] := by
        simp [rd, List.getD_eq_getElem?_getD, List.getElem?_eq_getElem hlt]
      rw [this]
      exact hL _ (List.getElem_mem hlt)
    have hw : wrap64 ((i : Int) + 1) = ((i + 1 : Nat) : Int) := by unfold wrap64; omega
    rw [e]
    simp only [coronerref30_Bars.l1]
    rw [if_pos (by omega), if_pos (by omega), if_neg hne, hw]
    exact rbars_l1 n x a L hL hl d (i + 1) k (by omega)
theorem rbars_l0 (n x : Int) (hx : ¬ (1 ≤ x ∧ x ≤ 11)) (hn : n ≤ 4) : ∀ (d : Nat) (a : Int), 0 ≤ a → a + d = n + 1 → ∃ K, coronerref30_Bars.l0 K n x a = some false
  | 0, a, h0, h => ⟨1, by simp only [coronerref30_Bars.l0]; rw [if_neg (by omega)]⟩
  | d + 1, a, h0, h => by
    obtain ⟨L, e, hl, hL⟩ := kinds_all a x hx
    have hw : wrap64 (a + 1) = a + 1 := by unfold wrap64; omega
    obtain ⟨K, hK⟩ := rbars_l0 n x hx hn d (a + 1) (by omega) (by omega)
    refine ⟨(K + L.length + 1) + 1, ?_⟩
    simp only [coronerref30_Bars.l0]
    rw [if_pos (by omega), e]
    simp only [Option.bind_some]
    have := rbars_l1 n x a L hL hl L.length 0 K (by omega)
    rw [hw, hK] at this
    exact this
theorem rbars_plain (n x : Int) : ∃ K, coronerref30_Bars.f K n x = some (barsP n x) := by
  have hp := fromP_in x
  by_cases h0 : n < 0
  · refine ⟨1, ?_⟩
    unfold coronerref30_Bars.f barsP
    rw [if_pos h0]
    simp only [coronerref30_Bars.j0]
    rw [if_pos trivial]
    simp; omega
  · by_cases h4 : n > 4
    · refine ⟨1, ?_⟩
      unfold coronerref30_Bars.f barsP
      rw [if_neg h0]
      simp only [coronerref30_Bars.j0]
      rw [if_pos (by simpa using h4)]
      simp; omega
    · by_cases hx : 1 ≤ x ∧ x ≤ 11
      · have h := rbars_in ⟨n.toNat, by omega⟩ ⟨(x - 1).toNat, by omega⟩
        have e1 : ((n.toNat : Nat) : Int) = n := by omega
        have e2 : (((x - 1).toNat : Nat) : Int) + 1 = x := by omega
        simp only [e1, e2] at h
        exact ⟨40, h⟩
      · obtain ⟨K, hK⟩ := rbars_l0 n x hx (by omega) (n + 1).toNat 0 (by omega) (by omega)
        refine ⟨K + 1, ?_⟩
        have hf : fromP x = 5 := by unfold fromP; rw [if_neg (by omega), if_neg (by omega), if_neg (by omega), if_neg (by omega)]
        unfold coronerref30_Bars.f barsP
        rw [if_neg h0]
        simp only [coronerref30_Bars.j0]
        rw [if_neg (by simpa using h4), hK, hf]
        simp; omega
end Go.Proofs.Ytkjddfmhledckaa.Lv
