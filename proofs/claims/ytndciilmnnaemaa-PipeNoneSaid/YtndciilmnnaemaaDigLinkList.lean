/- The printed functions for lists of numbers, by the program and by the reference, answer as the plain ones do. -/
import Derived.Test.YtndciilmnnaemaaDigLinkRef
set_option linter.unusedVariables false
set_option linter.unusedSimpArgs false
namespace Go.Proofs.Ytndciilmnnaemaa
open Go.RowKit Go.Proofs.Ytndciilmnnaemaa.PDigitsLists Go.Proofs.YtndciilmnnaemaaW.PrintWords

theorem list_l0 (l : List Int) (hb : Bytes l) (hl : (l.length : Int) ≤ 17592186044416) : ∀ (d : Nat) (K : Nat) (a : Int) (out : List Int), 0 ≤ a → a ≤ l.length → (l.length : Int) - a < d → (out.length : Int) ≤ a →
    2 * d + l.length + 5 ≤ K → digits_List.l0 K l a out = some (listGo l d a out) := by
  intro d
  induction d with
  | zero => intro K a out h0 h1 hd; omega
  | succ d ih =>
    intro K a out h0 h1 hd ho hK
    obtain ⟨K, rfl⟩ : ∃ m, K = m + 1 + 1 := ⟨K - 2, by omega⟩
    have hrd : rd l a = l.getD a.toNat 0 := rfl
    simp only [digits_List.l0, listGo]
    by_cases h2 : a < l.length
    · rw [if_pos h2, if_pos h0]
      simp only [digits_List.j2]
      by_cases h3 : l.getD a.toNat 0 = 32
      · have e : (rd l a == 32) = true := by rw [hrd, h3]; rfl
        rw [e, if_pos rfl, if_pos ⟨h2, h3⟩, IntWalk.wrap64_in (a + 1) (by omega), parse_f l hb (by omega) (a + 1) K (by omega), Option.bind_some]
        have ht := parse_to l (a + 1) (by omega) (by omega)
        by_cases hr : (parse l (a + 1)).2.2 = true
        · have hp := parse_on l (a + 1) hr
          rw [if_pos hr, if_pos hr, if_pos (by omega)]
          exact ih K _ _ (by omega) (by omega) (by omega) (by simp; omega) (by omega)
        · rw [if_neg hr, if_neg hr]
      · have e : (rd l a == 32) = false := by rw [hrd]; exact beq_eq_false_iff_ne.2 h3
        rw [e, if_neg (by simp), if_neg (fun h => h3 h.2)]
    · rw [if_neg h2, if_neg (fun h => h2 h.1)]
      simp [digits_List.j2]
theorem list_f (l : List Int) (hb : Bytes l) (hl : (l.length : Int) ≤ 17592186044416) (a : Int) (K : Nat) (hK : 3 * l.length + 10 ≤ K) : digits_List.f K l a = some (list l a) := by
  obtain ⟨K, rfl⟩ : ∃ m, K = m + 1 := ⟨K - 1, by omega⟩
  unfold digits_List.f list
  by_cases h0 : a < 0
  · rw [if_pos h0, if_pos (.inl h0)]; simp [digits_List.j0]
  · rw [if_neg h0]
    by_cases h1 : a > l.length
    · rw [if_pos (.inr h1)]; simp [digits_List.j0, h1]
    · rw [if_neg (by omega)]
      simp only [digits_List.j0, h1, decide_false]
      rw [if_neg (by simp), list_l0 l hb hl (l.length + 1) K a [] (by omega) (by omega) (by omega) (by simp; omega) (by omega)]
theorem list_r0 (l : List Int) (hl : (l.length : Int) ≤ 17592186044416) : ∀ (d : Nat) (K : Nat) (a : Int) (out : List Int) (x : Int), 0 ≤ a → a ≤ l.length → (l.length : Int) - a < d → (out.length : Int) ≤ a →
    0 ≤ x → x ≤ a → 2 * d + 3 * l.length + 12 ≤ K → coronerref01_List.l0 K l a out x = some (listGo l d a out) := by
  intro d
  induction d with
  | zero => intro K a out x h0 h1 hd; omega
  | succ d ih =>
    intro K a out x h0 h1 hd ho hx0 hx hK
    obtain ⟨K, rfl⟩ : ∃ m, K = m + 1 + 1 := ⟨K - 2, by omega⟩
    have hrd : rd l a = l.getD a.toNat 0 := rfl
    simp only [coronerref01_List.l0, listGo]
    rw [if_pos (by omega)]
    by_cases h2 : a < l.length
    · rw [if_neg (by omega), if_pos h0, if_pos h2]
      simp only [coronerref01_List.j2]
      by_cases h3 : l.getD a.toNat 0 = 32
      · have e : (rd l a != 32) = false := by rw [hrd, h3]; rfl
        rw [e, if_neg (by simp), if_pos ⟨h2, h3⟩, IntWalk.wrap64_in (a + 1) (by omega), parse_ref l (by omega) (a + 1) K (by omega), Option.bind_some]
        have ht := parse_to l (a + 1) (by omega) (by omega)
        by_cases hr : (parse l (a + 1)).2.2 = true
        · have hp := parse_on l (a + 1) hr
          rw [if_pos hr, if_pos hr, if_pos (by omega), IntWalk.wrap64_in (x + 1) (by omega)]
          exact ih K _ _ _ (by omega) (by omega) (by omega) (by simp; omega) (by omega) (by omega) (by omega)
        · rw [if_neg hr, if_neg hr]
      · have e : (rd l a != 32) = true := by rw [hrd]; exact bne_iff_ne.2 h3
        rw [e, if_pos rfl, if_neg (fun h => h3 h.2)]
    · rw [if_pos (by omega), if_neg (fun h => h2 h.1)]
      simp [coronerref01_List.j2]
theorem list_ref (l : List Int) (hl : (l.length : Int) ≤ 17592186044416) (a : Int) (K : Nat) (hK : 5 * l.length + 20 ≤ K) : coronerref01_List.f K l a = some (list l a) := by
  obtain ⟨K, rfl⟩ : ∃ m, K = m + 1 := ⟨K - 1, by omega⟩
  unfold coronerref01_List.f list
  by_cases h0 : a < 0
  · rw [if_pos h0, if_pos (.inl h0)]; simp [coronerref01_List.j0]
  · rw [if_neg h0]
    by_cases h1 : a > l.length
    · rw [if_pos (.inr h1)]; simp [coronerref01_List.j0, h1]
    · rw [if_neg (by omega)]
      simp only [coronerref01_List.j0, h1, decide_false]
      rw [if_neg (by simp), list_r0 l hl (l.length + 1) K a [] 0 (by omega) (by omega) (by omega) (by simp; omega) (by omega) (by omega) (by omega)]

end Go.Proofs.Ytndciilmnnaemaa
