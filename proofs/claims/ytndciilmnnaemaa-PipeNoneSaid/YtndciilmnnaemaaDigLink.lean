/- The printed functions of digits and of its reference answer as the plain ones of DigPlain do. -/
import Derived.Test.YtndciilmnnaemaaPDigitsListsx3
import Derived.Test.YtndciilmnnaemaaDigPlain
import Derived.IntWalk
set_option linter.unusedVariables false
set_option linter.unusedSimpArgs false
namespace Go.Proofs.Ytndciilmnnaemaa
open Go.RowKit Go.Proofs.Ytndciilmnnaemaa.PDigitsLists Go.Proofs.YtndciilmnnaemaaW.PrintWords

/-- Bytes. -/
def Bytes (l : List Int) : Prop := ∀ x ∈ l, 0 ≤ x ∧ x ≤ 255
theorem Bytes.at {l : List Int} (h : Bytes l) (i : Nat) : 0 ≤ l.getD i 0 ∧ l.getD i 0 ≤ 255 := by
  rw [List.getD_eq_getElem?_getD]
  rcases Nat.lt_or_ge i l.length with hi | hi
  · rw [List.getElem?_eq_getElem hi]; exact h _ (List.getElem_mem hi)
  · rw [List.getElem?_eq_none hi]; simp
theorem drop_cons {l : List Int} {a : Int} {c : Int} {cs : List Int} (_h0 : 0 ≤ a) (h : l.drop a.toNat = c :: cs) : a < l.length ∧ rd l a = c ∧ l.drop (a + 1).toNat = cs ∧ a + 1 ≤ l.length := by
  have hl : a.toNat < l.length := by
    rcases Nat.lt_or_ge a.toNat l.length with h' | h'
    · exact h'
    · rw [List.drop_eq_nil_of_le h'] at h; cases h
  rw [List.drop_eq_getElem_cons hl] at h
  injection h with h1 h2
  refine ⟨by omega, ?_, ?_, by omega⟩
  · unfold rd; rw [List.getD_eq_getElem?_getD, List.getElem?_eq_getElem hl]; exact h1
  · rw [show (a + 1).toNat = a.toNat + 1 from by omega]; exact h2
theorem drop_nil {l : List Int} {a : Int} (h0 : 0 ≤ a) (h1 : a ≤ l.length) (h : l.drop a.toNat = []) : a = l.length := by
  have := List.drop_eq_nil_iff.1 h
  omega

theorem digit_f (c : Int) (h : 0 ≤ c ∧ c ≤ 255) : digits_digit.f (wrap32 c) = some (if 48 ≤ c ∧ c ≤ 57 then c - 48 else -1) := by
  have e : wrap32 c = c := by unfold wrap32; omega
  unfold digits_digit.f
  rw [e]
  by_cases h1 : c < 48
  · rw [if_pos h1, if_neg (by omega)]
  · rw [if_neg h1]
    by_cases h2 : c > 57
    · rw [if_pos h2, if_neg (by omega)]
    · rw [if_neg h2, if_pos (by omega)]
      unfold wrap64 wrap32; congr 1; omega
theorem digit_ref (c : Int) : coronerref01_Digit.f c = some (decide (48 ≤ c ∧ c ≤ 57)) := by
  unfold coronerref01_Digit.f
  by_cases h1 : c ≥ 48
  · rw [if_pos h1]; congr 1; simp; omega
  · rw [if_neg h1]; congr 1; symm; simp; omega
theorem tdiv10 (d : Int) (h : 0 ≤ d ∧ d ≤ 9) : wrap64 (Int.tdiv (wrap64 (2147483647 - d)) 10) = (2147483647 - d) / 10 := by
  rw [IntWalk.wrap64_in (2147483647 - d) (by omega), Int.tdiv_eq_ediv_of_nonneg (by omega), IntWalk.wrap64_in _ (by omega)]

theorem parse_l0 (l : List Int) (hb : Bytes l) (hl : (l.length : Int) ≤ 140737488351232) (a : Int) : ∀ (cs : List Int) (K : Nat) (n k : Int), 0 ≤ a → a ≤ k → k ≤ l.length → l.drop k.toNat = cs → cs.length < K →
    0 ≤ n → n ≤ 2147483647 → (k = a → n = 0) → digits_Parse.l0 K l a n k = some (scan cs (decide (k = a)) n k) := by
  intro cs
  induction cs with
  | nil =>
    intro K n k h0 h1 h2 hd hK hn0 hn1 hf
    obtain ⟨K, rfl⟩ : ∃ m, K = m + 1 := ⟨K - 1, by simp at hK; omega⟩
    have e := drop_nil (by omega) h2 hd
    simp only [digits_Parse.l0, scan]
    rw [if_neg (by omega)]
    by_cases hka : k = a
    · subst hka; simp
    · simp [hka]
  | cons c cs ih =>
    intro K n k h0 h1 h2 hd hK hn0 hn1 hf
    obtain ⟨K, rfl⟩ : ∃ m, K = m + 1 := ⟨K - 1, by simp at hK; omega⟩
    obtain ⟨hlt, hc, hd', hle⟩ := drop_cons (by omega) hd
    have hcb : 0 ≤ c ∧ c ≤ 255 := by have := hb.at k.toNat; unfold rd at hc; rwa [hc] at this
    simp only [digits_Parse.l0, scan]
    rw [if_pos hlt, if_pos (by omega), hc, digit_f c hcb]
    simp only [Option.bind_some]
    by_cases hdg : 48 ≤ c ∧ c ≤ 57
    · rw [if_pos hdg, if_pos hdg, if_neg (by omega)]
      rw [tdiv10 (c - 48) (by omega), IntWalk.wrap64_in (n * 10) (by omega), IntWalk.wrap64_in (k + 1) (by omega)]
      by_cases hka : k = a
      · rw [if_neg (by omega), if_neg (by omega)]
        have hn := hf hka
        subst hn
        rw [if_neg (by simp [hka]; omega)]
        rw [IntWalk.wrap64_in _ (by omega)]
        rw [ih K _ (k + 1) h0 (by omega) hle hd' (by simp at hK; omega) (by omega) (by omega) (by omega)]
        simp only [show (k + 1 = a) = False from by simp; omega, decide_false]
      · rw [if_pos (by omega)]
        by_cases hz : n = 0
        · rw [if_pos hz, if_pos (by simp [hz, hka])]
        · rw [if_neg hz]
          by_cases hg : (2147483647 - (c - 48)) / 10 < n
          · rw [if_pos hg, if_pos (.inr hg)]
          · rw [if_neg hg, if_neg (by simp [hz]; omega)]
            rw [IntWalk.wrap64_in _ (by omega)]
            rw [ih K _ (k + 1) h0 (by omega) hle hd' (by simp at hK; omega) (by omega) (by omega) (by omega)]
            simp only [show (k + 1 = a) = False from by simp; omega, decide_false]
    · rw [if_neg hdg, if_neg hdg, if_pos (by omega)]
      by_cases hka : k = a
      · subst hka; simp
      · simp [hka]
theorem parse_f (l : List Int) (hb : Bytes l) (hl : (l.length : Int) ≤ 140737488351232) (a : Int) (K : Nat) (hK : l.length + 2 ≤ K) : digits_Parse.f K l a = some (parse l a) := by
  obtain ⟨K, rfl⟩ : ∃ m, K = m + 1 := ⟨K - 1, by omega⟩
  unfold digits_Parse.f parse
  by_cases h0 : a < 0
  · rw [if_pos h0, if_pos (.inl h0)]; simp [digits_Parse.j0]
  · rw [if_neg h0]
    by_cases h1 : a > l.length
    · rw [if_pos (.inr h1)]; simp [digits_Parse.j0, h1]
    · rw [if_neg (by omega)]
      simp only [digits_Parse.j0, h1, decide_false]
      rw [if_neg (by simp), parse_l0 l hb hl a (l.drop a.toNat) K 0 a (by omega) (by omega) (by omega) rfl (by simp; omega) (by omega) (by omega) (by simp)]
      simp

end Go.Proofs.Ytndciilmnnaemaa
