/- The printed functions of the reference's digits answer as the plain ones of DigPlain do. -/
import Derived.Test.YtndciilmnnaemaaDigLink
set_option linter.unusedVariables false
set_option linter.unusedSimpArgs false
namespace Go.Proofs.Ytndciilmnnaemaa
open Go.RowKit Go.Proofs.Ytndciilmnnaemaa.PDigitsLists Go.Proofs.YtndciilmnnaemaaW.PrintWords

def Digs (p : List Int) : Prop := ∀ x ∈ p, 48 ≤ x ∧ x ≤ 57
/-- Digits' number. -/
def fold (n : Int) : List Int → Int
  | [] => n
  | c :: cs => fold (10 * n + (c - 48)) cs
theorem fold_snoc (p : List Int) (c : Int) : ∀ n, fold n (p ++ [c]) = 10 * fold n p + (c - 48) := by
  induction p with
  | nil => intro n; rfl
  | cons x p ih => intro n; simp only [List.cons_append, fold]; exact ih _
/-- The reference's Value, of digits. -/
def val (p : List Int) : Int := if p.length = 0 ∨ 10 < p.length ∨ (1 < p.length ∧ p.getD 0 0 = 48) then -1 else if 2147483647 < fold 0 p then -1 else fold 0 p
theorem fold_low (p : List Int) : ∀ n, Digs p → 0 ≤ n → n * 10 ^ p.length ≤ fold n p ∧ fold n p < (n + 1) * 10 ^ p.length := by
  induction p with
  | nil => intro n _ _; simp [fold]; omega
  | cons x p ih =>
    intro n hp hn
    have hx := hp x (by simp)
    obtain ⟨i1, i2⟩ := ih (10 * n + (x - 48)) (fun y hy => hp y (by simp [hy])) (by omega)
    simp only [fold, List.length_cons]
    have hpos : (0 : Int) < 10 ^ p.length := Int.pow_pos (by omega)
    rw [Int.pow_succ]
    generalize (10 : Int) ^ p.length = t at *
    constructor
    · refine Int.le_trans ?_ i1
      rw [show n * (t * 10) = (10 * n) * t from by rw [Int.mul_comm t 10, ← Int.mul_assoc, Int.mul_comm n 10]]
      exact Int.mul_le_mul_of_nonneg_right (by omega) (by omega)
    · refine Int.lt_of_lt_of_le i2 ?_
      rw [show (n + 1) * (t * 10) = (10 * n + 10) * t from by rw [Int.mul_comm t 10, ← Int.mul_assoc]; congr 1; omega]
      exact Int.mul_le_mul_of_nonneg_right (by omega) (by omega)
theorem val_one (c : Int) (h : 48 ≤ c ∧ c ≤ 57) : val [c] = c - 48 := by
  unfold val
  rw [if_neg (by simp)]
  have e : fold 0 [c] = c - 48 := by simp [fold]
  rw [e, if_neg (by omega)]
theorem val_snoc (p : List Int) (c : Int) (hp : Digs p) (hc : 48 ≤ c ∧ c ≤ 57) (h0 : p ≠ []) (hv : 0 ≤ val p) :
    val (p ++ [c]) = if val p = 0 ∨ (2147483647 - (c - 48)) / 10 < val p then -1 else 10 * val p + (c - 48) := by
  have hl : 0 < p.length := List.length_pos_iff.2 h0
  unfold val at hv
  split at hv
  · omega
  · rename_i h1
    split at hv
    · omega
    · rename_i h2
      have e : val p = fold 0 p := by unfold val; rw [if_neg h1, if_neg h2]
      rw [e]
      obtain ⟨x, q, rfl⟩ : ∃ x q, p = x :: q := by cases p with | nil => exact absurd rfl h0 | cons x q => exact ⟨x, q, rfl⟩
      have hx := hp x (by simp)
      obtain ⟨f1, f2⟩ := fold_low q (10 * 0 + (x - 48)) (fun y hy => hp y (by simp [hy])) (by omega)
      have ef : fold 0 (x :: q) = fold (10 * 0 + (x - 48)) q := rfl
      have es := fold_snoc (x :: q) c 0
      have ql : q.length ≤ 9 := by simp at h1; omega
      unfold val
      rw [es, ef]
      rw [ef] at h2
      generalize fold (10 * 0 + (x - 48)) q = n at *
      simp only [List.length_append, List.length_cons, List.length_nil, List.cons_append, List.getD_cons_zero] at h1 ⊢
      by_cases hq : q.length = 0
      · have : q = [] := List.length_eq_zero_iff.1 hq
        subst this
        simp only [List.length_nil, Int.pow_zero] at f1 f2
        by_cases hx0 : x = 48
        · rw [if_pos (by simp [hx0]), if_pos (by omega)]
        · rw [if_neg (by simp; omega)]
          by_cases hg : 2147483647 < 10 * n + (c - 48)
          · rw [if_pos hg, if_pos (by omega)]
          · rw [if_neg hg, if_neg (by omega)]
      · have hx0 : x ≠ 48 := fun h => h1 (.inr (.inr ⟨by omega, h⟩))
        have hn : 10 ^ q.length ≤ n := by
          refine Int.le_trans ?_ f1
          have hpos : (0 : Int) < 10 ^ q.length := Int.pow_pos (by omega)
          have := Int.mul_le_mul_of_nonneg_right (a := 1) (b := 10 * 0 + (x - 48)) (c := 10 ^ q.length) (by omega) (by omega)
          omega
        have hpos : (0 : Int) < 10 ^ q.length := Int.pow_pos (by omega)
        by_cases h9 : q.length = 9
        · rw [h9] at hn
          rw [if_pos (by omega), if_pos (by right; omega)]
        · rw [if_neg (by omega)]
          by_cases hg : 2147483647 < 10 * n + (c - 48)
          · rw [if_pos hg, if_pos (by omega)]
          · rw [if_neg hg, if_neg (by omega)]

theorem value_l0 (p : List Int) (hp : Digs p) (hl : p.length ≤ 10) : ∀ (cs : List Int) (K : Nat) (n k : Int) (pre : List Int), p = pre ++ cs → k = pre.length → n = fold 0 pre → cs.length < K →
    coronerref01_Value.l0 K p n k = some (if 2147483647 < fold 0 p then -1 else fold 0 p) := by
  intro cs
  induction cs with
  | nil =>
    intro K n k pre hpp hk hn hK
    obtain ⟨K, rfl⟩ : ∃ m, K = m + 1 := ⟨K - 1, by simp at hK; omega⟩
    simp only [List.append_nil] at hpp
    subst hpp
    simp only [coronerref01_Value.l0]
    rw [if_neg (by omega), hn]
    split <;> rfl
  | cons c cs ih =>
    intro K n k pre hpp hk hn hK
    obtain ⟨K, rfl⟩ : ∃ m, K = m + 1 := ⟨K - 1, by simp at hK; omega⟩
    have hlen : p.length = pre.length + cs.length + 1 := by rw [hpp]; simp; omega
    have hc := hp c (by rw [hpp]; simp)
    have hr : rd p k = c := by unfold rd; rw [hpp, hk]; simp
    have hpre : Digs pre := fun x hx => hp x (by rw [hpp]; simp [hx])
    obtain ⟨b1, b2⟩ := fold_low pre 0 hpre (by omega)
    have hb : fold 0 pre < 10000000000 := by
      refine Int.lt_of_lt_of_le b2 ?_
      have h1 : (10 : Int) ^ pre.length ≤ 10 ^ 10 := by
        have := Nat.pow_le_pow_right (show 0 < 10 by omega) (show pre.length ≤ 10 by omega)
        exact_mod_cast this
      omega
    simp only [coronerref01_Value.l0]
    rw [if_pos (by omega), if_pos (by omega), hr, digit_ref, Option.bind_some]
    rw [if_pos (by simpa using hc)]
    rw [← hn] at b1 hb
    rw [IntWalk.wrap64_in (10 * n) (by omega), IntWalk.wrap64_in c (by omega), IntWalk.wrap64_in (10 * n + c) (by omega), IntWalk.wrap64_in (10 * n + c - 48) (by omega), IntWalk.wrap64_in (k + 1) (by omega)]
    exact ih K _ _ (pre ++ [c]) (by simp [hpp]) (by simp [hk]) (by rw [fold_snoc, hn]; omega) (by simp at hK; omega)
theorem value_f (p : List Int) (hp : Digs p) (K : Nat) (hK : p.length + 2 ≤ K) : coronerref01_Value.f K p = some (val p) := by
  obtain ⟨K, rfl⟩ : ∃ m, K = m + 1 := ⟨K - 1, by omega⟩
  unfold coronerref01_Value.f val
  by_cases h0 : p.length = 0
  · rw [if_pos (by omega), if_pos (.inl h0)]; simp [coronerref01_Value.j0]
  · rw [if_neg (by omega)]
    by_cases h1 : 10 < p.length
    · rw [if_pos (by omega), if_pos (.inr (.inl h1))]; simp [coronerref01_Value.j0]
    · rw [if_neg (by omega)]
      have hl0 := value_l0 p hp (by omega) p K 0 0 [] rfl rfl rfl (by omega)
      by_cases h2 : 1 < p.length
      · rw [if_pos (by omega), if_pos (by omega)]
        simp only [coronerref01_Value.j0]
        have hrd : rd p 0 = p.getD 0 0 := rfl
        by_cases h3 : p.getD 0 0 = 48
        · have e : (rd p 0 == 48) = true := by rw [hrd, h3]; rfl
          rw [e, if_pos rfl, if_pos (.inr (.inr ⟨h2, h3⟩))]
        · have e : (rd p 0 == 48) = false := by rw [hrd]; exact beq_eq_false_iff_ne.2 h3
          rw [e, if_neg (by simp), if_neg (by omega)]; exact hl0
      · rw [if_neg (by omega), if_neg (by omega)]
        simp only [coronerref01_Value.j0]
        rw [if_neg (by simp)]; exact hl0

/-- What stands from a to k. -/
def cut (l : List Int) (a k : Int) : List Int := (l.take k.toNat).drop a.toNat
theorem cut_length (l : List Int) (a k : Int) (h0 : 0 ≤ a) (h1 : a ≤ k) (h2 : k ≤ l.length) : ((cut l a k).length : Int) = k - a := by unfold cut; simp; omega
theorem cut_same (l : List Int) (a : Int) : cut l a a = [] := by unfold cut; simp
theorem cut_snoc (l : List Int) (a k : Int) (h0 : 0 ≤ a) (h1 : a ≤ k) (h2 : k < l.length) : cut l a (k + 1) = cut l a k ++ [rd l k] := by
  unfold cut rd
  have hk : k.toNat < l.length := by omega
  rw [show (k + 1).toNat = k.toNat + 1 from by omega, List.take_succ_eq_append_getElem hk, List.drop_append_of_le_length (by simp; omega)]
  rw [List.getD_eq_getElem?_getD, List.getElem?_eq_getElem hk]; rfl

theorem parse_l1 (l : List Int) (hl : (l.length : Int) ≤ 140737488351232) (a e : Int) (h0 : 0 ≤ a) (hae : a ≤ e) (hel : e ≤ l.length) (hd : ∀ i, a ≤ i → i < e → 48 ≤ rd l i ∧ rd l i ≤ 57)
    (hend : l.drop e.toNat = [] ∨ ¬ (48 ≤ (l.drop e.toNat).getD 0 0 ∧ (l.drop e.toNat).getD 0 0 ≤ 57)) :
    ∀ (d : Nat) (K : Nat) (n k : Int), e - k = d → a ≤ k → d + l.length + 4 ≤ K → Digs (cut l a k) → (k = a → n = 0) → (k ≠ a → val (cut l a k) = n ∧ 0 ≤ n) →
    coronerref01_Parse.l1 K l a e (k + 1) = some (scan (l.drop k.toNat) (decide (k = a)) n k) := by
  intro d
  induction d with
  | zero =>
    intro K n k hk hak hK hg hf hv
    obtain ⟨K, rfl⟩ : ∃ m, K = m + 1 := ⟨K - 1, by omega⟩
    obtain rfl : k = e := by omega
    simp only [coronerref01_Parse.l1]
    rw [if_neg (by omega)]
    by_cases hka : k = a
    · subst hka
      rw [if_pos rfl]
      rcases hend with h | h
      · rw [h]; simp [scan]
      · cases hs : l.drop k.toNat with
        | nil => simp [scan]
        | cons c cs => rw [hs] at h; simp only [scan]; rw [if_neg (by simpa using h)]; simp
    · rw [if_neg hka, if_pos h0, if_pos hae, if_pos hel]
      have hvv := value_f (cut l a k) hg K (by have := cut_length l a k h0 hae hel; omega)
      unfold cut at hvv
      rw [hvv, Option.bind_some]
      have := (hv hka).1
      unfold cut at this
      rw [this]
      simp only [hka, decide_false]
      rw [scan_stop _ _ _ hend]
  | succ d ih =>
    intro K n k hk hak hK hg hf hv
    obtain ⟨K, rfl⟩ : ∃ m, K = m + 1 := ⟨K - 1, by omega⟩
    have hkl : k < l.length := by omega
    have hc := hd k hak (by omega)
    have hsn := cut_snoc l a k h0 hak hkl
    have hg' : Digs (cut l a (k + 1)) := by
      rw [hsn]; intro x hx
      rcases List.mem_append.1 hx with h | h
      · exact hg x h
      · rw [List.mem_singleton.1 h]; exact hc
    have hdr : l.drop k.toNat = rd l k :: l.drop (k + 1).toNat := by
      have hkn : k.toNat < l.length := by omega
      rw [List.drop_eq_getElem_cons hkn, show (k + 1).toNat = k.toNat + 1 from by omega]
      unfold rd; rw [List.getD_eq_getElem?_getD, List.getElem?_eq_getElem hkn]; rfl
    simp only [coronerref01_Parse.l1]
    rw [if_pos (by omega), if_pos h0, if_pos (by omega), if_pos (by omega)]
    have hvv := value_f (cut l a (k + 1)) hg' K (by have := cut_length l a (k + 1) h0 (by omega) (by omega); omega)
    have hcut : (l.take (k + 1).toNat).drop a.toNat = cut l a (k + 1) := rfl
    rw [hcut, hvv, Option.bind_some, hdr]
    simp only [scan]
    rw [if_pos hc, IntWalk.wrap64_in (k + 1 - 1) (by omega), IntWalk.wrap64_in (k + 1 + 1) (by omega)]
    by_cases hka : k = a
    · have hn := hf hka
      subst hn
      have hv1 : val (cut l a (k + 1)) = rd l k - 48 := by rw [hsn, hka, cut_same, List.nil_append, val_one _ (by rw [← hka]; exact hc)]
      rw [hv1, if_neg (by omega), if_neg (by rintro (h | h); · exact absurd h.1 (by simp [hka])
                                             · omega)]
      rw [ih K (rd l k - 48) (k + 1) (by omega) (by omega) (by omega) hg' (by omega) (fun _ => ⟨hv1, by omega⟩)]
      simp only [show (k + 1 = a) = False from by simp; omega, decide_false]
      congr 2; omega
    · obtain ⟨hv0, hn0⟩ := hv hka
      have hne : cut l a k ≠ [] := by
        intro h; have := cut_length l a k h0 hak (by omega); rw [h] at this; simp at this; omega
      have hv1 := val_snoc (cut l a k) (rd l k) hg hc hne (by omega)
      rw [← hsn, hv0] at hv1
      by_cases hbad : n = 0 ∨ (2147483647 - (rd l k - 48)) / 10 < n
      · rw [if_pos hbad] at hv1
        rw [hv1, if_pos (by omega), if_pos (by rcases hbad with h | h; · exact .inl ⟨by simp [hka], h⟩
                                               · exact .inr h)]
        congr 3; omega
      · rw [if_neg hbad] at hv1
        rw [hv1, if_neg (by omega), if_neg (by omega)]
        rw [ih K (10 * n + (rd l k - 48)) (k + 1) (by omega) (by omega) (by omega) hg' (by omega) (fun _ => ⟨hv1, by omega⟩)]
        simp only [show (k + 1 = a) = False from by simp; omega, decide_false]
        congr 2; omega
theorem parse_r0 (l : List Int) (hl : (l.length : Int) ≤ 140737488351232) (a : Int) (h0 : 0 ≤ a) : ∀ (cs : List Int) (K : Nat) (e : Int), l.drop e.toNat = cs → a ≤ e → e ≤ l.length →
    (∀ i, a ≤ i → i < e → 48 ≤ rd l i ∧ rd l i ≤ 57) → cs.length + 2 * l.length + 8 ≤ K → coronerref01_Parse.l0 K l a e = some (scan (l.drop a.toNat) true 0 a) := by
  intro cs
  have fin : ∀ (K : Nat) (e : Int), a ≤ e → e ≤ l.length → (∀ i, a ≤ i → i < e → 48 ≤ rd l i ∧ rd l i ≤ 57) → 2 * l.length + 6 ≤ K →
      (l.drop e.toNat = [] ∨ ¬ (48 ≤ (l.drop e.toNat).getD 0 0 ∧ (l.drop e.toNat).getD 0 0 ≤ 57)) → coronerref01_Parse.j2 K l a e = some (scan (l.drop a.toNat) true 0 a) := by
    intro K e hae hel hd hK hend
    obtain ⟨K, rfl⟩ : ∃ m, K = m + 1 := ⟨K - 1, by omega⟩
    simp only [coronerref01_Parse.j2]
    rw [IntWalk.wrap64_in (a + 1) (by omega)]
    rw [parse_l1 l hl a e h0 hae hel hd hend (e - a).toNat K 0 a (by omega) (by omega) (by omega) (by rw [cut_same]; intro x hx; cases hx) (fun _ => rfl) (fun h => absurd rfl h)]
    simp
  induction cs with
  | nil =>
    intro K e hdr hae hel hd hK
    obtain ⟨K, rfl⟩ : ∃ m, K = m + 1 := ⟨K - 1, by omega⟩
    simp only [coronerref01_Parse.l0]
    rw [if_neg (by have := drop_nil (by omega) hel hdr; omega)]
    exact fin K e hae hel hd (by omega) (.inl hdr)
  | cons c cs ih =>
    intro K e hdr hae hel hd hK
    obtain ⟨K, rfl⟩ : ∃ m, K = m + 1 := ⟨K - 1, by omega⟩
    obtain ⟨hlt, hc, hd', hle⟩ := drop_cons (by omega) hdr
    simp only [coronerref01_Parse.l0]
    rw [if_pos hlt, if_pos (by omega), digit_ref, Option.bind_some]
    by_cases hdg : 48 ≤ c ∧ c ≤ 57
    · rw [if_pos (by simpa [hc] using hdg), IntWalk.wrap64_in (e + 1) (by omega)]
      refine ih K (e + 1) hd' (by omega) hle (fun i h1 h2 => ?_) (by simp at hK; omega)
      by_cases hi : i = e
      · rw [hi, hc]; exact hdg
      · exact hd i h1 (by omega)
    · rw [if_neg (by simpa [hc] using hdg)]
      exact fin K e hae hel hd (by simp at hK; omega) (.inr (by rw [hdr]; simpa using hdg))
theorem parse_ref (l : List Int) (hl : (l.length : Int) ≤ 140737488351232) (a : Int) (K : Nat) (hK : 3 * l.length + 10 ≤ K) : coronerref01_Parse.f K l a = some (parse l a) := by
  obtain ⟨K, rfl⟩ : ∃ m, K = m + 1 := ⟨K - 1, by omega⟩
  unfold coronerref01_Parse.f parse
  by_cases h0 : a < 0
  · rw [if_pos h0, if_pos (.inl h0)]; simp [coronerref01_Parse.j0]
  · rw [if_neg h0]
    by_cases h1 : a > l.length
    · rw [if_pos (.inr h1)]; simp [coronerref01_Parse.j0, h1]
    · rw [if_neg (by omega)]
      simp only [coronerref01_Parse.j0, h1, decide_false]
      rw [if_neg (by simp), parse_r0 l hl a (by omega) (l.drop a.toNat) K a rfl (by omega) (by omega) (fun i h1 h2 => by omega) (by simp; omega)]

end Go.Proofs.Ytndciilmnnaemaa
