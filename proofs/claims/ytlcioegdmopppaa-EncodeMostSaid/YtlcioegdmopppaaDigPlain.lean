/- Numbers' texts, plainly (no program): the number that stands at a place, the list of numbers, and the laws on them. -/
import Derived.Test.YtlcioegdmopppaaDigTextPlain
set_option linter.unusedVariables false
set_option linter.unusedSimpArgs false
namespace Go.Proofs.Ytlcioegdmopppaa

/-- The number whose text stands at the beginning of bytes: what was read so far is n (nothing, if 'first'), at the place k. -/
def scan : List Int → Bool → Int → Int → Int × Int × Bool
  | [], first, n, k => if first then (0, k, false) else (n, k, true)
  | c :: cs, first, n, k =>
    if 48 ≤ c ∧ c ≤ 57 then
      if (first = false ∧ n = 0) ∨ (2147483647 - (c - 48)) / 10 < n then (0, k, false) else scan cs false (n * 10 + (c - 48)) (k + 1)
    else if first then (0, k, false) else (n, k, true)
/-- P1.1. -/
def parse (l : List Int) (a : Int) : Int × Int × Bool :=
  if a < 0 ∨ (l.length : Int) < a then (0, 0, false) else scan (l.drop a.toNat) true 0 a

theorem scan_to (cs : List Int) : ∀ first n k, k ≤ (scan cs first n k).2.1 ∧ (scan cs first n k).2.1 ≤ k + cs.length := by
  induction cs with
  | nil => intro first n k; simp only [scan]; split <;> simp
  | cons c cs ih =>
    intro first n k
    simp only [scan]
    have := ih false (n * 10 + (c - 48)) (k + 1)
    split
    · split
      · simp only [List.length_cons]; omega
      · simp only [List.length_cons]; omega
    · split <;> simp only [List.length_cons] <;> omega
theorem scan_some (cs : List Int) : ∀ first n k, (scan cs first n k).2.2 = true → first = false ∨ k < (scan cs first n k).2.1 := by
  induction cs with
  | nil => intro first n k h; cases first <;> simp [scan] at h ⊢
  | cons c cs ih =>
    intro first n k h
    simp only [scan] at h ⊢
    split
    · rename_i hc
      rw [if_pos hc] at h
      split
      · rename_i h2; rw [if_pos h2] at h; cases h
      · right
        have := (scan_to cs false (n * 10 + (c - 48)) (k + 1)).1
        omega
    · rename_i hc
      rw [if_neg hc] at h
      cases first <;> simp at h ⊢
theorem parse_to (l : List Int) (a : Int) (h0 : 0 ≤ a) (h1 : a ≤ l.length) : a ≤ (parse l a).2.1 ∧ (parse l a).2.1 ≤ l.length := by
  unfold parse
  rw [if_neg (by omega)]
  have := scan_to (l.drop a.toNat) true 0 a
  rw [List.length_drop] at this
  omega
theorem parse_on (l : List Int) (a : Int) (h : (parse l a).2.2 = true) : a < (parse l a).2.1 := by
  unfold parse at *
  split at h
  · cases h
  · rename_i hn
    rw [if_neg hn]
    rcases scan_some _ _ _ _ h with h | h
    · cases h
    · exact h

/-- P1.3: with rounds; 'out' is what was read. -/
def listGo (l : List Int) : Nat → Int → List Int → List Int × Int × Bool
  | 0, a, out => (out, a, true)
  | d + 1, a, out =>
    if a < (l.length : Int) ∧ l.getD a.toNat 0 = 32 then
      let r := parse l (a + 1)
      if r.2.2 = true then listGo l d r.2.1 (out ++ [r.1]) else ([], r.2.1, false)
    else (out, a, true)
def list (l : List Int) (a : Int) : List Int × Int × Bool :=
  if a < 0 ∨ (l.length : Int) < a then ([], 0, false) else listGo l (l.length + 1) a []
/-- The rounds are enough: there are as many as bytes are left, and one. -/
theorem listGo_more (l : List Int) : ∀ (d : Nat) (a : Int) (out : List Int), 0 ≤ a → a ≤ l.length → (l.length : Int) - a < d → listGo l d a out = listGo l (d + 1) a out := by
  intro d
  induction d with
  | zero => intro a out h0 h1 hd; omega
  | succ d ih =>
    intro a out h0 h1 hd
    rw [listGo, listGo]
    split
    · rename_i hc
      dsimp only
      have ht := parse_to l (a + 1) (by omega) (by omega)
      have hp := parse_on l (a + 1)
      split
      · rename_i hr
        have := hp hr
        exact ih _ _ (by omega) (by omega) (by omega)
      · rfl
    · rfl

theorem listGo_len (l : List Int) : ∀ (d : Nat) (a : Int) (out : List Int), (listGo l d a out).1.length ≤ d + out.length := by
  intro d
  induction d with
  | zero => intro a out; simp [listGo]
  | succ d ih =>
    intro a out
    rw [listGo]
    split
    · dsimp only
      split
      · have := ih (parse l (a + 1)).2.1 (out ++ [(parse l (a + 1)).1])
        simp only [List.length_append, List.length_cons, List.length_nil] at this
        omega
      · simp
    · simp
theorem list_len (l : List Int) (a : Int) (hl : (l.length : Int) ≤ 1000000) : ((list l a).1.length : Int) ≤ 9223372036854775806 := by
  unfold list
  split
  · simp
  · have := listGo_len l (l.length + 1) a []
    simp only [List.length_nil] at this
    omega

/-! ### What stands ahead of a wrong place -/
theorem scan_wrong (cs : List Int) : ∀ first n k, (scan cs first n k).2.2 = false → k ≤ (scan cs first n k).2.1 →
    (k < (scan cs first n k).2.1 ∨ first = false) →
    (scan (cs.take ((scan cs first n k).2.1 - k).toNat) first n k).2 = ((scan cs first n k).2.1, true) ∧ (scan cs first n k).2.1 - k < cs.length ∧
      (48 ≤ cs.getD ((scan cs first n k).2.1 - k).toNat 0 ∧ cs.getD ((scan cs first n k).2.1 - k).toNat 0 ≤ 57) := by
  induction cs with
  | nil =>
    intro first n k h hk hf
    cases first
    · simp [scan] at h
    · simp [scan] at hf
  | cons c cs ih =>
    intro first n k h hk hf
    simp only [scan] at h hk hf ⊢
    by_cases hc : 48 ≤ c ∧ c ≤ 57
    · rw [if_pos hc] at h hk hf ⊢
      by_cases h2 : (first = false ∧ n = 0) ∨ (2147483647 - (c - 48)) / 10 < n
      · rw [if_pos h2] at h hk hf ⊢
        simp only [Int.sub_self, Int.toNat_zero, List.take_zero, List.length_cons]
        have hff : first = false := by
          rcases hf with hf | hf
          · simp at hf
          · exact hf
        subst hff
        refine ⟨by simp [scan], by omega, by simpa using hc⟩
      · rw [if_neg h2] at h hk hf ⊢
        have ht := (scan_to cs false (n * 10 + (c - 48)) (k + 1)).1
        obtain ⟨i1, i2, i3⟩ := ih false (n * 10 + (c - 48)) (k + 1) h ht (.inr rfl)
        generalize hto : (scan cs false (n * 10 + (c - 48)) (k + 1)).2.1 = to at *
        have e : (to - k).toNat = (to - (k + 1)).toNat + 1 := by omega
        rw [e, List.take_succ_cons]
        refine ⟨?_, by simp only [List.length_cons]; omega, by simpa using i3⟩
        simp only [scan]
        rw [if_pos hc, if_neg h2]
        exact i1
    · rw [if_neg hc] at h hk hf ⊢
      cases first
      · simp at h
      · simp at hf
theorem scan_first (cs : List Int) (k : Int) (h : (scan cs true 0 k).2.2 = false) (he : (scan cs true 0 k).2.1 = k) :
    cs = [] ∨ ¬ (48 ≤ cs.getD 0 0 ∧ cs.getD 0 0 ≤ 57) := by
  cases cs with
  | nil => exact .inl rfl
  | cons c cs =>
    right
    simp only [scan] at h he
    by_cases hc : 48 ≤ c ∧ c ≤ 57
    · rw [if_pos hc] at h he
      rw [if_neg (by simp; omega)] at h he
      have := (scan_to cs false (0 * 10 + (c - 48)) (k + 1)).1
      omega
    · simpa using hc

theorem parse_eq (l : List Int) (a : Int) (h0 : 0 ≤ a) (h1 : a ≤ l.length) : parse l a = scan (l.drop a.toNat) true 0 a := by unfold parse; rw [if_neg (by omega)]
theorem parse_wrong (l : List Int) (a : Int) (h0 : 0 ≤ a) (h1 : a ≤ l.length) (h : (parse l a).2.2 = false) (hlt : a < (parse l a).2.1) :
    (parse (l.take (parse l a).2.1.toNat) a).2 = ((parse l a).2.1, true) ∧ (parse l a).2.1 < l.length ∧ (48 ≤ l.getD (parse l a).2.1.toNat 0 ∧ l.getD (parse l a).2.1.toNat 0 ≤ 57) := by
  have ht := parse_to l a h0 h1
  rw [parse_eq l a h0 h1] at h hlt ht ⊢
  obtain ⟨e1, e2, e3⟩ := scan_wrong (l.drop a.toNat) true 0 a h (by omega) (.inl hlt)
  generalize (scan (l.drop a.toNat) true 0 a).2.1 = to at *
  rw [List.length_drop] at e2
  rw [parse_eq _ a h0 (by rw [List.length_take]; omega), List.drop_take]
  rw [show to.toNat - a.toNat = (to - a).toNat from by omega]
  refine ⟨e1, by omega, ?_⟩
  rw [List.getD_eq_getElem?_getD, List.getElem?_drop, ← List.getD_eq_getElem?_getD, show a.toNat + (to - a).toNat = to.toNat from by omega] at e3
  exact e3
theorem parse_first (l : List Int) (a : Int) (h0 : 0 ≤ a) (h1 : a < l.length) (h : (parse l a).2.2 = false) (he : (parse l a).2.1 = a) : ¬ (48 ≤ l.getD a.toNat 0 ∧ l.getD a.toNat 0 ≤ 57) := by
  unfold parse at h he
  rw [if_neg (by omega)] at h he
  rcases scan_first (l.drop a.toNat) a h he with h' | h'
  · have := List.drop_eq_nil_iff.1 h'; omega
  · rw [List.getD_eq_getElem?_getD, List.getElem?_drop, ← List.getD_eq_getElem?_getD] at h'
    simpa using h'

/-! ### A number comes back from its text -/
theorem scan_stop (rest : List Int) (n k : Int) (hr : rest = [] ∨ ¬ (48 ≤ rest.getD 0 0 ∧ rest.getD 0 0 ≤ 57)) : scan rest false n k = (n, k, true) := by
  cases rest with
  | nil => simp [scan]
  | cons c cs =>
    rcases hr with hr | hr
    · cases hr
    · simp only [scan]
      rw [if_neg (by simpa using hr)]
      simp
theorem scan_low (n : Nat) (hn : n ≤ 2147483647) (rest : List Int) : ∀ (j : Nat) (k : Int), n / 10 ^ j ≠ 0 →
    scan (low j n ++ rest) false ((n / 10 ^ j : Nat) : Int) k = scan rest false n (k + j) := by
  intro j
  induction j with
  | zero => intro k _; simp [low]
  | succ j ih =>
    intro k hz
    simp only [low, List.cons_append, scan]
    have e := div_pow n j
    have hle : n / 10 ^ j ≤ n := Nat.div_le_self _ _
    generalize hm : n / 10 ^ j = m at *
    rw [← e] at hz ⊢
    rw [if_pos (by omega), if_neg (by omega)]
    rw [show (((m / 10 : Nat) : Int) * 10 + (((m % 10 + 48 : Nat) : Int) - 48)) = (m : Int) from by omega]
    rw [ih (k + 1) (by omega)]
    congr 1
    omega
theorem scan_text (n : Nat) (hn : n ≤ 2147483647) (rest : List Int) (k : Int) (hr : rest = [] ∨ ¬ (48 ≤ rest.getD 0 0 ∧ rest.getD 0 0 ≤ 57)) :
    scan (low (wd n) n ++ rest) true 0 k = ((n : Int), k + wd n, true) := by
  obtain ⟨j, hj⟩ : ∃ j, wd n = j + 1 := ⟨wd n - 1, by have := wd_pos n; omega⟩
  have hz : n / 10 ^ (j + 1) = 0 := by
    rcases Nat.eq_zero_or_pos (n / 10 ^ (j + 1)) with h | h
    · exact h
    · have := (lt_wd (j + 1) n).2 (.inr h); omega
  rw [hj]
  simp only [low, List.cons_append, scan]
  have e := div_pow n j
  have hle : n / 10 ^ j ≤ n := Nat.div_le_self _ _
  by_cases h0 : j = 0
  · subst h0
    simp only [low, Nat.pow_zero, Nat.div_one, List.nil_append] at *
    rw [if_pos (by omega), if_neg (by simp; omega), scan_stop rest _ _ hr]
    simp only [Prod.mk.injEq, and_true, true_and]
    omega
  · have hz' : n / 10 ^ j ≠ 0 := by
      have := (lt_wd j n).1 (by omega)
      omega
    have hlow := scan_low n hn rest j (k + 1) hz'
    rw [if_pos (by omega), if_neg (by simp; omega)]
    rw [show ((0 : Int) * 10 + (((n / 10 ^ j % 10 + 48 : Nat) : Int) - 48)) = ((n / 10 ^ j : Nat) : Int) from by omega]
    rw [hlow, scan_stop rest _ _ hr]
    simp only [Prod.mk.injEq, and_true, true_and]
    omega

/-- What stands behind stops a number. -/
def Stops (rest : List Int) : Prop := rest = [] ∨ ¬ (48 ≤ rest.getD 0 0 ∧ rest.getD 0 0 ≤ 57)
theorem parse_back (ahead behind : List Int) (n : Nat) (hn : n ≤ 2147483647) (hr : Stops behind) :
    parse (ahead ++ low (wd n) n ++ behind) ahead.length = ((n : Int), (ahead.length : Int) + wd n, true) := by
  rw [parse_eq _ _ (by omega) (by simp; omega), List.append_assoc, Int.toNat_natCast, List.drop_left, scan_text n hn behind _ hr]
/-- The texts of numbers, a blank ahead of each. -/
def texts : List Int → List Int
  | [] => []
  | x :: l => 32 :: low (wd x.toNat) x.toNat ++ texts l
theorem texts_append (l m : List Int) : texts (l ++ m) = texts l ++ texts m := by induction l <;> simp [texts, *]
theorem texts_len (l : List Int) (h : ∀ x ∈ l, 0 ≤ x ∧ x ≤ 2147483647) : (texts l).length ≤ 11 * l.length := by
  induction l with
  | nil => simp [texts]
  | cons x l ih =>
    have := h x (by simp)
    have i := ih (fun y hy => h y (by simp [hy]))
    have w := wd_le (n := x.toNat) (by omega)
    simp only [texts, List.cons_append, List.length_cons, List.length_append, low_length]
    omega
theorem texts_stop (l behind : List Int) (hr : Stops behind) : Stops (texts l ++ behind) := by
  cases l with
  | nil => exact hr
  | cons x l => right; simp [texts]
theorem listGo_back (behind : List Int) (hr : Stops behind) (h32 : behind.getD 0 0 ≠ 32) (L : List Int) : ∀ (l pre out : List Int) (d : Nat), (∀ x ∈ l, 0 ≤ x ∧ x ≤ 2147483647) → L = pre ++ texts l ++ behind → L.length - pre.length < d →
    listGo L d pre.length out = (out ++ l, (pre.length : Int) + (texts l).length, true) := by
  intro l
  induction l with
  | nil =>
    intro pre out d _ hL hd
    obtain ⟨d, rfl⟩ : ∃ m, d = m + 1 := ⟨d - 1, by omega⟩
    rw [listGo, if_neg ?_]
    · simp [texts]
    · rintro ⟨h1, h2⟩
      rw [hL] at h2
      simp only [texts, List.append_nil, Int.toNat_natCast] at h2
      rw [List.getD_eq_getElem?_getD, List.getElem?_append_right (Nat.le_refl _), Nat.sub_self, ← List.getD_eq_getElem?_getD] at h2
      exact h32 h2
  | cons x l ih =>
    intro pre out d hx hL hd
    obtain ⟨d, rfl⟩ : ∃ m, d = m + 1 := ⟨d - 1, by omega⟩
    have hx0 := hx x (by simp)
    have hlen : L.length = pre.length + 1 + wd x.toNat + (texts l).length + behind.length := by rw [hL]; simp [texts, low_length]; omega
    have h32' : L.getD (pre.length : Int).toNat 0 = 32 := by
      rw [hL, Int.toNat_natCast, List.append_assoc, List.getD_eq_getElem?_getD, List.getElem?_append_right (Nat.le_refl _), Nat.sub_self]
      simp [texts]
    have hp : parse L ((pre.length : Int) + 1) = (x, (pre.length : Int) + 1 + wd x.toNat, true) := by
      have := parse_back (pre ++ [32]) (texts l ++ behind) x.toNat (by omega) (texts_stop l behind hr)
      rw [show (pre ++ [32]) ++ low (wd x.toNat) x.toNat ++ (texts l ++ behind) = L from by rw [hL]; simp [texts]] at this
      rw [show (((pre ++ ([32] : List Int)).length : Nat) : Int) = (pre.length : Int) + 1 from by simp] at this
      rw [this, Int.toNat_of_nonneg hx0.1]
    have hnext := ih (pre ++ 32 :: low (wd x.toNat) x.toNat) (out ++ [x]) d (fun y hy => hx y (by simp [hy])) (by rw [hL]; simp [texts]) (by simp [low_length]; omega)
    rw [listGo, if_pos ⟨by omega, h32'⟩]
    simp only [hp, if_true]
    have e : (((pre ++ 32 :: low (wd x.toNat) x.toNat).length : Nat) : Int) = (pre.length : Int) + 1 + wd x.toNat := by simp [low_length]; omega
    rw [e] at hnext
    rw [hnext]
    simp only [texts, List.append_assoc, List.cons_append, List.nil_append, List.length_cons, List.length_append, low_length, Prod.mk.injEq, true_and, and_true]
    omega
theorem list_back (ahead behind l : List Int) (hr : Stops behind) (h32 : behind.getD 0 0 ≠ 32) (hx : ∀ x ∈ l, 0 ≤ x ∧ x ≤ 2147483647) :
    list (ahead ++ texts l ++ behind) ahead.length = (l, (ahead.length : Int) + (texts l).length, true) := by
  unfold list
  rw [if_neg (by simp; omega)]
  have := listGo_back behind hr h32 (ahead ++ texts l ++ behind) l ahead [] ((ahead ++ texts l ++ behind).length + 1) hx rfl (by omega)
  simpa using this
theorem low_bytes (k n : Nat) : ∀ x ∈ low k n, 0 ≤ x ∧ x ≤ 255 := by
  induction k with
  | zero => intro x hx; cases hx
  | succ k ih =>
    intro x hx
    simp only [low, List.mem_cons] at hx
    rcases hx with rfl | hx
    · omega
    · exact ih x hx
theorem texts_bytes (l : List Int) : ∀ x ∈ texts l, 0 ≤ x ∧ x ≤ 255 := by
  induction l with
  | nil => intro x hx; cases hx
  | cons y l ih =>
    intro x hx
    simp only [texts, List.cons_append, List.mem_cons, List.mem_append] at hx
    rcases hx with rfl | hx | hx
    · omega
    · exact low_bytes _ _ x hx
    · exact ih x hx

end Go.Proofs.Ytlcioegdmopppaa
