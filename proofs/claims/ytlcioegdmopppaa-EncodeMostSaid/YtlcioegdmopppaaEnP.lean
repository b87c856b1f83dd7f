/- The plain laws of the texts of a history: the reference's. -/
import Derived.Test.YtlcioegdmopppaaEnX2
import Derived.Test.YtlcioegdmopppaaDigPrint
import Derived.Test.YtlcioegdmopppaaDigPlain
set_option linter.unusedSimpArgs false
namespace Go.Proofs.Ytlcioegdmopppaa.En
open Go.RowKit Go.Proofs.Ytlcioegdmopppaa.PEncodeBack Go.Proofs.YtlcioegdmopppaaW.PrintWords
set_option linter.unusedVariables false

def okN (n : Int) : Bool := decide (0 ≤ n ∧ n ≤ 2147483647)
theorem okN_iff {n : Int} : okN n = true ↔ 0 ≤ n ∧ n ≤ 2147483647 := by unfold okN; simp
/-- May an operation be? -/
def okOp (o : S39) : Bool := okN o.f1 && (if o.f0 = true then decide (o.f2 = 0) && o.f3.all okN else okN o.f2 && decide (o.f3 = []))
def okT (t : S42) : Bool := okN t.f0 && t.f2.all okOp
/-- A number's text. -/
def numS (n : Int) : List Int := low (wd n.toNat) n.toNat
theorem numS_len {n : Int} (h : okN n = true) : 1 ≤ (numS n).length ∧ (numS n).length ≤ 10 := by
  have := okN_iff.1 h
  unfold numS
  rw [low_length]
  exact ⟨wd_pos _, wd_le (by omega)⟩
/-- An operation's line, a transaction's lines, a history's. -/
def opT (o : S39) : List Int := (if o.f0 = true then 114 :: texts (o.f1 :: o.f3) else 97 :: texts [o.f1, o.f2]) ++ [10]
def headT (t : S42) : List Int := 116 :: texts [t.f0] ++ [32, if t.f1 = true then 97 else 99, 10]
def txnT (t : S42) : List Int := headT t ++ t.f2.flatMap opT
def histT (h : List S42) : List Int := h.flatMap txnT

theorem str_append (a b : List Int) : strOfNums a ++ strOfNums b = strOfNums (a ++ b) := by
  apply ByteArray.ext
  rw [ByteArray.data_append]
  simp [strOfNums]
theorem str_len (a : List Int) : (strOfNums a).size = a.length := str_size a

theorem str_lit (a b : List Int) (s : ByteArray) (h : strOfNums b = s) : strOfNums a ++ s = strOfNums (a ++ b) := by rw [← h, str_append]
theorem tm1 (m : Nat) : Int.tmod (m : Int) 10 = ((m % 10 : Nat) : Int) := rfl
theorem td1 (m : Nat) : Int.tdiv (m : Int) 10 = ((m / 10 : Nat) : Int) := rfl
theorem wr1 (m : Nat) (h : m ≤ 2147483647) : wrap64 ((m : Nat) : Int) = ((m : Nat) : Int) := by unfold wrap64; omega
theorem wr2 (m : Nat) (h : m ≤ 2147483647) : wrap64 ((m : Nat) + 1 : Int) = ((m + 1 : Nat) : Int) := by unfold wrap64; omega
theorem dig_size (m : Nat) (hm : m < 10) : ((⟨#[48, 49, 50, 51, 52, 53, 54, 55, 56, 57]⟩ : ByteArray).extract m (m + 1)).size = 1 := by
  have hc : m = 0 ∨ m = 1 ∨ m = 2 ∨ m = 3 ∨ m = 4 ∨ m = 5 ∨ m = 6 ∨ m = 7 ∨ m = 8 ∨ m = 9 := by omega
  rcases hc with rfl | rfl | rfl | rfl | rfl | rfl | rfl | rfl | rfl | rfl <;> rfl
/-- One round on, or the end. -/
theorem rprint_on (m : Nat) (hm : m ≤ 2147483647) (h9 : 9 < m) (s : ByteArray) (hs : s.size ≤ 10) (r : Nat) : coronerref01_Print.l0 (r + 1) (m : Int) s = coronerref01_Print.l0 r ((m / 10 : Nat) : Int) ((⟨#[48, 49, 50, 51, 52, 53, 54, 55, 56, 57]⟩ : ByteArray).extract (m % 10) (m % 10 + 1) ++ s) := by
  have hz1 := dig_size (m % 10) (Nat.mod_lt _ (by omega))
  have hlt : m % 10 < 10 := Nat.mod_lt _ (by omega)
  simp only [coronerref01_Print.l0]
  rw [if_pos (by omega), tm1, td1, wr2 (m % 10) (by omega), wr1 (m / 10) (by omega), Int.toNat_natCast, Int.toNat_natCast, if_pos (by omega), if_pos (by omega), if_pos (by omega), if_pos (by omega)]
theorem rprint_end (m : Nat) (h9 : m ≤ 9) (s : ByteArray) (hs : s.size ≤ 10) (r : Nat) : coronerref01_Print.l0 (r + 1) (m : Int) s = some ((⟨#[48, 49, 50, 51, 52, 53, 54, 55, 56, 57]⟩ : ByteArray).extract m (m + 1) ++ s, 0) := by
  have hz1 := dig_size m (by omega)
  simp only [coronerref01_Print.l0]
  rw [if_neg (by omega), wr2 m (by omega), Int.toNat_natCast, Int.toNat_natCast, if_pos (by omega), if_pos (by omega), if_pos (by omega), if_pos (by omega)]

/-! the reference's Print -/
theorem rprint_loop (n : Nat) (hn : n ≤ 2147483647) : ∀ (d k : Nat), k + d = wd n → k < wd n → Ev (fun r => coronerref01_Print.l0 r ((n / 10 ^ k : Nat) : Int) (strOfNums (low k n))) (strOfNums (low (wd n) n), 0)
  | 0, k, hd, hk => absurd hk (by omega)
  | d + 1, k, hd, hk => by
    have hm : n / 10 ^ k ≤ 2147483647 := Nat.le_trans (Nat.div_le_self _ _) hn
    have hs : (strOfNums (low k n)).size ≤ 10 := by rw [str_size, low_length]; have := wd_le hn; omega
    have hdiv := div_pow n k
    have hmore := lt_wd (k + 1) n
    have hlow : low (k + 1) n = ((n / 10 ^ k % 10 + 48 : Nat) : Int) :: low k n := rfl
    have hdig := str_digit (n / 10 ^ k % 10) (Nat.mod_lt _ (by omega)) (low k n)
    by_cases h9 : 9 < n / 10 ^ k
    · have hk1 : k + 1 < wd n := hmore.2 (.inr (by rw [← hdiv]; exact Nat.div_pos (by omega) (by omega)))
      have ih := rprint_loop n hn d (k + 1) (by omega) hk1
      rw [← hdiv, hlow, ← hdig] at ih
      exact Ev.step (fun r => rprint_on _ hm h9 _ hs r) ih
    · have hk1 : k + 1 = wd n := by
        rcases Nat.lt_or_ge (k + 1) (wd n) with h | h
        · rcases hmore.1 h with h | h
          · omega
          · rw [← hdiv] at h
            have : n / 10 ^ k / 10 = 0 := Nat.div_eq_of_lt (by omega)
            omega
        · omega
      have hm10 : n / 10 ^ k % 10 = n / 10 ^ k := Nat.mod_eq_of_lt (by omega)
      rw [hm10] at hdig hlow
      rw [← hk1, hlow, ← hdig]
      exact Ev.step (f := fun _ => some _) (fun r => rprint_end _ (by omega) _ hs r) (Ev.now _)
theorem number_ev {n : Int} (h : okN n = true) : Ev (fun r => coronerref04_number.f r n) (strOfNums (numS n)) := by
  obtain ⟨h0, h1⟩ := okN_iff.1 h
  have hl := rprint_loop n.toNat (by omega) (wd n.toNat) 0 (by omega) (wd_pos _)
  rw [Nat.pow_zero, Nat.div_one, Int.toNat_of_nonneg h0] at hl
  have hp : Ev (fun r => coronerref01_Print.f r n) (strOfNums (numS n), 0) := by
    refine Ev.congr (f := fun r => coronerref01_Print.j0 r n (decide (n > 2147483647))) (fun r => ?_) (Ev.step (fun r => ?_) hl)
    · unfold coronerref01_Print.f; rw [if_neg (by omega)]
    · simp only [coronerref01_Print.j0]; rw [if_neg (by simp; omega)]; rfl
  exact Ev.bind (f := fun _ bt => some bt.1) hp (Ev.now _)

/-! the reference's Text -/
theorem rd39 {l : List S39} {i : Nat} (h : i < l.length) : rd_T39 l (i : Int) = l[i] := by
  simp [rd_T39, List.getD_eq_getElem?_getD, List.getElem?_eq_getElem h]
theorem rd42 {l : List S42} {i : Nat} (h : i < l.length) : rd_T42 l (i : Int) = l[i] := by
  simp [rd_T42, List.getD_eq_getElem?_getD, List.getElem?_eq_getElem h]
theorem rdI {l : List Int} {i : Nat} (h : i < l.length) : rd l (i : Int) = l[i] := by
  simp [rd, List.getD_eq_getElem?_getD, List.getElem?_eq_getElem h]
theorem wrapS {i n : Nat} (h : i < n) (hn : n ≤ 1152921504606846976) : wrap64 ((i : Int) + 1) = ((i + 1 : Nat) : Int) := by unfold wrap64; omega
theorem texts_one (n : Int) : texts [n] = 32 :: numS n := by simp [texts, numS]
theorem texts_cons (n : Int) (l : List Int) : texts (n :: l) = 32 :: numS n ++ texts l := rfl
def big : Nat := 1152921504606846976
section
variable {h : List S42} {x3 : List Int} {x4 : Int} {a0 : Int} {a1 : Bool} {a2 : List S39} {R : ByteArray}
theorem rtext_l2 (o : S39) (x7 : Nat) (hx7 : x7 < a2.length) (hl2 : a2.length ≤ big) (ho : o.f3.all okN = true) (hl3 : o.f3.length ≤ big) : ∀ (d j : Nat) (x6 : List Int), j + d = o.f3.length → x6.length + (texts (o.f3.drop j)).length + 1 ≤ big →
    Ev (fun k => coronerref04_Text.l1 k (strOfNums x3) x4 (strOfNums (x6 ++ texts (o.f3.drop j) ++ [10])) ((x7 + 1 : Nat) : Int) h a0 a1 a2) R →
    Ev (fun k => coronerref04_Text.l2 k (strOfNums x3) x4 (strOfNums x6) (x7 : Int) (j : Int) h a0 a1 a2 o.f0 o.f1 o.f2 o.f3) R
  | 0, j, x6, hj, hb, hR => by
    unfold big at *
    rw [List.drop_eq_nil_of_le (by omega)] at hR hb
    refine Ev.step (fun k => ?_) hR
    simp only [coronerref04_Text.l2]
    rw [if_neg (by omega), if_pos (by rw [str_len]; omega), wrapS hx7 (by omega)]
    have e : strOfNums x6 ++ (⟨#[10]⟩ : ByteArray) = strOfNums (x6 ++ texts [] ++ [10]) := by simp only [texts, List.append_nil]; exact str_lit _ [10] _ rfl
    rw [e]
  | d + 1, j, x6, hj, hb, hR => by
    have hlt : j < o.f3.length := by omega
    have hok : okN o.f3[j] = true := List.all_eq_true.1 ho _ (List.getElem_mem hlt)
    have hn := numS_len hok
    rw [List.drop_eq_getElem_cons hlt, texts_cons] at hR hb
    simp only [List.length_append, List.length_cons] at hb
    have ih := rtext_l2 o x7 hx7 hl2 ho hl3 d (j + 1) (x6 ++ (32 :: numS o.f3[j])) (by omega) (by simp; omega) (by
      have e : x6 ++ 32 :: numS o.f3[j] ++ texts (o.f3.drop (j + 1)) ++ [10] = x6 ++ (32 :: numS o.f3[j] ++ texts (o.f3.drop (j + 1))) ++ [10] := by simp
      rw [e]; exact hR)
    unfold big at *
    refine Ev.step (f := fun k => (coronerref04_number.f k o.f3[j]).bind fun t => if (strOfNums x6 ++ (⟨#[32]⟩ : ByteArray)).size + t.size ≤ 9223372036854775807 then coronerref04_Text.l2 k (strOfNums x3) x4 ((strOfNums x6 ++ (⟨#[32]⟩ : ByteArray)) ++ t) (x7 : Int) ((j + 1 : Nat) : Int) h a0 a1 a2 o.f0 o.f1 o.f2 o.f3 else none) (fun k => ?_) ?_
    · simp only [coronerref04_Text.l2]
      rw [if_pos (by omega), if_pos (by rw [str_len]; omega), if_pos (by omega), rdI hlt, wrapS hlt (by omega)]
    · refine Ev.bind (number_ev hok) ?_
      have e1 : strOfNums x6 ++ (⟨#[32]⟩ : ByteArray) = strOfNums (x6 ++ [32]) := str_lit _ [32] _ rfl
      have e2 : strOfNums (x6 ++ [32]) ++ strOfNums (numS o.f3[j]) = strOfNums (x6 ++ 32 :: numS o.f3[j]) := by rw [str_append]; simp
      rw [e1, e2]
      exact Ev.congr (fun k => if_pos (by rw [str_len, str_len]; simp; omega)) ih
theorem rtext_l1 (x4n : Nat) (hx4 : x4n < h.length) (hlh : h.length ≤ big) (hl2 : a2.length ≤ big) (ha : a2.all okOp = true) (hl3 : ∀ o ∈ a2, o.f3.length ≤ big) : ∀ (d j : Nat) (x6 : List Int), j + d = a2.length → x3.length + x6.length + ((a2.drop j).flatMap opT).length ≤ big →
    Ev (fun k => coronerref04_Text.l0 k (strOfNums (x3 ++ (x6 ++ (a2.drop j).flatMap opT))) ((x4n + 1 : Nat) : Int) h) R →
    Ev (fun k => coronerref04_Text.l1 k (strOfNums x3) (x4n : Int) (strOfNums x6) (j : Int) h a0 a1 a2) R
  | 0, j, x6, hj, hb, hR => by
    unfold big at *
    rw [List.drop_eq_nil_of_le (by omega)] at hR hb
    rw [List.flatMap_nil, List.append_nil] at hR
    refine Ev.step (fun k => ?_) hR
    simp only [coronerref04_Text.l1]
    rw [if_neg (by omega), if_pos (by rw [str_len, str_len]; omega), wrapS hx4 (by omega), str_append]
  | d + 1, j, x6, hj, hb, hR => by
    have hlt : j < a2.length := by omega
    have hok : okOp a2[j] = true := List.all_eq_true.1 ha _ (List.getElem_mem hlt)
    have hl := hl3 _ (List.getElem_mem hlt)
    rw [List.drop_eq_getElem_cons hlt, List.flatMap_cons] at hR hb
    rw [List.length_append] at hb
    have hR2 : Ev (fun k => coronerref04_Text.l0 k (strOfNums (x3 ++ ((x6 ++ opT a2[j]) ++ (a2.drop (j + 1)).flatMap opT))) ((x4n + 1 : Nat) : Int) h) R := by
      rw [List.append_assoc]; exact hR
    have ih := rtext_l1 x4n hx4 hlh hl2 ha hl3 d (j + 1) (x6 ++ opT a2[j]) (by omega) (by rw [List.length_append]; omega) hR2
    clear hR hR2
    generalize ho : a2[j] = o at *
    unfold okOp at hok
    simp only [Bool.and_eq_true] at hok
    obtain ⟨hk1, hk2⟩ := hok
    have hn1 := numS_len hk1
    by_cases hr : o.f0 = true
    · rw [if_pos hr] at hk2
      simp only [Bool.and_eq_true] at hk2
      unfold opT at hb ih
      rw [if_pos hr, texts_cons] at hb ih
      simp only [List.length_append, List.length_cons, List.length_nil] at hb
      have h2 := rtext_l2 (h := h) (x3 := x3) (x4 := (x4n : Int)) (a0 := a0) (a1 := a1) (a2 := a2) (R := R) o j hlt hl2 hk2.2 hl o.f3.length 0 (x6 ++ (114 :: 32 :: numS o.f1)) (by omega) (by simp; omega) (by
        rw [List.drop_zero]
        have e : x6 ++ 114 :: 32 :: numS o.f1 ++ texts o.f3 ++ [10] = x6 ++ (114 :: (32 :: numS o.f1 ++ texts o.f3) ++ [10]) := by simp
        rw [e]; exact ih)
      unfold big at *
      refine Ev.step (f := fun k => (coronerref04_number.f k o.f1).bind fun t => if (strOfNums x6 ++ (⟨#[114, 32]⟩ : ByteArray)).size + t.size ≤ 9223372036854775807 then coronerref04_Text.l2 k (strOfNums x3) (x4n : Int) ((strOfNums x6 ++ (⟨#[114, 32]⟩ : ByteArray)) ++ t) (j : Int) ((0 : Nat) : Int) h a0 a1 a2 o.f0 o.f1 o.f2 o.f3 else none) (fun k => ?_) ?_
      · simp only [coronerref04_Text.l1]
        rw [if_pos (by omega), if_pos (by omega), rd39 hlt, ho, if_pos hr, if_pos (by rw [str_len]; omega)]
        rfl
      · refine Ev.bind (number_ev hk1) ?_
        have e1 : strOfNums x6 ++ (⟨#[114, 32]⟩ : ByteArray) = strOfNums (x6 ++ [114, 32]) := str_lit _ [114, 32] _ rfl
        have e2 : strOfNums (x6 ++ [114, 32]) ++ strOfNums (numS o.f1) = strOfNums (x6 ++ 114 :: 32 :: numS o.f1) := by rw [str_append]; simp
        rw [e1, e2]
        exact Ev.congr (fun k => if_pos (by rw [str_len, str_len]; simp; omega)) h2
    · rw [if_neg hr] at hk2
      simp only [Bool.and_eq_true] at hk2
      have hn2 := numS_len hk2.1
      unfold opT at hb ih
      rw [if_neg hr, texts_cons, texts_one] at hb ih
      simp only [List.length_append, List.length_cons, List.length_nil] at hb
      unfold big at *
      refine Ev.step (f := fun k => (coronerref04_number.f k o.f1).bind fun t => if (strOfNums x6 ++ (⟨#[97, 32]⟩ : ByteArray)).size + t.size ≤ 9223372036854775807 then (if ((strOfNums x6 ++ (⟨#[97, 32]⟩ : ByteArray)) ++ t).size + 1 ≤ 9223372036854775807 then ((coronerref04_number.f k o.f2).bind fun t2 => if (((strOfNums x6 ++ (⟨#[97, 32]⟩ : ByteArray)) ++ t) ++ (⟨#[32]⟩ : ByteArray)).size + t2.size ≤ 9223372036854775807 then (if ((((strOfNums x6 ++ (⟨#[97, 32]⟩ : ByteArray)) ++ t) ++ (⟨#[32]⟩ : ByteArray)) ++ t2).size + 1 ≤ 9223372036854775807 then coronerref04_Text.l1 k (strOfNums x3) (x4n : Int) (((((strOfNums x6 ++ (⟨#[97, 32]⟩ : ByteArray)) ++ t) ++ (⟨#[32]⟩ : ByteArray)) ++ t2) ++ (⟨#[10]⟩ : ByteArray)) ((j + 1 : Nat) : Int) h a0 a1 a2 else none) else none) else none) else none) (fun k => ?_) ?_
      · simp only [coronerref04_Text.l1]
        rw [if_pos (by omega), if_pos (by omega), rd39 hlt, ho, if_neg hr, if_pos (by rw [str_len]; omega), wrapS hlt (by omega)]
      · refine Ev.bind (number_ev hk1) ?_
        have e1 : strOfNums x6 ++ (⟨#[97, 32]⟩ : ByteArray) = strOfNums (x6 ++ [97, 32]) := str_lit _ [97, 32] _ rfl
        have e2 : strOfNums (x6 ++ [97, 32]) ++ strOfNums (numS o.f1) = strOfNums (x6 ++ 97 :: 32 :: numS o.f1) := by rw [str_append]; simp
        have e3 : strOfNums (x6 ++ 97 :: 32 :: numS o.f1) ++ (⟨#[32]⟩ : ByteArray) = strOfNums (x6 ++ 97 :: 32 :: numS o.f1 ++ [32]) := str_lit _ [32] _ rfl
        rw [e1, e2, e3]
        refine Ev.congr (fun k => (if_pos (by rw [str_len, str_len]; simp; omega)).trans (if_pos (by rw [str_len]; simp; omega))) ?_
        refine Ev.bind (number_ev hk2.1) ?_
        have e4 : strOfNums (x6 ++ 97 :: 32 :: numS o.f1 ++ [32]) ++ strOfNums (numS o.f2) = strOfNums (x6 ++ 97 :: 32 :: numS o.f1 ++ [32] ++ numS o.f2) := by rw [str_append]
        have e5 : strOfNums (x6 ++ 97 :: 32 :: numS o.f1 ++ [32] ++ numS o.f2) ++ (⟨#[10]⟩ : ByteArray) = strOfNums (x6 ++ (97 :: (32 :: numS o.f1 ++ 32 :: numS o.f2) ++ [10])) := by
          have : x6 ++ (97 :: (32 :: numS o.f1 ++ 32 :: numS o.f2) ++ [10]) = x6 ++ 97 :: 32 :: numS o.f1 ++ [32] ++ numS o.f2 ++ [10] := by simp
          rw [this]; exact str_lit _ [10] _ rfl
        rw [e4, e5]
        exact Ev.congr (fun k => (if_pos (by rw [str_len, str_len]; simp; omega)).trans (if_pos (by rw [str_len]; simp; omega))) ih
end
theorem rtext_l0 (h : List S42) (hlh : h.length ≤ big) (ha : h.all okT = true) (hl2 : ∀ t ∈ h, t.f2.length ≤ big ∧ ∀ o ∈ t.f2, o.f3.length ≤ big) : ∀ (d j : Nat) (x3 : List Int), j + d = h.length → x3.length + ((h.drop j).flatMap txnT).length ≤ big →
    Ev (fun k => coronerref04_Text.l0 k (strOfNums x3) (j : Int) h) (strOfNums (x3 ++ (h.drop j).flatMap txnT))
  | 0, j, x3, hj, hb => by
    rw [List.drop_eq_nil_of_le (by omega), List.flatMap_nil, List.append_nil]
    exact Ev.step (f := fun _ => some _) (fun k => by simp only [coronerref04_Text.l0]; rw [if_neg (by omega)]) (Ev.now _)
  | d + 1, j, x3, hj, hb => by
    have hlt : j < h.length := by omega
    have hok : okT h[j] = true := List.all_eq_true.1 ha _ (List.getElem_mem hlt)
    obtain ⟨hl, hl3⟩ := hl2 _ (List.getElem_mem hlt)
    rw [List.drop_eq_getElem_cons hlt, List.flatMap_cons] at hb ⊢
    rw [List.length_append] at hb
    have ih := rtext_l0 h hlh ha hl2 d (j + 1) (x3 ++ txnT h[j]) (by omega) (by rw [List.length_append]; omega)
    rw [List.append_assoc] at ih
    generalize ht : h[j] = t at *
    unfold okT at hok
    simp only [Bool.and_eq_true] at hok
    have hn := numS_len hok.1
    unfold txnT at hb
    simp only [List.length_append] at hb
    have hhl : (headT t).length = (numS t.f0).length + 5 := by unfold headT; rw [texts_one]; simp
    have h1 := rtext_l1 (h := h) (x3 := x3) (a0 := t.f0) (a1 := t.f1) (a2 := t.f2) (R := strOfNums (x3 ++ (txnT t ++ (h.drop (j + 1)).flatMap txnT))) j hlt hlh hl hok.2 hl3 t.f2.length 0 (headT t) (by omega) (by rw [List.drop_zero]; omega) (by
      rw [List.drop_zero]; exact ih)
    unfold big at *
    have hj1 : Ev (fun k => coronerref04_Text.j1 k (strOfNums x3) (j : Int) (strOfNums (headT t)) h t.f0 t.f1 t.f2) (strOfNums (x3 ++ (txnT t ++ (h.drop (j + 1)).flatMap txnT))) :=
      Ev.step (fun k => by simp only [coronerref04_Text.j1]; rfl) h1
    refine Ev.step (f := fun k => (coronerref04_number.f k t.f0).bind fun t140 => if 2 + t140.size ≤ 9223372036854775807 then (if t.f1 = true then (if ((⟨#[116, 32]⟩ : ByteArray) ++ t140).size + 3 ≤ 9223372036854775807 then coronerref04_Text.j1 k (strOfNums x3) (j : Int) (((⟨#[116, 32]⟩ : ByteArray) ++ t140) ++ (⟨#[32, 97, 10]⟩ : ByteArray)) h t.f0 t.f1 t.f2 else none) else (if ((⟨#[116, 32]⟩ : ByteArray) ++ t140).size + 3 ≤ 9223372036854775807 then coronerref04_Text.j1 k (strOfNums x3) (j : Int) (((⟨#[116, 32]⟩ : ByteArray) ++ t140) ++ (⟨#[32, 99, 10]⟩ : ByteArray)) h t.f0 t.f1 t.f2 else none)) else none) (fun k => ?_) ?_
    · simp only [coronerref04_Text.l0]
      rw [if_pos (by omega), if_pos (by omega), rd42 hlt, ht]
    · refine Ev.bind (number_ev hok.1) ?_
      have e1 : (⟨#[116, 32]⟩ : ByteArray) ++ strOfNums (numS t.f0) = strOfNums (116 :: 32 :: numS t.f0) := by
        have : (116 : Int) :: 32 :: numS t.f0 = [116, 32] ++ numS t.f0 := rfl
        rw [this, ← str_append]; rfl
      rw [e1]
      refine Ev.congr (fun k => if_pos (by rw [str_len]; omega)) ?_
      by_cases hab : t.f1 = true
      · have e2 : strOfNums (116 :: 32 :: numS t.f0) ++ (⟨#[32, 97, 10]⟩ : ByteArray) = strOfNums (headT t) := by
          unfold headT
          rw [if_pos hab, texts_one]; exact str_lit _ [32, 97, 10] _ rfl
        rw [e2]
        exact Ev.congr (fun k => (if_pos hab).trans (if_pos (by rw [str_len]; simp; omega))) hj1
      · have e2 : strOfNums (116 :: 32 :: numS t.f0) ++ (⟨#[32, 99, 10]⟩ : ByteArray) = strOfNums (headT t) := by
          unfold headT
          rw [if_neg hab, texts_one]; exact str_lit _ [32, 99, 10] _ rfl
        rw [e2]
        exact Ev.congr (fun k => (if_neg hab).trans (if_pos (by rw [str_len]; simp; omega))) hj1
theorem rtext_ev (h : List S42) (hlh : h.length ≤ big) (ha : h.all okT = true) (hl2 : ∀ t ∈ h, t.f2.length ≤ big ∧ ∀ o ∈ t.f2, o.f3.length ≤ big) (hb : (histT h).length ≤ big) : Ev (fun k => coronerref04_Text.f k h) (strOfNums (histT h)) := by
  have := rtext_l0 h hlh ha hl2 h.length 0 [] (by omega) (by rw [List.drop_zero, List.length_nil, Nat.zero_add]; exact hb)
  exact this
end Go.Proofs.Ytlcioegdmopppaa.En
