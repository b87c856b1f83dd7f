/- Plain facts on a number's digits (no program): how many there are, the low ones, and that the program's rounds gather them. -/
set_option linter.unusedVariables false
set_option linter.unusedSimpArgs false
namespace Go.Proofs.Ytlcioegdmopppaa

/-- How many digits a number has. -/
def wd (n : Nat) : Nat := if n < 10 then 1 else wd (n / 10) + 1
termination_by n
decreasing_by omega
theorem wd_small {n : Nat} (h : n < 10) : wd n = 1 := by rw [wd, if_pos h]
theorem wd_big {n : Nat} (h : 10 ≤ n) : wd n = wd (n / 10) + 1 := by rw [wd, if_neg (by omega)]
theorem wd_pos (n : Nat) : 1 ≤ wd n := by rw [wd]; split <;> omega
theorem lt_wd (k : Nat) : ∀ n, k < wd n ↔ k = 0 ∨ 0 < n / 10 ^ k := by
  induction k with
  | zero => intro n; have := wd_pos n; simp; omega
  | succ k ih =>
    intro n
    have e : n / 10 ^ (k + 1) = n / 10 / 10 ^ k := by rw [Nat.pow_succ, Nat.mul_comm, Nat.div_div_eq_div_mul]
    rw [e]
    by_cases h : n < 10
    · rw [wd_small h, show n / 10 = 0 from by omega]; simp
    · rw [wd_big (by omega)]
      have := ih (n / 10)
      constructor
      · intro hk; right
        rcases this.1 (by omega) with rfl | h'
        · simp; omega
        · exact h'
      · intro hk
        have := this.2 (by rcases hk with hk | hk; · omega
                           · exact .inr hk)
        omega
theorem wd_le {n : Nat} (h : n ≤ 2147483647) : wd n ≤ 10 := by
  rcases Nat.lt_or_ge 10 (wd n) with h' | h'
  · rcases (lt_wd 10 n).1 h' with h'' | h''
    · omega
    · rw [Nat.div_eq_of_lt (by omega)] at h''; omega
  · exact h'
/-- The k low digits of a number, as bytes, the highest first. -/
def low : Nat → Nat → List Int
  | 0, _ => []
  | k + 1, n => ((n / 10 ^ k) % 10 + 48 : Nat) :: low k n
theorem low_length (k n : Nat) : (low k n).length = k := by induction k <;> simp [low, *]
/-- The array's ten bytes behind k rounds. -/
def arr (k n : Nat) : List Int := List.replicate (10 - k) 0 ++ low k n
theorem arr_length (k n : Nat) (h : k ≤ 10) : (arr k n).length = 10 := by simp [arr, low_length]; omega
theorem arr_zero (n : Nat) : arr 0 n = List.replicate 10 0 := by simp [arr, low]
theorem arr_succ (k n : Nat) (h : k < 10) : (arr k n).set (10 - (k + 1)) ((n / 10 ^ k % 10 + 48 : Nat) : Int) = arr (k + 1) n := by
  unfold arr
  rw [List.set_append, if_pos (by simp; omega)]
  have e : List.replicate (10 - k) (0 : Int) = List.replicate (10 - (k + 1)) 0 ++ [0] := by
    rw [show 10 - k = (10 - (k + 1)) + 1 from by omega, List.replicate_succ']
  rw [e, List.set_append, if_neg (by simp)]
  simp [low]
theorem div_pow (n k : Nat) : n / 10 ^ k / 10 = n / 10 ^ (k + 1) := by rw [Nat.div_div_eq_div_mul, Nat.pow_succ]
theorem done_eq (n k : Nat) (hk : k ≤ wd n) (h0 : k ≠ 0) (h : n / 10 ^ k = 0) : k = wd n := by
  rcases Nat.lt_or_ge k (wd n) with h' | h'
  · rcases (lt_wd k n).1 h' with h'' | h'' <;> omega
  · omega

end Go.Proofs.Ytlcioegdmopppaa
