/- What a cursor reads is the text of what it tells: plainly. -/
import Derived.Test.YtndciilmnnaemaaCurW
import Derived.Test.YtndciilmnnaemaaDigPrint
set_option linter.unusedVariables false
set_option linter.unusedSimpArgs false
namespace Go.Proofs.Ytndciilmnnaemaa
open Go.RowKit Go.Proofs.YtndciilmnnaemaaW.PrintWords

theorem low_append (n d : Nat) (hd : d < 10) : ∀ k, low (k + 1) (10 * n + d) = low k n ++ [((d + 48 : Nat) : Int)] := by
  intro k
  induction k with
  | zero => simp [low]; omega
  | succ k ih =>
    rw [low, ih, low]
    have e : (10 * n + d) / 10 ^ (k + 1) = n / 10 ^ k := by
      rw [Nat.pow_succ, Nat.mul_comm (10 ^ k) 10, ← Nat.div_div_eq_div_mul, show (10 * n + d) / 10 = n from by omega]
    rw [e]
    rfl
theorem wd_append (n d : Nat) (hn : 1 ≤ n) (hd : d < 10) : wd (10 * n + d) = wd n + 1 := by
  rw [wd_big (by omega), show (10 * n + d) / 10 = n from by omega]
theorem scan_reads (cs : List Int) : ∀ (n : Nat) (k : Int), n ≤ 2147483647 → (scan cs false n k).2.2 = true →
    ∃ m : Nat, (scan cs false n k).1 = m ∧ m ≤ 2147483647 ∧ low (wd m) m = low (wd n) n ++ cs.take ((scan cs false n k).2.1 - k).toNat := by
  induction cs with
  | nil => intro n k hn h; exact ⟨n, by simp [scan], hn, by simp [scan]⟩
  | cons c cs ih =>
    intro n k hn h
    simp only [scan] at h ⊢
    by_cases hc : 48 ≤ c ∧ c ≤ 57
    · rw [if_pos hc] at h ⊢
      by_cases h2 : (True ∧ (n : Int) = 0) ∨ (2147483647 - (c - 48)) / 10 < (n : Int)
      · rw [if_pos (by simpa using h2)] at h; cases h
      · rw [if_neg (by simpa using h2)] at h ⊢
        obtain ⟨d, hd⟩ : ∃ d : Nat, c = (d : Int) + 48 := ⟨(c - 48).toNat, by omega⟩
        have hd10 : d < 10 := by omega
        have hn1 : 1 ≤ n := by
          rcases Nat.eq_zero_or_pos n with h0 | h0
          · subst h0; exact absurd (.inl ⟨trivial, rfl⟩) h2
          · exact h0
        have e : (n : Int) * 10 + (c - 48) = ((10 * n + d : Nat) : Int) := by omega
        rw [e] at h ⊢
        obtain ⟨m, h1, h2', h3⟩ := ih (10 * n + d) (k + 1) (by omega) h
        have ht := (scan_to cs false ((10 * n + d : Nat) : Int) (k + 1)).1
        refine ⟨m, h1, h2', ?_⟩
        generalize (scan cs false ((10 * n + d : Nat) : Int) (k + 1)).2.1 = tt at *
        rw [h3, wd_append n d hn1 hd10, low_append n d hd10, show (tt - k).toNat = (tt - (k + 1)).toNat + 1 from by omega, List.take_succ_cons, hd]
        simp
    · rw [if_neg hc] at h ⊢
      exact ⟨n, by simp, hn, by simp⟩
theorem scan_first_reads (cs : List Int) (k : Int) (h : (scan cs true 0 k).2.2 = true) :
    ∃ m : Nat, (scan cs true 0 k).1 = m ∧ m ≤ 2147483647 ∧ low (wd m) m = cs.take ((scan cs true 0 k).2.1 - k).toNat := by
  cases cs with
  | nil => simp [scan] at h
  | cons c cs =>
    simp only [scan] at h ⊢
    by_cases hc : 48 ≤ c ∧ c ≤ 57
    · rw [if_pos hc] at h ⊢
      rw [if_neg (by simp; omega)] at h ⊢
      obtain ⟨d, hd⟩ : ∃ d : Nat, c = (d : Int) + 48 := ⟨(c - 48).toNat, by omega⟩
      have e : (0 : Int) * 10 + (c - 48) = (d : Int) := by omega
      rw [e] at h ⊢
      obtain ⟨m, h1, h2', h3⟩ := scan_reads cs d (k + 1) (by omega) h
      have ht := (scan_to cs false (d : Int) (k + 1)).1
      refine ⟨m, h1, h2', ?_⟩
      generalize (scan cs false (d : Int) (k + 1)).2.1 = tt at *
      rw [h3, wd_small (by omega), show (tt - k).toNat = (tt - (k + 1)).toNat + 1 from by omega, List.take_succ_cons, hd]
      simp [low]
      omega
    · rw [if_neg hc] at h; simp at h
theorem parse_text (l : List Int) (a : Int) (h0 : 0 ≤ a) (h1 : a ≤ l.length) (h : (parse l a).2.2 = true) :
    ∃ m : Nat, (parse l a).1 = m ∧ m ≤ 2147483647 ∧ l.take (parse l a).2.1.toNat = l.take a.toNat ++ low (wd m) m := by
  have ht := parse_to l a h0 h1
  rw [parse_eq l a h0 h1] at h ht ⊢
  obtain ⟨m, e1, e2, e3⟩ := scan_first_reads _ _ h
  refine ⟨m, e1, e2, ?_⟩
  generalize (scan (l.drop a.toNat) true 0 a).2.1 = tt at *
  rw [e3, show tt.toNat = a.toNat + (tt - a).toNat from by omega, List.take_add]
theorem listGo_text (l : List Int) : ∀ (d : Nat) (a : Int) (out : List Int), 0 ≤ a → a ≤ l.length → (listGo l d a out).2.2 = true →
    ∃ L, (listGo l d a out).1 = out ++ L ∧ (∀ x ∈ L, 0 ≤ x ∧ x ≤ 2147483647) ∧ l.take (listGo l d a out).2.1.toNat = l.take a.toNat ++ texts L := by
  intro d
  induction d with
  | zero => intro a out h0 h1 h; exact ⟨[], by simp [listGo], by simp, by simp [listGo, texts]⟩
  | succ d ih =>
    intro a out h0 h1 h
    rw [listGo] at h ⊢
    by_cases hc : a < (l.length : Int) ∧ l.getD a.toNat 0 = 32
    · rw [if_pos hc] at h ⊢
      dsimp only at h ⊢
      by_cases hp : (parse l (a + 1)).2.2 = true
      · rw [if_pos hp] at h ⊢
        have ht := parse_to l (a + 1) (by omega) (by omega)
        obtain ⟨m, e1, e2, e3⟩ := parse_text l (a + 1) (by omega) (by omega) hp
        obtain ⟨L, i1, i2, i3⟩ := ih (parse l (a + 1)).2.1 (out ++ [(parse l (a + 1)).1]) (by omega) (by omega) h
        refine ⟨(m : Int) :: L, ?_, ?_, ?_⟩
        · rw [i1, e1]; simp
        · intro x hx
          rcases List.mem_cons.1 hx with rfl | hx
          · omega
          · exact i2 x hx
        · rw [i3, e3, show (a + 1).toNat = a.toNat + 1 from by omega, List.take_add]
          have hl : a.toNat < l.length := by omega
          have h32 : (l.drop a.toNat).take 1 = [32] := by
            rw [List.drop_eq_getElem_cons hl]
            have := hc.2
            rw [List.getD_eq_getElem?_getD, List.getElem?_eq_getElem hl] at this
            simp at this
            simp [this]
          rw [h32]
          simp [texts]
      · rw [if_neg hp] at h; cases h
    · rw [if_neg hc]
      exact ⟨[], by simp, by simp, by simp [texts]⟩
theorem list_text (l : List Int) (a : Int) (h0 : 0 ≤ a) (h1 : a ≤ l.length) (h : (list l a).2.2 = true) :
    (∀ x ∈ (list l a).1, 0 ≤ x ∧ x ≤ 2147483647) ∧ l.take (list l a).2.1.toNat = l.take a.toNat ++ texts (list l a).1 := by
  unfold list at h ⊢
  rw [if_neg (by omega)] at h ⊢
  obtain ⟨L, e1, e2, e3⟩ := listGo_text l _ a [] h0 h1 h
  rw [List.nil_append] at e1
  rw [e1]
  exact ⟨e2, e3⟩

theorem str_append (a b : List Int) : strOfNums (a ++ b) = strOfNums a ++ strOfNums b := by
  apply ByteArray.ext
  rw [ByteArray.data_append]
  simp [strOfNums]
namespace Cur
/-- From s to s' the text st was read. -/
structure Reads (l : List Int) (s s' : Cr) (st : ByteArray) : Prop where
  ok : Ok l s'
  good : s'.e = 0 → strOfNums (l.take s.p.toNat) ++ st = strOfNums (l.take s'.p.toNat)
  bad : s'.e ≠ 0 → s'.p = s.p
theorem reads_fail {l : List Int} {s : Cr} (h : Ok l s) (h0 : s.e = 0) (a : Int) (st : ByteArray) : Reads l s (fail s 4 a) st := by
  refine ⟨ok_fail h _ _, fun he => ?_, fun _ => ?_⟩
  · unfold fail at he; rw [if_pos ⟨h0, by decide⟩] at he; simp at he
  · unfold fail; rw [if_pos ⟨h0, by decide⟩]
theorem reads_byte {l : List Int} {s : Cr} (h : Ok l s) (h0 : s.e = 0) (x : Int) : Reads l s (byte l s x) (strOfNums [x]) := by
  have hok := ok_byte h x
  unfold byte at hok ⊢
  by_cases hc : (peek l s).2 = true ∧ x = (peek l s).1
  · rw [if_pos hc] at hok ⊢
    refine ⟨hok, fun _ => ?_, fun he => absurd h0 he⟩
    unfold peek at hc
    by_cases hp : s.e = 0 ∧ s.p < l.length
    · rw [if_pos hp] at hc
      have hx := hc.2
      simp only at hx
      have hl : s.p.toNat < l.length := by have := h.1; omega
      rw [← str_append]
      have e : (s.p + 1).toNat = s.p.toNat + 1 := by have := h.1; omega
      simp only [e]
      rw [List.take_succ_eq_append_getElem hl, hx]
      unfold rd
      rw [List.getD_eq_getElem?_getD, List.getElem?_eq_getElem hl]
      rfl
    · rw [if_neg hp] at hc; simp at hc
  · rw [if_neg hc]
    exact reads_fail h h0 _ _
theorem reads_number {l : List Int} {s : Cr} (h : Ok l s) (h0 : s.e = 0) : ∃ m : Nat, (number l s).2 = m ∧ m ≤ 2147483647 ∧ Reads l s (number l s).1 (strOfNums (low (wd m) m)) := by
  have hok := ok_number h
  unfold number at hok ⊢
  rw [if_pos h0] at hok ⊢
  by_cases hp : (parse l s.p).2.2 = true
  · rw [if_pos hp] at hok ⊢
    obtain ⟨m, e1, e2, e3⟩ := parse_text l s.p h.1 h.2 hp
    refine ⟨m, e1, e2, hok, fun _ => ?_, fun he => absurd h0 he⟩
    rw [← str_append, ← e3]
  · rw [if_neg hp]
    exact ⟨0, rfl, by omega, reads_fail h h0 _ _⟩
theorem reads_nums {l : List Int} {s : Cr} (h : Ok l s) (h0 : s.e = 0) : (∀ x ∈ (nums_ l s).2, 0 ≤ x ∧ x ≤ 2147483647) ∧ Reads l s (nums_ l s).1 (strOfNums (texts (nums_ l s).2)) := by
  have hok := ok_nums h
  unfold nums_ at hok ⊢
  rw [if_pos h0] at hok ⊢
  by_cases hp : (list l s.p).2.2 = true
  · rw [if_pos hp] at hok ⊢
    obtain ⟨e1, e2⟩ := list_text l s.p h.1 h.2 hp
    exact ⟨e1, hok, fun _ => by rw [← str_append, ← e2], fun he => absurd h0 he⟩
  · rw [if_neg hp]
    exact ⟨by simp, reads_fail h h0 _ _⟩
theorem reads_none {l : List Int} {s : Cr} (h : Ok l s) : Reads l s s ⟨#[]⟩ := by
  refine ⟨h, fun _ => ?_, fun _ => rfl⟩
  apply ByteArray.ext
  rw [ByteArray.data_append]
  simp
theorem texts_step (l : List Int) (k : Nat) (hk : k < l.length) (h : 0 ≤ l[k]) : strOfNums (texts (l.take k)) ++ ⟨#[32]⟩ ++ strOfNums (low (wd l[k].toNat) l[k].toNat) = strOfNums (texts (l.take (k + 1))) := by
  have e : (⟨#[32]⟩ : ByteArray) = strOfNums [32] := by rfl
  rw [e, ← str_append, ← str_append, List.take_succ_eq_append_getElem hk, texts_append]
  simp [texts]
end Cur
end Go.Proofs.Ytndciilmnnaemaa
