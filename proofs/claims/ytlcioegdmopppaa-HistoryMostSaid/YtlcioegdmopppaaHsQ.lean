/- The plain law of HistoryLines, whole. -/
import Derived.Test.YtlcioegdmopppaaHsP
set_option linter.unusedSimpArgs false
namespace Go.Proofs.Ytlcioegdmopppaa.Hs
open Go.RowKit Go.Maps Go.Proofs.Ytlcioegdmopppaa.PEncodeBack Go.Proofs.YtlcioegdmopppaaW.PrintWords
open Cur (Cr At peek fail byte number nums_ Ok)
set_option linter.unusedVariables false
set_option linter.unusedSectionVars false

/-! Where an error lies. -/
def Xo (l : List Int) (c : Cr) : Prop := c.e ≠ 0 → 0 ≤ c.x ∧ c.x ≤ l.length
section
variable {l l' : List Int} {a : Nat} {most : Int}
theorem xo_fail {c : Cr} {e x : Int} (h : Xo l c) (hx : 0 ≤ x ∧ x ≤ l.length) : Xo l (fail c e x) := by
  unfold fail
  split
  · exact fun _ => hx
  · exact h
theorem xo_byte {c : Cr} {y : Int} (h : Xo l c) (ok : Ok l c) : Xo l (byte l c y) := by
  unfold byte
  split
  · exact h
  · exact xo_fail h ok
theorem xo_number {c : Cr} (h : Xo l c) (ok : Ok l c) : Xo l (number l c).1 := by
  have := parse_to l c.p ok.1 ok.2
  have := ok.1
  unfold number
  split
  · split
    · exact h
    · exact xo_fail h (by omega)
  · exact h
theorem xo_nums {c : Cr} (h : Xo l c) (ok : Ok l c) : Xo l (nums_ l c).1 := by
  have := Cur.list_to l c.p ok.1 ok.2
  have := ok.1
  unfold nums_
  split
  · split
    · exact h
    · exact xo_fail h (by omega)
  · exact h
section
variable {s : RS} (ok : Ok l s.c) (h : Xo l s.c)
include ok h
theorem xo_op1 {x : Int} : Xo l (op1 l most x s) := by
  have o1 : Ok l (opIn most s) := (opIn_to most s ok).1
  have h1 : Xo l (opIn most s) := by
    unfold opIn
    split
    · exact xo_fail h ok
    · split
      · exact xo_fail h ok
      · exact h
  have h2 : Xo l (op0 l most x s) := xo_byte (xo_byte h1 o1) (To.byte _ _ o1).1
  exact xo_number h2 (op0_ok' ok)
theorem xo_apps : Xo l (apps l most s).c := by
  have o1 : Ok l (op1 l most 97 s) := (To.op1 most 97 s ok).1
  have h1 := xo_op1 (most := most) (x := 97) ok h
  have o2 : Ok l (app0 l (op1 l most 97 s)) := (To.byte _ 32 o1).1
  have h2 := xo_number (xo_byte (y := 32) h1 o1) o2
  have h3 : Xo l (app1 l s.met (opKey l most 97 s) (op1 l most 97 s)) := by
    unfold app1
    simp only
    split
    · exact xo_fail h2 o2
    · exact h2
  exact xo_byte h3 (To.app1 _ _ _ o1).1
theorem xo_reads : Xo l (reads l most s).c := by
  have o1 : Ok l (op1 l most 114 s) := (To.op1 most 114 s ok).1
  exact xo_byte (xo_nums (xo_op1 ok h) o1) (To.nums _ o1).1
theorem xo_txn : Xo l (txn l s).c := by
  have h0 : Xo l (if 1024 ≤ s.h.length then fail s.c 3 s.c.p else s.c) := by
    split
    · exact xo_fail h ok
    · exact h
  have o0 : Ok l (if 1024 ≤ s.h.length then fail s.c 3 s.c.p else s.c) := by split <;> first | exact Cur.ok_fail ok _ _ | exact ok
  have h1 : Xo l (tx0 l s) := xo_byte (xo_byte h0 o0) (To.byte _ _ o0).1
  have h2 : Xo l (tx1 l s) := by
    unfold tx1
    split
    · exact xo_fail (xo_number h1 (ok_tx0 ok)) (ok_tx0 ok)
    · exact xo_number h1 (ok_tx0 ok)
  have h3 : Xo l (tx2 l s) := xo_byte h2 (ok_tx1 ok)
  exact xo_byte (xo_byte h3 (ok_tx2 ok)) (To.byte _ _ (ok_tx2 ok)).1
theorem xo_line : Xo l (line l most s).c := by
  unfold line
  split
  · exact xo_apps ok h
  · split
    · exact xo_reads ok h
    · split
      · exact xo_txn ok h
      · exact xo_txn (s := s.to (fail s.c 4 s.c.p)) (Cur.ok_fail ok _ _) (xo_fail h ok)
end
theorem lines_ok : ∀ (n : Nat) {s : RS}, Ok l s.c → Ok l (lines l most n s).c
  | 0, _, ok => ok
  | n + 1, s, ok => by
    unfold lines
    split
    · exact lines_ok n (To.line most s ok).1
    · exact ok
theorem lines_xo : ∀ (n : Nat) {s : RS}, Ok l s.c → Xo l s.c → Xo l (lines l most n s).c
  | 0, _, _, h => h
  | n + 1, s, ok, h => by
    unfold lines
    split
    · exact lines_xo n (To.line most s ok).1 (xo_line ok h)
    · exact h

/-! A run that ends in an error of form or size: over other bytes that agree up to its place. -/
theorem lines_back : ∀ (n : Nat) {s : RS}, Ok l s.c → Fin a (lines l most n s).c → Fin a s.c
  | 0, _, _, h => h
  | n + 1, s, ok, h => by
    unfold lines at h
    split at h
    · exact line_back ok (Fin.toEnd (lines_back n (To.line most s ok).1 h))
    · exact h
theorem lines_agree (A : Agr l l' a) : ∀ (n : Nat) {s : RS}, Ok l s.c → Fin a (lines l most n s).c → lines l' most n s = lines l most n s
  | 0, _, _, _ => rfl
  | n + 1, s, ok, h => by
    have h0 := lines_back (n + 1) ok h
    have ep := peek_agree A ok h0
    unfold lines at h ⊢
    rw [ep]
    split at h
    · next hp =>
      have o1 := (To.line most s ok).1
      have h1 := lines_back n o1 h
      rw [if_pos hp, if_pos hp, line_agree A ok (Fin.toEnd h1), lines_agree A n o1 h]
    · next hp => rw [if_neg hp, if_neg hp]
theorem start_ok : Ok l start.c := ⟨by simp [start], by simp [start]⟩
theorem last_of {n : Nat} (h : l.length + 1 ≤ n) : lines l most n start = last l most := lines_enough most _ _ _ start_ok (by rw [left_start]; exact h) (by rw [left_start]; exact Nat.le_refl _)
theorem last_bad (A : Agr l l' a) (h : Fin a (last l most).c) : last l' most = last l most := by
  rw [← last_of (l := l') (Nat.le_max_right (l.length + 1) (l'.length + 1)), ← last_of (l := l) (Nat.le_max_left (l.length + 1) (l'.length + 1))] at *
  exact lines_agree A _ start_ok h
theorem last_x (h : (last l most).c.e ≠ 0) : 0 ≤ (last l most).c.x ∧ (last l most).c.x ≤ l.length := lines_xo _ start_ok (fun h => absurd rfl h) h

/-! A line's end is its last byte alone. -/
def Nl (l : List Int) (p q : Int) : Prop := ∀ j : Nat, p ≤ j → (j : Int) < q → l.getD j 0 ≠ 10
/-- From c to c' no line ends. -/
def Nc (l : List Int) (c c' : Cr) : Prop := c'.e = 0 → Nl l c.p c'.p
theorem nl_trans {p q r : Int} (h : Nl l p q) (h' : Nl l q r) : Nl l p r := fun j h1 h2 => by
  by_cases hq : (j : Int) < q
  · exact h j h1 hq
  · exact h' j (by omega) h2
theorem nc_refl (c : Cr) : Nc l c c := fun _ j h1 h2 => by omega
theorem nc_fail (c : Cr) (e x : Int) : Nc l c (fail c e x) := by
  intro h j h1 h2
  unfold fail at h2
  split at h2
  · simp only at h2; omega
  · omega
theorem nc_byte (c : Cr) (y : Int) (hy : y ≠ 10) (h0 : 0 ≤ c.p) : Nc l c (byte l c y) := by
  intro h j h1 h2
  unfold byte at h h2
  split at h
  · next hc =>
    rw [if_pos hc] at h2
    simp only at h2
    have hp := peek_yes hc.1
    have : y = rd l c.p := by
      have h3 := hc.2
      unfold peek at h3
      rw [if_pos hp] at h3
      exact h3
    unfold rd at this
    have ej : c.p.toNat = j := by omega
    rw [ej] at this
    rw [← this]; exact hy
  · exact (e_failed (by decide) h).elim
theorem low_ten (k n : Nat) : ∀ x ∈ low k n, x ≠ 10 := by
  induction k with
  | zero => simp [low]
  | succ k ih =>
    intro x hx
    simp only [low, List.mem_cons] at hx
    rcases hx with rfl | hx
    · omega
    · exact ih x hx
theorem texts_ten : ∀ (m : List Int), ∀ x ∈ texts m, x ≠ 10
  | [], x, h => by simp [texts] at h
  | y :: m, x, h => by
    simp only [texts, List.mem_cons, List.mem_append] at h
    rcases h with (rfl | h) | h
    · decide
    · exact low_ten _ _ x h
    · exact texts_ten m x h
theorem nl_of {p q : Int} {t : List Int} (h0 : 0 ≤ p) (hp : p ≤ l.length) (hq : q ≤ l.length) (ht : ∀ x ∈ t, x ≠ 10) (h : l.take q.toNat = l.take p.toNat ++ t) : Nl l p q := fun j h1 h2 => by
  have hj : j < l.length := by omega
  have hg : (l.take q.toNat)[j]? = some (l.getD j 0) := by
    rw [List.getElem?_take, if_pos (by omega), List.getD_eq_getElem?_getD, List.getElem?_eq_getElem hj]; rfl
  rw [h, List.getElem?_append_right (by rw [List.length_take]; omega)] at hg
  exact ht _ (List.mem_of_getElem? hg)
theorem nc_number (c : Cr) (ok : Ok l c) : Nc l c (number l c).1 := by
  intro h
  have h0 := e_number h
  have hpt := parse_to l c.p ok.1 ok.2
  unfold number at h ⊢
  rw [if_pos h0] at h ⊢
  split at h
  · next hp =>
    rw [if_pos hp]
    obtain ⟨m, e1, e2, e3⟩ := parse_text l c.p ok.1 ok.2 hp
    exact nl_of ok.1 ok.2 hpt.2 (low_ten _ _) e3
  · exact (e_failed (by decide) h).elim
theorem nc_nums (c : Cr) (ok : Ok l c) : Nc l c (nums_ l c).1 := by
  intro h
  have h0 := e_nums h
  have hpt := Cur.list_to l c.p ok.1 ok.2
  unfold nums_ at h ⊢
  rw [if_pos h0] at h ⊢
  split at h
  · next hp =>
    rw [if_pos hp]
    obtain ⟨e2, e3⟩ := list_text l c.p ok.1 ok.2 hp
    exact nl_of ok.1 ok.2 hpt.2 (texts_ten _) e3
  · exact (e_failed (by decide) h).elim
theorem nc_trans {a b c : Cr} (h : Nc l a b) (h' : Nc l b c) (hb : c.e = 0 → b.e = 0) : Nc l a c := fun h0 => nl_trans (h (hb h0)) (h' h0)
/-- A line's last byte: up to it no line ends. -/
theorem nl_last {c d : Cr} (h : Nc l c d) (h0 : (byte l d 10).e = 0) : Nl l c.p ((byte l d 10).p - 1) := by
  have hd := e_byte h0
  have := h hd
  unfold byte at h0 ⊢
  split at h0
  · next hc => rw [if_pos hc]; simpa using this
  · exact (e_failed (by decide) h0).elim

section
variable {s : RS} (ok : Ok l s.c)
include ok
theorem nc_op1 (x : Int) (hx : x ≠ 10) : Nc l s.c (op1 l most x s) := by
  have t0 := opIn_to (l := l) most s
  have o1 : Ok l (opIn most s) := (t0 ok).1
  have o2 : Ok l (byte l (opIn most s) x) := (To.byte _ _ o1).1
  have h1 : Nc l s.c (opIn most s) := by
    unfold opIn
    split
    · exact nc_fail _ _ _
    · split
      · exact nc_fail _ _ _
      · exact nc_refl _
  have h2 : Nc l s.c (byte l (opIn most s) x) := nc_trans h1 (nc_byte _ x hx o1.1) e_byte
  have h3 : Nc l s.c (op0 l most x s) := nc_trans h2 (nc_byte _ 32 (by decide) o2.1) e_byte
  exact nc_trans h3 (nc_number _ (op0_ok' ok)) e_number
theorem nl_apps (h0 : (apps l most s).c.e = 0) : Nl l s.c.p ((apps l most s).c.p - 1) := by
  have o1 : Ok l (op1 l most 97 s) := (To.op1 most 97 s ok).1
  have o2 : Ok l (app0 l (op1 l most 97 s)) := (To.byte _ 32 o1).1
  have h1 := nc_op1 (most := most) ok 97 (by decide)
  have h2 : Nc l s.c (app0 l (op1 l most 97 s)) := nc_trans h1 (nc_byte _ 32 (by decide) o1.1) e_byte
  have h3 : Nc l s.c (number l (app0 l (op1 l most 97 s))).1 := nc_trans h2 (nc_number _ o2) e_number
  have h4 : Nc l s.c (app1 l s.met (opKey l most 97 s) (op1 l most 97 s)) := by
    unfold app1
    simp only
    split
    · exact nc_trans h3 (nc_fail _ _ _) e_fail
    · exact h3
  exact nl_last h4 h0
theorem nl_reads (h0 : (reads l most s).c.e = 0) : Nl l s.c.p ((reads l most s).c.p - 1) := by
  have o1 : Ok l (op1 l most 114 s) := (To.op1 most 114 s ok).1
  exact nl_last (nc_trans (nc_op1 (most := most) ok 114 (by decide)) (nc_nums _ o1) e_nums) h0
theorem nl_txn (h0 : (txn l s).c.e = 0) : Nl l s.c.p ((txn l s).c.p - 1) := by
  have o0 : Ok l (if 1024 ≤ s.h.length then fail s.c 3 s.c.p else s.c) := by split <;> first | exact Cur.ok_fail ok _ _ | exact ok
  have h1 : Nc l s.c (if 1024 ≤ s.h.length then fail s.c 3 s.c.p else s.c) := by
    split
    · exact nc_fail _ _ _
    · exact nc_refl _
  have h2 : Nc l s.c (tx0 l s) := nc_trans (nc_trans h1 (nc_byte _ 116 (by decide) o0.1) e_byte) (nc_byte _ 32 (by decide) (To.byte _ _ o0).1.1) e_byte
  have h3 : Nc l s.c (number l (tx0 l s)).1 := nc_trans h2 (nc_number _ (ok_tx0 ok)) e_number
  have h4 : Nc l s.c (tx1 l s) := by
    unfold tx1
    split
    · exact nc_trans h3 (nc_fail _ _ _) e_fail
    · exact h3
  have h5 : Nc l s.c (tx2 l s) := nc_trans h4 (nc_byte _ 32 (by decide) (ok_tx1 ok).1) e_byte
  have h6 : Nc l s.c (byte l (tx2 l s) (txX l s)) := nc_trans h5 (nc_byte _ _ (by unfold txX; split <;> decide) (ok_tx2 ok).1) e_byte
  exact nl_last h6 h0
theorem nl_line (h0 : (line l most s).c.e = 0) : Nl l s.c.p ((line l most s).c.p - 1) := by
  unfold line at h0 ⊢
  split at h0
  · next hc => rw [if_pos hc]; exact nl_apps ok h0
  · next hc =>
    rw [if_neg hc]
    split at h0
    · next hd => rw [if_pos hd]; exact nl_reads ok h0
    · next hd =>
      rw [if_neg hd]
      split at h0
      · next he => rw [if_pos he]; exact nl_txn ok h0
      · next he => exact (e_failed (c := s.c) (by decide) (To.txn (l := l) (s.to (fail s.c 4 s.c.p)) (Cur.ok_fail ok _ _) |>.2 h0).1).elim
end
/-! A history grows. -/
def Le (h g : List S42) : Prop := h.length ≤ g.length ∧ opsN h ≤ opsN g
theorem Le.trans {h g k : List S42} (a : Le h g) (b : Le g k) : Le h k := ⟨Nat.le_trans a.1 b.1, Nat.le_trans a.2 b.2⟩
theorem Le.refl (h : List S42) : Le h h := ⟨Nat.le_refl _, Nat.le_refl _⟩
theorem le_fin {s : RS} {c : Cr} {o : S39} {m : List (Int × Int)} (h : c.e = 0 → s.h ≠ []) : Le s.h (fin s c o m).h := by
  unfold fin
  by_cases hc : c.e = 0
  · simp only [if_pos hc]
    exact ⟨by rw [add_len]; exact Nat.le_refl _, by rw [opsN_add _ _ (h hc)]; omega⟩
  · simp only [if_neg hc]
    exact Le.refl _
theorem le_line (s : RS) : Le s.h (line l most s).h := by
  unfold line
  split
  · exact le_fin fun h => (op0_ok (e_number (e_app1 (e_byte h)))).1
  · split
    · exact le_fin fun h => (op0_ok (e_number (e_nums (e_byte h)))).1
    · have ht : ∀ s : RS, Le s.h (txn l s).h := fun s => ⟨by simp [txn_eq, push], by rw [show opsN (txn l s).h = opsN s.h from opsN_push _ _ _]; exact Nat.le_refl _⟩
      split
      · exact ht s
      · exact ht (s.to (fail s.c 4 s.c.p))
theorem le_lines : ∀ (n : Nat) (s : RS), Le s.h (lines l most n s).h
  | 0, s => Le.refl _
  | n + 1, s => by
    unfold lines
    split
    · exact (le_line s).trans (le_lines n _)
    · exact Le.refl _
theorem e_lines : ∀ (n : Nat) {s : RS}, Ok l s.c → (lines l most n s).c.e = 0 → s.c.e = 0
  | 0, _, _, h => h
  | n + 1, s, ok, h => by
    unfold lines at h
    split at h
    · have h1 := To.line (l := l) most s ok
      exact (h1.2 (e_lines n h1.1 h)).1
    · exact h
/-- A good run, cut behind a line. -/
theorem lines_cut {n : Nat} (hn : n ≤ l.length) (hl : n = 0 ∨ l.getD (n - 1) 0 = 10) : ∀ (m : Nat) {s : RS}, Ok l s.c → s.c.p ≤ n → (lines l most m s).c.e = 0 →
    (lines (l.take n) most m s).c.e = 0 ∧ Le (lines (l.take n) most m s).h (lines l most m s).h
  | 0, s, ok, hp, h => ⟨h, Le.refl _⟩
  | m + 1, s, ok, hp, h => by
    have h0 := e_lines (m + 1) ok h
    have hlen : (l.take n).length = n := by rw [List.length_take]; omega
    have p0 := ok.1
    by_cases hpn : s.c.p < n
    · have hpk : (peek l s.c).2 = true := by unfold peek; rw [if_pos ⟨h0, by omega⟩]
      have hpk' : (peek (l.take n) s.c).2 = true := by unfold peek; rw [if_pos ⟨h0, by rw [hlen]; omega⟩]
      have hm : lines l most (m + 1) s = lines l most m (line l most s) := by conv => lhs; unfold lines; rw [if_pos hpk]
      have hm' : lines (l.take n) most (m + 1) s = lines (l.take n) most m (line (l.take n) most s) := by conv => lhs; unfold lines; rw [if_pos hpk']
      rw [hm] at h ⊢
      have tl := To.line (l := l) most s ok
      have h1 := e_lines m tl.1 h
      have hnl := nl_line (most := most) ok h1
      have hle : (line l most s).c.p ≤ n := by
        rcases hl with hl | hl
        · omega
        · by_cases hh : (line l most s).c.p ≤ n
          · exact hh
          · exact absurd hl (hnl (n - 1) (by omega) (by omega))
      have A : Agr l (l.take n) (n - 1) := ⟨by omega, by rw [hlen]; omega, fun k hk => by
        rw [List.getD_eq_getElem?_getD, List.getD_eq_getElem?_getD, List.getElem?_take, if_pos (by omega)]⟩
      have e1 := line_agree (most := most) A ok (.inl ⟨h1, by omega⟩)
      rw [hm', e1]
      exact lines_cut hn hl m tl.1 hle h
    · have hpk' : (peek (l.take n) s.c).2 = false := by unfold peek; rw [if_neg (fun hh => by have := hh.2; rw [hlen] at this; omega)]
      rw [peek_no hpk']
      exact ⟨h0, le_lines (m + 1) s⟩
/-- What Decode tells of bytes that agree up to an error of form or size. -/
theorem dec_bad {e x : Int} {h : List S42} (hm : 0 ≤ most ∧ most ≤ 4096) (hl : l.length ≤ 262144) (hl' : l'.length ≤ 262144) (hd : decP l most = (h, e, x)) (he : e = 3 ∨ e = 4) (hx : x ≤ a) (A : Agr l l' a) : decP l' most = ([], e, x) := by
  unfold decP at hd ⊢
  rw [if_neg (by omega), if_neg (by omega)] at hd ⊢
  by_cases h0 : (last l most).c.e = 0
  · rw [if_pos h0] at hd
    simp only [Prod.mk.injEq] at hd
    omega
  · rw [if_neg h0] at hd
    simp only [Prod.mk.injEq] at hd
    obtain ⟨-, h1, h2⟩ := hd
    have hf : Fin a (last l most).c := .inr ⟨by omega, by omega⟩
    rw [last_bad A hf, if_neg h0, h1, h2]
theorem dec_place {e x : Int} {h : List S42} (hm : 0 ≤ most ∧ most ≤ 4096) (hl : l.length ≤ 262144) (hd : decP l most = (h, e, x)) : (e = 0 ∧ x = 0) ∨ (e ≠ 0 ∧ 0 ≤ x ∧ x ≤ l.length) := by
  unfold decP at hd
  rw [if_neg (by omega), if_neg (by omega)] at hd
  by_cases h0 : (last l most).c.e = 0
  · rw [if_pos h0] at hd
    simp only [Prod.mk.injEq] at hd
    exact .inl ⟨hd.2.1.symm, hd.2.2.symm⟩
  · rw [if_neg h0] at hd
    simp only [Prod.mk.injEq] at hd
    have := last_x h0
    exact .inr ⟨by rw [← hd.2.1]; exact h0, by rw [← hd.2.2]; exact this⟩
theorem dec_good {x : Int} {h : List S42} (hm : 0 ≤ most ∧ most ≤ 4096) (hl : l.length ≤ 262144) (hd : decP l most = (h, 0, x)) {n : Nat} (hn : n ≤ l.length) (hc : n = 0 ∨ l.getD (n - 1) 0 = 10) :
    ∃ g, decP (l.take n) most = (g, 0, 0) ∧ Le g h := by
  have hlen : (l.take n).length = n := by rw [List.length_take]; omega
  unfold decP at hd ⊢
  rw [if_neg (by omega), if_neg (by omega)] at hd ⊢
  by_cases h0 : (last l most).c.e = 0
  · rw [if_pos h0] at hd
    simp only [Prod.mk.injEq] at hd
    have h1 : lines l most (l.length + 1) start = last l most := rfl
    have h2 := lines_cut (most := most) hn hc (l.length + 1) start_ok (by simp [start]) (by rw [h1]; exact h0)
    rw [last_of (l := l.take n) (by rw [hlen]; omega), h1, hd.1] at h2
    exact ⟨_, by rw [if_pos h2.1], h2.2⟩
  · rw [if_neg h0] at hd
    simp only [Prod.mk.injEq] at hd
    exact absurd hd.2.1 h0
/-! How much there may be. -/
theorem inv_line {s : RS} {ni nm : Nat} (h : Inv l most s ni nm) : ∃ ni' nm', Inv l most (line l most s) ni' nm' := by
  unfold line
  split
  · exact ⟨_, _, inv_apps h⟩
  · split
    · exact ⟨_, _, inv_reads h⟩
    · split
      · exact ⟨_, _, inv_txn h⟩
      · exact ⟨ni + 1, nm, inv_txn (s := s.to (fail s.c 4 s.c.p)) ⟨Cur.ok_fail h.ok _ _, fun hh => (e_failed (by decide) hh).elim⟩⟩
theorem inv_lines : ∀ (n : Nat) {s : RS} {ni nm : Nat}, Inv l most s ni nm → ∃ ni' nm', Inv l most (lines l most n s) ni' nm'
  | 0, _, _, _, h => ⟨_, _, h⟩
  | n + 1, s, _, _, h => by
    unfold lines
    split
    · obtain ⟨_, _, h1⟩ := inv_line h
      exact inv_lines n h1
    · exact ⟨_, _, h⟩
theorem dec_few {x : Int} {h : List S42} (hm : 0 ≤ most ∧ most ≤ 4096) (hl : l.length ≤ 262144) (hd : decP l most = (h, 0, x)) : h.length ≤ 1024 ∧ opsN h ≤ 4096 := by
  unfold decP at hd
  rw [if_neg (by omega), if_neg (by omega)] at hd
  by_cases h0 : (last l most).c.e = 0
  · rw [if_pos h0] at hd
    simp only [Prod.mk.injEq] at hd
    obtain ⟨_, _, h1⟩ := inv_lines (l := l) (l.length + 1) (inv_start l most hm.1)
    have := h1.good h0
    rw [← hd.1]
    exact ⟨this.1, by have := this.2.1; unfold last; omega⟩
  · rw [if_neg h0] at hd
    simp only [Prod.mk.injEq] at hd
    exact absurd hd.2.1 h0
end
end Go.Proofs.Ytlcioegdmopppaa.Hs
