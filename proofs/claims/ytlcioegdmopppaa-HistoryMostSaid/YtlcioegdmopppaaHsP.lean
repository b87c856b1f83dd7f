/- The plain law of HistoryLines: what is read hangs on the bytes that were read alone; a good line holds one end of a line, its last byte. -/
import Derived.Test.YtlcioegdmopppaaGrD
set_option linter.unusedSimpArgs false
namespace Go.Proofs.Ytlcioegdmopppaa.Hs
open Go.RowKit Go.Maps Go.Proofs.Ytlcioegdmopppaa.PEncodeBack Go.Proofs.YtlcioegdmopppaaW.PrintWords
open Cur (Cr At peek fail byte number nums_ Ok)
set_option linter.unusedVariables false
set_option linter.unusedSectionVars false

/-! Agreement of two rows of bytes up to a place. -/
structure Agr (l l' : List Int) (a : Nat) : Prop where
  h1 : a < l.length
  h2 : a < l'.length
  same : ∀ k, k ≤ a → l.getD k 0 = l'.getD k 0
theorem scan_agree : ∀ (cs cs' : List Int) (first : Bool) (n k : Int), ((scan cs first n k).2.1 - k).toNat < cs.length → ((scan cs first n k).2.1 - k).toNat < cs'.length →
    (∀ i, i ≤ ((scan cs first n k).2.1 - k).toNat → cs.getD i 0 = cs'.getD i 0) → scan cs' first n k = scan cs first n k
  | [], _, _, _, _, h, _, _ => by simp at h
  | c :: cs, [], _, _, _, _, h, _ => by simp at h
  | c :: cs, c' :: cs', first, n, k, h1, h2, h3 => by
    have e : c = c' := by have := h3 0 (by omega); simpa using this
    subst e
    have ht := (scan_to cs false (n * 10 + (c - 48)) (k + 1)).1
    simp only [scan] at h1 h2 h3 ⊢
    by_cases hd : 48 ≤ c ∧ c ≤ 57
    · rw [if_pos hd] at h1 h2 h3 ⊢
      by_cases hb : (first = false ∧ n = 0) ∨ (2147483647 - (c - 48)) / 10 < n
      · rw [if_pos hb, if_pos hd, if_pos hb]
      · rw [if_neg hb] at h1 h2 h3 ⊢
        rw [if_pos hd, if_neg hb]
        simp only [List.length_cons] at h1 h2
        refine scan_agree cs cs' false _ _ (by omega) (by omega) (fun i hi => ?_)
        have := h3 (i + 1) (by omega)
        simpa using this
    · rw [if_neg hd, if_neg hd]
theorem getD_drop (l : List Int) (a i : Nat) : (l.drop a).getD i 0 = l.getD (a + i) 0 := by simp [List.getD_eq_getElem?_getD]
section
variable {l l' : List Int} {a : Nat}
theorem parse_agree (A : Agr l l' a) {p : Int} (h0 : 0 ≤ p) (h1 : p ≤ a) (h : (parse l p).2.1 ≤ a) : parse l' p = parse l p := by
  have l1 := A.h1
  have l2 := A.h2
  rw [parse_eq l p h0 (by omega)] at h ⊢
  rw [parse_eq l' p h0 (by omega)]
  have ht := (scan_to (l.drop p.toNat) true 0 p).1
  refine scan_agree _ _ _ _ _ (by simp; omega) (by simp; omega) (fun i hi => ?_)
  rw [getD_drop, getD_drop]
  exact A.same _ (by omega)
theorem listGo_agree (A : Agr l l' a) : ∀ (d d' : Nat) (p : Int) (out : List Int), 0 ≤ p → p ≤ a → (l.length : Int) - p < d → (l'.length : Int) - p < d' → (listGo l d p out).2.1 ≤ a → listGo l' d' p out = listGo l d p out
  | 0, d', p, out, h0, h1, hd, hd', h => by have := A.h1; omega
  | d + 1, 0, p, out, h0, h1, hd, hd', h => by have := A.h2; omega
  | d + 1, d' + 1, p, out, h0, h1, hd, hd', h => by
    have l1 := A.h1
    have l2 := A.h2
    have e := A.same p.toNat (by omega)
    simp only [listGo] at h ⊢
    by_cases hc : p < (l.length : Int) ∧ l.getD p.toNat 0 = 32
    · have hc' : p < (l'.length : Int) ∧ l'.getD p.toNat 0 = 32 := ⟨by omega, by rw [← e]; exact hc.2⟩
      rw [if_pos hc] at h ⊢
      rw [if_pos hc']
      have hp := parse_to l (p + 1) (by omega) (by omega)
      by_cases hk : (parse l (p + 1)).2.2 = true
      · rw [if_pos hk] at h ⊢
        have hg := (Cur.listGo_to l d (parse l (p + 1)).2.1 (out ++ [(parse l (p + 1)).1]) (by omega) (by omega)).1
        have hpa := parse_agree A (p := p + 1) (by omega) (by omega) (by omega)
        rw [hpa, if_pos hk]
        have := parse_on l (p + 1) hk
        exact listGo_agree A d d' _ _ (by omega) (by omega) (by omega) (by omega) h
      · rw [if_neg hk] at h ⊢
        simp only at h
        have hpa := parse_agree A (p := p + 1) (by omega) (by omega) h
        rw [hpa, if_neg hk]
    · have hc' : ¬ (p < (l'.length : Int) ∧ l'.getD p.toNat 0 = 32) := fun hh => hc ⟨by omega, by rw [e]; exact hh.2⟩
      rw [if_neg hc, if_neg hc']
theorem list_agree (A : Agr l l' a) {p : Int} (h0 : 0 ≤ p) (h1 : p ≤ a) (h : (list l p).2.1 ≤ a) : list l' p = list l p := by
  have l1 := A.h1
  have l2 := A.h2
  unfold list at h ⊢
  rw [if_neg (by omega)] at h ⊢
  rw [if_neg (by omega)]
  exact listGo_agree A _ _ p [] h0 h1 (by omega) (by omega) h

/-! The cursor. -/
/-- It stands at a or ahead of it; or an error of form or size lies there. -/
def Fin (a : Int) (c : Cr) : Prop := (c.e = 0 ∧ c.p ≤ a) ∨ ((c.e = 3 ∨ c.e = 4) ∧ c.x ≤ a)
theorem fin_byte {b : Int} {c : Cr} {y : Int} (h : Fin b (byte l c y)) : Fin b c := by
  unfold byte at h
  split at h
  · rcases h with h | h
    · exact .inl ⟨h.1, by have := h.2; simp only at this; omega⟩
    · exact .inr h
  · unfold fail at h
    split at h
    · next hc => rcases h with h | h
                 · exact absurd h.1 (by simp)
                 · exact .inl ⟨hc.1, h.2⟩
    · exact h
/-- The last byte of a line. -/
theorem fin_last {b : Int} {c : Cr} {y : Int} (h : ((byte l c y).e = 0 ∧ (byte l c y).p ≤ b + 1) ∨ (((byte l c y).e = 3 ∨ (byte l c y).e = 4) ∧ (byte l c y).x ≤ b)) : Fin b c := by
  rcases h with ⟨h1, h2⟩ | h
  · have h0 := e_byte h1
    unfold byte at h1 h2
    split at h1
    · next hc => rw [if_pos hc] at h2; exact .inl ⟨h0, by simp only at h2; omega⟩
    · exact (e_failed (by decide) h1).elim
  · exact fin_byte (.inr h)
theorem fin_number {b : Int} {c : Cr} (ok : Ok l c) (h : Fin b (number l c).1) : Fin b c := by
  unfold number at h
  split at h
  · next h0 =>
    have := parse_to l c.p ok.1 ok.2
    split at h
    · rcases h with h | h
      · exact .inl ⟨h0, by have := h.2; simp only at this; omega⟩
      · rcases h.1 with e | e <;> (simp only at e; omega)
    · unfold fail at h
      rw [if_pos ⟨h0, by decide⟩] at h
      rcases h with h | h
      · exact absurd h.1 (by simp)
      · exact .inl ⟨h0, by have := h.2; simp only at this; omega⟩
  · exact h
theorem fin_nums {b : Int} {c : Cr} (ok : Ok l c) (h : Fin b (nums_ l c).1) : Fin b c := by
  unfold nums_ at h
  split at h
  · next h0 =>
    have := Cur.list_to l c.p ok.1 ok.2
    split at h
    · rcases h with h | h
      · exact .inl ⟨h0, by have := h.2; simp only at this; omega⟩
      · rcases h.1 with e | e <;> (simp only at e; omega)
    · unfold fail at h
      rw [if_pos ⟨h0, by decide⟩] at h
      rcases h with h | h
      · exact absurd h.1 (by simp)
      · exact .inl ⟨h0, by have := h.2; simp only at this; omega⟩
  · exact h
theorem fin_here {b e : Int} {c : Cr} (h : Fin b (fail c e c.p)) : Fin b c := by
  unfold fail at h
  split at h
  · next hc => rcases h with h | h
               · exact absurd h.1 hc.2
               · exact .inl ⟨hc.1, h.2⟩
  · exact h
theorem fin_five {b e x : Int} {c : Cr} (he : e = 5 ∨ e = 6) (hc : c.e = 0) (h : Fin b (fail c e x)) : False := by
  unfold fail at h
  rw [if_pos ⟨hc, by omega⟩] at h
  rcases h with h | h
  · have := h.1; simp only at this; omega
  · rcases h.1 with h | h <;> (simp only at h; omega)
theorem fin_p {b : Int} {c : Cr} (h : Fin b c) (h0 : c.e = 0) : c.p ≤ b := by
  rcases h with h | h
  · exact h.2
  · rcases h.1 with e | e <;> omega
/-- c' was reached over l', c over l: they are one, if c is not beyond a. -/
def Rl (a : Nat) (c c' : Cr) : Prop := Fin a c → c' = c
theorem peek_agree (A : Agr l l' a) {c : Cr} (ok : Ok l c) (h : Fin a c) : peek l' c = peek l c := by
  have l1 := A.h1
  have l2 := A.h2
  unfold peek
  by_cases h0 : c.e = 0
  · have hp := fin_p h h0
    have := ok.1
    rw [if_pos ⟨h0, by omega⟩, if_pos ⟨h0, by omega⟩]
    unfold rd
    rw [A.same c.p.toNat (by omega)]
  · rw [if_neg (fun hh => h0 hh.1), if_neg (fun hh => h0 hh.1)]
theorem byte_agree (A : Agr l l' a) {c : Cr} (ok : Ok l c) (h : Fin a c) (y : Int) : byte l' c y = byte l c y := by
  unfold byte
  rw [peek_agree A ok h]
theorem rl_byte (A : Agr l l' a) {c c' : Cr} (ok : Ok l c) (r : Rl a c c') (y : Int) : Rl a (byte l c y) (byte l' c' y) := fun h => by
  have h1 := fin_byte h
  rw [r h1, byte_agree A ok h1]
theorem number_agree (A : Agr l l' a) {c : Cr} (ok : Ok l c) (h : Fin a (number l c).1) : number l' c = number l c := by
  have h1 := fin_number ok h
  by_cases h0 : c.e = 0
  · have hp := fin_p h1 h0
    have hto : (parse l c.p).2.1 ≤ a := by
      unfold number at h
      rw [if_pos h0] at h
      split at h
      · exact fin_p h h0
      · unfold fail at h
        rw [if_pos ⟨h0, by decide⟩] at h
        rcases h with h | h
        · exact absurd h.1 (by simp)
        · exact h.2
    unfold number
    rw [if_pos h0, if_pos h0, parse_agree A ok.1 hp hto]
  · unfold number
    rw [if_neg h0, if_neg h0]
theorem nums_agree (A : Agr l l' a) {c : Cr} (ok : Ok l c) (h : Fin a (nums_ l c).1) : nums_ l' c = nums_ l c := by
  have h1 := fin_nums ok h
  by_cases h0 : c.e = 0
  · have hp := fin_p h1 h0
    have hto : (list l c.p).2.1 ≤ a := by
      unfold nums_ at h
      rw [if_pos h0] at h
      split at h
      · exact fin_p h h0
      · unfold fail at h
        rw [if_pos ⟨h0, by decide⟩] at h
        rcases h with h | h
        · exact absurd h.1 (by simp)
        · exact h.2
    unfold nums_
    rw [if_pos h0, if_pos h0, list_agree A ok.1 hp hto]
  · unfold nums_
    rw [if_neg h0, if_neg h0]

/-! A line. -/
def opIn (most : Int) (s : RS) : Cr := if s.h = [] then fail s.c 4 s.c.p else if most ≤ opsN s.h then fail s.c 3 s.c.p else s.c
theorem op0_eq (most x : Int) (s : RS) : op0 l most x s = byte l (byte l (opIn most s) x) 32 := rfl
theorem opIn_to (most : Int) (s : RS) : To l 0 s.c (opIn most s) := .ite (.fail _ _ _) (.ite (.fail _ _ _) (.refl _))
theorem fin_opIn {b most : Int} {s : RS} (h : Fin b (opIn most s)) : Fin b s.c := by
  unfold opIn at h
  split at h
  · exact fin_here h
  · split at h
    · exact fin_here h
    · exact h
section
variable {most x : Int} {s : RS} (A : Agr l l' a) (ok : Ok l s.c)
include A ok
theorem op0_agree (h : Fin a (op0 l most x s)) : op0 l' most x s = op0 l most x s := by
  have o1 : Ok l (opIn most s) := (opIn_to most s ok).1
  have o2 : Ok l (byte l (opIn most s) x) := (To.byte _ _ o1).1
  rw [op0_eq] at h
  rw [op0_eq, op0_eq]
  have h1 := fin_byte h
  have h2 := fin_byte h1
  rw [byte_agree A o1 h2, byte_agree A o2 h1]
omit A in
theorem op0_ok' : Ok l (op0 l most x s) := (To.op0 most x s ok).1
omit A in
theorem fin_op0 {b : Int} (h : Fin b (op0 l most x s)) : Fin b s.c := fin_opIn (fin_byte (fin_byte h))
theorem op1_agree (h : Fin a (op1 l most x s)) : op1 l' most x s = op1 l most x s ∧ opKey l' most x s = opKey l most x s := by
  unfold op1 opKey at *
  have o := op0_ok' (most := most) (x := x) ok
  have h1 := fin_number o h
  rw [op0_agree A ok h1, number_agree A o h]
  exact ⟨rfl, rfl⟩
omit A in
theorem fin_op1 {b : Int} (h : Fin b (op1 l most x s)) : Fin b s.c := fin_op0 ok (fin_number (op0_ok' (most := most) (x := x) ok) h)
end
theorem fin_app1 {b : Int} {met : List (Int × Int)} {key : Int} {c : Cr} (ok : Ok l c) (h : Fin b (app1 l met key c)) : Fin b (number l (app0 l c)).1 ∧ ¬ ((key, appV l c) ∈ met ∧ (number l (app0 l c)).1.e = 0) := by
  unfold app1 at h
  simp only at h
  split at h
  · next hc => exact (fin_five (.inr rfl) hc.2 h).elim
  · next hc => exact ⟨h, hc⟩
theorem app1_agree (A : Agr l l' a) {met : List (Int × Int)} {key : Int} {c : Cr} (ok : Ok l c) (h : Fin a (app1 l met key c)) : app1 l' met key c = app1 l met key c ∧ appV l' c = appV l c ∧ Fin a c := by
  have o : Ok l (app0 l c) := (To.byte c 32 ok).1
  have h1 := (fin_app1 ok h).1
  have h2 : Fin a (app0 l c) := fin_number o h1
  have h3 : Fin a c := fin_byte h2
  have e0 : app0 l' c = app0 l c := byte_agree A ok h3 32
  have e1 : number l' (app0 l' c) = number l (app0 l c) := by rw [e0]; exact number_agree A o h1
  refine ⟨?_, ?_, h3⟩
  · unfold app1 appV
    rw [e1, e0]
  · unfold appV
    rw [e1]
/-- A line's end is not beyond what agrees. -/
def End (a : Nat) (c : Cr) : Prop := (c.e = 0 ∧ c.p ≤ a + 1) ∨ ((c.e = 3 ∨ c.e = 4) ∧ c.x ≤ a)
theorem fin_end {c : Cr} {y : Int} (h : End a (byte l c y)) : Fin a c := fin_last h
section
variable {most : Int} {s : RS} (A : Agr l l' a) (ok : Ok l s.c)
include ok
theorem apps_fin (h : End a (apps l most s).c) : Fin a (app1 l s.met (opKey l most 97 s) (op1 l most 97 s)) := fin_end h
theorem apps_back (h : End a (apps l most s).c) : Fin a s.c := by
  have o1 : Ok l (op1 l most 97 s) := (To.op1 most 97 s ok).1
  have h1 := apps_fin ok h
  exact fin_op1 ok (fin_byte (fin_number (To.byte _ 32 o1).1 (fin_app1 o1 h1).1))
include A in
theorem apps_agree (h : End a (apps l most s).c) : apps l' most s = apps l most s := by
  have o1 : Ok l (op1 l most 97 s) := (To.op1 most 97 s ok).1
  have h1 := apps_fin ok h
  obtain ⟨e1, e2, h2⟩ := app1_agree A o1 h1
  obtain ⟨e3, e4⟩ := op1_agree A ok h2
  have o2 : Ok l (app1 l s.met (opKey l most 97 s) (op1 l most 97 s)) := (To.app1 _ _ _ o1).1
  unfold apps
  rw [e3, e4, e1, e2, byte_agree A o2 h1]
theorem reads_back (h : End a (reads l most s).c) : Fin a s.c := by
  have o1 : Ok l (op1 l most 114 s) := (To.op1 most 114 s ok).1
  exact fin_op1 ok (fin_nums o1 (fin_end h))
include A in
theorem reads_agree (h : End a (reads l most s).c) : reads l' most s = reads l most s := by
  have o1 : Ok l (op1 l most 114 s) := (To.op1 most 114 s ok).1
  have h1 : Fin a (nums_ l (op1 l most 114 s)).1 := fin_end h
  have h2 := fin_nums o1 h1
  obtain ⟨e3, e4⟩ := op1_agree A ok h2
  have o2 : Ok l (nums_ l (op1 l most 114 s)).1 := (To.nums _ o1).1
  unfold reads
  rw [e3, e4, nums_agree A o1 h1, byte_agree A o2 h1]
/-- A transaction's line, part by part. -/
def tx0 (l : List Int) (s : RS) : Cr := byte l (byte l (if 1024 ≤ s.h.length then fail s.c 3 s.c.p else s.c) 116) 32
def tx1 (l : List Int) (s : RS) : Cr := if (number l (tx0 l s)).2 ∈ s.ids ∧ (number l (tx0 l s)).1.e = 0 then fail (number l (tx0 l s)).1 5 (tx0 l s).p else (number l (tx0 l s)).1
def tx2 (l : List Int) (s : RS) : Cr := byte l (tx1 l s) 32
def txX (l : List Int) (s : RS) : Int := if (peek l (tx2 l s)).1 = 97 then 97 else 99
omit ok in
theorem txn_eq (s : RS) : txn l s = push (s.to (byte l (byte l (tx2 l s) (txX l s)) 10)) (number l (tx0 l s)).2 (txX l s) := rfl
theorem ok_tx0 : Ok l (tx0 l s) := (((To.ite (.fail _ _ _) (.refl _) : To l 0 s.c (if 1024 ≤ s.h.length then fail s.c 3 s.c.p else s.c)).trans (.byte _ 116)).trans (.byte _ 32) ok).1
theorem ok_tx1 : Ok l (tx1 l s) := by
  have := (To.number (tx0 l s) (ok_tx0 ok)).1
  unfold tx1
  split
  · exact Cur.ok_fail this _ _
  · exact this
theorem ok_tx2 : Ok l (tx2 l s) := (To.byte _ _ (ok_tx1 ok)).1
theorem fin_tx1 {b : Int} (h : Fin b (tx1 l s)) : Fin b (number l (tx0 l s)).1 := by
  unfold tx1 at h
  split at h
  · next hc => exact (fin_five (.inl rfl) hc.2 h).elim
  · exact h
theorem fin_tx0 {b : Int} (h : Fin b (tx0 l s)) : Fin b s.c := by
  have := fin_byte (fin_byte h)
  split at this
  · exact fin_here this
  · exact this
theorem txn_back (h : End a (txn l s).c) : Fin a s.c := by
  have h1 : Fin a (tx2 l s) := fin_byte (fin_end h)
  exact fin_tx0 ok (fin_number (ok_tx0 ok) (fin_tx1 ok (fin_byte h1)))
include A in
theorem txn_agree (h : End a (txn l s).c) : txn l' s = txn l s := by
  have h0 : Fin a (byte l (tx2 l s) (txX l s)) := fin_end h
  have h1 : Fin a (tx2 l s) := fin_byte h0
  have h2 : Fin a (tx1 l s) := fin_byte h1
  have h3 := fin_tx1 ok h2
  have h4 := fin_number (ok_tx0 ok) h3
  have h5 := fin_byte h4
  have h6 := fin_byte h5
  have o0 : Ok l (if 1024 ≤ s.h.length then fail s.c 3 s.c.p else s.c) := by split <;> first | exact Cur.ok_fail ok _ _ | exact ok
  have e0 : tx0 l' s = tx0 l s := by
    unfold tx0
    rw [byte_agree A o0 h6, byte_agree A (To.byte _ _ o0).1 h5]
  have e1 : number l' (tx0 l s) = number l (tx0 l s) := number_agree A (ok_tx0 ok) h3
  have e2 : tx1 l' s = tx1 l s := by
    unfold tx1
    rw [e0, e1]
  have e3 : tx2 l' s = tx2 l s := by
    unfold tx2
    rw [e2, byte_agree A (ok_tx1 ok) h2]
  have e4 : txX l' s = txX l s := by
    unfold txX
    rw [e3, peek_agree A (ok_tx2 ok) h1]
  rw [txn_eq, txn_eq, e3, e4, e0, e1, byte_agree A (ok_tx2 ok) h1, byte_agree A (To.byte _ _ (ok_tx2 ok)).1 h0]
theorem line_back (h : End a (line l most s).c) : Fin a s.c := by
  unfold line at h
  split at h
  · exact apps_back ok h
  · split at h
    · exact reads_back ok h
    · split at h
      · exact txn_back ok h
      · exact fin_here (txn_back (s := s.to (fail s.c 4 s.c.p)) (Cur.ok_fail ok _ _) h)
include A in
theorem line_agree (h : End a (line l most s).c) : line l' most s = line l most s := by
  have hf := line_back ok h
  have ep := peek_agree A ok hf
  unfold line at h ⊢
  rw [ep]
  split at h
  · next hc => rw [if_pos hc, if_pos hc, apps_agree A ok h]
  · next hc =>
    rw [if_neg hc, if_neg hc]
    split at h
    · next hd => rw [if_pos hd, if_pos hd, reads_agree A ok h]
    · next hd =>
      rw [if_neg hd, if_neg hd]
      split at h
      · next he => rw [if_pos he, txn_agree A ok h]
      · next he => rw [if_neg he]; exact txn_agree (s := s.to (fail s.c 4 s.c.p)) A (Cur.ok_fail ok _ _) h
end
theorem Fin.toEnd {c : Cr} (h : Fin a c) : End a c := by
  rcases h with h | h
  · exact .inl ⟨h.1, by have := h.2; omega⟩
  · exact .inr h
end
end Go.Proofs.Ytlcioegdmopppaa.Hs
