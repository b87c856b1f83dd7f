/- Printed by shake.py. -/
import Derived.Test.YtlcioegdmopppaaProg
import Derived.WalkKit
import Derived.WalkSpells
import Derived.WalkLawsBesides
import Derived.Lib.Hide
import Derived.IntWalk
import Derived.Deep.QuietTactic
import Derived.BigQuiet
import Derived.Deep.LoopGhost
import Derived.Deep.DeepCutAuto
import Derived.Laws.Rows
import Derived.Test.YtlcioegdmopppaaShD24
import Derived.Test.YtlcioegdmopppaaShD20
import Derived.Lib.SlBytesConst
set_option linter.unusedVariables false
set_option linter.unusedSimpArgs false
namespace Go.Proofs.Ytlcioegdmopppaa
open Go.RowKit
def Blk (w : World) (b : Nat) (cs : List Value) (t : TypeId) : Prop := w.heap[b]? = some (.cells cs.toArray t (0, 0))
theorem Blk.lt {w : World} {b : Nat} {cs : List Value} {t : TypeId} (h : Blk w b cs t) : b < w.heap.size := by
  rcases Nat.lt_or_ge b w.heap.size with h' | h'
  · exact h'
  · unfold Blk at h; simp [Array.getElem?_eq_none h'] at h
theorem Blk.cell {w : World} {b : Nat} {cs : List Value} {t : TypeId} (h : Blk w b cs t) (j : Nat) : w.cell? ⟨b, j, none⟩ = cs[j]? := by
  rw [cell_of_row w b j cs.toArray t (0, 0) h]; simp
theorem Blk.free {w : World} {b : Nat} {cs : List Value} {t : TypeId} (h : Blk w b cs t) (j : Nat) : w.frozen? ⟨b, j, none⟩ = false := frozen_of_row w b j cs.toArray t h
theorem Blk.set {w : World} {b : Nat} {cs : List Value} {t : TypeId} (h : Blk w b cs t) (j : Nat) (v : Value) : Blk (w.setCell ⟨b, j, none⟩ v) b (cs.set j v) t := by
  unfold Blk at *
  rw [heap_setCell_same w b j cs.toArray t v h]
  simp
theorem Blk.other {w : World} {b : Nat} {cs : List Value} {t : TypeId} (h : Blk w b cs t) {a : Addr} (ha : b ≠ a.block) (v : Value) : Blk (w.setCell a v) b cs t := by
  unfold Blk at *
  rw [heap_setCell_other w a b v ha]; exact h
theorem Blk.alloc {w : World} {b : Nat} {cs : List Value} {t : TypeId} (h : Blk w b cs t) (o : Obj) : Blk (w.alloc o) b cs t := by
  have hl := h.lt
  unfold Blk at *
  rw [Below.heap_alloc w o b hl]; exact h
theorem Blk.new (w : World) (cs : List Value) (t : TypeId) : Blk (w.alloc (.cells cs.toArray t)) w.heap.size cs t := heap_alloc_new w _
theorem Blk.drew {w : World} {b : Nat} {cs : List Value} {t : TypeId} (h : Blk w b cs t) : Blk w.drew b cs t := h
theorem Blk.drewN {w : World} {b : Nat} {cs : List Value} {t : TypeId} (h : Blk w b cs t) (n : Nat) : Blk (w.drewN n) b cs t := h
theorem Blk.below {B : Nat} {w w' : World} {b : Nat} {cs : List Value} {t : TypeId} (h : Blk w b cs t) (k : Below B w w') (hb : b < B) : Blk w' b cs t := by
  unfold Blk at *; rw [k.block b hb]; exact h
theorem bset {B : Nat} {a w : World} {b j : Nat} {u : Value} (hb : B ≤ b) (h : Below B a w) : Below B a (w.setCell ⟨b, j, none⟩ u) := h.setCell (p := ⟨b, j, none⟩) hb u
end Go.Proofs.Ytlcioegdmopppaa
set_option linter.unusedVariables false
set_option linter.unusedSimpArgs false
namespace Go.Proofs.Ytlcioegdmopppaa
open Go.RowKit
structure Chg (S : Nat → Prop) (w w' : World) : Prop where
  os : w'.os = w.os
  tape : w'.tape = w.tape
  output : w'.output = w.output
  size : w.heap.size ≤ w'.heap.size
  block : ∀ k, k < w.heap.size → ¬ S k → w'.heap[k]? = w.heap[k]?
theorem Chg.refl (S : Nat → Prop) (w : World) : Chg S w w := ⟨rfl, rfl, rfl, Nat.le_refl _, fun _ _ _ => rfl⟩
theorem Chg.trans {S : Nat → Prop} {a b c : World} (h : Chg S a b) (k : Chg S b c) : Chg S a c :=
  ⟨k.os.trans h.os, k.tape.trans h.tape, k.output.trans h.output, Nat.le_trans h.size k.size, fun i hi hs => (k.block i (Nat.lt_of_lt_of_le hi h.size) hs).trans (h.block i hi hs)⟩
theorem Chg.then {S S' : Nat → Prop} {a b c : World} (h : Chg S a b) (k : Chg S' b c) (hs : ∀ i, S' i → S i ∨ a.heap.size ≤ i) : Chg S a c :=
  ⟨k.os.trans h.os, k.tape.trans h.tape, k.output.trans h.output, Nat.le_trans h.size k.size, fun i hi hn => (k.block i (Nat.lt_of_lt_of_le hi h.size) (fun hc => by
    rcases hs i hc with h1 | h1
    · exact hn h1
    · omega)).trans (h.block i hi hn)⟩
theorem Chg.mono {S S' : Nat → Prop} {w w' : World} (h : Chg S w w') (hs : ∀ i, S i → S' i) : Chg S' w w' := ⟨h.os, h.tape, h.output, h.size, fun k hk hn => h.block k hk (fun hc => hn (hs k hc))⟩
theorem Chg.below {S : Nat → Prop} {B : Nat} {w w' : World} (h : Chg S w w') (hB : B ≤ w.heap.size) (hs : ∀ i, S i → B ≤ i) : Below B w w' :=
  ⟨h.os, h.tape, h.output, h.size, fun k hk => h.block k (Nat.lt_of_lt_of_le hk hB) (fun hc => by have := hs k hc; omega)⟩
theorem Chg.of_below {S : Nat → Prop} {w w' : World} (h : Below w.heap.size w w') : Chg S w w' := ⟨h.os, h.tape, h.output, h.size, fun k hk _ => h.block k hk⟩
theorem Chg.drew {S : Nat → Prop} {a w : World} (h : Chg S a w) : Chg S a w.drew := ⟨h.os, h.tape, h.output, h.size, h.block⟩
theorem Chg.drewN {S : Nat → Prop} {a w : World} (h : Chg S a w) (n : Nat) : Chg S a (w.drewN n) := ⟨h.os, h.tape, h.output, h.size, h.block⟩
theorem Chg.alloc {S : Nat → Prop} {a w : World} (h : Chg S a w) (o : Obj) : Chg S a (w.alloc o) :=
  h.then (S' := fun _ => False) ⟨rfl, rfl, rfl, by simp, fun k hk _ => Below.heap_alloc _ _ _ hk⟩ (fun _ h => h.elim)
theorem Chg.set {S : Nat → Prop} {a w : World} (h : Chg S a w) {b : Nat} (j : Nat) (hb : S b ∨ a.heap.size ≤ b) (u : Value) : Chg S a (w.setCell ⟨b, j, none⟩ u) :=
  h.then (S' := fun i => i = b) ⟨rfl, rfl, rfl, by simp [World.setCell], fun k hk hn => Below.heap_setCell _ _ _ _ (by simpa using hn)⟩ (fun i hi => by subst hi; exact hb)
theorem Chg.cell {S : Nat → Prop} {w w' : World} (h : Chg S w w') {a : Addr} {v : Value} (hc : w.cell? a = some v) (hs : ¬ S a.block) : w'.cell? a = some v :=
  (World.cell?_of_block (w := w) (h.block a.block (World.block_lt_of_cell? w a hc) hs)).trans hc
theorem Blk.chg {S : Nat → Prop} {w w' : World} {b : Nat} {cs : List Value} {t : TypeId} (h : Blk w b cs t) (k : Chg S w w') (hb : ¬ S b) : Blk w' b cs t := by
  have hl := h.lt
  unfold Blk at *; rw [k.block b hl hb]; exact h
end Go.Proofs.Ytlcioegdmopppaa
set_option linter.unusedVariables false
set_option linter.unusedSimpArgs false
namespace Go.Proofs.Ytlcioegdmopppaa
def wd (n : Nat) : Nat := if n < 10 then 1 else wd (n / 10) + 1
termination_by n
decreasing_by omega
theorem wd_small {n : Nat} (h : n < 10) : wd n = 1 := by rw [wd, if_pos h]
theorem wd_big {n : Nat} (h : 10 ≤ n) : wd n = wd (n / 10) + 1 := by rw [wd, if_neg (by omega)]
def low : Nat → Nat → List Int
  | 0, _ => []
  | k + 1, n => ((n / 10 ^ k) % 10 + 48 : Nat) :: low k n
end Go.Proofs.Ytlcioegdmopppaa
set_option linter.unusedVariables false
set_option linter.unusedSimpArgs false
namespace Go.Proofs.Ytlcioegdmopppaa
def scan : List Int → Bool → Int → Int → Int × Int × Bool
  | [], first, n, k => if first then (0, k, false) else (n, k, true)
  | c :: cs, first, n, k =>
    if 48 ≤ c ∧ c ≤ 57 then
      if (first = false ∧ n = 0) ∨ (2147483647 - (c - 48)) / 10 < n then (0, k, false) else scan cs false (n * 10 + (c - 48)) (k + 1)
    else if first then (0, k, false) else (n, k, true)
def parse (l : List Int) (a : Int) : Int × Int × Bool :=
  if a < 0 ∨ (l.length : Int) < a then (0, 0, false) else scan (l.drop a.toNat) true 0 a
theorem scan_to (cs : List Int) : ∀ first n k, k ≤ (scan cs first n k).2.1 ∧ (scan cs first n k).2.1 ≤ k + cs.length := by
  induction cs with
  | nil => intro first n k; simp only [scan]; split <;> simp
  | cons c cs ih =>
    intro first n k
    simp only [scan]
    have := ih false (n * 10 + (c - 48)) (k + 1)
    split
    · split
      · simp only [List.length_cons]; omega
      · simp only [List.length_cons]; omega
    · split <;> simp only [List.length_cons] <;> omega
theorem scan_some (cs : List Int) : ∀ first n k, (scan cs first n k).2.2 = true → first = false ∨ k < (scan cs first n k).2.1 := by
  induction cs with
  | nil => intro first n k h; cases first <;> simp [scan] at h ⊢
  | cons c cs ih =>
    intro first n k h
    simp only [scan] at h ⊢
    split
    · rename_i hc
      rw [if_pos hc] at h
      split
      · rename_i h2; rw [if_pos h2] at h; cases h
      · right
        have := (scan_to cs false (n * 10 + (c - 48)) (k + 1)).1
        omega
    · rename_i hc
      rw [if_neg hc] at h
      cases first <;> simp at h ⊢
theorem parse_to (l : List Int) (a : Int) (h0 : 0 ≤ a) (h1 : a ≤ l.length) : a ≤ (parse l a).2.1 ∧ (parse l a).2.1 ≤ l.length := by
  unfold parse
  rw [if_neg (by omega)]
  have := scan_to (l.drop a.toNat) true 0 a
  rw [List.length_drop] at this
  omega
theorem parse_on (l : List Int) (a : Int) (h : (parse l a).2.2 = true) : a < (parse l a).2.1 := by
  unfold parse at *
  split at h
  · cases h
  · rename_i hn
    rw [if_neg hn]
    rcases scan_some _ _ _ _ h with h | h
    · cases h
    · exact h
def listGo (l : List Int) : Nat → Int → List Int → List Int × Int × Bool
  | 0, a, out => (out, a, true)
  | d + 1, a, out =>
    if a < (l.length : Int) ∧ l.getD a.toNat 0 = 32 then
      let r := parse l (a + 1)
      if r.2.2 = true then listGo l d r.2.1 (out ++ [r.1]) else ([], r.2.1, false)
    else (out, a, true)
def list (l : List Int) (a : Int) : List Int × Int × Bool :=
  if a < 0 ∨ (l.length : Int) < a then ([], 0, false) else listGo l (l.length + 1) a []
theorem listGo_len (l : List Int) : ∀ (d : Nat) (a : Int) (out : List Int), (listGo l d a out).1.length ≤ d + out.length := by
  intro d
  induction d with
  | zero => intro a out; simp [listGo]
  | succ d ih =>
    intro a out
    rw [listGo]
    split
    · dsimp only
      split
      · have := ih (parse l (a + 1)).2.1 (out ++ [(parse l (a + 1)).1])
        simp only [List.length_append, List.length_cons, List.length_nil] at this
        omega
      · simp
    · simp
theorem parse_eq (l : List Int) (a : Int) (h0 : 0 ≤ a) (h1 : a ≤ l.length) : parse l a = scan (l.drop a.toNat) true 0 a := by unfold parse; rw [if_neg (by omega)]
theorem scan_stop (rest : List Int) (n k : Int) (hr : rest = [] ∨ ¬ (48 ≤ rest.getD 0 0 ∧ rest.getD 0 0 ≤ 57)) : scan rest false n k = (n, k, true) := by
  cases rest with
  | nil => simp [scan]
  | cons c cs =>
    rcases hr with hr | hr
    · cases hr
    · simp only [scan]
      rw [if_neg (by simpa using hr)]
      simp
end Go.Proofs.Ytlcioegdmopppaa
set_option linter.unusedVariables false
set_option linter.unusedSimpArgs false
namespace Go.Proofs.Ytlcioegdmopppaa
open Go.RowKit Go.Proofs.Ytlcioegdmopppaa.PEncodeBack Go.Proofs.YtlcioegdmopppaaW.PrintWords
def Bytes (l : List Int) : Prop := ∀ x ∈ l, 0 ≤ x ∧ x ≤ 255
theorem Bytes.at {l : List Int} (h : Bytes l) (i : Nat) : 0 ≤ l.getD i 0 ∧ l.getD i 0 ≤ 255 := by
  rw [List.getD_eq_getElem?_getD]
  rcases Nat.lt_or_ge i l.length with hi | hi
  · rw [List.getElem?_eq_getElem hi]; exact h _ (List.getElem_mem hi)
  · rw [List.getElem?_eq_none hi]; simp
theorem drop_cons {l : List Int} {a : Int} {c : Int} {cs : List Int} (_h0 : 0 ≤ a) (h : l.drop a.toNat = c :: cs) : a < l.length ∧ rd l a = c ∧ l.drop (a + 1).toNat = cs ∧ a + 1 ≤ l.length := by
  have hl : a.toNat < l.length := by
    rcases Nat.lt_or_ge a.toNat l.length with h' | h'
    · exact h'
    · rw [List.drop_eq_nil_of_le h'] at h; cases h
  rw [List.drop_eq_getElem_cons hl] at h
  injection h with h1 h2
  refine ⟨by omega, ?_, ?_, by omega⟩
  · unfold rd; rw [List.getD_eq_getElem?_getD, List.getElem?_eq_getElem hl]; exact h1
  · rw [show (a + 1).toNat = a.toNat + 1 from by omega]; exact h2
theorem drop_nil {l : List Int} {a : Int} (h0 : 0 ≤ a) (h1 : a ≤ l.length) (h : l.drop a.toNat = []) : a = l.length := by
  have := List.drop_eq_nil_iff.1 h
  omega
theorem digit_f (c : Int) (h : 0 ≤ c ∧ c ≤ 255) : digits_digit.f (wrap32 c) = some (if 48 ≤ c ∧ c ≤ 57 then c - 48 else -1) := by
  have e : wrap32 c = c := by unfold wrap32; omega
  unfold digits_digit.f
  rw [e]
  by_cases h1 : c < 48
  · rw [if_pos h1, if_neg (by omega)]
  · rw [if_neg h1]
    by_cases h2 : c > 57
    · rw [if_pos h2, if_neg (by omega)]
    · rw [if_neg h2, if_pos (by omega)]
      unfold wrap64 wrap32; congr 1; omega
theorem digit_ref (c : Int) : coronerref01_Digit.f c = some (decide (48 ≤ c ∧ c ≤ 57)) := by
  unfold coronerref01_Digit.f
  by_cases h1 : c ≥ 48
  · rw [if_pos h1]; congr 1; simp; omega
  · rw [if_neg h1]; congr 1; symm; simp; omega
theorem tdiv10 (d : Int) (h : 0 ≤ d ∧ d ≤ 9) : wrap64 (Int.tdiv (wrap64 (2147483647 - d)) 10) = (2147483647 - d) / 10 := by
  rw [IntWalk.wrap64_in (2147483647 - d) (by omega), Int.tdiv_eq_ediv_of_nonneg (by omega), IntWalk.wrap64_in _ (by omega)]
theorem parse_l0 (l : List Int) (hb : Bytes l) (hl : (l.length : Int) ≤ 140737488351232) (a : Int) : ∀ (cs : List Int) (K : Nat) (n k : Int), 0 ≤ a → a ≤ k → k ≤ l.length → l.drop k.toNat = cs → cs.length < K →
    0 ≤ n → n ≤ 2147483647 → (k = a → n = 0) → digits_Parse.l0 K l a n k = some (scan cs (decide (k = a)) n k) := by
  intro cs
  induction cs with
  | nil =>
    intro K n k h0 h1 h2 hd hK hn0 hn1 hf
    obtain ⟨K, rfl⟩ : ∃ m, K = m + 1 := ⟨K - 1, by simp at hK; omega⟩
    have e := drop_nil (by omega) h2 hd
    simp only [digits_Parse.l0, scan]
    rw [if_neg (by omega)]
    by_cases hka : k = a
    · subst hka; simp
    · simp [hka]
  | cons c cs ih =>
    intro K n k h0 h1 h2 hd hK hn0 hn1 hf
    obtain ⟨K, rfl⟩ : ∃ m, K = m + 1 := ⟨K - 1, by simp at hK; omega⟩
    obtain ⟨hlt, hc, hd', hle⟩ := drop_cons (by omega) hd
    have hcb : 0 ≤ c ∧ c ≤ 255 := by have := hb.at k.toNat; unfold rd at hc; rwa [hc] at this
    simp only [digits_Parse.l0, scan]
    rw [if_pos hlt, if_pos (by omega), hc, digit_f c hcb]
    simp only [Option.bind_some]
    by_cases hdg : 48 ≤ c ∧ c ≤ 57
    · rw [if_pos hdg, if_pos hdg, if_neg (by omega)]
      rw [tdiv10 (c - 48) (by omega), IntWalk.wrap64_in (n * 10) (by omega), IntWalk.wrap64_in (k + 1) (by omega)]
      by_cases hka : k = a
      · rw [if_neg (by omega), if_neg (by omega)]
        have hn := hf hka
        subst hn
        rw [if_neg (by simp [hka]; omega)]
        rw [IntWalk.wrap64_in _ (by omega)]
        rw [ih K _ (k + 1) h0 (by omega) hle hd' (by simp at hK; omega) (by omega) (by omega) (by omega)]
        simp only [show (k + 1 = a) = False from by simp; omega, decide_false]
      · rw [if_pos (by omega)]
        by_cases hz : n = 0
        · rw [if_pos hz, if_pos (by simp [hz, hka])]
        · rw [if_neg hz]
          by_cases hg : (2147483647 - (c - 48)) / 10 < n
          · rw [if_pos hg, if_pos (.inr hg)]
          · rw [if_neg hg, if_neg (by simp [hz]; omega)]
            rw [IntWalk.wrap64_in _ (by omega)]
            rw [ih K _ (k + 1) h0 (by omega) hle hd' (by simp at hK; omega) (by omega) (by omega) (by omega)]
            simp only [show (k + 1 = a) = False from by simp; omega, decide_false]
    · rw [if_neg hdg, if_neg hdg, if_pos (by omega)]
      by_cases hka : k = a
      · subst hka; simp
      · simp [hka]
theorem parse_f (l : List Int) (hb : Bytes l) (hl : (l.length : Int) ≤ 140737488351232) (a : Int) (K : Nat) (hK : l.length + 2 ≤ K) : digits_Parse.f K l a = some (parse l a) := by
  obtain ⟨K, rfl⟩ : ∃ m, K = m + 1 := ⟨K - 1, by omega⟩
  unfold digits_Parse.f parse
  by_cases h0 : a < 0
  · rw [if_pos h0, if_pos (.inl h0)]; simp [digits_Parse.j0]
  · rw [if_neg h0]
    by_cases h1 : a > l.length
    · rw [if_pos (.inr h1)]; simp [digits_Parse.j0, h1]
    · rw [if_neg (by omega)]
      simp only [digits_Parse.j0, h1, decide_false]
      rw [if_neg (by simp), parse_l0 l hb hl a (l.drop a.toNat) K 0 a (by omega) (by omega) (by omega) rfl (by simp; omega) (by omega) (by omega) (by simp)]
      simp
end Go.Proofs.Ytlcioegdmopppaa
set_option linter.unusedVariables false
set_option linter.unusedSimpArgs false
namespace Go.Proofs.Ytlcioegdmopppaa
open Go.RowKit Go.Proofs.Ytlcioegdmopppaa.PEncodeBack Go.Proofs.YtlcioegdmopppaaW.PrintWords
def Digs (p : List Int) : Prop := ∀ x ∈ p, 48 ≤ x ∧ x ≤ 57
def fold (n : Int) : List Int → Int
  | [] => n
  | c :: cs => fold (10 * n + (c - 48)) cs
theorem fold_snoc (p : List Int) (c : Int) : ∀ n, fold n (p ++ [c]) = 10 * fold n p + (c - 48) := by
  induction p with
  | nil => intro n; rfl
  | cons x p ih => intro n; simp only [List.cons_append, fold]; exact ih _
def val (p : List Int) : Int := if p.length = 0 ∨ 10 < p.length ∨ (1 < p.length ∧ p.getD 0 0 = 48) then -1 else if 2147483647 < fold 0 p then -1 else fold 0 p
theorem fold_low (p : List Int) : ∀ n, Digs p → 0 ≤ n → n * 10 ^ p.length ≤ fold n p ∧ fold n p < (n + 1) * 10 ^ p.length := by
  induction p with
  | nil => intro n _ _; simp [fold]; omega
  | cons x p ih =>
    intro n hp hn
    have hx := hp x (by simp)
    obtain ⟨i1, i2⟩ := ih (10 * n + (x - 48)) (fun y hy => hp y (by simp [hy])) (by omega)
    simp only [fold, List.length_cons]
    have hpos : (0 : Int) < 10 ^ p.length := Int.pow_pos (by omega)
    rw [Int.pow_succ]
    generalize (10 : Int) ^ p.length = t at *
    constructor
    · refine Int.le_trans ?_ i1
      rw [show n * (t * 10) = (10 * n) * t from by rw [Int.mul_comm t 10, ← Int.mul_assoc, Int.mul_comm n 10]]
      exact Int.mul_le_mul_of_nonneg_right (by omega) (by omega)
    · refine Int.lt_of_lt_of_le i2 ?_
      rw [show (n + 1) * (t * 10) = (10 * n + 10) * t from by rw [Int.mul_comm t 10, ← Int.mul_assoc]; congr 1; omega]
      exact Int.mul_le_mul_of_nonneg_right (by omega) (by omega)
theorem val_one (c : Int) (h : 48 ≤ c ∧ c ≤ 57) : val [c] = c - 48 := by
  unfold val
  rw [if_neg (by simp)]
  have e : fold 0 [c] = c - 48 := by simp [fold]
  rw [e, if_neg (by omega)]
theorem val_snoc (p : List Int) (c : Int) (hp : Digs p) (hc : 48 ≤ c ∧ c ≤ 57) (h0 : p ≠ []) (hv : 0 ≤ val p) :
    val (p ++ [c]) = if val p = 0 ∨ (2147483647 - (c - 48)) / 10 < val p then -1 else 10 * val p + (c - 48) := by
  have hl : 0 < p.length := List.length_pos_iff.2 h0
  unfold val at hv
  split at hv
  · omega
  · rename_i h1
    split at hv
    · omega
    · rename_i h2
      have e : val p = fold 0 p := by unfold val; rw [if_neg h1, if_neg h2]
      rw [e]
      obtain ⟨x, q, rfl⟩ : ∃ x q, p = x :: q := by cases p with | nil => exact absurd rfl h0 | cons x q => exact ⟨x, q, rfl⟩
      have hx := hp x (by simp)
      obtain ⟨f1, f2⟩ := fold_low q (10 * 0 + (x - 48)) (fun y hy => hp y (by simp [hy])) (by omega)
      have ef : fold 0 (x :: q) = fold (10 * 0 + (x - 48)) q := rfl
      have es := fold_snoc (x :: q) c 0
      have ql : q.length ≤ 9 := by simp at h1; omega
      unfold val
      rw [es, ef]
      rw [ef] at h2
      generalize fold (10 * 0 + (x - 48)) q = n at *
      simp only [List.length_append, List.length_cons, List.length_nil, List.cons_append, List.getD_cons_zero] at h1 ⊢
      by_cases hq : q.length = 0
      · have : q = [] := List.length_eq_zero_iff.1 hq
        subst this
        simp only [List.length_nil, Int.pow_zero] at f1 f2
        by_cases hx0 : x = 48
        · rw [if_pos (by simp [hx0]), if_pos (by omega)]
        · rw [if_neg (by simp; omega)]
          by_cases hg : 2147483647 < 10 * n + (c - 48)
          · rw [if_pos hg, if_pos (by omega)]
          · rw [if_neg hg, if_neg (by omega)]
      · have hx0 : x ≠ 48 := fun h => h1 (.inr (.inr ⟨by omega, h⟩))
        have hn : 10 ^ q.length ≤ n := by
          refine Int.le_trans ?_ f1
          have hpos : (0 : Int) < 10 ^ q.length := Int.pow_pos (by omega)
          have := Int.mul_le_mul_of_nonneg_right (a := 1) (b := 10 * 0 + (x - 48)) (c := 10 ^ q.length) (by omega) (by omega)
          omega
        have hpos : (0 : Int) < 10 ^ q.length := Int.pow_pos (by omega)
        by_cases h9 : q.length = 9
        · rw [h9] at hn
          rw [if_pos (by omega), if_pos (by right; omega)]
        · rw [if_neg (by omega)]
          by_cases hg : 2147483647 < 10 * n + (c - 48)
          · rw [if_pos hg, if_pos (by omega)]
          · rw [if_neg hg, if_neg (by omega)]
theorem value_l0 (p : List Int) (hp : Digs p) (hl : p.length ≤ 10) : ∀ (cs : List Int) (K : Nat) (n k : Int) (pre : List Int), p = pre ++ cs → k = pre.length → n = fold 0 pre → cs.length < K →
    coronerref01_Value.l0 K p n k = some (if 2147483647 < fold 0 p then -1 else fold 0 p) := by
  intro cs
  induction cs with
  | nil =>
    intro K n k pre hpp hk hn hK
    obtain ⟨K, rfl⟩ : ∃ m, K = m + 1 := ⟨K - 1, by simp at hK; omega⟩
    simp only [List.append_nil] at hpp
    subst hpp
    simp only [coronerref01_Value.l0]
    rw [if_neg (by omega), hn]
    split <;> rfl
  | cons c cs ih =>
    intro K n k pre hpp hk hn hK
    obtain ⟨K, rfl⟩ : ∃ m, K = m + 1 := ⟨K - 1, by simp at hK; omega⟩
    have hlen : p.length = pre.length + cs.length + 1 := by rw [hpp]; simp; omega
    have hc := hp c (by rw [hpp]; simp)
    have hr : rd p k = c := by unfold rd; rw [hpp, hk]; simp
    have hpre : Digs pre := fun x hx => hp x (by rw [hpp]; simp [hx])
    obtain ⟨b1, b2⟩ := fold_low pre 0 hpre (by omega)
    have hb : fold 0 pre < 10000000000 := by
      refine Int.lt_of_lt_of_le b2 ?_
      have h1 : (10 : Int) ^ pre.length ≤ 10 ^ 10 := by
        have := Nat.pow_le_pow_right (show 0 < 10 by omega) (show pre.length ≤ 10 by omega)
        exact_mod_cast this
      omega
    simp only [coronerref01_Value.l0]
    rw [if_pos (by omega), if_pos (by omega), hr, digit_ref, Option.bind_some]
    rw [if_pos (by simpa using hc)]
    rw [← hn] at b1 hb
    rw [IntWalk.wrap64_in (10 * n) (by omega), IntWalk.wrap64_in c (by omega), IntWalk.wrap64_in (10 * n + c) (by omega), IntWalk.wrap64_in (10 * n + c - 48) (by omega), IntWalk.wrap64_in (k + 1) (by omega)]
    exact ih K _ _ (pre ++ [c]) (by simp [hpp]) (by simp [hk]) (by rw [fold_snoc, hn]; omega) (by simp at hK; omega)
theorem value_f (p : List Int) (hp : Digs p) (K : Nat) (hK : p.length + 2 ≤ K) : coronerref01_Value.f K p = some (val p) := by
  obtain ⟨K, rfl⟩ : ∃ m, K = m + 1 := ⟨K - 1, by omega⟩
  unfold coronerref01_Value.f val
  by_cases h0 : p.length = 0
  · rw [if_pos (by omega), if_pos (.inl h0)]; simp [coronerref01_Value.j0]
  · rw [if_neg (by omega)]
    by_cases h1 : 10 < p.length
    · rw [if_pos (by omega), if_pos (.inr (.inl h1))]; simp [coronerref01_Value.j0]
    · rw [if_neg (by omega)]
      have hl0 := value_l0 p hp (by omega) p K 0 0 [] rfl rfl rfl (by omega)
      by_cases h2 : 1 < p.length
      · rw [if_pos (by omega), if_pos (by omega)]
        simp only [coronerref01_Value.j0]
        have hrd : rd p 0 = p.getD 0 0 := rfl
        by_cases h3 : p.getD 0 0 = 48
        · have e : (rd p 0 == 48) = true := by rw [hrd, h3]; rfl
          rw [e, if_pos rfl, if_pos (.inr (.inr ⟨h2, h3⟩))]
        · have e : (rd p 0 == 48) = false := by rw [hrd]; exact beq_eq_false_iff_ne.2 h3
          rw [e, if_neg (by simp), if_neg (by omega)]; exact hl0
      · rw [if_neg (by omega), if_neg (by omega)]
        simp only [coronerref01_Value.j0]
        rw [if_neg (by simp)]; exact hl0
def cut (l : List Int) (a k : Int) : List Int := (l.take k.toNat).drop a.toNat
theorem cut_length (l : List Int) (a k : Int) (h0 : 0 ≤ a) (h1 : a ≤ k) (h2 : k ≤ l.length) : ((cut l a k).length : Int) = k - a := by unfold cut; simp; omega
theorem cut_same (l : List Int) (a : Int) : cut l a a = [] := by unfold cut; simp
theorem cut_snoc (l : List Int) (a k : Int) (h0 : 0 ≤ a) (h1 : a ≤ k) (h2 : k < l.length) : cut l a (k + 1) = cut l a k ++ [rd l k] := by
  unfold cut rd
  have hk : k.toNat < l.length := by omega
  rw [show (k + 1).toNat = k.toNat + 1 from by omega, List.take_succ_eq_append_getElem hk, List.drop_append_of_le_length (by simp; omega)]
  rw [List.getD_eq_getElem?_getD, List.getElem?_eq_getElem hk]; rfl
theorem parse_l1 (l : List Int) (hl : (l.length : Int) ≤ 140737488351232) (a e : Int) (h0 : 0 ≤ a) (hae : a ≤ e) (hel : e ≤ l.length) (hd : ∀ i, a ≤ i → i < e → 48 ≤ rd l i ∧ rd l i ≤ 57)
    (hend : l.drop e.toNat = [] ∨ ¬ (48 ≤ (l.drop e.toNat).getD 0 0 ∧ (l.drop e.toNat).getD 0 0 ≤ 57)) :
    ∀ (d : Nat) (K : Nat) (n k : Int), e - k = d → a ≤ k → d + l.length + 4 ≤ K → Digs (cut l a k) → (k = a → n = 0) → (k ≠ a → val (cut l a k) = n ∧ 0 ≤ n) →
    coronerref01_Parse.l1 K l a e (k + 1) = some (scan (l.drop k.toNat) (decide (k = a)) n k) := by
  intro d
  induction d with
  | zero =>
    intro K n k hk hak hK hg hf hv
    obtain ⟨K, rfl⟩ : ∃ m, K = m + 1 := ⟨K - 1, by omega⟩
    obtain rfl : k = e := by omega
    simp only [coronerref01_Parse.l1]
    rw [if_neg (by omega)]
    by_cases hka : k = a
    · subst hka
      rw [if_pos rfl]
      rcases hend with h | h
      · rw [h]; simp [scan]
      · cases hs : l.drop k.toNat with
        | nil => simp [scan]
        | cons c cs => rw [hs] at h; simp only [scan]; rw [if_neg (by simpa using h)]; simp
    · rw [if_neg hka, if_pos h0, if_pos hae, if_pos hel]
      have hvv := value_f (cut l a k) hg K (by have := cut_length l a k h0 hae hel; omega)
      unfold cut at hvv
      rw [hvv, Option.bind_some]
      have := (hv hka).1
      unfold cut at this
      rw [this]
      simp only [hka, decide_false]
      rw [scan_stop _ _ _ hend]
  | succ d ih =>
    intro K n k hk hak hK hg hf hv
    obtain ⟨K, rfl⟩ : ∃ m, K = m + 1 := ⟨K - 1, by omega⟩
    have hkl : k < l.length := by omega
    have hc := hd k hak (by omega)
    have hsn := cut_snoc l a k h0 hak hkl
    have hg' : Digs (cut l a (k + 1)) := by
      rw [hsn]; intro x hx
      rcases List.mem_append.1 hx with h | h
      · exact hg x h
      · rw [List.mem_singleton.1 h]; exact hc
    have hdr : l.drop k.toNat = rd l k :: l.drop (k + 1).toNat := by
      have hkn : k.toNat < l.length := by omega
      rw [List.drop_eq_getElem_cons hkn, show (k + 1).toNat = k.toNat + 1 from by omega]
      unfold rd; rw [List.getD_eq_getElem?_getD, List.getElem?_eq_getElem hkn]; rfl
    simp only [coronerref01_Parse.l1]
    rw [if_pos (by omega), if_pos h0, if_pos (by omega), if_pos (by omega)]
    have hvv := value_f (cut l a (k + 1)) hg' K (by have := cut_length l a (k + 1) h0 (by omega) (by omega); omega)
    have hcut : (l.take (k + 1).toNat).drop a.toNat = cut l a (k + 1) := rfl
    rw [hcut, hvv, Option.bind_some, hdr]
    simp only [scan]
    rw [if_pos hc, IntWalk.wrap64_in (k + 1 - 1) (by omega), IntWalk.wrap64_in (k + 1 + 1) (by omega)]
    by_cases hka : k = a
    · have hn := hf hka
      subst hn
      have hv1 : val (cut l a (k + 1)) = rd l k - 48 := by rw [hsn, hka, cut_same, List.nil_append, val_one _ (by rw [← hka]; exact hc)]
      rw [hv1, if_neg (by omega), if_neg (by rintro (h | h); · exact absurd h.1 (by simp [hka])
                                             · omega)]
      rw [ih K (rd l k - 48) (k + 1) (by omega) (by omega) (by omega) hg' (by omega) (fun _ => ⟨hv1, by omega⟩)]
      simp only [show (k + 1 = a) = False from by simp; omega, decide_false]
      congr 2; omega
    · obtain ⟨hv0, hn0⟩ := hv hka
      have hne : cut l a k ≠ [] := by
        intro h; have := cut_length l a k h0 hak (by omega); rw [h] at this; simp at this; omega
      have hv1 := val_snoc (cut l a k) (rd l k) hg hc hne (by omega)
      rw [← hsn, hv0] at hv1
      by_cases hbad : n = 0 ∨ (2147483647 - (rd l k - 48)) / 10 < n
      · rw [if_pos hbad] at hv1
        rw [hv1, if_pos (by omega), if_pos (by rcases hbad with h | h; · exact .inl ⟨by simp [hka], h⟩
                                               · exact .inr h)]
        congr 3; omega
      · rw [if_neg hbad] at hv1
        rw [hv1, if_neg (by omega), if_neg (by omega)]
        rw [ih K (10 * n + (rd l k - 48)) (k + 1) (by omega) (by omega) (by omega) hg' (by omega) (fun _ => ⟨hv1, by omega⟩)]
        simp only [show (k + 1 = a) = False from by simp; omega, decide_false]
        congr 2; omega
theorem parse_r0 (l : List Int) (hl : (l.length : Int) ≤ 140737488351232) (a : Int) (h0 : 0 ≤ a) : ∀ (cs : List Int) (K : Nat) (e : Int), l.drop e.toNat = cs → a ≤ e → e ≤ l.length →
    (∀ i, a ≤ i → i < e → 48 ≤ rd l i ∧ rd l i ≤ 57) → cs.length + 2 * l.length + 8 ≤ K → coronerref01_Parse.l0 K l a e = some (scan (l.drop a.toNat) true 0 a) := by
  intro cs
  have fin : ∀ (K : Nat) (e : Int), a ≤ e → e ≤ l.length → (∀ i, a ≤ i → i < e → 48 ≤ rd l i ∧ rd l i ≤ 57) → 2 * l.length + 6 ≤ K →
      (l.drop e.toNat = [] ∨ ¬ (48 ≤ (l.drop e.toNat).getD 0 0 ∧ (l.drop e.toNat).getD 0 0 ≤ 57)) → coronerref01_Parse.j2 K l a e = some (scan (l.drop a.toNat) true 0 a) := by
    intro K e hae hel hd hK hend
    obtain ⟨K, rfl⟩ : ∃ m, K = m + 1 := ⟨K - 1, by omega⟩
    simp only [coronerref01_Parse.j2]
    rw [IntWalk.wrap64_in (a + 1) (by omega)]
    rw [parse_l1 l hl a e h0 hae hel hd hend (e - a).toNat K 0 a (by omega) (by omega) (by omega) (by rw [cut_same]; intro x hx; cases hx) (fun _ => rfl) (fun h => absurd rfl h)]
    simp
  induction cs with
  | nil =>
    intro K e hdr hae hel hd hK
    obtain ⟨K, rfl⟩ : ∃ m, K = m + 1 := ⟨K - 1, by omega⟩
    simp only [coronerref01_Parse.l0]
    rw [if_neg (by have := drop_nil (by omega) hel hdr; omega)]
    exact fin K e hae hel hd (by omega) (.inl hdr)
  | cons c cs ih =>
    intro K e hdr hae hel hd hK
    obtain ⟨K, rfl⟩ : ∃ m, K = m + 1 := ⟨K - 1, by omega⟩
    obtain ⟨hlt, hc, hd', hle⟩ := drop_cons (by omega) hdr
    simp only [coronerref01_Parse.l0]
    rw [if_pos hlt, if_pos (by omega), digit_ref, Option.bind_some]
    by_cases hdg : 48 ≤ c ∧ c ≤ 57
    · rw [if_pos (by simpa [hc] using hdg), IntWalk.wrap64_in (e + 1) (by omega)]
      refine ih K (e + 1) hd' (by omega) hle (fun i h1 h2 => ?_) (by simp at hK; omega)
      by_cases hi : i = e
      · rw [hi, hc]; exact hdg
      · exact hd i h1 (by omega)
    · rw [if_neg (by simpa [hc] using hdg)]
      exact fin K e hae hel hd (by simp at hK; omega) (.inr (by rw [hdr]; simpa using hdg))
theorem parse_ref (l : List Int) (hl : (l.length : Int) ≤ 140737488351232) (a : Int) (K : Nat) (hK : 3 * l.length + 10 ≤ K) : coronerref01_Parse.f K l a = some (parse l a) := by
  obtain ⟨K, rfl⟩ : ∃ m, K = m + 1 := ⟨K - 1, by omega⟩
  unfold coronerref01_Parse.f parse
  by_cases h0 : a < 0
  · rw [if_pos h0, if_pos (.inl h0)]; simp [coronerref01_Parse.j0]
  · rw [if_neg h0]
    by_cases h1 : a > l.length
    · rw [if_pos (.inr h1)]; simp [coronerref01_Parse.j0, h1]
    · rw [if_neg (by omega)]
      simp only [coronerref01_Parse.j0, h1, decide_false]
      rw [if_neg (by simp), parse_r0 l hl a (by omega) (l.drop a.toNat) K a rfl (by omega) (by omega) (fun i h1 h2 => by omega) (by simp; omega)]
end Go.Proofs.Ytlcioegdmopppaa
set_option linter.unusedVariables false
set_option linter.unusedSimpArgs false
namespace Go.Proofs.Ytlcioegdmopppaa
open Go.RowKit Go.Proofs.Ytlcioegdmopppaa.PEncodeBack Go.Proofs.YtlcioegdmopppaaW.PrintWords
theorem list_l0 (l : List Int) (hb : Bytes l) (hl : (l.length : Int) ≤ 17592186044416) : ∀ (d : Nat) (K : Nat) (a : Int) (out : List Int), 0 ≤ a → a ≤ l.length → (l.length : Int) - a < d → (out.length : Int) ≤ a →
    2 * d + l.length + 5 ≤ K → digits_List.l0 K l a out = some (listGo l d a out) := by
  intro d
  induction d with
  | zero => intro K a out h0 h1 hd; omega
  | succ d ih =>
    intro K a out h0 h1 hd ho hK
    obtain ⟨K, rfl⟩ : ∃ m, K = m + 1 + 1 := ⟨K - 2, by omega⟩
    have hrd : rd l a = l.getD a.toNat 0 := rfl
    simp only [digits_List.l0, listGo]
    by_cases h2 : a < l.length
    · rw [if_pos h2, if_pos h0]
      simp only [digits_List.j2]
      by_cases h3 : l.getD a.toNat 0 = 32
      · have e : (rd l a == 32) = true := by rw [hrd, h3]; rfl
        rw [e, if_pos rfl, if_pos ⟨h2, h3⟩, IntWalk.wrap64_in (a + 1) (by omega), parse_f l hb (by omega) (a + 1) K (by omega), Option.bind_some]
        have ht := parse_to l (a + 1) (by omega) (by omega)
        by_cases hr : (parse l (a + 1)).2.2 = true
        · have hp := parse_on l (a + 1) hr
          rw [if_pos hr, if_pos hr, if_pos (by omega)]
          exact ih K _ _ (by omega) (by omega) (by omega) (by simp; omega) (by omega)
        · rw [if_neg hr, if_neg hr]
      · have e : (rd l a == 32) = false := by rw [hrd]; exact beq_eq_false_iff_ne.2 h3
        rw [e, if_neg (by simp), if_neg (fun h => h3 h.2)]
    · rw [if_neg h2, if_neg (fun h => h2 h.1)]
      simp [digits_List.j2]
theorem list_f (l : List Int) (hb : Bytes l) (hl : (l.length : Int) ≤ 17592186044416) (a : Int) (K : Nat) (hK : 3 * l.length + 10 ≤ K) : digits_List.f K l a = some (list l a) := by
  obtain ⟨K, rfl⟩ : ∃ m, K = m + 1 := ⟨K - 1, by omega⟩
  unfold digits_List.f list
  by_cases h0 : a < 0
  · rw [if_pos h0, if_pos (.inl h0)]; simp [digits_List.j0]
  · rw [if_neg h0]
    by_cases h1 : a > l.length
    · rw [if_pos (.inr h1)]; simp [digits_List.j0, h1]
    · rw [if_neg (by omega)]
      simp only [digits_List.j0, h1, decide_false]
      rw [if_neg (by simp), list_l0 l hb hl (l.length + 1) K a [] (by omega) (by omega) (by omega) (by simp; omega) (by omega)]
theorem list_r0 (l : List Int) (hl : (l.length : Int) ≤ 17592186044416) : ∀ (d : Nat) (K : Nat) (a : Int) (out : List Int) (x : Int), 0 ≤ a → a ≤ l.length → (l.length : Int) - a < d → (out.length : Int) ≤ a →
    0 ≤ x → x ≤ a → 2 * d + 3 * l.length + 12 ≤ K → coronerref01_List.l0 K l a out x = some (listGo l d a out) := by
  intro d
  induction d with
  | zero => intro K a out x h0 h1 hd; omega
  | succ d ih =>
    intro K a out x h0 h1 hd ho hx0 hx hK
    obtain ⟨K, rfl⟩ : ∃ m, K = m + 1 + 1 := ⟨K - 2, by omega⟩
    have hrd : rd l a = l.getD a.toNat 0 := rfl
    simp only [coronerref01_List.l0, listGo]
    rw [if_pos (by omega)]
    by_cases h2 : a < l.length
    · rw [if_neg (by omega), if_pos h0, if_pos h2]
      simp only [coronerref01_List.j2]
      by_cases h3 : l.getD a.toNat 0 = 32
      · have e : (rd l a != 32) = false := by rw [hrd, h3]; rfl
        rw [e, if_neg (by simp), if_pos ⟨h2, h3⟩, IntWalk.wrap64_in (a + 1) (by omega), parse_ref l (by omega) (a + 1) K (by omega), Option.bind_some]
        have ht := parse_to l (a + 1) (by omega) (by omega)
        by_cases hr : (parse l (a + 1)).2.2 = true
        · have hp := parse_on l (a + 1) hr
          rw [if_pos hr, if_pos hr, if_pos (by omega), IntWalk.wrap64_in (x + 1) (by omega)]
          exact ih K _ _ _ (by omega) (by omega) (by omega) (by simp; omega) (by omega) (by omega) (by omega)
        · rw [if_neg hr, if_neg hr]
      · have e : (rd l a != 32) = true := by rw [hrd]; exact bne_iff_ne.2 h3
        rw [e, if_pos rfl, if_neg (fun h => h3 h.2)]
    · rw [if_pos (by omega), if_neg (fun h => h2 h.1)]
      simp [coronerref01_List.j2]
theorem list_ref (l : List Int) (hl : (l.length : Int) ≤ 17592186044416) (a : Int) (K : Nat) (hK : 5 * l.length + 20 ≤ K) : coronerref01_List.f K l a = some (list l a) := by
  obtain ⟨K, rfl⟩ : ∃ m, K = m + 1 := ⟨K - 1, by omega⟩
  unfold coronerref01_List.f list
  by_cases h0 : a < 0
  · rw [if_pos h0, if_pos (.inl h0)]; simp [coronerref01_List.j0]
  · rw [if_neg h0]
    by_cases h1 : a > l.length
    · rw [if_pos (.inr h1)]; simp [coronerref01_List.j0, h1]
    · rw [if_neg (by omega)]
      simp only [coronerref01_List.j0, h1, decide_false]
      rw [if_neg (by simp), list_r0 l hl (l.length + 1) K a [] 0 (by omega) (by omega) (by omega) (by simp; omega) (by omega) (by omega) (by omega)]
end Go.Proofs.Ytlcioegdmopppaa
set_option linter.unusedVariables false
set_option linter.unusedSimpArgs false
namespace Go.Proofs.Ytlcioegdmopppaa
open Go.RowKit
end Go.Proofs.Ytlcioegdmopppaa
set_option linter.unusedVariables false
set_option linter.unusedSimpArgs false
namespace Go.Proofs.Ytlcioegdmopppaa
open Go.RowKit Go.Proofs.YtlcioegdmopppaaW.PrintWords
end Go.Proofs.Ytlcioegdmopppaa
set_option linter.unusedVariables false
set_option linter.unusedSimpArgs false
namespace Go.Proofs.Ytlcioegdmopppaa
open Go.RowKit Go.Proofs.Ytlcioegdmopppaa.PEncodeBack Go.Proofs.YtlcioegdmopppaaW.PrintWords
theorem C_laid {w : World} {b : Nat} {k : IntKind} {t : TypeId} {fz : Nat × Nat} (l : List Int) (hl : l.length ≤ 9223372036854775807) (h : w.heap[b]? = some (.cells (l.map fun x => .int k x).toArray t fz)) :
    Kd.C (Kd.int k) w (some ⟨b, 0, none⟩) l.length l := by
  refine Kd.C_of_reads (enc := Value.int k) (d := (0 : Int)) (h1 := fun _ => rfl) ⟨rfl, hl, fun _ => ⟨_, rfl, fun j hj => ?_⟩⟩
  rw [add_plain, cell_of_row w b j _ t fz h, List.getElem?_toArray, List.getElem?_map, List.getD_eq_getElem?_getD, List.getElem?_eq_getElem hj]
  rfl
theorem alloc_at (w : World) (o : Obj) : (w.alloc o).heap[w.heap.size]? = some o := heap_alloc_new w o
end Go.Proofs.Ytlcioegdmopppaa
set_option linter.unusedVariables false
set_option linter.unusedSimpArgs false
namespace Go.Proofs.Ytlcioegdmopppaa
open Go.RowKit Go.Proofs.YtlcioegdmopppaaW.PrintWords Go.Proofs.Ytlcioegdmopppaa.PEncodeBack
theorem parse_calls (l : List Int) (a : Int) (A : Option Addr) (c : Nat) (w : World) (hr : Kd.C (Kd.int .u8) w A l.length l) (hc : l.length ≤ c) (hb : Bytes l) (hl : (l.length : Int) ≤ 140737488351232) :
    Calls Try.prog 74 #[.slice A l.length c, .int .i64 a] w fun e w' => e = .returned (.tuple #[.int .i64 (parse l a).1, .int .i64 (parse l a).2.1, .bool (parse l a).2.2]) ∧ Drawn0 w w' :=
  digits_Parse.calls _ A c l a _ _ _ w hr hc (parse_f l hb hl a _ (Nat.le_refl _))
theorem refparse_calls (l : List Int) (a : Int) (A : Option Addr) (c : Nat) (w : World) (hr : Kd.C (Kd.int .u8) w A l.length l) (hc : l.length ≤ c) (hl : (l.length : Int) ≤ 140737488351232) :
    Calls Try.prog 56 #[.slice A l.length c, .int .i64 a] w fun e w' => e = .returned (.tuple #[.int .i64 (parse l a).1, .int .i64 (parse l a).2.1, .bool (parse l a).2.2]) ∧ Drawn0 w w' :=
  coronerref01_Parse.calls _ A c l a _ _ _ w hr hc (parse_ref l hl a _ (Nat.le_refl _))
end Go.Proofs.Ytlcioegdmopppaa
