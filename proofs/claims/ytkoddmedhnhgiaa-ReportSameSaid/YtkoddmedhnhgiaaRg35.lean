/- Printed by shake.py. -/
import Derived.Test.YtkoddmedhnhgiaaRg32
import Derived.Test.YtkoddmedhnhgiaaRg31
import Derived.Test.YtkoddmedhnhgiaaRg34
import Derived.Test.YtkoddmedhnhgiaaRg26
set_option linter.unusedSimpArgs false
namespace Go.Proofs.Ytkoddmedhnhgiaa.Rp
open Go.RowKit Go.Proofs.Ytkoddmedhnhgiaa.PReportBack Go.Proofs.YtkoddmedhnhgiaaW.PrintWords
open Cur (Cr peek fail byte number)
set_option linter.unusedVariables false
section
variable {l : List Int} {s : Cr}
theorem bad_peek (h : s.e ≠ 0) : (peek l s).2 = false := by unfold peek; rw [if_neg (fun hh => h hh.1)]
theorem bad_fail (h : s.e ≠ 0) (e a : Int) : fail s e a = s := by unfold fail; rw [if_neg (fun hh => h hh.1)]
theorem bad_byte (h : s.e ≠ 0) (y : Int) : byte l s y = s := by unfold byte; rw [bad_peek h, if_neg (fun hh => absurd hh.1 (by decide)), bad_fail h]
theorem bad_num (h : s.e ≠ 0) : numR l s = (s, 0) := by
 unfold numR
 rw [bad_byte h, bad_peek h, if_neg (fun hh => absurd hh.1 (by decide))]
 unfold number
 rw [if_neg h]
theorem bad_nums (h : s.e ≠ 0) : ∀ k, (numsR l k s).1 = s
 | 0 => rfl
 | k + 1 => by rw [numsR, bad_nums h k, bad_num h]
end
def G (p : Int) : Cr := ⟨p, 0, 0⟩
def Nice (l : List Int) (s : Cr) : Prop := (∃ p, s = G p ∧ 0 ≤ p ∧ p ≤ l.length) ∨ s.e = 4
section
variable {l : List Int}
theorem byte_G {p : Int} (y : Int) : byte l (G p) y = if p < l.length ∧ rd l p = y then G (p + 1) else ⟨p, 4, p⟩ := by
 unfold byte peek
 by_cases h : p < l.length
 ·rw [if_pos (show (G p).e = 0 ∧ (G p).p < l.length from ⟨rfl, h⟩)]
  by_cases hy : rd l p = y
  ·rw [if_pos (show true = true ∧ y = rd l (G p).p from ⟨rfl, hy.symm⟩), if_pos ⟨h, hy⟩]; rfl
  ·rw [if_neg (show ¬ (true = true ∧ y = rd l (G p).p) from fun hh => hy hh.2.symm), if_neg (fun hh => hy hh.2)]; rfl
 ·rw [if_neg (show ¬ ((G p).e = 0 ∧ (G p).p < l.length) from fun hh => h hh.2), if_neg (fun hh => absurd hh.1 (by decide)), if_neg (fun hh => h hh.1)]; rfl
theorem next_G {p : Int} (c : Int) : nextR l (G p) c = decide (p < l.length ∧ rd l p = c) := by
 unfold nextR peek
 by_cases h : p < l.length
 ·rw [if_pos (show (G p).e = 0 ∧ (G p).p < l.length from ⟨rfl, h⟩)]
  show (true && (rd l p == c)) = _
  rw [Bool.true_and, Bool.eq_iff_iff]
  simp [h]
 ·rw [if_neg (show ¬ ((G p).e = 0 ∧ (G p).p < l.length) from fun hh => h hh.2), decide_eq_false (fun hh => h hh.1)]; rfl
def numP (l : List Int) (p : Int) : Int × Int × Bool := if p < l.length ∧ rd l p = 32 then (if p + 1 < l.length ∧ rd l (p + 1) = 45 then (-1, p + 2, true) else parse l (p + 1)) else (0, p, false)
theorem num_G {p : Int} : ((numP l p).2.2 = true → numR l (G p) = (G (numP l p).2.1, (numP l p).1)) ∧ ((numP l p).2.2 = false → (numR l (G p)).1.e = 4 ∧ (numR l (G p)).1.x = (numP l p).2.1) := by
 unfold numP numR
 rw [byte_G]
 by_cases h : p < l.length ∧ rd l p = 32
 ·rw [if_pos h, if_pos h]
  have hn := next_G (l := l) (p := p + 1) 45
  unfold nextR at hn
  by_cases h2 : p + 1 < l.length ∧ rd l (p + 1) = 45
  ·rw [decide_eq_true h2, Bool.and_eq_true, beq_iff_eq] at hn
   rw [if_pos h2, if_pos hn, byte_G, if_pos h2]
   exact ⟨fun _ => by show (G (p + 1 + 1), (-1 : Int)) = (G (p + 2), -1); rw [Int.add_assoc]; rfl, fun hh => Bool.noConfusion (show true = false from hh)⟩
  ·rw [decide_eq_false h2, ← Bool.not_eq_true, Bool.and_eq_true, beq_iff_eq] at hn
   rw [if_neg h2, if_neg hn]
   unfold number
   rw [if_pos (show (G (p + 1)).e = 0 from rfl)]
   show ((parse l (p + 1)).2.2 = true → (if (parse l (p + 1)).2.2 = true then _ else _) = _) ∧ _
   constructor
   ·intro hh
    rw [if_pos hh]; rfl
   ·intro hh
    have hh2 : ¬ (parse l (G (p + 1)).p).2.2 = true := by show ¬ (parse l (p + 1)).2.2 = true; rw [hh]; decide
    rw [if_neg hh2]
    exact ⟨rfl, rfl⟩
 ·rw [if_neg h, if_neg h]
  refine ⟨fun hh => Bool.noConfusion (show false = true from hh), fun _ => ?_⟩
  have hb : (⟨p, 4, p⟩ : Cr).e ≠ 0 := (show (4 : Int) ≠ 0 by decide)
  rw [bad_peek hb, if_neg (fun hh => absurd hh.1 (by decide))]
  unfold number
  rw [if_neg hb]
  exact ⟨rfl, rfl⟩
theorem Nice.G {p : Int} (h0 : 0 ≤ p) (h1 : p ≤ l.length) : Nice l (Rp.G p) := .inl ⟨p, rfl, h0, h1⟩
theorem Nice.byte {s : Cr} (h : Nice l s) (y : Int) : Nice l (byte l s y) := by
 rcases h with ⟨p, rfl, h0, h1⟩ | h
 ·rw [byte_G]
  split
  ·rename_i hc; exact .inl ⟨p + 1, rfl, by omega, by omega⟩
  ·exact .inr rfl
 ·rw [bad_byte (by omega)]; exact .inr h
theorem Nice.ok {s : Cr} (h : Nice l s) (h0 : s.e = 0) : Cur.Ok l s := by
 rcases h with ⟨p, rfl, h0, h1⟩ | h
 ·exact ⟨h0, h1⟩
 ·omega
end
def numsF (l : List Int) : Nat → Cr → Cr × List Int
 | 0, s => (s, [])
 | k + 1, s => ((numsF l k (numR l s).1).1, (numR l s).2 :: (numsF l k (numR l s).1).2)
theorem numsF_snoc (l : List Int) : ∀ k s, numsF l (k + 1) s = ((numR l (numsF l k s).1).1, (numsF l k s).2 ++ [(numR l (numsF l k s).1).2])
 | 0, s => rfl
 | k + 1, s => by
  rw [numsF, numsF_snoc l k]
  rfl
theorem nums_eq (l : List Int) (s : Cr) : ∀ k, numsR l k s = numsF l k s
 | 0 => rfl
 | k + 1 => by rw [numsR, numsF_snoc, nums_eq l s k]
section
variable {l : List Int}
end
end Go.Proofs.Ytkoddmedhnhgiaa.Rp
set_option linter.unusedSimpArgs false
namespace Go.Proofs.Ytkoddmedhnhgiaa.Rp
open Go.RowKit Go.Proofs.Ytkoddmedhnhgiaa.PReportBack Go.Proofs.YtkoddmedhnhgiaaW.PrintWords
open Cur (Cr peek fail byte number)
set_option linter.unusedVariables false
section
variable {l : List Int}
end
theorem redge_l0 {l m : List Ed} (hlm : l.length = m.length) (hb : l.length ≤ big) : ∀ (d i : Nat), i + d = l.length → Ev (fun k => coronerref13_SameEdges.l0 k l m (i : Int)) (eqL eqE (l.drop i) (m.drop i))
 | 0, i, h => by
  rw [eqL_end hlm (by omega)]
  exact Ev.step (f := fun _ => some true) (fun k => by simp only [coronerref13_SameEdges.l0]; rw [if_neg (by omega)]) (Ev.now _)
 | d + 1, i, h => by
  have hlt : i < l.length := by omega
  have hm : i < m.length := by omega
  have ih := redge_l0 hlm hb d (i + 1) (by omega)
  have hs : ∀ k, coronerref13_SameEdges.l0 (k + 1) l m (i : Int) = if (!eqE l[i] m[i]) = true then some false else coronerref13_SameEdges.l0 k l m ((i + 1 : Nat) : Int) := fun k => by
   simp only [coronerref13_SameEdges.l0]
   rw [if_pos (by omega), if_pos (by omega), if_pos (by omega), rd49 hlt, rd49 hm, edge_b, wrapS hlt hb]
  rw [eqL_drop hlt hm]
  cases hq : eqE l[i] m[i] with
  | true => rw [Bool.true_and]; exact Ev.step (fun k => by rw [hs, hq]; rfl) ih
  | false => rw [Bool.false_and]; exact Ev.step (f := fun _ => some false) (fun k => by rw [hs, hq]; rfl) (Ev.now _)
theorem redges_ev {l m : List Ed} (hb : l.length ≤ big) : Ev (fun k => coronerref13_SameEdges.f k l m) (eqL eqE l m) := by
 unfold coronerref13_SameEdges.f
 by_cases h : l.length = m.length
 ·have := redge_l0 h hb l.length 0 (by omega)
  rw [List.drop_zero, List.drop_zero] at this
  exact Ev.congr (fun k => if_pos (by omega)) this
 ·rw [eqL_len h]
  exact Ev.congr (f := fun _ => some false) (fun k => if_neg (by omega)) (Ev.now _)
theorem rfind_ev (x y : Fi) (hb : x.f6.length ≤ big) : Ev (fun k => coronerref13_SameFinding.f k x.f0 x.f1 x.f2 x.f3 x.f4 x.f5 x.f6 y.f0 y.f1 y.f2 y.f3 y.f4 y.f5 y.f6) (eqF x y) := by
 have he := redges_ev (l := x.f6) (m := y.f6) hb
 have hno : nF x ≠ nF y → eqF x y = false := fun h => by unfold eqF alike; rw [decide_eq_false h, Bool.false_and]
 have hF : ∀ {g : Nat → Option Bool}, (∀ k, g k = some false) → nF x ≠ nF y → Ev g (eqF x y) := fun hg h => by rw [hno h]; exact Ev.congr (f := fun _ => some false) hg (Ev.now _)
 unfold coronerref13_SameFinding.f
 by_cases h0 : x.f0 = y.f0
 ·by_cases h1 : x.f1 = y.f1
  ·by_cases h2 : x.f2 = y.f2
   ·by_cases h3 : x.f3 = y.f3
    ·by_cases h4 : x.f4 = y.f4
     ·by_cases h5 : x.f5 = y.f5
      ·have e : nF x = nF y := by unfold nF; rw [h0, h1, h2, h3, h4, h5]
       unfold eqF alike
       rw [decide_eq_true e, Bool.true_and]
       refine Ev.congr (fun k => ?_) he
       rw [if_pos h0, if_pos h1, if_pos h2, if_pos h3, if_pos h4, if_pos h5]
       cases coronerref13_SameEdges.f k x.f6 y.f6 <;> rfl
      ·exact hF (fun k => by rw [if_pos h0, if_pos h1, if_pos h2, if_pos h3, if_pos h4, if_neg h5]) (fun e => h5 (by simp [nF] at e; exact e.2.2.2.2.2))
     ·exact hF (fun k => by rw [if_pos h0, if_pos h1, if_pos h2, if_pos h3, if_neg h4]) (fun e => h4 (by simp [nF] at e; exact e.2.2.2.2.1))
    ·exact hF (fun k => by rw [if_pos h0, if_pos h1, if_pos h2, if_neg h3]) (fun e => h3 (by simp [nF] at e; exact e.2.2.2.1))
   ·exact hF (fun k => by rw [if_pos h0, if_pos h1, if_neg h2]) (fun e => h2 (by simp [nF] at e; exact e.2.2.1))
  ·exact hF (fun k => by rw [if_pos h0, if_neg h1]) (fun e => h1 (by simp [nF] at e; exact e.2.1))
 ·exact hF (fun k => by rw [if_neg h0]) (fun e => h0 (by simp [nF] at e; exact e.1))
theorem rfinds_l0 {l m : List Fi} (hlm : l.length = m.length) (hb : l.length ≤ big) (hbs : ∀ f ∈ l, f.f6.length ≤ big) : ∀ (d i : Nat), i + d = l.length → Ev (fun k => coronerref13_SameFindings.l0 k l m (i : Int)) (eqL eqF (l.drop i) (m.drop i))
 | 0, i, h => by
  rw [eqL_end hlm (by omega)]
  exact Ev.step (f := fun _ => some true) (fun k => by simp only [coronerref13_SameFindings.l0]; rw [if_neg (by omega)]) (Ev.now _)
 | d + 1, i, h => by
  have hlt : i < l.length := by omega
  have hm : i < m.length := by omega
  have ih := rfinds_l0 hlm hb hbs d (i + 1) (by omega)
  refine Ev.step (f := fun k => (coronerref13_SameFinding.f k l[i].f0 l[i].f1 l[i].f2 l[i].f3 l[i].f4 l[i].f5 l[i].f6 m[i].f0 m[i].f1 m[i].f2 m[i].f3 m[i].f4 m[i].f5 m[i].f6).bind fun t => if t = true then coronerref13_SameFindings.l0 k l m ((i + 1 : Nat) : Int) else some false) (fun k => ?_) ?_
  ·simp only [coronerref13_SameFindings.l0]
   rw [if_pos (by omega), if_pos (by omega), if_pos (by omega), rd44 hlt, rd44 hm, wrapS hlt hb]
  ·refine Ev.bind (rfind_ev l[i] m[i] (hbs _ (List.getElem_mem hlt))) ?_
   rw [eqL_drop hlt hm]
   cases eqF l[i] m[i] with
   | true => rw [Bool.true_and]; exact Ev.congr (fun k => if_pos rfl) ih
   | false => rw [Bool.false_and]; exact Ev.congr (f := fun _ => some false) (fun k => if_neg (by decide)) (Ev.now _)
theorem rfinds_ev {l m : List Fi} (hb : l.length ≤ big) (hbs : ∀ f ∈ l, f.f6.length ≤ big) : Ev (fun k => coronerref13_SameFindings.f k l m) (eqL eqF l m) := by
 unfold coronerref13_SameFindings.f
 by_cases h : l.length = m.length
 ·have := rfinds_l0 h hb hbs l.length 0 (by omega)
  rw [List.drop_zero, List.drop_zero] at this
  exact Ev.congr (fun k => if_pos (by omega)) this
 ·rw [eqL_len h]
  exact Ev.congr (f := fun _ => some false) (fun k => if_neg (by omega)) (Ev.now _)
theorem rints_l0 {l m : List Int} (hlm : l.length = m.length) (hb : l.length ≤ big) : ∀ (d i : Nat), i + d = l.length → Ev (fun k => coronerref01_Same.l0 k l m (i : Int)) (alike (l.drop i) (m.drop i))
 | 0, i, h => by
  rw [List.drop_eq_nil_of_le (by omega), List.drop_eq_nil_of_le (by omega)]
  exact Ev.step (f := fun _ => some true) (fun k => by simp only [coronerref01_Same.l0]; rw [if_neg (by omega)]) (Ev.now _)
 | d + 1, i, h => by
  have hlt : i < l.length := by omega
  have hm : i < m.length := by omega
  have ih := rints_l0 hlm hb d (i + 1) (by omega)
  have hs : ∀ k, coronerref01_Same.l0 (k + 1) l m (i : Int) = if l[i] = m[i] then coronerref01_Same.l0 k l m ((i + 1 : Nat) : Int) else some false := fun k => by
   simp only [coronerref01_Same.l0]
   rw [if_pos (by omega), if_pos (by omega), if_pos (by omega), rdI hlt, rdI hm, wrapS hlt hb]
  have ha : alike (l.drop i) (m.drop i) = (decide (l[i] = m[i]) && alike (l.drop (i + 1)) (m.drop (i + 1))) := by
   rw [List.drop_eq_getElem_cons hlt, List.drop_eq_getElem_cons hm]
   generalize l[i] = a
   generalize m[i] = b
   generalize l.drop (i + 1) = L
   generalize m.drop (i + 1) = M
   unfold alike
   rw [Bool.eq_iff_iff]
   simp
  rw [ha]
  by_cases hq : l[i] = m[i]
  ·rw [decide_eq_true hq, Bool.true_and]; exact Ev.step (fun k => by rw [hs, if_pos hq]) ih
  ·rw [decide_eq_false hq, Bool.false_and]; exact Ev.step (f := fun _ => some false) (fun k => by rw [hs, if_neg hq]) (Ev.now _)
theorem rints_ev {l m : List Int} (hb : l.length ≤ big) : Ev (fun k => coronerref01_Same.f k l m) (alike l m) := by
 unfold coronerref01_Same.f
 by_cases h : l.length = m.length
 ·have := rints_l0 h hb l.length 0 (by omega)
  rw [List.drop_zero, List.drop_zero] at this
  exact Ev.congr (fun k => if_pos (by omega)) this
 ·have e : alike l m = false := by unfold alike; exact decide_eq_false (fun e => h (by rw [e]))
  rw [e]
  exact Ev.congr (f := fun _ => some false) (fun k => if_neg (by omega)) (Ev.now _)
theorem rsame_ev (lv lv' : Int) (fs fs' : List Fi) (o o' : List Int) (hb : fs.length ≤ big) (hbs : ∀ f ∈ fs, f.f6.length ≤ big) (ho : o.length ≤ big) : Ev (fun k => coronerref31_Same.f k lv fs o lv' fs' o') (eqRep lv fs o lv' fs' o') := by
 unfold coronerref31_Same.f eqRep
 by_cases h : lv = lv'
 ·rw [decide_eq_true h, Bool.true_and]
  refine Ev.congr (fun k => if_pos h) (Ev.bind (rfinds_ev hb hbs) ?_)
  cases eqL eqF fs fs' with
  | true =>
   rw [Bool.true_and]
   refine Ev.congr (fun k => ?_) (rints_ev (l := o) (m := o') ho)
   rw [if_pos rfl]
   cases coronerref01_Same.f k o o' <;> rfl
  | false => rw [Bool.false_and]; exact Ev.congr (f := fun _ => some false) (fun k => if_neg (by decide)) (Ev.now _)
 ·rw [decide_eq_false h, Bool.false_and]
  exact Ev.congr (f := fun _ => some false) (fun k => if_neg h) (Ev.now _)
theorem eqRep_iff {lv lv' : Int} {fs fs' : List Fi} {o o' : List Int} : eqRep lv fs o lv' fs' o' = true ↔ lv = lv' ∧ fs = fs' ∧ o = o' := by
 unfold eqRep
 rw [Bool.and_eq_true, Bool.and_eq_true, decide_eq_true_eq, eqL_iff eqF_iff, alike_iff]
end Go.Proofs.Ytkoddmedhnhgiaa.Rp
set_option linter.unusedSimpArgs false
namespace Go.Proofs.Ytkoddmedhnhgiaa.Rp
open Go.Shelf Go.RowKit Go.Lib Go.Proofs.Ytkoddmedhnhgiaa.PReportBack Go.Proofs.YtkoddmedhnhgiaaW.PrintWords
set_option linter.unusedVariables false
theorem rsame_c (w : World) (lv lv' : Int) (fs fs' : List Fi) (o o' : List Int) (A1 A2 B1 B2 : Option Addr) (c1 c2 d1 d2 : Nat) (h1 : Kd.C k44 w A1 fs.length fs) (h2 : (Kd.int .i64).C w A2 o.length o) (g1 : Kd.C k44 w B1 fs'.length fs') (g2 : (Kd.int .i64).C w B2 o'.length o') (hc1 : fs.length ≤ c1) (hd1 : fs'.length ≤ d1) (hc2 : o.length ≤ c2) (hd2 : o'.length ≤ d2) (hb : fs.length ≤ big) (hbs : ∀ f ∈ fs, f.f6.length ≤ big) (hbo : o.length ≤ big) :
 Calls Try.prog 14 #[.agg #[.int .i64 lv, .slice A1 fs.length c1, .slice A2 o.length c2], .agg #[.int .i64 lv', .slice B1 fs'.length d1, .slice B2 o'.length d2]] w fun e w' => e = .returned (.bool (eqRep lv fs o lv' fs' o')) ∧ Below w.heap.size w w' := by
 obtain ⟨K, hK⟩ := (rsame_ev lv lv' fs fs' o o' hb hbs hbo).rounds
 exact coronerref31_Same.calls K lv A1 c1 fs A2 c2 o lv' B1 d1 fs' B2 d2 o' _ w h1 hc1 h2 hc2 g1 hd1 g2 hd2 hK
end Go.Proofs.Ytkoddmedhnhgiaa.Rp
namespace Go.Proofs.Ytkoddmedhnhgiaa
open Go.Shelf Go.RowKit Go.Lib Go.Proofs.Ytkoddmedhnhgiaa.PReportBack Go.Proofs.YtkoddmedhnhgiaaW.PrintWords Rp
set_option linter.unusedVariables false
end Go.Proofs.Ytkoddmedhnhgiaa
set_option linter.unusedSimpArgs false
namespace Go.Proofs.Ytkoddmedhnhgiaa.Rp
open Go.RowKit Go.Proofs.Ytkoddmedhnhgiaa.PReportBack Go.Proofs.YtkoddmedhnhgiaaW.PrintWords
open Cur (Cr peek fail byte number)
set_option linter.unusedVariables false
section
variable {L : List Int}
theorem rd_at {pre rest : List Int} {c : Int} (h : L = pre ++ c :: rest) : (pre.length : Int) < L.length ∧ rd L pre.length = c := by
 subst h
 constructor
 ·rw [List.length_append, List.length_cons]; omega
 ·unfold rd
  rw [Int.toNat_natCast, List.getD_eq_getElem?_getD, List.getElem?_append_right (Nat.le_refl _), Nat.sub_self]; rfl
theorem byte_at {pre rest : List Int} {c : Int} (h : L = pre ++ c :: rest) : byte L (G pre.length) c = G (pre ++ [c]).length := by
 rw [byte_G, if_pos (rd_at h), List.length_append]; rfl
theorem next_at {pre rest : List Int} {x : Int} (c : Int) (h : L = pre ++ x :: rest) : nextR L (G pre.length) c = decide (x = c) := by
 obtain ⟨h1, h2⟩ := rd_at h
 rw [next_G, h2, Bool.eq_iff_iff]
 simp [h1]
theorem next_no {pre rest : List Int} {c : Int} (h : L = pre ++ rest) (hn : ∀ x r, rest = x :: r → x ≠ c) : nextR L (G pre.length) c = false := by
 cases rest with
 | nil =>
  rw [next_G]
  apply decide_eq_false
  rw [h, List.append_nil]
  omega
 | cons x r => rw [next_at c h]; exact decide_eq_false (hn x r rfl)
theorem low_head (n : Nat) : ∃ d r, low (wd n) n = d :: r ∧ 48 ≤ d ∧ d ≤ 57 := by
 obtain ⟨k, hk⟩ : ∃ k, wd n = k + 1 := ⟨wd n - 1, by have := wd_pos n; omega⟩
 rw [hk]
 exact ⟨((n / 10 ^ k % 10 + 48 : Nat) : Int), low k n, rfl, by omega, by have := Nat.mod_lt (n / 10 ^ k) (show 0 < 10 by decide); omega⟩
theorem num_at {pre rest : List Int} {n : Int} (h : L = pre ++ (32 :: numT n) ++ rest) (hn : okR n = true) (hs : Stops rest) : numR L (G pre.length) = (G (pre ++ (32 :: numT n)).length, n) := by
 obtain ⟨h1, h2⟩ := okR_iff.1 hn
 have e1 : L = pre ++ 32 :: (numT n ++ rest) := by rw [h]; simp
 have ha := rd_at e1
 have hp : numP L pre.length = (n, (((pre ++ (32 :: numT n)).length : Nat) : Int), true) := by
  unfold numP
  rw [if_pos ha]
  have e2 : ((pre.length : Int) + 1) = ((pre ++ [32]).length : Nat) := by simp
  rw [e2]
  by_cases h0 : n < 0
  ·obtain rfl : n = -1 := by omega
   have et : numT (-1) = [45] := rfl
   have e3 : L = (pre ++ [32]) ++ 45 :: rest := by rw [h, et]; simp
   rw [if_pos (rd_at e3), et]
   simp
  ·have et : numT n = low (wd n.toNat) n.toNat := by unfold numT numS; rw [if_neg h0]
   obtain ⟨d, r, hd, d1, d2⟩ := low_head n.toNat
   have e3 : L = (pre ++ [32]) ++ d :: (r ++ rest) := by rw [h, et, hd]; simp
   have h45 := (rd_at e3).2
   rw [if_neg (fun hh => by rw [h45] at hh; omega)]
   have hb := parse_back (pre ++ [32]) rest n.toNat (by omega) hs
   have e4 : pre ++ [32] ++ low (wd n.toNat) n.toNat ++ rest = L := by rw [h, et]; simp
   rw [e4] at hb
   rw [hb, et]
   have e5 : ((n.toNat : Nat) : Int) = n := Int.toNat_of_nonneg (by omega)
   rw [e5]
   simp only [List.length_append, List.length_cons, List.length_nil, low_length, Prod.mk.injEq, and_true, true_and]
   omega
 have hg := num_G (l := L) (p := pre.length)
 rw [hp] at hg
 exact hg.1 rfl
theorem stop_nums (l : List Int) (rest : List Int) : Stops (numsT l ++ 10 :: rest) := by
 cases l with
 | nil => right; show ¬ (48 ≤ (10 : Int) ∧ _); omega
 | cons x l => right; show ¬ (48 ≤ (32 : Int) ∧ _); omega
theorem nums_at (rest : List Int) : ∀ (l pre : List Int), L = pre ++ numsT l ++ 10 :: rest → l.all okR = true → numsF L l.length (G pre.length) = (G (pre ++ numsT l).length, l)
 | [], pre, h, _ => by
  have e : pre ++ numsT [] = pre := by simp [numsT]
  rw [e]; rfl
 | x :: l, pre, h, hok => by
  rw [List.all_cons, Bool.and_eq_true] at hok
  have e0 : numsT (x :: l) = 32 :: numT x ++ numsT l := rfl
  rw [e0] at h ⊢
  have h1 := num_at (L := L) (pre := pre) (rest := numsT l ++ 10 :: rest) (n := x) (by rw [h]; simp) hok.1 (stop_nums l rest)
  have h2 := nums_at rest l (pre ++ (32 :: numT x)) (by rw [h]; simp) hok.2
  rw [List.length_cons, numsF, h1, h2]
  simp
theorem six_at {pre rest : List Int} {c : Int} {l : List Int} (h : L = pre ++ lineT c l ++ rest) (hl : l.length = 6) (hok : l.all okR = true) : sixR L (G pre.length) c = (G (pre ++ lineT c l).length, l) := by
 have e1 : L = pre ++ c :: (numsT l ++ 10 :: rest) := by rw [h]; unfold lineT; simp
 have hn := nums_at (L := L) rest l (pre ++ [c]) (by rw [e1]; simp) hok
 have h3 := byte_at (L := L) (pre := pre ++ [c] ++ numsT l) (rest := rest) (c := 10) (by rw [e1]; simp)
 unfold sixR
 rw [byte_at e1, nums_eq]
 rw [hl] at hn
 rw [hn]
 rw [h3]
 have e4 : pre ++ [c] ++ numsT l ++ [10] = pre ++ lineT c l := by unfold lineT; simp
 rw [e4]
theorem mkE_nE (x : Ed) : mkE (nE x) = x := rfl
theorem ok_G {pre rest : List Int} (h : L = pre ++ rest) : Cur.Ok L (G pre.length) := by
 subst h
 refine ⟨Int.natCast_nonneg _, ?_⟩
 show (pre.length : Int) ≤ _
 rw [List.length_append]; omega
theorem cyc_at (rest : List Int) (hr : ∀ x r, rest = x :: r → x ≠ 101) : ∀ (es : List Ed) (pre : List Int) (acc : List Ed), L = pre ++ (es.flatMap fun x => lineT 101 (nE x)) ++ rest → (∀ x ∈ es, mayE x = true) → cycGo L (G pre.length) acc = (G (pre ++ es.flatMap fun x => lineT 101 (nE x)).length, acc ++ es)
 | [], pre, acc, h, _ => by
  rw [List.flatMap_nil, List.append_nil] at h ⊢
  rw [List.append_nil]
  exact cycGo_end acc (next_no h hr)
 | x :: es, pre, acc, h, hm => by
  rw [List.flatMap_cons] at h ⊢
  have e1 : L = pre ++ lineT 101 (nE x) ++ ((es.flatMap fun x => lineT 101 (nE x)) ++ rest) := by rw [h]; simp
  have e2 : L = pre ++ 101 :: (numsT (nE x) ++ [10] ++ ((es.flatMap fun x => lineT 101 (nE x)) ++ rest)) := by rw [e1]; unfold lineT; simp
  have hnx : nextR L (G pre.length) 101 = true := by rw [next_at 101 e2]; rfl
  have h6 := six_at e1 rfl (hm x (List.mem_cons_self))
  rw [cycGo_step (ok_G e2) acc hnx, h6]
  simp only [mkE_nE]
  rw [cyc_at rest hr es (pre ++ lineT 101 (nE x)) (acc ++ [x]) (by rw [e1]; simp) (fun y hy => hm y (List.mem_cons_of_mem _ hy))]
  simp
theorem mkF_nF (f : Fi) : mkF (nF f) f.f6 = f := rfl
theorem find_at {pre rest : List Int} {f : Fi} (hr : ∀ x r, rest = x :: r → x ≠ 101) (h : L = pre ++ findT f ++ rest) (hm : mayF f = true) : findR L (G pre.length) = (G (pre ++ findT f).length, f) := by
 obtain ⟨h1, h2, h3⟩ := mayF_iff.1 hm
 have e1 : L = pre ++ lineT 102 (nF f) ++ ((f.f6.flatMap fun x => lineT 101 (nE x)) ++ rest) := by rw [h]; unfold findT; simp
 have h6 := six_at e1 rfl h1
 unfold findR
 rw [h6]
 simp only
 rw [cyc_at rest hr f.f6 (pre ++ lineT 102 (nF f)) [] (by rw [e1]; simp) h3, List.nil_append, mkF_nF]
 simp only
 have e2 : pre ++ lineT 102 (nF f) ++ (f.f6.flatMap fun x => lineT 101 (nE x)) = pre ++ findT f := by unfold findT; simp
 rw [e2]
theorem find_head (f : Fi) (rest : List Int) : ∃ r, findT f ++ rest = 102 :: r := ⟨_, rfl⟩
theorem fs_at (rest : List Int) (hr : ∀ x r, rest = x :: r → x = 111) : ∀ (fs : List Fi) (pre : List Int) (acc : List Fi), L = pre ++ fs.flatMap findT ++ rest → (∀ f ∈ fs, mayF f = true) → fsGo L (G pre.length) acc = (G (pre ++ fs.flatMap findT).length, acc ++ fs)
 | [], pre, acc, h, _ => by
  rw [List.flatMap_nil, List.append_nil] at h ⊢
  rw [List.append_nil]
  exact fsGo_end acc (next_no h (fun x r e => by rw [hr x r e]; decide))
 | f :: fs, pre, acc, h, hm => by
  rw [List.flatMap_cons] at h ⊢
  have e1 : L = pre ++ findT f ++ (fs.flatMap findT ++ rest) := by rw [h]; simp
  obtain ⟨r, hh⟩ := find_head f (fs.flatMap findT ++ rest)
  have e2 : L = pre ++ 102 :: r := by rw [e1, List.append_assoc, hh]
  have hnx : nextR L (G pre.length) 102 = true := by rw [next_at 102 e2]; rfl
  have hr1 : ∀ x r, fs.flatMap findT ++ rest = x :: r → x ≠ 101 := by
   intro x r hx
   cases fs with
   | nil =>
    rw [List.flatMap_nil, List.nil_append] at hx
    rw [hr x r hx]; decide
   | cons g gs =>
    rw [List.flatMap_cons, List.append_assoc] at hx
    obtain ⟨r2, h2⟩ := find_head g (gs.flatMap findT ++ rest)
    rw [h2] at hx
    injection hx with hx _
    rw [← hx]; decide
  have hf := find_at hr1 e1 (hm f (List.mem_cons_self))
  rw [fsGo_step (ok_G e2) acc hnx, hf]
  simp only
  rw [fs_at rest hr fs (pre ++ findT f) (acc ++ [f]) (by rw [e1]; simp) (fun y hy => hm y (List.mem_cons_of_mem _ hy))]
  simp
theorem ordGo_at (rest : List Int) : ∀ (l pre acc : List Int), L = pre ++ numsT l ++ 10 :: rest → l.all okR = true → ordGo L (G pre.length) acc = (G (pre ++ numsT l).length, acc ++ l)
 | [], pre, acc, h, _ => by
  have e : pre ++ numsT [] = pre := by simp [numsT]
  rw [e] at h ⊢
  rw [List.append_nil]
  exact ordGo_end acc (by rw [next_at 32 h]; rfl)
 | x :: l, pre, acc, h, hok => by
  rw [List.all_cons, Bool.and_eq_true] at hok
  have e0 : numsT (x :: l) = 32 :: numT x ++ numsT l := rfl
  rw [e0] at h ⊢
  have e2 : L = pre ++ 32 :: (numT x ++ (numsT l ++ 10 :: rest)) := by rw [h]; simp
  have h1 := num_at (L := L) (pre := pre) (rest := numsT l ++ 10 :: rest) (n := x) (by rw [h]; simp) hok.1 (stop_nums l rest)
  rw [ordGo_step (ok_G e2) acc (by rw [next_at 32 e2]; rfl), h1]
  simp only
  rw [ordGo_at rest l (pre ++ (32 :: numT x)) (acc ++ [x]) (by rw [h]; simp) hok.2]
  simp
theorem ord_at {pre rest l : List Int} (h : L = pre ++ lineT 111 l ++ rest) (hok : l.all okR = true) : ordR L (G pre.length) = (G (pre ++ lineT 111 l).length, l) := by
 have e1 : L = pre ++ 111 :: (numsT l ++ 10 :: rest) := by rw [h]; unfold lineT; simp
 have hn := ordGo_at (L := L) rest l (pre ++ [111]) [] (by rw [e1]; simp) hok
 have h3 := byte_at (L := L) (pre := pre ++ [111] ++ numsT l) (rest := rest) (c := 10) (by rw [e1]; simp)
 unfold ordR
 rw [byte_at e1, hn]
 simp only [List.nil_append]
 rw [h3]
 have e4 : pre ++ [111] ++ numsT l ++ [10] = pre ++ lineT 111 l := by unfold lineT; simp
 rw [e4]
end
theorem par_back {lv : Int} {fs : List Fi} {o : List Int} (h : okRep lv fs o = true) : parR (repT lv fs o) = (lv, fs, o, 0, 0) := by
 obtain ⟨h1, h2, h3, h4, h5⟩ := okRep_iff.1 h
 have hlv : okR lv = true := okR_iff.2 (by omega)
 obtain ⟨L, hL⟩ : ∃ L, repT lv fs o = L := ⟨_, rfl⟩
 have e : L = lineT 108 [lv] ++ fs.flatMap findT ++ lineT 111 o := hL.symm
 have e1 : L = [] ++ 108 :: (numsT [lv] ++ 10 :: (fs.flatMap findT ++ lineT 111 o)) := by rw [e]; unfold lineT; simp
 have hb : byte L ⟨0, 0, 0⟩ 108 = G ([108] : List Int).length := byte_at (pre := []) e1
 have e2 : numsT [lv] = 32 :: numT lv := by unfold numsT; simp
 have hnum := num_at (L := L) (pre := [108]) (rest := 10 :: (fs.flatMap findT ++ lineT 111 o)) (n := lv) (by rw [e1, e2]; simp) hlv (stop_nums [] _)
 have hlvN : lvN L = (G (([108] : List Int) ++ (32 :: numT lv)).length, lv) := by unfold lvN; rw [hb, hnum]
 have h10 := byte_at (L := L) (pre := [108] ++ (32 :: numT lv)) (rest := fs.flatMap findT ++ lineT 111 o) (c := 10) (by rw [e1, e2]; simp)
 have e3 : [108] ++ (32 :: numT lv) ++ [10] = lineT 108 [lv] := by unfold lineT; rw [e2]; simp
 rw [e3] at h10
 have hfs := fs_at (L := L) (lineT 111 o) (fun x r hx => by unfold lineT at hx; rw [List.cons_append] at hx; injection hx with hx _; exact hx.symm) fs (lineT 108 [lv]) [] e h5
 have hfsN : fsN L = (G (lineT 108 [lv] ++ fs.flatMap findT).length, fs) := by
  unfold fsN
  rw [hlvN]
  simp only
  rw [h10, hfs, List.nil_append]
 have hod := ord_at (L := L) (pre := lineT 108 [lv] ++ fs.flatMap findT) (rest := []) (l := o) (by rw [e]; simp) h4
 have hodN : odN L = (G L.length, o) := by
  unfold odN
  rw [hfsN]
  simp only
  rw [hod, ← e]
 have hend : endN L = G L.length := by
  unfold endN
  rw [hodN]
  simp only
  rw [if_neg (show ¬ (G L.length).p < (L.length : Int) from Int.lt_irrefl _)]
 rw [hL]
 unfold parR
 rw [hend, hlvN, hfsN, hodN]
 simp only
 rw [if_pos (show (G L.length).e = 0 from rfl)]
 have hck : chk lv fs o = 0 := by unfold chk; rw [if_pos h]
 rw [if_pos hck]
theorem numT_bytes {n : Int} : Bytes (numT n) := by
 unfold numT
 split
 ·intro x hx; rw [List.mem_singleton] at hx; subst hx; decide
 ·exact low_bytes _ _
theorem lineT_bytes {c : Int} (hc : 0 ≤ c ∧ c ≤ 255) (l : List Int) : Bytes (lineT c l) := by
 intro x hx
 unfold lineT at hx
 rcases List.mem_append.1 hx with hx | hx
 ·rcases List.mem_cons.1 hx with rfl | hx
  ·exact hc
  ·unfold numsT at hx
   obtain ⟨n, _, hx⟩ := List.mem_flatMap.1 hx
   rcases List.mem_cons.1 hx with rfl | hx
   ·decide
   ·exact numT_bytes x hx
 ·rw [List.mem_singleton] at hx; subst hx; decide
theorem repT_bytes (lv : Int) (fs : List Fi) (o : List Int) : Bytes (repT lv fs o) := by
 intro x hx
 unfold repT at hx
 rcases List.mem_append.1 hx with hx | hx
 ·rcases List.mem_append.1 hx with hx | hx
  ·exact lineT_bytes (by decide) _ x hx
  ·obtain ⟨f, _, hx⟩ := List.mem_flatMap.1 hx
   unfold findT at hx
   rcases List.mem_append.1 hx with hx | hx
   ·exact lineT_bytes (by decide) _ x hx
   ·obtain ⟨e, _, hx⟩ := List.mem_flatMap.1 hx
    exact lineT_bytes (by decide) _ x hx
 ·exact lineT_bytes (by decide) _ x hx
theorem bytes_str (l : List Int) (h : Bytes l) : bytesOf (strOfNums l) = l := by
 unfold bytesOf strOfNums
 simp only [List.map_map]
 conv => rhs; rw [← List.map_id l]
 refine List.map_congr_left fun x hx => ?_
 have := h x hx
 simp only [Function.comp, id, UInt8.toNat_ofNat']
 omega
theorem text_iff {lv lv' : Int} {fs fs' : List Fi} {o o' : List Int} (h : okRep lv fs o = true) (h' : okRep lv' fs' o' = true) : strOfNums (repT lv fs o) = strOfNums (repT lv' fs' o') ↔ eqRep lv fs o lv' fs' o' = true := by
 rw [eqRep_iff]
 constructor
 ·intro e
  have e2 : repT lv fs o = repT lv' fs' o' := by rw [← bytes_str _ (repT_bytes lv fs o), e, bytes_str _ (repT_bytes lv' fs' o')]
  have e3 := par_back h
  rw [e2, par_back h'] at e3
  injection e3 with a1 e3
  injection e3 with a2 e3
  injection e3 with a3 _
  exact ⟨a1.symm, a2.symm, a3.symm⟩
 ·rintro ⟨rfl, rfl, rfl⟩; rfl
end Go.Proofs.Ytkoddmedhnhgiaa.Rp
