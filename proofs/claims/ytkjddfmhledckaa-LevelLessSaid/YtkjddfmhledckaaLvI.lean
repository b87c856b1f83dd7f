/- Law 30's plain laws: levels and rows of findings. -/
import Derived.Test.YtkjddfmhledckaaLvH
set_option linter.unusedSimpArgs false
namespace Go.Proofs.Ytkjddfmhledckaa.Lv
open Go.RowKit Go.Proofs.Ytkjddfmhledckaa.PLevelOf Go.Proofs.YtkjddfmhledckaaW.PrintWords
set_option linter.unusedVariables false

theorem rbars_ev (n x : Int) : Ev (fun k => coronerref30_Bars.f k n x) (barsP n x) := by
  obtain ⟨K, hK⟩ := rbars_plain n x
  exact Ev.of (coronerref30_Bars.mono n x) hK
theorem rd32 {l : List S32} {i : Nat} (h : i < l.length) : rd_T32 l (i : Int) = l[i] := by
  simp [rd_T32, List.getD_eq_getElem?_getD, List.getElem?_eq_getElem h]
theorem wrapS {i n : Nat} (h : i < n) (hn : n ≤ 140737488355328) : wrap64 ((i : Int) + 1) = ((i + 1 : Nat) : Int) := by unfold wrap64; omega

def ofG (n : Int) : List S32 → Int
  | [] => n
  | p :: l => ofG (mn n (fromP p.f0 - 1)) l
def ofP (l : List S32) : Int := ofG 4 l
theorem le_ofG (m : Int) : ∀ (l : List S32) (n : Int), m ≤ ofG n l ↔ m ≤ n ∧ ∀ p ∈ l, m < fromP p.f0
  | [], n => by simp [ofG]
  | p :: l, n => by
    have : m ≤ mn n (fromP p.f0 - 1) ↔ m ≤ n ∧ m < fromP p.f0 := by unfold mn; split <;> omega
    rw [ofG, le_ofG m l, this]
    simp [and_assoc]
theorem le_ofP (m : Int) (l : List S32) (hm : m ≤ 4) : m ≤ ofP l ↔ ∀ p ∈ l, m < fromP p.f0 := by
  unfold ofP; rw [le_ofG]; simp [hm]
theorem ofP_in (l : List S32) : 0 ≤ ofP l ∧ ofP l ≤ 4 := by
  refine ⟨(le_ofP 0 l (by omega)).2 fun p _ => by have := fromP_in p.f0; omega, ?_⟩
  exact ((le_ofG (ofP l) l 4).1 (Int.le_refl _)).1
theorem int_eq_of_le {a b : Int} (ha : a ≤ 4) (hb : b ≤ 4) (h : ∀ m : Int, m ≤ 4 → (m ≤ a ↔ m ≤ b)) : a = b := by
  have h1 := (h a ha).1 (Int.le_refl _)
  have h2 := (h b hb).2 (Int.le_refl _)
  omega

theorem of_loop (l : List S32) (hl : l.length ≤ 140737488355328) : ∀ (d i : Nat) (n : Int), 0 ≤ n → n ≤ 4 → i + d = l.length → Ev (fun k => level_Of.l0 k n l (l.length : Int) (i : Int)) (ofG n (l.drop i))
  | 0, i, n, h0, h4, hi => by
    refine Ev.step (f := fun _ => some n) (fun k => ?_) ?_
    · simp only [level_Of.l0]; rw [if_neg (by omega)]
    · rw [List.drop_eq_nil_of_le (by omega)]; exact Ev.now _
  | d + 1, i, n, h0, h4, hi => by
    have hlt : i < l.length := by omega
    have hf := fromP_in (l[i]).f0
    refine Ev.step (f := fun k => (level_from.f k ((rd_T32 l (i : Int)).f0)).bind fun t => level_Of.l0 k (mn n (wrap64 (t - 1))) l (l.length : Int) (wrap64 ((i : Int) + 1))) (fun k => ?_) ?_
    · simp only [level_Of.l0]; rw [if_pos (by omega), if_pos (by omega), if_pos (by omega)]
    · refine Ev.bind (a := fromP (l[i]).f0) ⟨1, fun k hk => ?_⟩ ?_
      · obtain ⟨m, rfl⟩ : ∃ m, k = m + 1 := ⟨k - 1, by omega⟩
        rw [rd32 hlt]; exact from_plain m _
      · have hw : wrap64 (fromP (l[i]).f0 - 1) = fromP (l[i]).f0 - 1 := by unfold wrap64; omega
        have hm : 0 ≤ mn n (fromP (l[i]).f0 - 1) ∧ mn n (fromP (l[i]).f0 - 1) ≤ 4 := by unfold mn; split <;> omega
        rw [wrapS hlt hl, hw, List.drop_eq_getElem_cons hlt]
        exact of_loop l hl d (i + 1) _ hm.1 hm.2 (by omega)
theorem of_ev (l : List S32) (hl : l.length ≤ 140737488355328) : Ev (fun k => level_Of.f k l) (ofP l) := of_loop l hl l.length 0 4 (by omega) (by omega) (by omega)

theorem meets_loop (n : Int) (l : List S32) (hl : l.length ≤ 140737488355328) : ∀ (d i : Nat), i + d = l.length → Ev (fun k => coronerref30_Meets.l0 k n l (i : Int)) ((l.drop i).all fun p => !barsP n p.f0)
  | 0, i, hi => by
    refine Ev.step (f := fun _ => some true) (fun k => ?_) ?_
    · simp only [coronerref30_Meets.l0]; rw [if_neg (by omega)]
    · rw [List.drop_eq_nil_of_le (by omega)]; exact Ev.now _
  | d + 1, i, hi => by
    have hlt : i < l.length := by omega
    refine Ev.step (f := fun k => (coronerref30_Bars.f k n ((rd_T32 l (i : Int)).f0)).bind fun t => if t = true then some false else coronerref30_Meets.l0 k n l (wrap64 ((i : Int) + 1))) (fun k => ?_) ?_
    · simp only [coronerref30_Meets.l0]; rw [if_pos (by omega), if_pos (by omega)]
    · rw [rd32 hlt, wrapS hlt hl, List.drop_eq_getElem_cons hlt, List.all_cons]
      refine Ev.bind (rbars_ev n _) ?_
      cases barsP n (l[i]).f0 with
      | true => exact Ev.congr (fun k => if_pos rfl) (Ev.now _)
      | false => exact Ev.congr (fun k => if_neg (by decide)) (meets_loop n l hl d (i + 1) (by omega))
theorem meets_ev (n : Int) (l : List S32) (hl : l.length ≤ 140737488355328) : Ev (fun k => coronerref30_Meets.f k n l) (l.all fun p => !barsP n p.f0) := meets_loop n l hl l.length 0 (by omega)
theorem meets_of (a : Int) (l : List S32) (h4 : a ≤ 4) : (l.all fun p => !barsP a p.f0) = decide (a ≤ ofP l) := by
  rw [Bool.eq_iff_iff, List.all_eq_true, decide_eq_true_iff, le_ofP a l h4]
  constructor
  · intro h p hp
    have := h p hp
    unfold barsP at this
    simp [h4] at this; omega
  · intro h p hp
    have := h p hp
    unfold barsP
    simp [h4]; omega
theorem rof_loop (l : List S32) (hl : l.length ≤ 140737488355328) : ∀ (d : Nat) (a x : Int), 0 ≤ a → a + d = 5 → Ev (fun k => coronerref30_Of.l0 k l x a) (if a ≤ ofP l then ofP l else x)
  | 0, a, x, h0, hd => by
    have := ofP_in l
    rw [if_neg (by omega)]
    exact Ev.step (f := fun _ => some x) (fun k => by simp only [coronerref30_Of.l0]; rw [if_neg (by omega)]) (Ev.now _)
  | d + 1, a, x, h0, hd => by
    have hw : wrap64 (a + 1) = a + 1 := by unfold wrap64; omega
    refine Ev.step (f := fun k => (coronerref30_Meets.f k a l).bind fun t => if t = true then coronerref30_Of.l0 k l a (wrap64 (a + 1)) else coronerref30_Of.l0 k l x (wrap64 (a + 1))) (fun k => ?_) ?_
    · simp only [coronerref30_Of.l0]; rw [if_pos (by omega)]
    · rw [hw]
      refine Ev.bind (meets_ev a l hl) ?_
      rw [meets_of a l (by omega)]
      by_cases hc : a ≤ ofP l
      · rw [decide_eq_true hc, if_pos hc]
        have := rof_loop l hl d (a + 1) a (by omega) (by omega)
        have e : (if a + 1 ≤ ofP l then ofP l else a) = ofP l := by split <;> omega
        rw [e] at this
        exact Ev.congr (fun k => if_pos rfl) this
      · rw [decide_eq_false hc, if_neg hc]
        have := rof_loop l hl d (a + 1) x (by omega) (by omega)
        rw [if_neg (by omega)] at this
        exact Ev.congr (fun k => if_neg (by decide)) this
theorem rof_ev (l : List S32) (hl : l.length ≤ 140737488355328) : Ev (fun k => coronerref30_Of.f k l) (ofP l) := by
  have := rof_loop l hl 5 0 0 (by omega) (by omega)
  rw [if_pos (ofP_in l).1] at this
  exact this

def kindIs (a : Nat) (p : S32) : Bool := decide (p.f0 = (a : Int))
theorem rsort_l1 (l : List S32) (hl : l.length ≤ 140737488355328) (x : List S32) (a : Nat) (ha : a ≤ 11) (hx : x.length < 1954687338268) (r : List S32) : ∀ (d i : Nat), i + d = l.length →
    Ev (fun k => coronerref30_Sort.l0 k l (x ++ ((l.drop i).find? (kindIs a)).toList) ((a + 1 : Nat) : Int)) r → Ev (fun k => coronerref30_Sort.l1 k l x (a : Int) (i : Int)) r
  | 0, i, hi, h => by
    have hw : wrap64 ((a : Int) + 1) = ((a + 1 : Nat) : Int) := by unfold wrap64; omega
    rw [List.drop_eq_nil_of_le (by omega)] at h
    simp only [List.find?_nil, Option.toList_none, List.append_nil] at h
    refine Ev.step (fun k => ?_) h
    simp only [coronerref30_Sort.l1]; rw [if_neg (by omega), hw]
  | d + 1, i, hi, h => by
    have hw : wrap64 ((a : Int) + 1) = ((a + 1 : Nat) : Int) := by unfold wrap64; omega
    have hlt : i < l.length := by omega
    rw [List.drop_eq_getElem_cons hlt, List.find?_cons] at h
    by_cases hk : (l[i]).f0 = (a : Int)
    · have : kindIs a l[i] = true := by simp [kindIs, hk]
      rw [this] at h
      refine Ev.step (fun k => ?_) h
      simp only [coronerref30_Sort.l1]
      rw [rd32 hlt, if_pos (by omega), if_pos (by omega), if_pos hk, if_pos hx, hw]
      rfl
    · have : kindIs a l[i] = false := by simp [kindIs, hk]
      rw [this] at h
      refine Ev.step (fun k => ?_) (rsort_l1 l hl x a ha hx r d (i + 1) (by omega) h)
      simp only [coronerref30_Sort.l1]
      rw [rd32 hlt, if_pos (by omega), if_pos (by omega), if_neg hk, wrapS hlt hl]
theorem rsort_l0 (l : List S32) (hl : l.length ≤ 140737488355328) : ∀ (d a : Nat) (x : List S32), a + d = 12 → x.length + d < 1954687338268 → Ev (fun k => coronerref30_Sort.l0 k l x (a : Int)) (x ++ (List.range' a d).filterMap fun k => l.find? (kindIs k))
  | 0, a, x, ha, hx => by
    rw [List.range'_zero, List.filterMap_nil, List.append_nil]
    exact Ev.step (f := fun _ => some x) (fun k => by simp only [coronerref30_Sort.l0]; rw [if_neg (by omega)]) (Ev.now _)
  | d + 1, a, x, ha, hx => by
    refine Ev.step (f := fun k => coronerref30_Sort.l1 k l x (a : Int) ((0 : Nat) : Int)) (fun k => ?_) ?_
    · simp only [coronerref30_Sort.l0]; rw [if_pos (by omega)]; rfl
    · refine rsort_l1 l hl x a (by omega) (by omega) _ l.length 0 (by omega) ?_
      have hle : (x ++ (l.find? (kindIs a)).toList).length ≤ x.length + 1 := by
        rw [List.length_append]; cases l.find? (kindIs a) <;> simp
      have := rsort_l0 l hl d (a + 1) (x ++ (l.find? (kindIs a)).toList) (by omega) (by omega)
      rw [List.range'_succ, List.filterMap_cons, List.drop_zero]
      cases hf : l.find? (kindIs a) with
      | none => rw [hf] at this; simpa using this
      | some p => rw [hf] at this; simpa using this
theorem rsort_ev (l : List S32) (hl : l.length ≤ 140737488355328) : Ev (fun k => coronerref30_Sort.f k l) (sortP l) := by
  have := rsort_l0 l hl 11 1 [] (by omega) (by simp)
  exact this

theorem sortP_le (l : List S32) : (sortP l).length ≤ 11 := Nat.le_trans (List.length_filterMap_le ..) (by simp)
theorem mem_sortP {l : List S32} {p : S32} (h : p ∈ sortP l) : p ∈ l := by
  unfold sortP at h
  obtain ⟨k, _, hk⟩ := List.mem_filterMap.1 h
  exact List.mem_of_find?_eq_some hk
theorem ofP_sort (l : List S32) : ofP (sortP l) = ofP l := by
  refine int_eq_of_le (ofP_in _).2 (ofP_in _).2 fun m hm => ?_
  rw [le_ofP m _ hm, le_ofP m _ hm]
  constructor
  · intro h p hp
    by_cases hx : 1 ≤ p.f0 ∧ p.f0 ≤ 11
    · have hs : (l.find? fun q : S32 => decide (q.f0 = ((p.f0.toNat : Nat) : Int))).isSome = true := by
        rw [List.find?_isSome]
        exact ⟨p, hp, by simp; omega⟩
      obtain ⟨q, hq⟩ := Option.isSome_iff_exists.1 hs
      have hqf : q.f0 = p.f0 := by
        have := List.find?_some hq
        simp at this; omega
      have := h q (List.mem_filterMap.2 ⟨p.f0.toNat, by rw [List.mem_range'_1]; omega, hq⟩)
      rw [← hqf]; exact this
    · have hf : fromP p.f0 = 5 := by unfold fromP; rw [if_neg (by omega), if_neg (by omega), if_neg (by omega), if_neg (by omega)]
      omega
  · intro h p hp
    exact h p (mem_sortP hp)
theorem ofP_more (l : List S32) (p : S32) : ofP (l ++ [p]) = mn (ofP l) (ofP [p]) := by
  have h4 : mn (ofP l) (ofP [p]) ≤ 4 := by have := ofP_in l; have := ofP_in [p]; unfold mn; split <;> omega
  refine int_eq_of_le (ofP_in _).2 h4 fun m hm => ?_
  have : m ≤ mn (ofP l) (ofP [p]) ↔ m ≤ ofP l ∧ m ≤ ofP [p] := by unfold mn; split <;> omega
  rw [this, le_ofP m _ hm, le_ofP m _ hm, le_ofP m _ hm]
  simp only [List.mem_append, List.mem_singleton]
  constructor
  · exact fun h => ⟨fun q hq => h q (.inl hq), fun q hq => h q (.inr hq)⟩
  · rintro ⟨h1, h2⟩ q (hq | hq)
    · exact h1 q hq
    · exact h2 q hq
theorem not_barred {l : List S32} {n : Int} (hn : n ≤ ofP l) {p : S32} (hp : p ∈ l) : barsP n p.f0 = false := by
  have h4 := (ofP_in l).2
  have := (le_ofP n l (by omega)).1 hn p hp
  unfold barsP
  simp; omega

theorem edges_loop (e : List S56) (he : e.length ≤ 140737488355328) : ∀ (d i : Nat), i + d = e.length → Ev (fun k => coronerref13_SameEdges.l0 k e e (i : Int)) true
  | 0, i, hi => Ev.step (f := fun _ => some true) (fun k => by simp only [coronerref13_SameEdges.l0]; rw [if_neg (by omega)]) (Ev.now _)
  | d + 1, i, hi => by
    have hlt : i < e.length := by omega
    refine Ev.step (fun k => ?_) (edges_loop e he d (i + 1) (by omega))
    simp only [coronerref13_SameEdges.l0]
    rw [if_pos (by omega), if_pos (by omega), if_pos (by omega), if_neg (by simp), wrapS hlt he]
theorem edges_ev (e : List S56) (he : e.length ≤ 140737488355328) : Ev (fun k => coronerref13_SameEdges.f k e e) true := by
  refine Ev.congr (fun k => ?_) (edges_loop e he e.length 0 (by omega))
  unfold coronerref13_SameEdges.f
  rw [if_pos rfl]; rfl
theorem finding_ev (p : S32) (he : p.f6.length ≤ 140737488355328) : Ev (fun k => coronerref13_SameFinding.f k p.f0 p.f1 p.f2 p.f3 p.f4 p.f5 p.f6 p.f0 p.f1 p.f2 p.f3 p.f4 p.f5 p.f6) true := by
  refine Ev.congr (f := fun k => (coronerref13_SameEdges.f k p.f6 p.f6).bind fun t => some t) (fun k => ?_) (Ev.bind (edges_ev p.f6 he) (Ev.now _))
  unfold coronerref13_SameFinding.f
  rw [if_pos rfl, if_pos rfl, if_pos rfl, if_pos rfl, if_pos rfl, if_pos rfl]
theorem same_loop (l : List S32) (hl : l.length ≤ 140737488355328) (he : ∀ p ∈ l, p.f6.length ≤ 140737488355328) : ∀ (d i : Nat), i + d = l.length → Ev (fun k => coronerref13_SameFindings.l0 k l l (i : Int)) true
  | 0, i, hi => Ev.step (f := fun _ => some true) (fun k => by simp only [coronerref13_SameFindings.l0]; rw [if_neg (by omega)]) (Ev.now _)
  | d + 1, i, hi => by
    have hlt : i < l.length := by omega
    refine Ev.step (f := fun k => (coronerref13_SameFinding.f k (l[i]).f0 (l[i]).f1 (l[i]).f2 (l[i]).f3 (l[i]).f4 (l[i]).f5 (l[i]).f6 (l[i]).f0 (l[i]).f1 (l[i]).f2 (l[i]).f3 (l[i]).f4 (l[i]).f5 (l[i]).f6).bind fun t => if t = true then coronerref13_SameFindings.l0 k l l ((i + 1 : Nat) : Int) else some false) (fun k => ?_) ?_
    · simp only [coronerref13_SameFindings.l0]
      rw [if_pos (by omega), if_pos (by omega), if_pos (by omega), rd32 hlt, wrapS hlt hl]
    · refine Ev.bind (finding_ev _ (he _ (List.getElem_mem hlt))) ?_
      exact Ev.congr (fun k => if_pos rfl) (same_loop l hl he d (i + 1) (by omega))
theorem same_ev (l : List S32) (hl : l.length ≤ 140737488355328) (he : ∀ p ∈ l, p.f6.length ≤ 140737488355328) : Ev (fun k => coronerref13_SameFindings.f k l l) true := by
  refine Ev.congr (fun k => ?_) (same_loop l hl he l.length 0 (by omega))
  unfold coronerref13_SameFindings.f
  rw [if_pos rfl]; rfl

def fewP (l : List S32) : Bool := decide (l.length ≤ 60) && l.all fun p => decide (p.f6.length ≤ 100)
theorem few_loop (l : List S32) (hl : l.length ≤ 60) : ∀ (d i : Nat), i + d = l.length → Ev (fun k => coronerlaw30_few.l0 k l (i : Int)) ((l.drop i).all fun p => decide (p.f6.length ≤ 100))
  | 0, i, hi => by
    rw [List.drop_eq_nil_of_le (by omega)]
    exact Ev.step (f := fun _ => some true) (fun k => by simp only [coronerlaw30_few.l0]; rw [if_neg (by omega)]) (Ev.now _)
  | d + 1, i, hi => by
    have hlt : i < l.length := by omega
    rw [List.drop_eq_getElem_cons hlt, List.all_cons]
    by_cases hc : (l[i]).f6.length ≤ 100
    · rw [decide_eq_true hc, Bool.true_and]
      refine Ev.step (fun k => ?_) (few_loop l hl d (i + 1) (by omega))
      simp only [coronerlaw30_few.l0]
      rw [if_pos (by omega), if_pos (by omega), rd32 hlt, if_neg (by omega), wrapS hlt (by omega)]
    · rw [decide_eq_false hc, Bool.false_and]
      refine Ev.step (f := fun _ => some false) (fun k => ?_) (Ev.now _)
      simp only [coronerlaw30_few.l0]
      rw [if_pos (by omega), if_pos (by omega), rd32 hlt, if_pos (by omega)]
theorem few_ev (l : List S32) : Ev (fun k => coronerlaw30_few.f k l) (fewP l) := by
  unfold fewP
  by_cases hc : l.length ≤ 60
  · rw [decide_eq_true hc, Bool.true_and]
    refine Ev.congr (fun k => ?_) (few_loop l hc l.length 0 (by omega))
    unfold coronerlaw30_few.f
    rw [if_neg (by omega)]; rfl
  · rw [decide_eq_false hc, Bool.false_and]
    refine Ev.congr (fun k => ?_) (Ev.now _)
    unfold coronerlaw30_few.f
    rw [if_pos (by omega)]
theorem fewP_true {l : List S32} (h : fewP l = true) : l.length ≤ 60 ∧ ∀ p ∈ l, p.f6.length ≤ 100 := by
  unfold fewP at h
  simp at h
  exact h

theorem name_plain (n : Int) : ∃ s, level_Name.f n = some s ∧ coronerref30_Name.f n = some s := by
  unfold level_Name.f coronerref30_Name.f level_names.f
  simp only [Option.bind_some]
  unfold level_at.f
  by_cases h0 : n < 0
  · rw [if_pos h0]; exact ⟨_, rfl, rfl⟩
  · rw [if_neg h0]
    by_cases h5 : n ≥ 5
    · rw [if_pos (by exact h5)]; exact ⟨_, rfl, rfl⟩
    · rw [if_neg (by exact h5), if_pos (by omega), if_pos (by show n < 5; omega)]
      exact ⟨_, rfl, rfl⟩
theorem phen_plain (n : Int) : ∃ s, level_Phenomenon.f n = some s ∧ coronerref30_Phenomenon.f n = some s := by
  by_cases h : 1 ≤ n ∧ n ≤ 11
  · rcases cases11 h with rfl | rfl | rfl | rfl | rfl | rfl | rfl | rfl | rfl | rfl | rfl <;> exact ⟨_, rfl, by first | rfl | (simp [coronerref30_Phenomenon.f, wrap64, rdOf]; done)⟩
  · unfold level_Phenomenon.f coronerref30_Phenomenon.f level_names.f
    simp only [Option.bind_some]
    unfold level_at.f
    by_cases h0 : n < 0
    · rw [if_pos h0, if_pos (by omega)]; exact ⟨_, rfl, rfl⟩
    · by_cases h1 : n = 0
      · subst h1; exact ⟨_, rfl, rfl⟩
      · rw [if_neg h0, if_pos (by show n ≥ 12; omega), if_neg (by omega), if_pos (by show n > 11; omega)]; exact ⟨_, rfl, rfl⟩
end Go.Proofs.Ytkjddfmhledckaa.Lv
