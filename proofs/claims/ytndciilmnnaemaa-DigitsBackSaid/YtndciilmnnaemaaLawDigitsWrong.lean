/- The walk of the law DigitsWrong, branch by branch. -/
import Derived.Test.YtndciilmnnaemaaLawDigits
set_option linter.unusedVariables false
set_option linter.unusedSimpArgs false
namespace Go.Proofs.Ytndciilmnnaemaa
open Go.RowKit Go.Proofs.YtndciilmnnaemaaW.PrintWords

/-- What digits.Parse is known to answer there. -/
def ParseTells (A : Option Addr) (c m : Nat) (a : Int) (n tt : Int) (is : Bool) (w : World) : Prop :=
  Calls Try.prog 20 #[.slice A m c, .int .i64 a] w fun e w' => e = .returned (.tuple #[.int .i64 n, .int .i64 tt, .bool is]) ∧ Drawn0 w w'
def WorksWell : Prop := ∀ W, Calls Try.prog 19 #[] W fun e w' => e = .returned (.bool true) ∧ Below W.heap.size W w'
theorem works_well : WorksWell := works01

set_option maxRecDepth 100000 in
set_option maxHeartbeats 400000 in
theorem wrong_yes (w : World) (A : Option Addr) (c : Nat) (l : List Int) (a n tt : Int) (WK : WorksWell) (h : (l.length : Int) ≤ 300) (h0 : 0 ≤ a) (h1 : a ≤ l.length) (hlt : a < tt) (htl : tt ≤ l.length) (HC : ParseTells A c l.length a n tt true w) :
    Calls Try.prog 7 #[.slice A l.length c, .int .i64 a] w fun e w' => e = .returned (.bool true) ∧ Below w.heap.size w w' := by
  have hna : ¬ tt < a := by omega
  go_enter Try.func7, Try.ntmps7
  go_wp2_with fail
  refine Calls.mono HC ?_
  rintro e w1 ⟨rfl, hd⟩
  replace hd := hd.below
  go_wp2_with fail
  refine (WK _).mono ?_
  rintro e w3 ⟨rfl, hd3⟩
  replace hd := hd.trans (hd3.mono hd.size); clear hd3
  go_wp2
  go_ret
  exact ⟨rfl, hd⟩

set_option maxRecDepth 100000 in
set_option maxHeartbeats 400000 in
theorem wrong_end (w : World) (A : Option Addr) (c : Nat) (l : List Int) (n tt : Int) (WK : WorksWell) (h : (l.length : Int) ≤ 300) (h0 : 0 ≤ tt) (h1 : tt ≤ l.length) (e1 : (tt == (l.length : Int)) = true) (HC : ParseTells A c l.length tt n tt false w) :
    Calls Try.prog 7 #[.slice A l.length c, .int .i64 tt] w fun e w' => e = .returned (.bool true) ∧ Below w.heap.size w w' := by
  have e0 : (tt == tt) = true := by simp
  go_enter Try.func7, Try.ntmps7
  go_wp2_with fail
  refine Calls.mono HC ?_
  rintro e w1 ⟨rfl, hd⟩
  replace hd := hd.below
  go_wp2_with fail
  refine (WK _).mono ?_
  rintro e w3 ⟨rfl, hd3⟩
  replace hd := hd.trans (hd3.mono hd.size); clear hd3
  go_wp2
  go_ret
  exact ⟨rfl, hd⟩

set_option maxRecDepth 100000 in
set_option maxHeartbeats 400000 in
theorem wrong_first (w : World) (ad : Addr) (c : Nat) (l : List Int) (n tt x : Int) (WK : WorksWell) (h : (l.length : Int) ≤ 300) (h0 : 0 ≤ tt) (h1 : tt < l.length) (e1 : (tt == (l.length : Int)) = false)
    (hx' : Hid (w.cell? (ad.add tt.toNat) = some (.int .u8 x))) (hdig : Hid (¬ (48 ≤ x ∧ x ≤ 57))) (HC : ParseTells (some ad) c l.length tt n tt false w) :
    Calls Try.prog 7 #[.slice (some ad) l.length c, .int .i64 tt] w fun e w' => e = .returned (.bool true) ∧ Below w.heap.size w w' := by
  have e0 : (tt == tt) = true := by simp
  have h1' : tt ≤ l.length := by omega
  go_enter Try.func7, Try.ntmps7
  go_wp2_with fail
  refine Calls.mono HC ?_
  rintro e w1 ⟨rfl, hd⟩
  replace hd := hd.below
  have hx := pw_cell_below hd hx'.out
  go_wp2_with fail
  refine (digit_calls _ _).mono ?_
  rintro e w2 ⟨rfl, hd2⟩
  rw [decide_eq_false hdig.out]
  replace hd := hd.trans (hd2.below.mono hd.size); clear hd2
  go_wp2_with fail
  refine (WK _).mono ?_
  rintro e w3 ⟨rfl, hd3⟩
  replace hd := hd.trans (hd3.mono hd.size); clear hd3
  go_wp2
  go_ret
  exact ⟨rfl, hd⟩

set_option maxRecDepth 100000 in
set_option maxHeartbeats 400000 in
theorem wrong_later (w : World) (ad : Addr) (c : Nat) (l : List Int) (a n tt x n2 : Int) (WK : WorksWell) (h : (l.length : Int) ≤ 300) (h0 : 0 ≤ a) (h1 : a ≤ l.length) (hlt : a < tt) (htl : tt < l.length)
    (hx' : Hid (w.cell? (ad.add tt.toNat) = some (.int .u8 x))) (hdig : Hid (48 ≤ x ∧ x ≤ 57)) (HC : ParseTells (some ad) c l.length a n tt false w) (hc : l.length ≤ c)
    (H2 : ∀ w1, Below w.heap.size w w1 → ParseTells (some ad) c tt.toNat a n2 tt true w1) :
    Calls Try.prog 7 #[.slice (some ad) l.length c, .int .i64 a] w fun e w' => e = .returned (.bool true) ∧ Below w.heap.size w w' := by
  have hna : ¬ tt < a := by omega
  have e0 : (tt == a) = false := beq_eq_false_iff_ne.2 (by omega)
  obtain ⟨hsl, _, _⟩ := print_take_int (P := Try.prog) (k := .u8) 22 5 Try.underlying22 (i := _) rfl rfl (some ad) c l tt (by omega) (by omega) hc
  go_enter Try.func7, Try.ntmps7
  go_wp2_with fail
  refine Calls.mono HC ?_
  rintro e w1 ⟨rfl, hd⟩
  replace hd := hd.below
  go_wp2_with fail
  refine Calls.mono (H2 _ hd) ?_
  rintro e w2 ⟨rfl, hd2⟩
  replace hd := hd.trans (hd2.below.mono hd.size); clear hd2
  have hx := pw_cell_below hd hx'.out
  go_wp2_with fail
  refine (digit_calls _ _).mono ?_
  rintro e w3 ⟨rfl, hd3⟩
  rw [decide_eq_true hdig.out]
  replace hd := hd.trans (hd3.below.mono hd.size); clear hd3
  go_wp2_with fail
  refine (WK _).mono ?_
  rintro e w3 ⟨rfl, hd3⟩
  replace hd := hd.trans (hd3.mono hd.size); clear hd3
  go_wp2
  go_ret
  exact ⟨rfl, hd⟩

set_option maxRecDepth 100000 in
set_option maxHeartbeats 400000 in
theorem wrong_none (w : World) (A : Option Addr) (c : Nat) (l : List Int) (a : Int) (WK : WorksWell) (h : ¬ (l.length : Int) ≤ 300 ∨ a < 0 ∨ (l.length : Int) < a) :
    Calls Try.prog 7 #[.slice A l.length c, .int .i64 a] w fun e w' => e = .returned (.bool true) ∧ Below w.heap.size w w' := by
  by_cases h1 : (l.length : Int) ≤ 300
  · by_cases h2 : a < 0
    · clear h
      go_enter Try.func7, Try.ntmps7
      go_wp2_with fail
      refine (WK _).mono ?_
      rintro e w3 ⟨rfl, hd⟩
      go_wp2
      go_ret
      exact ⟨rfl, hd⟩
    · have h3 : (l.length : Int) < a := by omega
      clear h
      go_enter Try.func7, Try.ntmps7
      go_wp2_with fail
      refine (WK _).mono ?_
      rintro e w3 ⟨rfl, hd⟩
      go_wp2
      go_ret
      exact ⟨rfl, hd⟩
  · clear h
    go_enter Try.func7, Try.ntmps7
    go_wp2_with fail
    refine (WK _).mono ?_
    rintro e w3 ⟨rfl, hd⟩
    go_wp2
    go_ret
    exact ⟨rfl, hd⟩

theorem walk_DigitsWrong (w : World) (A : Option Addr) (c : Nat) (l : List Int) (hr : Kd.C (Kd.int .u8) w A l.length l) (hc : l.length ≤ c) (hb : ∀ x ∈ l, (Lit.int .u8 x).wf = true) (hs : l.length * 1 ≤ 140737488351232) (a : Int) (_ha : (Lit.int .i64 a).wf = true) :
    Calls Try.prog 7 #[.slice A l.length c, .int .i64 a] w fun e w' => e = .returned (.bool true) ∧ Below w.heap.size w w' := by
  have HB := bytes_of_wf hb
  by_cases hn : ¬ (l.length : Int) ≤ 300 ∨ a < 0 ∨ (l.length : Int) < a
  · exact wrong_none w A c l a works_well hn
  · have h : (l.length : Int) ≤ 300 := by omega
    have h0 : 0 ≤ a := by omega
    have h1 : a ≤ l.length := by omega
    have HT := parse_to l a h0 h1
    have HC : ParseTells A c l.length a (parse l a).1 (parse l a).2.1 (parse l a).2.2 w := parse_calls l a A c w hr hc HB (by omega)
    cases his : (parse l a).2.2 with
    | true =>
      rw [his] at HC
      exact wrong_yes w A c l a _ _ works_well h h0 h1 (parse_on l a his) HT.2 HC
    | false =>
      rw [his] at HC
      by_cases hta : (parse l a).2.1 = a
      · rw [hta] at HC
        by_cases hte : a = l.length
        · exact wrong_end w A c l _ a works_well h h0 h1 (by simpa using hte) HC
        · obtain ⟨ad, rfl, hx⟩ := Kd.at_int hr a h0 (by omega)
          exact wrong_first w ad c l _ a _ works_well h h0 (by omega) (by simpa using hte) hx (parse_first l a h0 (by omega) his hta) HC
      · obtain ⟨q1, q2, q3⟩ := parse_wrong l a h0 h1 his (by omega)
        obtain ⟨ad, rfl, hx⟩ := Kd.at_int hr (parse l a).2.1 (by omega) q2
        refine wrong_later w ad c l a _ _ _ (parse (l.take (parse l a).2.1.toNat) a).1 works_well h h0 h1 (by omega) q2 hx q3 HC hc (fun w1 hd => ?_)
        have e : (l.take (parse l a).2.1.toNat).length = (parse l a).2.1.toNat := by rw [List.length_take]; omega
        have hp := parse_calls (l.take (parse l a).2.1.toNat) a (some ad) c w1 (Kd.C_take (Kd.C_below hr hd) (by omega)) (by omega) (fun x hx => HB x (List.mem_of_mem_take hx)) (by omega)
        rw [e, q1] at hp
        exact hp
end Go.Proofs.Ytndciilmnnaemaa
