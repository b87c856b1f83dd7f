/- Law 30's callees with their answers; the rows of findings that come in. -/
import Derived.Test.YtkjddfmhledckaaLvI
import Derived.Test.YtkjddfmhledckaaOpenB
set_option linter.unusedSimpArgs false
namespace Go.Proofs.Ytkjddfmhledckaa.Lv
open Go.Shelf Go.RowKit Go.Lib Go.Sort Go.Proofs.Ytkjddfmhledckaa.PLevelOf Go.Proofs.YtkjddfmhledckaaW.PrintWords
set_option linter.unusedVariables false

theorem link {w a b : World} (h : Below w.heap.size w a) (k : Below a.heap.size a b) : Below w.heap.size w b := h.trans (k.mono h.size)
theorem drawn_bel {a b : World} (h : Drawn0 a b) : Below a.heap.size a b := by
  obtain ⟨n, rfl⟩ := h
  exact ⟨rfl, rfl, rfl, Nat.le_refl _, fun _ _ => rfl⟩
theorem cell_same {W W' : World} (h : ∀ k, k < W.heap.size → W'.heap[k]? = W.heap[k]?) {p : Addr} {v : Value} (hc : W.cell? p = some v) : W'.cell? p = some v := by
  have hl := block_lt_of_cell hc
  unfold World.cell? at *
  rw [h _ hl]; exact hc
theorem C56_same {W W' : World} {A : Option Addr} {n : Nat} {xs : List S56} (h : ∀ k, k < W.heap.size → W'.heap[k]? = W.heap[k]?) (hc : Kd.C k56 W A n xs) : Kd.C k56 W' A n xs := by
  obtain ⟨h1, h2, h3⟩ := hc
  refine ⟨h1, h2, fun h0 => ?_⟩
  obtain ⟨ad, e, hx⟩ := h3 h0
  refine ⟨ad, e, fun j p hp => ?_⟩
  obtain ⟨c, hl, hK, hcell⟩ := hx j p hp
  exact ⟨c, hl, hK, fun i u hu => cell_same h (hcell i u hu)⟩
theorem C32_same {W W' : World} {A : Option Addr} {n : Nat} {xs : List S32} (h : ∀ k, k < W.heap.size → W'.heap[k]? = W.heap[k]?) (hc : Kd.C k32 W A n xs) : Kd.C k32 W' A n xs := by
  obtain ⟨h1, h2, h3⟩ := hc
  refine ⟨h1, h2, fun h0 => ?_⟩
  obtain ⟨ad, e, hx⟩ := h3 h0
  refine ⟨ad, e, fun j p hp => ?_⟩
  obtain ⟨c, hl, hK, hcell⟩ := hx j p hp
  obtain ⟨A6, c6, rfl, l6, g6⟩ := k32_open hK
  exact ⟨_, rfl, k32_mk W' p l6 (C56_same h g6), fun i u hu => cell_same h (hcell i u hu)⟩
theorem C_V {W : World} {A : Option Addr} {c : Nat} {xs : List S32} (hc : xs.length ≤ c) (h : Kd.C k32 W A xs.length xs) : Kd.V k32 32 W W.heap.size (fun _ => True) (.slice A xs.length c) xs :=
  Kd.V_mk hc fun W' hW => C32_same (fun k hk => hW k trivial hk) h

section
variable {w W : World} {A : Option Addr} {c : Nat} {l : List S32}
theorem bars_c (n x : Int) (W : World) : Calls Try.prog 6 #[.int .i64 n, .int .i64 x] W fun e w' => e = .returned (.bool (barsP n x)) ∧ Below W.heap.size W w' :=
  (level_Bars.calls 1 n x _ W (bars_plain 0 n x)).mono fun _ _ ⟨h, k⟩ => ⟨h, drawn_bel k⟩
theorem rbars_c (n x : Int) (W : World) : Calls Try.prog 7 #[.int .i64 n, .int .i64 x] W fun e w' => e = .returned (.bool (barsP n x)) ∧ Below W.heap.size W w' := by
  obtain ⟨K, hK⟩ := rbars_plain n x
  exact coronerref30_Bars.calls K n x _ W hK
theorem few_c (hC : Kd.C k32 W A l.length l) (hc : l.length ≤ c) : Calls Try.prog 13 #[.slice A l.length c] W fun e w' => e = .returned (.bool (fewP l)) ∧ Below W.heap.size W w' := by
  obtain ⟨K, hK⟩ := (few_ev l).rounds
  exact (coronerlaw30_few.calls K A c l _ W hC hc hK).mono fun _ _ ⟨h, k⟩ => ⟨h, drawn_bel k⟩
theorem of_c (hC : Kd.C k32 W A l.length l) (hc : l.length ≤ c) (hl : l.length ≤ 140737488355328) : Calls Try.prog 15 #[.slice A l.length c] W fun e w' => e = .returned (.int .i64 (ofP l)) ∧ Below W.heap.size W w' := by
  obtain ⟨K, hK⟩ := (of_ev l hl).rounds
  exact level_Of.calls K A c l _ W hC hc hK
theorem rof_c (hC : Kd.C k32 W A l.length l) (hc : l.length ≤ c) (hl : l.length ≤ 140737488355328) : Calls Try.prog 16 #[.slice A l.length c] W fun e w' => e = .returned (.int .i64 (ofP l)) ∧ Below W.heap.size W w' := by
  obtain ⟨K, hK⟩ := (rof_ev l hl).rounds
  exact coronerref30_Of.calls K A c l _ W hC hc hK
theorem same_c {A2 : Option Addr} {c2 : Nat} (hC : Kd.C k32 W A l.length l) (hc : l.length ≤ c) (hC2 : Kd.C k32 W A2 l.length l) (hc2 : l.length ≤ c2) (hl : l.length ≤ 140737488355328) (he : ∀ p ∈ l, p.f6.length ≤ 140737488355328) :
    Calls Try.prog 17 #[.slice A l.length c, .slice A2 l.length c2] W fun e w' => e = .returned (.bool true) ∧ Below W.heap.size W w' := by
  obtain ⟨K, hK⟩ := (same_ev l hl he).rounds
  exact coronerref13_SameFindings.calls K A c l A2 c2 l _ W hC hc hC2 hc2 hK
theorem rsort_c (hC : Kd.C k32 W A l.length l) (hc : l.length ≤ c) (hl : l.length ≤ 140737488355328) : Calls Try.prog 18 #[.slice A l.length c] W fun e w' => ∃ A' c', e = .returned (.slice A' (sortP l).length c') ∧ (sortP l).length ≤ c' ∧ Kd.C k32 w' A' (sortP l).length (sortP l) ∧ Below W.heap.size W w' := by
  obtain ⟨K, hK⟩ := (rsort_ev l hl).rounds
  refine (coronerref30_Sort.calls K (fun _ => True) A c l _ W (C_V hc hC) hK).mono ?_
  rintro e w' ⟨v, rfl, hN, hb⟩
  obtain ⟨A', c', rfl⟩ := Kd.N_slice hN
  obtain ⟨_, h2, h3⟩ := Kd.N_reads' hN
  exact ⟨A', c', rfl, h2, h3, hb⟩
theorem name_c (n : Int) : ∃ s, (∀ W, Calls Try.prog 8 #[.int .i64 n] W fun e w' => e = .returned (.string s) ∧ Below W.heap.size W w') ∧ ∀ W, Calls Try.prog 9 #[.int .i64 n] W fun e w' => e = .returned (.string s) ∧ Below W.heap.size W w' := by
  obtain ⟨s, h1, h2⟩ := name_plain n
  exact ⟨s, fun W => level_Name.calls n s W h1, fun W => coronerref30_Name.calls n s W h2⟩
theorem phen_c (n : Int) : ∃ s, (∀ W, Calls Try.prog 10 #[.int .i64 n] W fun e w' => e = .returned (.string s) ∧ Below W.heap.size W w') ∧ ∀ W, Calls Try.prog 11 #[.int .i64 n] W fun e w' => e = .returned (.string s) ∧ Below W.heap.size W w' := by
  obtain ⟨s, h1, h2⟩ := phen_plain n
  exact ⟨s, fun W => level_Phenomenon.calls n s W h1, fun W => coronerref30_Phenomenon.calls n s W h2⟩
end

/-! What comes in. -/
theorem six {fs : Array Field} {a b c d e f : Field} (h : fs = #[a, b, c, d, e, f]) {p : Nat → Field → Prop} (h0 : p 0 a) (h1 : p 1 b) (h2 : p 2 c) (h3 : p 3 d) (h4 : p 4 e) (h5 : p 5 f) : ∀ (i : Nat) (x : Field), fs[i]? = some x → p i x := by
  subst h
  intro i x hx
  match i, hx with
  | 0, hx => simp at hx; subst hx; exact h0
  | 1, hx => simp at hx; subst hx; exact h1
  | 2, hx => simp at hx; subst hx; exact h2
  | 3, hx => simp at hx; subst hx; exact h3
  | 4, hx => simp at hx; subst hx; exact h4
  | 5, hx => simp at hx; subst hx; exact h5
  | k + 6, hx => simp at hx
theorem seven {fs : Array Field} {a b c d e f g : Field} (h : fs = #[a, b, c, d, e, f, g]) {p : Nat → Field → Prop} (h0 : p 0 a) (h1 : p 1 b) (h2 : p 2 c) (h3 : p 3 d) (h4 : p 4 e) (h5 : p 5 f) (h6 : p 6 g) : ∀ (i : Nat) (x : Field), fs[i]? = some x → p i x := by
  subst h
  intro i x hx
  match i, hx with
  | 0, hx => simp at hx; subst hx; exact h0
  | 1, hx => simp at hx; subst hx; exact h1
  | 2, hx => simp at hx; subst hx; exact h2
  | 3, hx => simp at hx; subst hx; exact h3
  | 4, hx => simp at hx; subst hx; exact h4
  | 5, hx => simp at hx; subst hx; exact h5
  | 6, hx => simp at hx; subst hx; exact h6
  | k + 7, hx => simp at hx
theorem list6 {α : Type} {cs : List α} (h : cs.length = 6) : ∃ a b c d e f, cs = [a, b, c, d, e, f] := by
  match cs, h with
  | [a, b, c, d, e, f], _ => exact ⟨a, b, c, d, e, f, rfl⟩
theorem list7 {α : Type} {cs : List α} (h : cs.length = 7) : ∃ a b c d e f g, cs = [a, b, c, d, e, f, g] := by
  match cs, h with
  | [a, b, c, d, e, f, g], _ => exact ⟨a, b, c, d, e, f, g, rfl⟩
theorem opens_edge (W : World) : Opens Try.prog W 56 (k56.K W) := by
  refine Opens.imp (opens_row (p := fun _ v => ∃ n : Int, v = .int .i64 n ∧ (Lit.int .i64 n).wf = true)
    Try.underlying56 (by kernel_rfl) (six rfl ⟨rfl, by kernel_rfl⟩ ⟨rfl, by kernel_rfl⟩ ⟨rfl, by kernel_rfl⟩ ⟨rfl, by kernel_rfl⟩ ⟨rfl, by kernel_rfl⟩ ⟨rfl, by kernel_rfl⟩)
    (six rfl (cells_int Try.underlying3) (cells_int Try.underlying3) (cells_int Try.underlying3) (cells_int Try.underlying3) (cells_int Try.underlying3) (cells_int Try.underlying3))) ?_
  rintro _ cs ⟨hl, hp⟩
  obtain ⟨a, b, c, d, e, f, rfl⟩ := list6 hl
  obtain ⟨x0, rfl, _⟩ := hp 0 _ rfl
  obtain ⟨x1, rfl, _⟩ := hp 1 _ rfl
  obtain ⟨x2, rfl, _⟩ := hp 2 _ rfl
  obtain ⟨x3, rfl, _⟩ := hp 3 _ rfl
  obtain ⟨x4, rfl, _⟩ := hp 4 _ rfl
  obtain ⟨x5, rfl, _⟩ := hp 5 _ rfl
  exact ⟨⟨x0, x1, x2, x3, x4, x5⟩, k56_mk W _⟩
def SlE (W : World) (v : Value) : Prop := ∃ (l : List S56) (A : Option Addr) (c : Nat), v = .slice A l.length c ∧ l.length ≤ c ∧ ReadsRow (k56.K W) 6 W A l.length l
theorem opens_finding (W : World) : Opens Try.prog W 32 (k32.K W) := by
  refine Opens.imp (opens_row (p := fun i v => match i with | 6 => SlE W v | _ => ∃ n : Int, v = .int .i64 n ∧ (Lit.int .i64 n).wf = true)
    Try.underlying32 (by kernel_rfl) (seven rfl ⟨rfl, by kernel_rfl⟩ ⟨rfl, by kernel_rfl⟩ ⟨rfl, by kernel_rfl⟩ ⟨rfl, by kernel_rfl⟩ ⟨rfl, by kernel_rfl⟩ ⟨rfl, by kernel_rfl⟩ ⟨rfl, by kernel_rfl⟩)
    (seven rfl (cells_int Try.underlying3) (cells_int Try.underlying3) (cells_int Try.underlying3) (cells_int Try.underlying3) (cells_int Try.underlying3) (cells_int Try.underlying3) (cells_slice Try.underlying30 (by kernel_rfl) (opens_edge W)))) ?_
  rintro _ cs ⟨hl, hp⟩
  obtain ⟨a, b, c, d, e, f, g, rfl⟩ := list7 hl
  obtain ⟨x0, rfl, _⟩ := hp 0 _ rfl
  obtain ⟨x1, rfl, _⟩ := hp 1 _ rfl
  obtain ⟨x2, rfl, _⟩ := hp 2 _ rfl
  obtain ⟨x3, rfl, _⟩ := hp 3 _ rfl
  obtain ⟨x4, rfl, _⟩ := hp 4 _ rfl
  obtain ⟨x5, rfl, _⟩ := hp 5 _ rfl
  obtain ⟨l6, A6, c6, rfl, h6, g6⟩ := hp 6 _ rfl
  exact ⟨⟨x0, x1, x2, x3, x4, x5, l6⟩, k32_mk W _ h6 g6⟩
theorem opens_findings (W : World) : Opens Try.prog W 25 (fun (l : List S32) cs => ∃ A c, cs = [.slice A l.length c] ∧ l.length ≤ c ∧ Kd.C k32 W A l.length l) :=
  opens_slice Try.underlying25 (by kernel_rfl) (opens_finding W)
end Go.Proofs.Ytkjddfmhledckaa.Lv
