/- Arguments read: structs whose fields are a cell each, in one law. -/
import Derived.Test.YtdchnaghmmhkhaaOpen
set_option linter.unusedVariables false
set_option linter.unusedSimpArgs false
namespace Go.Proofs.Ytdchnaghmmhkhaa
open Go.RowKit Go.ChangeShapes Go.WideShapes Go.Proofs.YtdchnaghmmhkhaaW.PrintWords

theorem Opens.imp {P : Program} {w : World} {t : TypeId} {α β : Type} {K : α → List Value → Prop} {K' : β → List Value → Prop} (h : Opens P w t K) (hf : ∀ a cs, K a cs → ∃ b, K' b cs) : Opens P w t K' := by
  intro H enc fuel cs x hx
  obtain ⟨a, ha⟩ := h enc fuel cs x hx
  exact hf a cs ha
/-- A struct whose fields are a cell each: what each says of its cell. -/
theorem opens_row {P : Program} {w : World} {t : TypeId} {fs : Array Field} (ht : P.underlying t = some (.struct fs)) (hc : P.cellsOf t = fs.size) (hoff : ∀ (i : Nat) (f : Field), fs[i]? = some f → f.offset = i ∧ P.cellsOf f.type = 1) (p : Nat → Value → Prop)
    (hp : ∀ (i : Nat) (f : Field), fs[i]? = some f → Opens P w f.type (fun (v : Value) cs => cs = [v] ∧ p i v)) : Opens P w t (fun (_ : Unit) cs => cs.length = fs.size ∧ ∀ i v, cs[i]? = some v → p i v) := by
  intro H enc fuel cs x h
  obtain ⟨xs, n, _, _, hl, hxl, hf⟩ := DataW.trod_struct ht h
  have hl2 : cs.length = fs.size := by rw [hl, hc]
  refine ⟨(), hl2, fun i v hv => ?_⟩
  have hi : i < fs.size := by
    rcases Nat.lt_or_ge i cs.length with h' | h'
    · omega
    · rw [List.getElem?_eq_none h'] at hv; cases hv
  have hfi : fs[i]? = some fs[i] := Array.getElem?_eq_getElem hi
  obtain ⟨o1, o2⟩ := hoff i _ hfi
  have g := hf i fs[i] hfi
  rw [o1, o2, List.getElem?_eq_getElem (by omega)] at g
  obtain ⟨u, hu, hpu⟩ := hp i _ hfi enc _ _ _ g
  have : v = u := by
    have h1 : ((cs.drop i).take 1)[0]? = some v := by rw [List.getElem?_take_of_lt (by omega), List.getElem?_drop]; simpa using hv
    rw [hu] at h1
    simpa using h1.symm
  subst this
  exact hpu
theorem cells_int {P : Program} {w : World} {t : TypeId} {k : IntKind} (ht : P.underlying t = some (.int k)) : Opens P w t (fun (v : Value) cs => cs = [v] ∧ ∃ n : Int, v = .int k n ∧ (Lit.int k n).wf = true) :=
  Opens.imp (opens_int ht) (by rintro n cs ⟨rfl, h⟩; exact ⟨_, rfl, n, rfl, h⟩)
theorem cells_bool {P : Program} {w : World} {t : TypeId} (ht : P.underlying t = some .bool) : Opens P w t (fun (v : Value) cs => cs = [v] ∧ ∃ n : Bool, v = .bool n) :=
  Opens.imp (opens_bool ht) (by rintro n cs rfl; exact ⟨_, rfl, n, rfl⟩)
theorem cells_slice {P : Program} {w : World} {t e : TypeId} {α : Type} {K : α → List Value → Prop} {sz : Nat} (ht : P.underlying t = some (.slice e)) (hc : P.cellsOf e = sz) (hK : Opens P w e K) :
    Opens P w t (fun (v : Value) cs => cs = [v] ∧ ∃ (l : List α) (A : Option Addr) (c : Nat), v = .slice A l.length c ∧ l.length ≤ c ∧ ReadsRow K sz w A l.length l) :=
  Opens.imp (opens_slice ht hc hK) (by rintro l cs ⟨A, c, rfl, h1, h2⟩; exact ⟨_, rfl, l, A, c, rfl, h1, h2⟩)

theorem list4 {α : Type} {cs : List α} (h : cs.length = 4) : ∃ a b c d, cs = [a, b, c, d] := by
  match cs, h with
  | [a, b, c, d], _ => exact ⟨a, b, c, d, rfl⟩
theorem list3 {α : Type} {cs : List α} (h : cs.length = 3) : ∃ a b c, cs = [a, b, c] := by
  match cs, h with
  | [a, b, c], _ => exact ⟨a, b, c, rfl⟩
theorem four {fs : Array Field} {a b c d : Field} (h : fs = #[a, b, c, d]) {p : Nat → Field → Prop} (h0 : p 0 a) (h1 : p 1 b) (h2 : p 2 c) (h3 : p 3 d) : ∀ (i : Nat) (f : Field), fs[i]? = some f → p i f := by
  subst h
  intro i f hf
  match i, hf with
  | 0, hf => simp at hf; subst hf; exact h0
  | 1, hf => simp at hf; subst hf; exact h1
  | 2, hf => simp at hf; subst hf; exact h2
  | 3, hf => simp at hf; subst hf; exact h3
  | k + 4, hf => simp at hf
theorem three {fs : Array Field} {a b c : Field} (h : fs = #[a, b, c]) {p : Nat → Field → Prop} (h0 : p 0 a) (h1 : p 1 b) (h2 : p 2 c) : ∀ (i : Nat) (f : Field), fs[i]? = some f → p i f := by
  subst h
  intro i f hf
  match i, hf with
  | 0, hf => simp at hf; subst hf; exact h0
  | 1, hf => simp at hf; subst hf; exact h1
  | 2, hf => simp at hf; subst hf; exact h2
  | k + 3, hf => simp at hf
end Go.Proofs.Ytdchnaghmmhkhaa
