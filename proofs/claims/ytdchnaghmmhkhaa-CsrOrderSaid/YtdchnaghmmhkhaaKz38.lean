/- Printed by shake.py. -/
import Derived.Test.YtdchnaghmmhkhaaKz37
set_option linter.unusedVariables false
set_option linter.unusedSimpArgs false
namespace Go.Proofs.Ytdchnaghmmhkhaa
open Go.RowKit Go.ChangeShapes Go.WideShapes Go.Proofs.YtdchnaghmmhkhaaW.PrintWords
theorem Opens.imp {P : Program} {w : World} {t : TypeId} {α β : Type} {K : α → List Value → Prop} {K' : β → List Value → Prop} (h : Opens P w t K) (hf : ∀ a cs, K a cs → ∃ b, K' b cs) : Opens P w t K' := by
 intro H enc fuel cs x hx
 obtain ⟨a, ha⟩ := h enc fuel cs x hx
 exact hf a cs ha
theorem opens_row {P : Program} {w : World} {t : TypeId} {fs : Array Field} (ht : P.underlying t = some (.struct fs)) (hc : P.cellsOf t = fs.size) (hoff : ∀ (i : Nat) (f : Field), fs[i]? = some f → f.offset = i ∧ P.cellsOf f.type = 1) (p : Nat → Value → Prop)
 (hp : ∀ (i : Nat) (f : Field), fs[i]? = some f → Opens P w f.type (fun (v : Value) cs => cs = [v] ∧ p i v)) : Opens P w t (fun (_ : Unit) cs => cs.length = fs.size ∧ ∀ i v, cs[i]? = some v → p i v) := by
 intro H enc fuel cs x h
 obtain ⟨xs, n, _, _, hl, hxl, hf⟩ := DataW.trod_struct ht h
 have hl2 : cs.length = fs.size := by rw [hl, hc]
 refine ⟨(), hl2, fun i v hv => ?_⟩
 have hi : i < fs.size := by
  rcases Nat.lt_or_ge i cs.length with h' | h'
  ·omega
  ·rw [List.getElem?_eq_none h'] at hv; cases hv
 have hfi : fs[i]? = some fs[i] := Array.getElem?_eq_getElem hi
 obtain ⟨o1, o2⟩ := hoff i _ hfi
 have g := hf i fs[i] hfi
 rw [o1, o2, List.getElem?_eq_getElem (by omega)] at g
 obtain ⟨u, hu, hpu⟩ := hp i _ hfi enc _ _ _ g
 have : v = u := by
  have h1 : ((cs.drop i).take 1)[0]? = some v := by rw [List.getElem?_take_of_lt (by omega), List.getElem?_drop]; simpa using hv
  rw [hu] at h1
  simpa using h1.symm
 subst this
 exact hpu
theorem cells_int {P : Program} {w : World} {t : TypeId} {k : IntKind} (ht : P.underlying t = some (.int k)) : Opens P w t (fun (v : Value) cs => cs = [v] ∧ ∃ n : Int, v = .int k n ∧ (Lit.int k n).wf = true) :=
 Opens.imp (opens_int ht) (by rintro n cs ⟨rfl, h⟩; exact ⟨_, rfl, n, rfl, h⟩)
theorem list3 {α : Type} {cs : List α} (h : cs.length = 3) : ∃ a b c, cs = [a, b, c] := by
 match cs, h with
 | [a, b, c], _ => exact ⟨a, b, c, rfl⟩
theorem three {fs : Array Field} {a b c : Field} (h : fs = #[a, b, c]) {p : Nat → Field → Prop} (h0 : p 0 a) (h1 : p 1 b) (h2 : p 2 c) : ∀ (i : Nat) (f : Field), fs[i]? = some f → p i f := by
 subst h
 intro i f hf
 match i, hf with
 | 0, hf => simp at hf; subst hf; exact h0
 | 1, hf => simp at hf; subst hf; exact h1
 | 2, hf => simp at hf; subst hf; exact h2
 | k + 3, hf => simp at hf
end Go.Proofs.Ytdchnaghmmhkhaa
