/- A row of elements as its cells, one behind the other. -/
import Derived.Test.YtkjddfmhledckaaRowAt
import Derived.Laws.AppendOwn
import Derived.Laws.Rows
set_option linter.unusedVariables false
set_option linter.unusedSimpArgs false
namespace Go.Proofs.Ytkjddfmhledckaa.RowAt
open Go.Shelf Go.RowKit Go.Lib Go.Sort
variable {α : Type} {enc : α → List Value} {k : Nat} {W : World} {blk off : Nat} {D : List α}

theorem flat_len (hk : ∀ x, (enc x).length = k) : ∀ D : List α, (D.flatMap enc).length = D.length * k
  | [] => by simp
  | x :: D => by rw [List.flatMap_cons, List.length_append, hk, flat_len hk D, List.length_cons, Nat.add_mul]; omega
theorem flat_get (hk : ∀ x, (enc x).length = k) : ∀ (D : List α) (i c : Nat), c < k → (D.flatMap enc)[i * k + c]? = (D[i]?).bind fun x => (enc x)[c]?
  | [], i, c, _ => by simp
  | x :: D, 0, c, hc => by
    rw [List.flatMap_cons, Nat.zero_mul, Nat.zero_add, List.getElem?_append_left (by rw [hk]; exact hc)]; rfl
  | x :: D, i + 1, c, hc => by
    rw [List.flatMap_cons, List.getElem?_append_right (by rw [hk, Nat.add_mul]; omega), hk, show (i + 1) * k + c - k = i * k + c by rw [Nat.add_mul]; omega, flat_get hk D i c hc]; rfl
theorem flat_at (hk : ∀ x, (enc x).length = k) (D : List α) {j : Nat} {u : Value} (h : (D.flatMap enc)[j]? = some u) : ∃ i c x, j = i * k + c ∧ D[i]? = some x ∧ (enc x)[c]? = some u := by
  have hj := (List.getElem?_eq_some_iff.1 h).1
  rw [flat_len hk] at hj
  have hkp : 0 < k := Nat.pos_of_ne_zero fun e => by rw [e, Nat.mul_zero] at hj; omega
  have e : j = (j / k) * k + j % k := by have := Nat.div_add_mod j k; rw [Nat.mul_comm (j / k) k]; omega
  rw [e, flat_get hk D _ _ (Nat.mod_lt _ hkp)] at h
  obtain ⟨x, hx, hu⟩ := Option.bind_eq_some_iff.1 h
  exact ⟨_, _, x, e, hx, hu⟩
theorem Row.flat (h : Row enc k W blk off D) (hk : ∀ x, (enc x).length = k) : ∀ j u, (D.flatMap enc)[j]? = some u → W.cell? ⟨blk, off + j, none⟩ = some u := fun j u hu => by
  obtain ⟨i, c, x, rfl, hx, hc⟩ := flat_at hk D hu
  rw [← Nat.add_assoc]
  exact (h i x hx c u hc).1
theorem flat_one (h1 : ∀ x, ∀ v ∈ enc x, v.oneCell' = true) : ∀ u ∈ D.flatMap enc, u.oneCell' = true := fun u hu => by
  obtain ⟨x, _, hx⟩ := List.mem_flatMap.1 hu
  exact h1 x u hx
theorem Row.owns (hk : ∀ x, (enc x).length = k) {base : Nat} {e : TypeId} {v : Value} (h : W.ownsRow base e k v D.length (D.flatMap enc)) (hv : v ≠ .slice none 0 0) :
    ∃ g cap, v = .slice (some ⟨g, 0, none⟩) D.length cap ∧ base ≤ g ∧ g < W.heap.size ∧ D.length ≤ cap ∧ Row enc k W g 0 D := by
  rcases h.2 with ⟨h0, _⟩ | ⟨g, cap, cur, hv, hb, hg, hcap, _, _, ht⟩
  · exact absurd h0 hv
  · refine ⟨g, cap, hv, hb, ?_, hcap, fun i x hx c u hc => ?_⟩
    · rcases Nat.lt_or_ge g W.heap.size with hlt | hge
      · exact hlt
      · rw [Array.getElem?_eq_none hge] at hg; cases hg
    · have hck : c < k := by have := (List.getElem?_eq_some_iff.1 hc).1; rw [hk] at this; exact this
      refine ⟨?_, frozen_of_row _ _ _ _ _ hg⟩
      rw [cell_of_row _ _ _ _ _ _ hg]
      have h2 := flat_get hk D i c hck
      rw [hx, Option.bind_some, hc, ← ht, List.getElem?_take] at h2
      split at h2
      · rw [Nat.zero_add]; simpa using h2
      · cases h2
end Go.Proofs.Ytkjddfmhledckaa.RowAt
