/- A ring as a list, plainly (no program). -/
set_option linter.unusedVariables false
set_option linter.unusedSimpArgs false
namespace Go.Proofs.Ytndciilmnnaemaa

/-- A row l lies in a ring, from top on. -/
def RingOk {α : Type} (ring : List α) (top : Nat) (l : List α) : Prop :=
  l.length ≤ ring.length ∧ (top < ring.length ∨ (ring = [] ∧ top = 0)) ∧ ∀ i, i < l.length → ring[(top + i) % ring.length]? = l[i]?
theorem ring_mod {top i m : Nat} (ht : top < m) (hi : i < m) : (top + i) % m = if top + i < m then top + i else top + i - m := by
  split
  · exact Nat.mod_eq_of_lt (by omega)
  · rw [Nat.mod_eq_sub_mod (by omega)]; exact Nat.mod_eq_of_lt (by omega)
theorem ring_lt {top i m : Nat} (hm : 0 < m) : (top + i) % m < m := Nat.mod_lt _ hm
theorem ring_ne {top i j m : Nat} (ht : top < m) (hi : i < m) (hj : j < m) (h : i ≠ j) : (top + i) % m ≠ (top + j) % m := by
  rw [ring_mod ht hi, ring_mod ht hj]
  split <;> split <;> omega
theorem ring_empty {α : Type} : RingOk ([] : List α) 0 [] := ⟨by simp, .inr ⟨rfl, rfl⟩, fun i h => by simp at h⟩
variable {α : Type} {ring l : List α} {top : Nat}
theorem RingOk.top_lt (h : RingOk ring top l) (hl : 0 < ring.length) : top < ring.length := by
  rcases h.2.1 with h1 | ⟨h1, _⟩
  · exact h1
  · rw [h1] at hl; simp at hl
theorem RingOk.pos (h : RingOk ring top l) (hl : 0 < l.length) : 0 < ring.length := by have := h.1; omega
theorem ring_push (h : RingOk ring top l) (hl : l.length < ring.length) (x : α) : RingOk (ring.set ((top + l.length) % ring.length) x) top (l ++ [x]) := by
  have ht := h.top_lt (by omega)
  refine ⟨by simp; omega, .inl (by simpa using ht), fun i hi => ?_⟩
  simp only [List.length_append, List.length_cons, List.length_nil] at hi
  rw [List.length_set]
  by_cases he : i = l.length
  · subst he
    rw [List.getElem?_set_self (ring_lt (by omega)), List.getElem?_append_right (Nat.le_refl _)]
    simp
  · rw [List.getElem?_set_ne (ring_ne ht (by omega) (by omega) (fun e => he e.symm)), List.getElem?_append_left (by omega)]
    exact h.2.2 i (by omega)
theorem ring_pop (x z : α) (h : RingOk ring top (l ++ [x])) : RingOk (ring.set ((top + l.length) % ring.length) z) top l := by
  have hl : l.length < ring.length := by have := h.1; simp at this; omega
  have ht := h.top_lt (by omega)
  refine ⟨by simp; omega, .inl (by simpa using ht), fun i hi => ?_⟩
  rw [List.length_set, List.getElem?_set_ne (ring_ne ht (by omega) (by omega) (by omega))]
  rw [h.2.2 i (by simp; omega), List.getElem?_append_left hi]
theorem ring_pop_at (x : α) (h : RingOk ring top (l ++ [x])) : ring[(top + l.length) % ring.length]? = some x := by
  rw [h.2.2 l.length (by simp)]; simp
theorem ring_steal (x z : α) (h : RingOk ring top (x :: l)) : RingOk (ring.set ((top + 0) % ring.length) z) ((top + 1) % ring.length) l := by
  have hl : l.length < ring.length := by have := h.1; simp at this; omega
  have ht := h.top_lt (by omega)
  have e : ∀ i, i < l.length → ((top + 1) % ring.length + i) % ring.length = (top + (i + 1)) % ring.length := fun i _ => by
    rw [Nat.mod_add_mod, Nat.add_assoc, Nat.add_comm 1 i]
  refine ⟨by simp; omega, .inl (by rw [List.length_set]; exact ring_lt (by omega)), fun i hi => ?_⟩
  rw [List.length_set, e i hi, List.getElem?_set_ne (ring_ne ht (by omega) (by omega) (by omega)), h.2.2 (i + 1) (by simp; omega)]
  simp
theorem ring_steal_at (x : α) (h : RingOk ring top (x :: l)) : ring[(top + 0) % ring.length]? = some x := by
  rw [h.2.2 0 (by simp)]; simp
theorem ring_grow (l : List α) (z : α) (m : Nat) (hm : l.length ≤ m) (h1 : 1 ≤ m) : RingOk (l ++ List.replicate (m - l.length) z) 0 l := by
  have hlen : (l ++ List.replicate (m - l.length) z).length = m := by simp; omega
  refine ⟨by rw [hlen]; exact hm, .inl (by rw [hlen]; omega), fun i hi => ?_⟩
  rw [hlen, Nat.zero_add, Nat.mod_eq_of_lt (by omega), List.getElem?_append_left hi]
end Go.Proofs.Ytndciilmnnaemaa
