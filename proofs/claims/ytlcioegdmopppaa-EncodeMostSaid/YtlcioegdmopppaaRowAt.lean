/- A row of elements of k cells, told as a list. -/
import Derived.Test.YtlcioegdmopppaaBase
import Derived.Shelf.SlSortCmp.KitK
import Derived.Lib.LazyBuf
import Derived.Lib.SliceRun

set_option linter.unusedVariables false
set_option linter.unusedSimpArgs false
namespace Go.Proofs.Ytlcioegdmopppaa.RowAt
open Go.Shelf Go.RowKit Go.Lib Go.Sort
set_option linter.unusedSectionVars false
variable {α : Type} [Inhabited α] {enc : α → List Value} {k : Nat} {W : World} {blk off : Nat} {D : List α}

def Row (enc : α → List Value) (k : Nat) (w : World) (blk off : Nat) (D : List α) : Prop :=
  ∀ i x, D[i]? = some x → ∀ c v, (enc x)[c]? = some v → w.cell? ⟨blk, off + i * k + c, none⟩ = some v ∧ w.frozen? ⟨blk, off + i * k + c, none⟩ = false

theorem Row.load (h : Row enc k W blk off D) (hk : ∀ x, (enc x).length = k) (P : Program) {i : Nat} {x : α} (hi : D[i]? = some x) :
    Sem.run P (loadCellsFrom ⟨blk, off + i * k, none⟩ 0 k #[]) W = .ok (enc x).toArray W :=
  run_loadCellsFrom_list P _ _ _ k (hk _) fun c v hc => by rw [Addr.add_lit]; exact (h i x hi c v hc).1

theorem Row.at (h : Row enc k W blk off D) (hk : ∀ x, (enc x).length = k) {i c : Nat} (hi : i < D.length) (hc : c < k) :
    (W.cell? ⟨blk, off + i * k + c, none⟩).isSome = true ∧ W.frozen? ⟨blk, off + i * k + c, none⟩ = false := by
  have hl : c < (enc D[i]).length := by rw [hk]; exact hc
  have := h i D[i] (List.getElem?_eq_getElem hi) c (enc D[i])[c] (List.getElem?_eq_getElem hl)
  exact ⟨by rw [this.1]; rfl, this.2⟩

theorem Row.store (h : Row enc k W blk off D) (hk : ∀ x, (enc x).length = k) (P : Program) {i : Nat} (hi : i < D.length) (y : α) (h1 : ∀ v ∈ enc y, v.oneCell' = true) :
    Sem.run P (storeCells ⟨blk, off + i * k, none⟩ (enc y) 0) W = .ok () (W.setCells blk (off + i * k) (enc y)) := by
  have := run_storeCells_cells (P := P) blk (off + i * k) (enc y) 0 W (fun c hc => by rw [Nat.add_zero]; exact (h.at hk hi (by rw [hk] at hc; exact hc)).1) (fun c hc => by rw [Nat.add_zero]; exact (h.at hk hi (by rw [hk] at hc; exact hc)).2) h1
  simpa only [Nat.add_zero] using this

theorem Row.put (h : Row enc k W blk off D) (hk : ∀ x, (enc x).length = k) {i : Nat} (hi : i < D.length) (y : α) :
    Row enc k (W.setCells blk (off + i * k) (enc y)) blk off (D.set i y) := by
  intro j x hj c v hc
  have hck : c < k := by have := (List.getElem?_eq_some_iff.1 hc).1; rw [hk] at this; exact this
  rw [World.frozen?_setCells]
  by_cases e : j = i
  · subst e
    rw [List.getElem?_set_self hi] at hj
    cases hj
    have hl := (List.getElem?_eq_some_iff.1 hc).1
    refine ⟨?_, (h.at hk hi hck).2⟩
    rw [World.cell?_setCells_in blk _ _ _ (fun c hc => (h.at hk hi (by rw [hk] at hc; exact hc)).1) c hl, ← hc, List.getElem?_eq_getElem hl]
  · rw [List.getElem?_set_ne (Ne.symm e)] at hj
    have := h j x hj c v hc
    refine ⟨?_, this.2⟩
    rw [World.cell?_setCells_out blk _ _ _ _ (fun _ _ => ?_)]
    · exact this.1
    · rw [hk]
      show off + j * k + c < off + i * k ∨ off + i * k + k ≤ off + j * k + c
      rcases Nat.lt_or_gt_of_ne e with hlt | hgt
      · left
        have : (j + 1) * k ≤ i * k := Nat.mul_le_mul_right k hlt
        rw [Nat.add_mul, Nat.one_mul] at this
        omega
      · right
        have : (i + 1) * k ≤ j * k := Nat.mul_le_mul_right k hgt
        rw [Nat.add_mul, Nat.one_mul] at this
        omega

theorem Row.below (h : Row enc k W blk off D) {w' : World} (hb : Below W.heap.size W w') (hblk : blk < W.heap.size) : Row enc k w' blk off D := fun i x hi c v hc => by
  rw [hb.cell (p := ⟨blk, _, none⟩) hblk, hb.frozen (p := ⟨blk, _, none⟩) hblk]
  exact h i x hi c v hc

theorem Row.take (h : Row enc k W blk off D) (n : Nat) : Row enc k W blk off (D.take n) := fun i x hi c v hc =>
  h i x (by rw [List.getElem?_take] at hi; split at hi <;> simp_all) c v hc

/-- The rest of the row written over: the cells ahead of it stay. -/
theorem Row.head (h : Row enc k W blk off D) (hk : ∀ x, (enc x).length = k) (n : Nat) (vs : List Value) : Row enc k (W.setCells blk (off + n * k) vs) blk off (D.take n) := fun i x hi c v hc => by
  have hck : c < k := by have := (List.getElem?_eq_some_iff.1 hc).1; rw [hk] at this; exact this
  have hin : i < n := by
    have := (List.getElem?_eq_some_iff.1 hi).1
    rw [List.length_take] at this; omega
  have := h.take n i x hi c v hc
  rw [World.frozen?_setCells]
  refine ⟨?_, this.2⟩
  rw [World.cell?_setCells_out blk _ _ _ _ (fun _ _ => ?_)]
  · exact this.1
  · left
    show off + i * k + c < off + n * k
    have : (i + 1) * k ≤ n * k := Nat.mul_le_mul_right k hin
    rw [Nat.add_mul, Nat.one_mul] at this
    omega

/-- The rest of the row can be written over. -/
theorem Row.wipe (h : Row enc k W blk off D) (hk : ∀ x, (enc x).length = k) (P : Program) {n : Nat} (hn : n ≤ D.length) (vs : List Value) (hl : vs.length = (D.length - n) * k) (h1 : ∀ v ∈ vs, v.oneCell' = true) :
    Sem.run P (storeCells ⟨blk, off + n * k, none⟩ vs 0) W = .ok () (W.setCells blk (off + n * k) vs) := by
  have hk0 : ∀ c, c < vs.length → ∃ i d, i < D.length ∧ d < k ∧ off + n * k + 0 + c = off + i * k + d := fun c hc => by
    rw [hl] at hc
    have hkp : 0 < k := Nat.pos_of_ne_zero fun e => by rw [e, Nat.mul_zero] at hc; omega
    refine ⟨n + c / k, c % k, ?_, Nat.mod_lt _ hkp, ?_⟩
    · have : c / k < D.length - n := Nat.div_lt_of_lt_mul (by rw [Nat.mul_comm]; exact hc)
      omega
    · have := Nat.div_add_mod c k
      rw [Nat.add_mul, Nat.mul_comm (c / k) k]
      omega
  have := run_storeCells_cells (P := P) blk (off + n * k) vs 0 W (fun c hc => by
    obtain ⟨i, d, hi, hd, e⟩ := hk0 c hc
    rw [e]; exact (h.at hk hi hd).1) (fun c hc => by
    obtain ⟨i, d, hi, hd, e⟩ := hk0 c hc
    rw [e]; exact (h.at hk hi hd).2) h1
  simpa only [Nat.add_zero] using this

theorem Row.holds (h : Row enc k W blk off D) (hk : ∀ x, (enc x).length = k) : HoldsK enc k W blk off D.toArray := by
  intro t ht
  rw [size_flatK, List.size_toArray] at ht
  have hkp : 0 < k := Nat.pos_of_ne_zero fun e => by rw [e, Nat.mul_zero] at ht; omega
  have hi : t / k < D.length := Nat.div_lt_of_lt_mul (by rw [Nat.mul_comm]; exact ht)
  have hc : t % k < k := Nat.mod_lt _ hkp
  have e : off + t = off + (t / k) * k + t % k := by have := Nat.div_add_mod t k; rw [Nat.mul_comm (t / k) k]; omega
  have hl : t % k < (enc D[t / k]).length := by rw [hk]; exact hc
  have := h (t / k) D[t / k] (List.getElem?_eq_getElem hi) (t % k) (enc D[t / k])[t % k] (List.getElem?_eq_getElem hl)
  rw [e, get_flatK _ _ _ _ (by rw [List.size_toArray]; exact ht)]
  have e2 : D.toArray[t / k]! = D[t / k] := by rw [getElem!_pos _ _ (by simpa using hi)]; simp
  rw [e2, getElem!_pos (enc D[t / k]) (t % k) (by rw [hk]; exact hc)]
  exact this

theorem Row.of (h : HoldsK enc k W blk off D.toArray) (hk : ∀ x, (enc x).length = k) : Row enc k W blk off D := by
  intro i x hi c v hc
  have hck : c < k := by have := (List.getElem?_eq_some_iff.1 hc).1; rw [hk] at this; exact this
  obtain ⟨hil, hx⟩ := List.getElem?_eq_some_iff.1 hi
  obtain ⟨hcl, hv⟩ := List.getElem?_eq_some_iff.1 hc
  have := h.cell (i := i) (c := c) (by simpa using hil) hck
  have e2 : D.toArray[i]! = x := by rw [getElem!_pos _ _ (by simpa using hil)]; simpa using hx
  rw [e2, getElem!_pos (enc x) c hcl, hv] at this
  exact this
end Go.Proofs.Ytlcioegdmopppaa.RowAt
