/- csr at Arc[int]: what a graph is in memory; counts. -/
import Derived.Test.YtdchnaghmmhkhaaKtCsDAi
import Derived.Deep.OwnRows
import Derived.Laws.MakeOwn
set_option linter.unusedSimpArgs false
namespace Go.Proofs.Ytdchnaghmmhkhaa.Cs.Ai
open Go.Shelf Go.RowKit Go.Lib Go.Sort Go.Proofs.Ytdchnaghmmhkhaa.RowAt Go.Proofs.Ytdchnaghmmhkhaa.Stab Go.Proofs.Ytdchnaghmmhkhaa.Stab.Ai Go.Proofs.Ytdchnaghmmhkhaa.PCsrGraphs Go.Proofs.YtdchnaghmmhkhaaW.PrintWords
set_option linter.unusedSectionVars false
set_option linter.unusedVariables false

/-- What joined makes bears only what stood there. -/
theorem put_mem {out : List Ar} {a b : Ar} (h : b ∈ put out a) : (∃ y ∈ out, b.f0 = y.f0 ∧ b.f1 = y.f1) ∨ (b.f0 = a.f0 ∧ b.f1 = a.f1) := by
  rcases List.eq_nil_or_concat out with rfl | ⟨L, y, rfl⟩
  · rw [put_nil] at h
    have : b = a := by simpa using h
    exact .inr ⟨by rw [this], by rw [this]⟩
  · rw [List.concat_eq_append] at *
    rw [put_snoc] at h
    split at h
    · rcases List.mem_append.1 h with h | h
      · exact .inl ⟨b, by simp [h], rfl, rfl⟩
      · have : b = ⟨y.f0, y.f1, Go.bits .or .i64 y.f2 a.f2⟩ := by simpa using h
        exact .inl ⟨y, by simp, by rw [this], by rw [this]⟩
    · rcases List.mem_append.1 h with h | h
      · exact .inl ⟨b, h, rfl, rfl⟩
      · have : b = a := by simpa using h
        exact .inr ⟨by rw [this], by rw [this]⟩
theorem fold_mem (l : List Ar) : ∀ (out : List Ar) (b : Ar), b ∈ l.foldl put out → (∃ y ∈ out, b.f0 = y.f0 ∧ b.f1 = y.f1) ∨ ∃ y ∈ l, b.f0 = y.f0 ∧ b.f1 = y.f1 := by
  induction l with
  | nil => intro out b h; exact .inl ⟨b, h, rfl, rfl⟩
  | cons a l ih =>
    intro out b h
    rcases ih _ _ h with ⟨y, hy, h1, h2⟩ | ⟨y, hy, h1, h2⟩
    · rcases put_mem hy with ⟨z, hz, h3, h4⟩ | ⟨h3, h4⟩
      · exact .inl ⟨z, hz, h1.trans h3, h2.trans h4⟩
      · exact .inr ⟨a, by simp, h1.trans h3, h2.trans h4⟩
    · exact .inr ⟨y, by simp [hy], h1, h2⟩
theorem Joined.mem {D r : List Ar} (h : Joined D r) {b : Ar} (hb : b ∈ r) : ∃ y ∈ D, b.f0 = y.f0 ∧ b.f1 = y.f1 := by
  obtain ⟨S, hp, _, rfl⟩ := h
  rcases fold_mem _ _ _ hb with ⟨y, hy, _⟩ | ⟨y, hy, h1, h2⟩
  · simp at hy
  · obtain ⟨z, hz, rfl⟩ := List.mem_map.1 hy
    have := (List.mem_filter.1 (hp.mem_iff.1 hz)).1
    exact ⟨z.1, List.mem_of_getElem? (List.mem_zipIdx_iff_getElem?.1 this), h1, h2⟩

/-- How many arcs lead from below v. -/
def cnt (r : List Ar) (v : Nat) : Nat := (r.filter fun a => decide (a.f0 < (v : Int))).length
/-- How many of the first i lead from the vertex ahead of j. -/
def c1 (r : List Ar) (i j : Nat) : Nat := ((r.take i).filter fun a => decide (a.f0 + 1 = (j : Int))).length
theorem c1_zero (r : List Ar) (j : Nat) : c1 r 0 j = 0 := rfl
theorem c1_succ {r : List Ar} {i : Nat} {a : Ar} (h : r[i]? = some a) (j : Nat) : c1 r (i + 1) j = c1 r i j + if a.f0 + 1 = (j : Int) then 1 else 0 := by
  unfold c1
  rw [List.take_add_one, h, List.filter_append, List.length_append]
  congr 1
  by_cases hj : a.f0 + 1 = (j : Int) <;> simp [hj]
theorem c1_le (r : List Ar) (i j : Nat) : c1 r i j ≤ r.length := Nat.le_trans (List.length_filter_le ..) (by rw [List.length_take]; omega)
theorem cnt_le (r : List Ar) (v : Nat) : cnt r v ≤ r.length := List.length_filter_le ..
theorem cnt_zero {r : List Ar} (h : ∀ a ∈ r, 0 ≤ a.f0) : cnt r 0 = 0 := by
  unfold cnt
  rw [List.length_eq_zero_iff, List.filter_eq_nil_iff]
  intro a ha; have := h a ha; simp; omega
theorem cnt_succ (r : List Ar) (v : Nat) : cnt r (v + 1) = cnt r v + c1 r r.length (v + 1) := by
  unfold cnt c1
  rw [List.take_length]
  induction r with
  | nil => rfl
  | cons a r ih =>
    simp only [List.filter_cons]
    by_cases h1 : a.f0 < (v : Int)
    · rw [if_pos (decide_eq_true (by omega : a.f0 < ((v + 1 : Nat) : Int))), if_pos (decide_eq_true h1), if_neg (by simp; omega)]
      simp only [List.length_cons]; omega
    · by_cases h2 : a.f0 = (v : Int)
      · rw [if_pos (decide_eq_true (by omega : a.f0 < ((v + 1 : Nat) : Int))), if_neg (by simp; omega), if_pos (decide_eq_true (by omega : a.f0 + 1 = ((v + 1 : Nat) : Int)))]
        simp only [List.length_cons]; omega
      · rw [if_neg (by simp; omega), if_neg (by simp; omega), if_neg (by simp; omega)]
        exact ih

/-- A table of numbers in a block. -/
def Tb (W : World) (g n : Nat) (f : Nat → Nat) : Prop := ∀ j, j < n → W.cell? ⟨g, j, none⟩ = some (.int .i64 (f j)) ∧ W.frozen? ⟨g, j, none⟩ = false
theorem Tb.set {W : World} {g n k v : Nat} {f : Nat → Nat} (h : Tb W g n f) (hk : k < n) : Tb (W.setCell ⟨g, k, none⟩ (.int .i64 v)) g n (fun j => if j = k then v else f j) := fun j hj => by
  obtain ⟨h1, h2⟩ := h j hj
  rw [World.frozen?_setCell]
  refine ⟨?_, h2⟩
  show _ = some (Value.int .i64 ((if j = k then v else f j : Nat) : Int))
  by_cases e : j = k
  · subst e
    rw [if_pos rfl, World.cell?_setCell_same' _ _ _ (by rw [h1]; rfl)]
  · rw [if_neg e, World.cell?_setCell_other _ _ _ _ (fun h => e (by injection h with _ h _; exact h.symm))]
    exact h1
theorem Tb.keep {W W' : World} {g n : Nat} {f : Nat → Nat} (h : Tb W g n f) (hb : Below W.heap.size W W') (hg : g < W.heap.size) : Tb W' g n f := fun j hj => by
  rw [hb.cell (p := ⟨g, j, none⟩) hg, hb.frozen (p := ⟨g, j, none⟩) hg]
  exact h j hj
/-- What stands in W but in the block g stands in W' too. -/
def Bx (g : Nat) (W W' : World) : Prop := W.heap.size ≤ W'.heap.size ∧ ∀ a : Addr, a.block < W.heap.size → a.block ≠ g → W'.cell? a = W.cell? a
theorem Bx.refl (g : Nat) (W : World) : Bx g W W := ⟨Nat.le_refl _, fun _ _ _ => rfl⟩
theorem Bx.below {g : Nat} {W W1 W2 : World} (h : Bx g W W1) (hb : Below W1.heap.size W1 W2) : Bx g W W2 := ⟨Nat.le_trans h.1 hb.size, fun a ha hg => by rw [hb.cell (Nat.lt_of_lt_of_le ha h.1)]; exact h.2 a ha hg⟩
theorem Bx.set {g k : Nat} {W W1 : World} {v : Value} (h : Bx g W W1) : Bx g W (W1.setCell ⟨g, k, none⟩ v) := ⟨by rw [World.size_setCell]; exact h.1, fun a ha hg => by
  rw [World.cell?_setCell_other _ _ _ _ (fun e => hg (by rw [← e]))]; exact h.2 a ha hg⟩

/-- A graph in memory. -/
def Gr (W : World) (p : Value) (n : Nat) (r : List Ar) : Prop :=
  ∃ b ga ca A c, p = .pointer (some ⟨b, 0, none⟩) ∧ W.cell? ⟨b, 0, none⟩ = some (.slice (some ⟨ga, 0, none⟩) (n + 1) ca) ∧ W.cell? ⟨b, 1, none⟩ = some (.slice A r.length c) ∧ n + 1 ≤ ca ∧ r.length ≤ c ∧ Reads W A r ∧ ∀ v, v ≤ n → W.cell? ⟨ga, v, none⟩ = some (.int .i64 (cnt r v))
theorem Gr.below {W W' : World} {p : Value} {n : Nat} {r : List Ar} (h : Gr W p n r) (hb : Below W.heap.size W W') : Gr W' p n r := by
  obtain ⟨b, ga, ca, A, c, h1, h2, h3, h4, h5, h6, h7⟩ := h
  exact ⟨b, ga, ca, A, c, h1, below_cell hb _ _ h2, below_cell hb _ _ h3, h4, h5, h6.below hb, fun v hv => below_cell hb _ _ (h7 v hv)⟩
end Go.Proofs.Ytdchnaghmmhkhaa.Cs.Ai
