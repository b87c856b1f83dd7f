/- append of a slice that is read onto a row of one's own, as a step of a region that draws; rows of the call's own. -/
import Derived.Test.YtdchnaghmmhkhaaKtA
import Derived.Deep.AppendLies
import Derived.Deep.Slices
import Derived.Deep.RegionLaw
import Derived.Deep.RegionHeldLaw
import Derived.Test.YtdchnaghmmhkhaaWMore
set_option linter.unusedVariables false
set_option linter.unusedSimpArgs false
namespace Go.Proofs.Ytdchnaghmmhkhaa
open Go.RowKit Go.Proofs.YtdchnaghmmhkhaaW.PrintWords

/-- So many cells can be read from A on. -/
def Cells (w : World) (A : Option Addr) (ys : List Value) : Prop := 0 < ys.length → ∃ ad, A = some ad ∧ ∀ j v, ys[j]? = some v → w.cell? (ad.add j) = some v
theorem Cells.below {w w' : World} {A : Option Addr} {ys : List Value} (h : Cells w A ys) (hb : Below w.heap.size w w') : Cells w' A ys := fun h0 => by
  obtain ⟨ad, e, hc⟩ := h h0
  exact ⟨ad, e, fun j v hv => pw_cell_below hb (hc j v hv)⟩
theorem Cells.drewN {w : World} {A : Option Addr} {ys : List Value} (h : Cells w A ys) (n : Nat) : Cells (w.drewN n) A ys := h
theorem Cells.of_own {w : World} {base n c : Nat} {e : TypeId} {A : Option Addr} {xs : List Value} (h : w.ownsRow base e 1 (.slice A n c) n xs) : Cells w A xs := fun hn => by
  obtain ⟨g, cap, hv, _, hlt⟩ := h.form (by have := h.1; omega)
  have hA : A = some ⟨g, 0, none⟩ := by injection hv
  subst hA
  exact ⟨_, rfl, h.cells (g := g) rfl⟩
theorem Cells.take {w : World} {A : Option Addr} {ys : List Value} (h : Cells w A ys) (k : Nat) : Cells w A (ys.take k) := fun h0 => by
  obtain ⟨ad, e, hc⟩ := h (by simp at h0; omega)
  refine ⟨ad, e, fun j v hv => hc j v ?_⟩
  rw [List.getElem?_take] at hv
  split at hv
  · exact hv
  · cases hv
theorem Cells.drop {w : World} {ad : Addr} {ys : List Value} (h : Cells w (some ad) ys) (k : Nat) : Cells w (some (ad.add k)) (ys.drop k) := fun h0 => by
  obtain ⟨ad', e, hc⟩ := h (by simp at h0; omega)
  injection e with e; subst e
  refine ⟨_, rfl, fun j v hv => ?_⟩
  rw [Go.Deep.add_add]
  exact hc _ v (by rwa [List.getElem?_drop] at hv)
theorem Cells.new (w : World) (cs : List Value) (t : TypeId) : Cells (w.alloc (.cells cs.toArray t)) (some ⟨w.heap.size, 0, none⟩) cs := fun _ =>
  ⟨_, rfl, fun j v hv => by simpa using World.news_of_block (cs := cs.toArray) (t := t) (fr := (0, 0)) (heap_alloc_new w (.cells cs.toArray t)) j v (by simpa using hv)⟩
theorem Cells.grown {W w2 : World} {b : Nat} {ys : List Value} {row : Option Nat} (h : Cells W (some ⟨b, 0, none⟩) ys) (hg : W.grownBy w2 row) (hb : b < W.heap.size) (hne : some b ≠ row) : Cells w2 (some ⟨b, 0, none⟩) ys := fun h0 => by
  obtain ⟨ad, e, hc⟩ := h h0
  injection e with e; subst e
  refine ⟨_, rfl, fun j v hv => ?_⟩
  have hbl : ((⟨b, 0, none⟩ : Addr).add j).block = b := by unfold Addr.add; split <;> rfl
  rw [hg.cell_far _ (by rw [hbl]; exact hb) (by rw [hbl]; exact hne)]
  exact hc j v hv

section
variable {P : Program} {ops : Array Oper} {o : Oper} {a : Act} {Q : Exit → Act → World → Prop} {K : Act → World → Prop}
theorem run_app (W : World) (base : Nat) (t ty e : TypeId) (z : Value) (bytes : Nat) (ht : P.underlying t = some (.slice e)) (hinfo : (P.info? e).map (fun i => (i.zero, i.size, i.bytes)) = some (some z, 1, bytes)) (hz : z.cells.size = 1) (hb0 : 0 < bytes)
    (v : Value) (xs ys : List Value) (A : Option Addr) (m c : Nat) (hm : ys.length = m) (HO : W.ownsRow base e 1 v xs.length xs) (HR : Cells W A ys) (h1 : ∀ u ∈ ys, u.oneCell' = true) (hbase : base ≤ W.heap.size) (hl : (xs.length + m) * bytes ≤ 140737488355328) :
    ∃ v1 w1, (Builtin.append_ #[t, t] ty #[v, .slice A m c]).run P W = .ok v1 w1 ∧ w1.ownsRow base e 1 v1 (xs.length + m) (xs ++ ys) ∧ W.grownBy w1 v.ownBlock ∧ (v1.ownBlock = v.ownBlock ∨ ∃ b, v1.ownBlock = some b ∧ W.heap.size ≤ b) := by
  obtain ⟨i0, hi, hzz⟩ := Option.map_eq_some_iff.1 hinfo
  simp only [Prod.mk.injEq] at hzz
  obtain ⟨hz0, hz1, hz2⟩ := hzz
  have hlen : xs.length + m ≤ 140737488355328 := Nat.le_trans (Nat.le_mul_of_pos_right _ hb0) hl
  rcases A with _ | ad
  · have h0 : m = 0 := by
      rcases Nat.eq_zero_or_pos m with h0 | h0
      · exact h0
      · obtain ⟨ad, h, _⟩ := HR (by omega)
        cases h
    subst h0
    obtain rfl : ys = [] := List.eq_nil_of_length_eq_zero hm
    refine ⟨v, W, ?_, by rw [List.append_nil]; exact HO, World.grownBy.refl W _, .inl rfl⟩
    rcases HO.2 with ⟨rfl, hn⟩ | ⟨g, cap, cur, rfl, _, _, hnc, _⟩
    · simp [Builtin.append_, run_underlying ht, sizeOf, typeInfo, hi, Builtin.lenOf, Builtin.firstCells]
    · simp [Builtin.append_, run_underlying ht, sizeOf, typeInfo, hi, Builtin.lenOf, Builtin.firstCells, hnc, storeCells]
  · have hnc : ∀ j u, ys[j]? = some u → W.cell? (ad.add j) = some u := by
      intro j u hu
      have h0 : 0 < ys.length := by
        rcases Nat.eq_zero_or_pos ys.length with h0 | h0
        · rw [List.eq_nil_of_length_eq_zero h0] at hu; simp at hu
        · exact h0
      obtain ⟨ad', he, hc⟩ := HR h0
      injection he with he; subst he
      exact hc j u hu
    obtain ⟨v1, w1, hrun, h2, hg, _, hat⟩ := run_append_own_at (P := P) W base t ty e i0 z 1 bytes ht hi hz0 hz1 hz2 hz (by omega) v xs.length xs HO ad m c ys (by rw [hm]; omega) hnc h1 (by simp only [maxLen]; omega) hl hbase
    refine ⟨v1, w1, hrun, h2, hg, ?_⟩
    rcases hat with hat | hat
    · exact .inl hat
    · exact .inr ⟨_, hat, Nat.le_refl _⟩
/-- For go_region_law: the value written out. -/
theorem step_app {w0 W : World} (base : Nat) (hw : Region.wanted o (yielded ops a.tmps) = true) (s x : Operand) (t e : TypeId) (z : Value) (bytes : Nat)
    (ho : o.op = .call { callee := .builtin .append, args := #[s, x], argTypes := #[t, t] })
    (ht : P.underlying t = some (.slice e)) (hinfo : (P.info? e).map (fun i => (i.zero, i.size, i.bytes)) = some (some z, 1, bytes)) (hz : z.cells.size = 1) (hb0 : 0 < bytes)
    (v : Value) (xs ys : List Value) (A : Option Addr) (n m c : Nat) (hs : a.eval s = v) (hx : a.eval x = .slice A m c) (hn : xs.length = n) (hm : ys.length = m) (HO : W.ownsRow base e 1 v n xs) (HR : Cells W A ys) (h1 : ∀ u ∈ ys, u.oneCell' = true)
    (HB : Below base w0 W) (hbase : base ≤ W.heap.size) (hl : (n + m) * bytes ≤ 140737488355328)
    (h : ∀ A1 c1 w1, w1.ownsRow base e 1 (.slice A1 (n + m) c1) (n + m) (xs ++ ys) → Below base w0 w1 → W.grownBy w1 v.ownBlock → ((Value.slice A1 (n + m) c1).ownBlock = v.ownBlock ∨ ∃ b, (Value.slice A1 (n + m) c1).ownBlock = some b ∧ W.heap.size ≤ b) → n + m ≤ c1 → K (a.put o.dst (.slice A1 (n + m) c1)) w1) :
    if Region.wanted o (yielded ops a.tmps) = true then Oper.wp P o a W K Q else K (a.put o.dst undef) W := by
  rw [if_pos hw]
  subst hn
  obtain ⟨v1, w1, hr, hown, hg, hat⟩ := run_app (P := P) W base t o.type e z bytes ht hinfo hz hb0 v xs ys A m c hm HO HR h1 hbase hl
  unfold Oper.wp execOp
  simp only [ho, resolve, invoke, builtin, Sem.run_bind, Sem.run_pure, Result.andThen_ok, List.map_toArray, List.map_cons, List.map_nil, hs, hx, hr]
  have hB := HB.grown hg hbase (own_base HO)
  rcases hown.2 with ⟨rfl, h0⟩ | ⟨g, cap, cur, rfl, _, _, h2, _⟩
  · have e0 : xs.length + m = 0 := h0
    have h3 := h none 0 w1
    rw [e0] at h3
    rw [e0] at hown
    exact h3 hown hB hg hat (Nat.le_refl _)
  · exact h _ _ w1 hown hB hg hat h2
end
/-! A function against nil -/
section
variable {P : Program} (w : World)
theorem run_equalIn_func_nil (d : Nat) (t : TypeId) {a b : Array TypeId} {c : Bool} (f : Fn) (x y : Array Value) (h : P.underlying t = some (.func a b c)) : (Op.equalIn (d + 1) t (.func f x y) .nilFunc).run P w = .ok false w := by
  simp [Op.equalIn, run_underlying h]
theorem run_equal_func_nil (t : TypeId) {a b : Array TypeId} {c : Bool} (f : Fn) (x y : Array Value) (h : P.underlying t = some (.func a b c)) : (Op.equal t (.func f x y) .nilFunc).run P w = .ok false w := run_equalIn_func_nil w 9999 t f x y h
theorem run_neq_func_nil (t : TypeId) {a b : Array TypeId} {c : Bool} (f : Fn) (x y : Array Value) (h : P.underlying t = some (.func a b c)) : (binOp .neq t (.func f x y) .nilFunc).run P w = .ok (.bool true) w := by
  simp only [binOp]
  simp [run_equal_func_nil w t f x y h]
theorem run_eql_func_nil (t : TypeId) {a b : Array TypeId} {c : Bool} (f : Fn) (x y : Array Value) (h : P.underlying t = some (.func a b c)) : (binOp .eql t (.func f x y) .nilFunc).run P w = .ok (.bool false) w := by
  simp only [binOp]
  simp [run_equal_func_nil w t f x y h]
end
end Go.Proofs.Ytdchnaghmmhkhaa
