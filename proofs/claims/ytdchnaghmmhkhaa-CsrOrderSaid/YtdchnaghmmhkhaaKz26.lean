/- Printed by shake.py. -/
import Derived.Test.YtdchnaghmmhkhaaKz25
set_option linter.unusedVariables false
set_option linter.unusedSimpArgs false
namespace Go.Proofs.Ytdchnaghmmhkhaa
open Go.RowKit Go.Proofs.YtdchnaghmmhkhaaW.PrintWords
section
variable {P : Program} {ops : Array Oper} {rest : List Oper} {o : Oper} {a : Act} {Q : Exit → Act → World → Prop} {K : Act → World → Prop}
theorem run_appK (W : World) (base : Nat) (t ty e : TypeId) (z : Value) (k bytes : Nat) (ht : P.underlying t = some (.slice e)) (hinfo : (P.info? e).map (fun i => (i.zero, i.size, i.bytes)) = some (some z, k, bytes)) (hz : z.cells.size = k) (hk0 : 0 < k) (hb0 : 0 < bytes)
 (v : Value) (n : Nat) (xs ys : List Value) (A : Option Addr) (m c : Nat) (hm : ys.length = m * k) (HO : W.ownsRow base e k v n xs) (HR : Cells W A ys) (h1 : ∀ u ∈ ys, u.oneCell' = true) (hbase : base ≤ W.heap.size) (hl : (n + m) * bytes ≤ 140737488355328) :
 ∃ v1 w1, (Builtin.append_ #[t, t] ty #[v, .slice A m c]).run P W = .ok v1 w1 ∧ w1.ownsRow base e k v1 (n + m) (xs ++ ys) ∧ W.grownBy w1 v.ownBlock ∧ (v1.ownBlock = v.ownBlock ∨ ∃ b, v1.ownBlock = some b ∧ W.heap.size ≤ b) := by
 obtain ⟨i0, hi, hzz⟩ := Option.map_eq_some_iff.1 hinfo
 simp only [Prod.mk.injEq] at hzz
 obtain ⟨hz0, hz1, hz2⟩ := hzz
 have hlen : n + m ≤ 140737488355328 := Nat.le_trans (Nat.le_mul_of_pos_right _ hb0) hl
 rcases A with _ | ad
 ·have h0 : m = 0 := by
   rcases Nat.eq_zero_or_pos m with h0 | h0
   ·exact h0
   ·obtain ⟨ad, h, _⟩ := HR (by rw [hm]; exact Nat.mul_pos h0 hk0)
    cases h
  subst h0
  obtain rfl : ys = [] := List.eq_nil_of_length_eq_zero (by rw [hm, Nat.zero_mul])
  refine ⟨v, W, ?_, by rw [List.append_nil]; exact HO, World.grownBy.refl W _, .inl rfl⟩
  rcases HO.2 with ⟨rfl, hn⟩ | ⟨g, cap, cur, rfl, _, _, hnc, _⟩
  ·subst hn
   simp [Builtin.append_, run_underlying ht, sizeOf, typeInfo, hi, Builtin.lenOf, Builtin.firstCells]
  ·simp [Builtin.append_, run_underlying ht, sizeOf, typeInfo, hi, Builtin.lenOf, Builtin.firstCells, hnc, storeCells]
 ·have hnc : ∀ j u, ys[j]? = some u → W.cell? (ad.add j) = some u := by
   intro j u hu
   have h0 : 0 < ys.length := by
    rcases Nat.eq_zero_or_pos ys.length with h0 | h0
    ·rw [List.eq_nil_of_length_eq_zero h0] at hu; simp at hu
    ·exact h0
   obtain ⟨ad', he, hc⟩ := HR h0
   injection he with he; subst he
   exact hc j u hu
  obtain ⟨v1, w1, hrun, h2, hg, _, hat⟩ := run_append_own_at (P := P) W base t ty e i0 z k bytes ht hi hz0 hz1 hz2 hz hk0 v n xs HO ad m c ys hm hnc h1 (by simp only [maxLen]; omega) hl hbase
  refine ⟨v1, w1, hrun, h2, hg, ?_⟩
  rcases hat with hat | hat
  ·exact .inl hat
  ·exact .inr ⟨_, hat, Nat.le_refl _⟩
theorem step_appK {w0 W : World} (base : Nat) (hw : Region.wanted o (yielded ops a.tmps) = true) (s x : Operand) (t e : TypeId) (z : Value) (k bytes : Nat)
 (ho : o.op = .call { callee := .builtin .append, args := #[s, x], argTypes := #[t, t] })
 (ht : P.underlying t = some (.slice e)) (hinfo : (P.info? e).map (fun i => (i.zero, i.size, i.bytes)) = some (some z, k, bytes)) (hz : z.cells.size = k) (hk0 : 0 < k) (hb0 : 0 < bytes)
 (v : Value) (xs ys : List Value) (A : Option Addr) (n m c : Nat) (hs : a.eval s = v) (hx : a.eval x = .slice A m c) (hm : ys.length = m * k) (HO : W.ownsRow base e k v n xs) (HR : Cells W A ys) (h1 : ∀ u ∈ ys, u.oneCell' = true)
 (HB : Below base w0 W) (hbase : base ≤ W.heap.size) (hl : (n + m) * bytes ≤ 140737488355328)
 (h : ∀ A1 c1 w1, w1.ownsRow base e k (.slice A1 (n + m) c1) (n + m) (xs ++ ys) → Below base w0 w1 → W.grownBy w1 v.ownBlock → ((Value.slice A1 (n + m) c1).ownBlock = v.ownBlock ∨ ∃ b, (Value.slice A1 (n + m) c1).ownBlock = some b ∧ W.heap.size ≤ b) → n + m ≤ c1 → K (a.put o.dst (.slice A1 (n + m) c1)) w1) :
 if Region.wanted o (yielded ops a.tmps) = true then Oper.wp P o a W K Q else K (a.put o.dst undef) W := by
 rw [if_pos hw]
 obtain ⟨v1, w1, hr, hown, hg, hat⟩ := run_appK (P := P) W base t o.type e z k bytes ht hinfo hz hk0 hb0 v n xs ys A m c hm HO HR h1 hbase hl
 unfold Oper.wp execOp
 simp only [ho, resolve, invoke, builtin, Sem.run_bind, Sem.run_pure, Result.andThen_ok, List.map_toArray, List.map_cons, List.map_nil, hs, hx, hr]
 have hB := HB.grown hg hbase (own_base HO)
 rcases hown.2 with ⟨rfl, h0⟩ | ⟨g, cap, cur, rfl, _, _, h2, _⟩
 ·have e0 : n + m = 0 := h0
  have h3 := h none 0 w1
  rw [e0] at h3
  rw [e0] at hown
  exact h3 hown hB hg hat (Nat.le_refl _)
 ·exact h _ _ w1 hown hB hg hat h2
theorem wpl_appK {w0 W : World} (base : Nat) (hgd : o.guard = none) (s x : Operand) (t e : TypeId) (z : Value) (k bytes : Nat)
 (ho : o.op = .call { callee := .builtin .append, args := #[s, x], argTypes := #[t, t] })
 (ht : P.underlying t = some (.slice e)) (hinfo : (P.info? e).map (fun i => (i.zero, i.size, i.bytes)) = some (some z, k, bytes)) (hz : z.cells.size = k) (hk0 : 0 < k) (hb0 : 0 < bytes)
 (v : Value) (xs ys : List Value) (A : Option Addr) (n m c : Nat) (hs : a.eval s = v) (hx : a.eval x = .slice A m c) (hm : ys.length = m * k) (HO : W.ownsRow base e k v n xs) (HR : Cells W A ys) (h1 : ∀ u ∈ ys, u.oneCell' = true)
 (HB : Below base w0 W) (hbase : base ≤ W.heap.size) (hl : (n + m) * bytes ≤ 140737488355328)
 (h : ∀ A1 c1 w1, w1.ownsRow base e k (.slice A1 (n + m) c1) (n + m) (xs ++ ys) → Below base w0 w1 → W.grownBy w1 v.ownBlock → ((Value.slice A1 (n + m) c1).ownBlock = v.ownBlock ∨ ∃ b, (Value.slice A1 (n + m) c1).ownBlock = some b ∧ W.heap.size ≤ b) → n + m ≤ c1 → wpList P ops Q rest (a.put o.dst (.slice A1 (n + m) c1)) w1) :
 wpList P ops Q (o :: rest) a W := by
 obtain ⟨v1, w1, hr, hown, hg, hat⟩ := run_appK (P := P) W base t o.type e z k bytes ht hinfo hz hk0 hb0 v n xs ys A m c hm HO HR h1 hbase hl
 refine wpList_plain hgd fun K hK => ?_
 unfold Oper.wp execOp
 simp only [ho, resolve, invoke, builtin, Sem.run_bind, Sem.run_pure, Result.andThen_ok, List.map_toArray, List.map_cons, List.map_nil, hs, hx, hr]
 have hB := HB.grown hg hbase (own_base HO)
 rcases hown.2 with ⟨rfl, h0⟩ | ⟨g, cap, cur, rfl, _, _, h2, _⟩
 ·have e0 : n + m = 0 := h0
  have h3 := h none 0 w1
  rw [e0] at h3
  rw [e0] at hown
  exact hK _ _ (h3 hown hB hg hat (Nat.le_refl _))
 ·exact hK _ _ (h _ _ w1 hown hB hg hat h2)
end
end Go.Proofs.Ytdchnaghmmhkhaa
