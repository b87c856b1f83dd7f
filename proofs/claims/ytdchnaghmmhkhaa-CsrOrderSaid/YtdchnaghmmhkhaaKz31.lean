/- Printed by shake.py. -/
import Derived.Test.YtdchnaghmmhkhaaKz28
import Derived.Test.YtdchnaghmmhkhaaKz26
import Derived.OwnWalkIn
set_option linter.unusedVariables false
set_option linter.unusedSimpArgs false
namespace Go.Proofs.Ytdchnaghmmhkhaa
open Go.RowKit Go.Shelf Go.Proofs.YtdchnaghmmhkhaaW.PrintWords
def markOf (D : Nat) : Deferred := { target := .collected D, args := #[] }
def met (Ds : List Nat) (w : World) : World := Ds.foldl (fun w D => w.putObj D (.deferred none)) w
theorem met_heap (Ds : List Nat) : ∀ (w : World) (i : Nat), i ∉ Ds → (met Ds w).heap[i]? = w.heap[i]? := by
 induction Ds with
 | nil => intro w i _; rfl
 | cons D Ds ih =>
  intro w i hi
  have h1 : i ≠ D := fun e => hi (by simp [e])
  exact (ih (w.putObj D (.deferred none)) i (fun h => hi (by simp [h]))).trans (World.putObj_heap_other h1)
theorem met_below {B : Nat} (Ds : List Nat) : ∀ (a w : World), (∀ D ∈ Ds, B ≤ D) → Below B a w → Below B a (met Ds w) := by
 induction Ds with
 | nil => intro a w _ h; exact h
 | cons D Ds ih =>
  intro a w hD h
  refine ih a (w.putObj D (.deferred none)) (fun D h => hD D (by simp [h])) (h.trans ⟨rfl, rfl, rfl, by simp, fun i hi => World.putObj_heap_other (by have := hD D (by simp); omega)⟩)
theorem leaves_marks {fn : Func} {tmps : Array Value} {R : Ending → World → Prop} {v : Value} {P : Program} : ∀ (Ds : List Nat) (w : World), (∀ D ∈ Ds, w.heap[D]? = some (.deferred (some []))) → Ds.Nodup →
 (results fn tmps).run P (met Ds w) = .ok v (met Ds w) → R (.returned v) (met Ds w) → LeavesInM Fence.wide 0 P fn tmps R (Ds.map markOf) .returning w := by
 intro Ds
 induction Ds with
 | nil => intro w _ _ hr hR; exact ⟨_, hr, hR⟩
 | cons D Ds ih =>
  intro w hD hn hr hR
  rw [List.nodup_cons] at hn
  refine ⟨by simp, .inl ⟨_, _, rfl, run_takeDeferred (hD D (by simp)), ?_⟩⟩
  exact ih (w.putObj D (.deferred none)) (fun E hE => (World.putObj_heap_other (fun e => hn.1 (by rw [← e]; exact hE))).trans (hD E (by simp [hE]))) hn.2 hr hR
section
variable {F : Fence} {n : Nat} {P : Program} {ops : Array Oper} {rest : List Oper} {o : Oper} {a : Act} {Q : Exit → Act → World → Prop}
theorem wplin_appK {w0 W : World} (base : Nat) (hgd : o.guard = none) (s x : Operand) (t e : TypeId) (z : Value) (k bytes : Nat)
 (ho : o.op = .call { callee := .builtin .append, args := #[s, x], argTypes := #[t, t] })
 (ht : P.underlying t = some (.slice e)) (hinfo : (P.info? e).map (fun i => (i.zero, i.size, i.bytes)) = some (some z, k, bytes)) (hz : z.cells.size = k) (hk0 : 0 < k) (hb0 : 0 < bytes)
 (v : Value) (xs ys : List Value) (A : Option Addr) (n1 m c : Nat) (hs : a.eval s = v) (hx : a.eval x = .slice A m c) (hm : ys.length = m * k) (HO : W.ownsRow base e k v n1 xs) (HR : Cells W A ys) (h1 : ∀ u ∈ ys, u.oneCell' = true)
 (HB : Below base w0 W) (hbase : base ≤ W.heap.size) (hl : (n1 + m) * bytes ≤ 140737488355328)
 (h : ∀ A1 c1 w1, w1.ownsRow base e k (.slice A1 (n1 + m) c1) (n1 + m) (xs ++ ys) → Below base w0 w1 → W.grownBy w1 v.ownBlock → ((Value.slice A1 (n1 + m) c1).ownBlock = v.ownBlock ∨ ∃ b, (Value.slice A1 (n1 + m) c1).ownBlock = some b ∧ W.heap.size ≤ b) → n1 + m ≤ c1 → wpListIn F n P ops Q rest (a.put o.dst (.slice A1 (n1 + m) c1)) w1) :
 wpListIn F n P ops Q (o :: rest) a W := by
 obtain ⟨v1, w1, hr, hown, hg, hat⟩ := run_appK (P := P) W base t o.type e z k bytes ht hinfo hz hk0 hb0 v n1 xs ys A m c hm HO HR h1 hbase hl
 refine wpListIn_plain hgd fun K hK => ?_
 unfold Oper.wpIn
 refine ⟨?_, ?_⟩
 ·simp [Oper.about, ho, resolve, Target.leads, Sem.run_pure]
 ·rw [Oper.semAt_plain F _ _ (by rw [ho]; intro c hc'; cases hc')]
  unfold execOp
  simp only [ho, resolve, invoke, builtin, Sem.run_bind, Sem.run_pure, Result.andThen_ok, List.map_toArray, List.map_cons, List.map_nil, hs, hx, hr]
  have hB := HB.grown hg hbase (own_base HO)
  rcases hown.2 with ⟨rfl, h0⟩ | ⟨g, cap, cur, rfl, _, _, h2, _⟩
  ·have e0 : n1 + m = 0 := h0
   have h3 := h none 0 w1
   rw [e0] at h3
   rw [e0] at hown
   exact hK _ _ (h3 hown hB hg hat (Nat.le_refl _))
  ·exact hK _ _ (h _ _ w1 hown hB hg hat h2)
end
end Go.Proofs.Ytdchnaghmmhkhaa
