/- append of a slice that is read onto a row of one's own, as an operation of the plain walk. -/
import Derived.Test.YtlcioegdmopppaaSteps
set_option linter.unusedVariables false
set_option linter.unusedSimpArgs false
namespace Go.Proofs.Ytlcioegdmopppaa
open Go.RowKit Go.Proofs.YtlcioegdmopppaaW.PrintWords
section
variable {P : Program} {ops : Array Oper} {rest : List Oper} {o : Oper} {a : Act} {Q : Exit → Act → World → Prop}
theorem wpl_app {w0 W : World} (base : Nat) (hgd : o.guard = none) (s x : Operand) (t e : TypeId) (z : Value) (bytes : Nat)
    (ho : o.op = .call { callee := .builtin .append, args := #[s, x], argTypes := #[t, t] })
    (ht : P.underlying t = some (.slice e)) (hinfo : (P.info? e).map (fun i => (i.zero, i.size, i.bytes)) = some (some z, 1, bytes)) (hz : z.cells.size = 1) (hb0 : 0 < bytes)
    (v : Value) (xs ys : List Value) (A : Option Addr) (n m c : Nat) (hs : a.eval s = v) (hx : a.eval x = .slice A m c) (hn : xs.length = n) (hm : ys.length = m) (HO : W.ownsRow base e 1 v n xs) (HR : Cells W A ys) (h1 : ∀ u ∈ ys, u.oneCell' = true)
    (HB : Below base w0 W) (hbase : base ≤ W.heap.size) (hl : (n + m) * bytes ≤ 140737488355328)
    (h : ∀ A1 c1 w1, w1.ownsRow base e 1 (.slice A1 (n + m) c1) (n + m) (xs ++ ys) → Below base w0 w1 → W.grownBy w1 v.ownBlock → ((Value.slice A1 (n + m) c1).ownBlock = v.ownBlock ∨ ∃ b, (Value.slice A1 (n + m) c1).ownBlock = some b ∧ W.heap.size ≤ b) → n + m ≤ c1 → wpList P ops Q rest (a.put o.dst (.slice A1 (n + m) c1)) w1) :
    wpList P ops Q (o :: rest) a W := by
  subst hn
  obtain ⟨v1, w1, hr, hown, hg, hat⟩ := run_app (P := P) W base t o.type e z bytes ht hinfo hz hb0 v xs ys A m c hm HO HR h1 hbase hl
  refine wpList_plain hgd fun K hK => ?_
  unfold Oper.wp execOp
  simp only [ho, resolve, invoke, builtin, Sem.run_bind, Sem.run_pure, Result.andThen_ok, List.map_toArray, List.map_cons, List.map_nil, hs, hx, hr]
  have hB := HB.grown hg hbase (own_base HO)
  rcases hown.2 with ⟨rfl, h0⟩ | ⟨g, cap, cur, rfl, _, _, h2, _⟩
  · have e0 : xs.length + m = 0 := h0
    have h3 := h none 0 w1
    rw [e0] at h3
    rw [e0] at hown
    exact hK _ _ (h3 hown hB hg hat (Nat.le_refl _))
  · exact hK _ _ (h _ _ w1 hown hB hg hat h2)
end
end Go.Proofs.Ytlcioegdmopppaa
