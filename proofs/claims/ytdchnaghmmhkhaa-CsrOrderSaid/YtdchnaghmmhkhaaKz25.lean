/- Printed by shake.py. -/
import Derived.Test.YtdchnaghmmhkhaaKz23
import Derived.Deep.AppendLies
import Derived.Deep.Slices
import Derived.Deep.RegionLaw
import Derived.Deep.RegionHeldLaw
import Derived.Test.YtdchnaghmmhkhaaKz20
set_option linter.unusedVariables false
set_option linter.unusedSimpArgs false
namespace Go.Proofs.Ytdchnaghmmhkhaa
open Go.RowKit Go.Proofs.YtdchnaghmmhkhaaW.PrintWords
def Cells (w : World) (A : Option Addr) (ys : List Value) : Prop := 0 < ys.length → ∃ ad, A = some ad ∧ ∀ j v, ys[j]? = some v → w.cell? (ad.add j) = some v
theorem Cells.drop {w : World} {ad : Addr} {ys : List Value} (h : Cells w (some ad) ys) (k : Nat) : Cells w (some (ad.add k)) (ys.drop k) := fun h0 => by
 obtain ⟨ad', e, hc⟩ := h (by simp at h0; omega)
 injection e with e; subst e
 refine ⟨_, rfl, fun j v hv => ?_⟩
 rw [Go.Deep.add_add]
 exact hc _ v (by rwa [List.getElem?_drop] at hv)
theorem Cells.new (w : World) (cs : List Value) (t : TypeId) : Cells (w.alloc (.cells cs.toArray t)) (some ⟨w.heap.size, 0, none⟩) cs := fun _ =>
 ⟨_, rfl, fun j v hv => by simpa using World.news_of_block (cs := cs.toArray) (t := t) (fr := (0, 0)) (heap_alloc_new w (.cells cs.toArray t)) j v (by simpa using hv)⟩
theorem Cells.grown {W w2 : World} {b : Nat} {ys : List Value} {row : Option Nat} (h : Cells W (some ⟨b, 0, none⟩) ys) (hg : W.grownBy w2 row) (hb : b < W.heap.size) (hne : some b ≠ row) : Cells w2 (some ⟨b, 0, none⟩) ys := fun h0 => by
 obtain ⟨ad, e, hc⟩ := h h0
 injection e with e; subst e
 refine ⟨_, rfl, fun j v hv => ?_⟩
 have hbl : ((⟨b, 0, none⟩ : Addr).add j).block = b := by unfold Addr.add; split <;> rfl
 rw [hg.cell_far _ (by rw [hbl]; exact hb) (by rw [hbl]; exact hne)]
 exact hc j v hv
section
variable {P : Program} {ops : Array Oper} {o : Oper} {a : Act} {Q : Exit → Act → World → Prop} {K : Act → World → Prop}
end
section
variable {P : Program} (w : World)
end
end Go.Proofs.Ytdchnaghmmhkhaa
