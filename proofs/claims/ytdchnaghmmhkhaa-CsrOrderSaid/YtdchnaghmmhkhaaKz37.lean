/- Printed by shake.py. -/
import Derived.Deep.Slices
import Derived.ChangeArms
import Derived.RowKit
import Derived.Test.YtdchnaghmmhkhaaKz00
set_option linter.unusedVariables false
set_option linter.unusedSimpArgs false
namespace Go.Proofs.Ytdchnaghmmhkhaa
open Go.RowKit Go.ChangeShapes Go.WideShapes Go.Proofs.YtdchnaghmmhkhaaW.PrintWords
def Opens (P : Program) (w : World) (t : TypeId) {α : Type} (K : α → List Value → Prop) : Prop :=
 ∀ {H : Type} (enc : TypeId × Value → H) (fuel : Nat) (cs : List Value) (x : DataW H × List MemPlace), DataW.trod enc P w 0 (fun _ => true) true fuel t cs = some x → ∃ a, K a cs
theorem opens_int {P : Program} {w : World} {t : TypeId} {k : IntKind} (ht : P.underlying t = some (.int k)) : Opens P w t (fun (n : Int) cs => cs = [.int k n] ∧ (Lit.int k n).wf = true) := by
 intro H enc fuel cs x h
 obtain ⟨n, h1, _, h2⟩ := DataW.trod_int ht h
 exact ⟨n, h1, h2⟩
theorem Opens.mono {P : Program} {w : World} {t : TypeId} {α β : Type} {K : α → List Value → Prop} {K' : β → List Value → Prop} (h : Opens P w t K) (f : α → β) (hf : ∀ a cs, K a cs → K' (f a) cs) : Opens P w t K' := by
 intro H enc fuel cs x hx
 obtain ⟨a, ha⟩ := h enc fuel cs x hx
 exact ⟨f a, hf a cs ha⟩
theorem opens_slice {P : Program} {w : World} {t e : TypeId} {α : Type} {K : α → List Value → Prop} {sz : Nat} (ht : P.underlying t = some (.slice e)) (hc : P.cellsOf e = sz) (hK : Opens P w e K) :
 Opens P w t (fun (l : List α) cs => ∃ A c, cs = [.slice A l.length c] ∧ l.length ≤ c ∧ ReadsRow K sz w A l.length l) := by
 intro H enc fuel cs x h
 rcases Go.Deep.open_slice ht h with ⟨rfl, _⟩ | ⟨a, len, cap, m, n, D, Pl, rfl, _, hl, hm, hmm, _, hx⟩
 ·exact ⟨[], none, 0, rfl, Nat.le_refl _, rfl, by simp, fun h0 => by simp at h0⟩
 ·simp only [if_pos] at hmm
  subst hmm
  have each : ∀ i, i < m → ∃ q : α, ∃ c : List Value, c.length = sz ∧ K q c ∧ ∀ j u, c[j]? = some u → w.cell? (a.add (i * sz + j)) = some u := by
   intro i hi
   obtain ⟨cs', h1, h2⟩ := hx i hi
   rw [hc] at h1
   obtain ⟨_, hlen, hcell⟩ := World.cells?_some h1
   obtain ⟨q, hq⟩ := hK enc _ _ _ h2
   refine ⟨q, cs', hlen, hq, fun j u hu => ?_⟩
   have hj : j < cs'.length := by
    rcases Nat.lt_or_ge j cs'.length with h' | h'
    ·exact h'
    ·rw [List.getElem?_eq_none h'] at hu; cases hu
   have := hcell j (by omega)
   rw [Go.Deep.add_add] at this
   rw [this]; exact hu
  have build : ∀ k, k ≤ m → ∃ l : List α, l.length = k ∧ ∀ j p, l[j]? = some p → ∃ c : List Value, c.length = sz ∧ K p c ∧ ∀ i u, c[i]? = some u → w.cell? (a.add (j * sz + i)) = some u := by
   intro k
   induction k with
   | zero => intro _; exact ⟨[], rfl, fun j p h => by simp at h⟩
   | succ k ih =>
    intro hk
    obtain ⟨l, hl1, hl2⟩ := ih (by omega)
    obtain ⟨q, c, h1, h2, h3⟩ := each k (by omega)
    refine ⟨l ++ [q], by simp [hl1], fun j p hp => ?_⟩
    rcases Nat.lt_trichotomy j l.length with hj | hj | hj
    ·rw [List.getElem?_append_left hj] at hp
     exact hl2 j p hp
    ·subst hj
     simp at hp; subst hp
     rw [hl1]; exact ⟨c, h1, h2, h3⟩
    ·rw [List.getElem?_eq_none (by simp; omega)] at hp; cases hp
  obtain ⟨l, hl1, hl2⟩ := build len hl
  refine ⟨l, some a, m, by rw [hl1], by omega, rfl, ?_, fun _ => ⟨a, rfl, fun j p hp => ?_⟩⟩
  ·simp only [maxLen] at hm; omega
  ·exact hl2 j p hp
end Go.Proofs.Ytdchnaghmmhkhaa
