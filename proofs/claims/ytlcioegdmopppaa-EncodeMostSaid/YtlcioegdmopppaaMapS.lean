/- A map of the call's own with whole numbers as elements, told by the set of its keys: asked by 'v, is := m[k]' and written. Over any key's kind. -/
import Derived.Test.YtlcioegdmopppaaBase
import Derived.Maps.OwnSet
import Derived.Maps.Own
set_option linter.unusedVariables false
set_option linter.unusedSimpArgs false
namespace Go.Proofs.Ytlcioegdmopppaa
open Go.RowKit Go.Maps
set_option linter.unusedSectionVars false

/-- The block b is a map of at most n entries, whose keys are just those of S. -/
def MapI (P : Program) (k e : TypeId) (w : World) (b n : Nat) (S : Value → Prop) : Prop :=
  ∃ D : DataW Unit, w.ownsMap P k (plainElem P e) b n D ∧ Maps.IsMap D ∧ ∀ v l, keyOf P k v = some l → (Maps.has D l = true ↔ S v)

section
variable {P : Program} {k e : TypeId} {w w' : World} {b n : Nat} {S : Value → Prop}
theorem MapI.made (P : Program) (k e : TypeId) (w : World) : MapI P k e (w.alloc (.map #[] 0)) w.heap.size 0 (fun _ => False) :=
  ⟨.map [], World.ownsMap_made w P k _, ⟨[], rfl⟩, fun v l _ => by simp [Maps.has_eq]⟩
theorem MapI.lt (h : MapI P k e w b n S) : b < w.heap.size := by
  obtain ⟨D, h, _⟩ := h
  exact h.lt
theorem MapI.block (h : MapI P k e w b n S) (hb : w'.heap[b]? = w.heap[b]?) : MapI P k e w' b n S := by
  obtain ⟨D, ⟨es, clock, h1, F, h2, h3⟩, hm, hD⟩ := h
  exact ⟨D, ⟨es, clock, hb.trans h1, F, h2, h3⟩, hm, hD⟩
theorem MapI.below (h : MapI P k e w b n S) (hb : Below w.heap.size w w') : MapI P k e w' b n S := h.block (hb.block b h.lt)
theorem MapI.alloc (h : MapI P k e w b n S) (o : Obj) : MapI P k e (w.alloc o) b n S := h.block (Below.heap_alloc w o b h.lt)
theorem MapI.drew (h : MapI P k e w b n S) : MapI P k e w.drew b n S := h
theorem MapI.grown {row : Option Nat} (h : MapI P k e w b n S) (hg : w.grownBy w' row) (hne : some b ≠ row) : MapI P k e w' b n S := h.block (hg.block b h.lt hne)
theorem MapI.set (h : MapI P k e w b n S) {p : Addr} (hp : b ≠ p.block) (u : Value) : MapI P k e (w.setCell p u) b n S := h.block (Below.heap_setCell w p u b hp)
theorem MapI.imp {S' : Value → Prop} (h : MapI P k e w b n S) (hS : ∀ v, S v ↔ S' v) : MapI P k e w b n S' := by
  obtain ⟨D, h1, h2, h3⟩ := h
  exact ⟨D, h1, h2, fun v l hl => (h3 v l hl).trans (hS v)⟩
end

section
variable {P : Program} {ops : Array Oper} {rest : List Oper} {o : Oper} {a : Act} {Q : Exit → Act → World → Prop} {w : World}
/-- 'v, is := m[k]'. -/
theorem wpl_ask (hg : o.guard = none) (m x : Operand) (t : TypeId) (hop : o.op = Op.lookup t m x true) (k e : TypeId) (q : IntKind) (K : Keyed P k) (ht : P.underlying t = some (.map k e)) (he : P.underlying e = some (.int q)) (hz : (zeroValue e).run P w = .ok (.int q 0) w)
    (b n : Nat) (S : Value → Prop) (hm : a.eval m = .map (some b)) (hS : MapI P k e w b n S) (key : Value) (kl : Lit) (hx : a.eval x = key) (hkey : keyOf P k key = some kl) (is : Bool) (his : is = true ↔ S key)
    (hK : ∀ c : Int, wpList P ops Q rest (a.put o.dst (.tuple #[.int q c, .bool is])) w) : wpList P ops Q (o :: rest) a w := by
  obtain ⟨D, hown, hmap, hD⟩ := hS
  refine wpList_lookup_own_ok_int w hg m x t hop k e q K ht he hz b n D hm hown key kl hx hkey fun c _ _ => ?_
  have : Maps.has D kl = is := by
    have := (hD key kl hkey).trans his.symm
    rw [Bool.eq_iff_iff]; exact this
  rw [this]
  exact hK c
/-- 'm[k] = v'. -/
theorem wpl_put (hg : o.guard = none) (m x v : Operand) (t : TypeId) (hop : o.op = Op.mapUpdate t m x v) (k e : TypeId) (q : IntKind) (K : Keyed P k) (ht : P.underlying t = some (.map k e)) (he : P.underlying e = some (.int q))
    (b n : Nat) (S : Value → Prop) (hm : a.eval m = .map (some b)) (hS : MapI P k e w b n S) (hn : n < maxLen) (key : Value) (kl : Lit) (hx : a.eval x = key) (hkey : keyOf P k key = some kl) (c : Int) (hv : a.eval v = .int q c) (hwf : (Lit.int q c).wf = true)
    (hK : ∀ w', MapI P k e w' b (n + 1) (fun v => v = key ∨ S v) → w.grownBy w' (some b) → wpList P ops Q rest (a.put o.dst undef) w') : wpList P ops Q (o :: rest) a w := by
  obtain ⟨D, hown, hmap, hD⟩ := hS
  refine wpList_mapUpdate_own w hg m x v t hop k e K ht _ b n D hm hown hn key (.int q c) kl hx hv hkey (.lit (.int q c)) [] (plainElem_int he hwf) fun w' h1 h2 => hK w' ⟨_, h1, ?_, fun u l hl => ?_⟩ h2
  · obtain ⟨es, rfl⟩ := hmap
    exact ⟨_, rfl⟩
  · by_cases e1 : l = kl
    · subst e1
      have e2 := K.inj hl hkey
      subst e2
      rw [has_put_same hmap (K.key hkey)]
      simp
    · rw [has_put_other e1, hD u l hl]
      constructor
      · exact Or.inr
      · rintro (rfl | h)
        · rw [hkey] at hl; exact absurd (Option.some.inj hl).symm e1
        · exact h
end
end Go.Proofs.Ytlcioegdmopppaa
