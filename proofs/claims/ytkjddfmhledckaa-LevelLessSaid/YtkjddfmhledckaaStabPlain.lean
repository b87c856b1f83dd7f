/- A stable sort, plainly (no program): what its parts do to lists; which of two equals came first is told by a tag that nobody stores. -/
import Derived.Sort.Statements
import Derived.Sort.LotA
set_option linter.unusedVariables false
set_option linter.unusedSimpArgs false
namespace Go.Proofs.Ytkjddfmhledckaa.Stab
open Go.Sort

section
variable {α : Type} (lt : α → α → Bool) (tag : α → Nat)
/-- Less, or alike and earlier. -/
def llt (x y : α) : Bool := lt x y || (!lt y x && decide (tag x < tag y))
/-- Sorted, equals in order. -/
def Sd (X : List α) : Prop := X.Pairwise fun x y => llt lt tag y x = false
/-- All of the one came ahead of all of the other. -/
def Tl (X Y : List α) : Prop := ∀ x ∈ X, ∀ y ∈ Y, tag x < tag y
variable {lt tag} (hO : SWO lt)
theorem lt_of_llt {x y : α} (h : llt lt tag y x = false) : lt y x = false := by unfold llt at h; simp at h; exact h.1
include hO in
theorem llt_of_lt {x y : α} (h : lt x y = true) : llt lt tag y x = false := by
  have h1 : lt y x = false := by
    cases h2 : lt y x
    · rfl
    · have := hO.trans x y x h h2; rw [hO.irrefl] at this; cases this
  unfold llt; simp [h, h1]
theorem llt_of_tag {x y : α} (h : lt y x = false) (ht : tag x < tag y) : llt lt tag y x = false := by
  unfold llt; simp [h]; intro _; omega
include hO in
/-- ¬ y < x, x < z: y... : less than what is not greater. -/
theorem lt_mid {x y z : α} (h1 : lt x y = true) (h2 : lt z y = false) : lt x z = true := by
  cases h : lt x z
  · have := hO.ntrans x z y h h2
    rw [h1] at this; cases this
  · rfl
include hO in
theorem lt_mid' {x y z : α} (h1 : lt y z = true) (h2 : lt y x = false) : lt x z = true := by
  cases h : lt x z
  · have := hO.ntrans y x z h2 h
    rw [h1] at this; cases this
  · rfl
theorem Sd.append {X Y : List α} (h1 : Sd lt tag X) (h2 : Sd lt tag Y) (h : ∀ x ∈ X, ∀ y ∈ Y, llt lt tag y x = false) : Sd lt tag (X ++ Y) := List.pairwise_append.2 ⟨h1, h2, h⟩
theorem Sd.left {X Y : List α} (h : Sd lt tag (X ++ Y)) : Sd lt tag X := (List.pairwise_append.1 h).1
theorem Sd.right {X Y : List α} (h : Sd lt tag (X ++ Y)) : Sd lt tag Y := (List.pairwise_append.1 h).2.1
theorem Sd.cross {X Y : List α} (h : Sd lt tag (X ++ Y)) : ∀ x ∈ X, ∀ y ∈ Y, llt lt tag y x = false := (List.pairwise_append.1 h).2.2
/-- The first of a sorted row is not above any. -/
theorem Sd.first {x : α} {X : List α} (h : Sd lt tag (x :: X)) : ∀ y ∈ X, lt y x = false := fun y hy => lt_of_llt ((List.pairwise_cons.1 h).1 y hy)
theorem Sd.last {x : α} {X : List α} (h : Sd lt tag (X ++ [x])) : ∀ y ∈ X, lt x y = false := fun y hy => lt_of_llt (Sd.cross h y hy x (by simp))
include hO in
/-- x, which came behind all of X1, put behind X1, where X1's last one is not above it. -/
theorem ins_done {X1 X2 : List α} {x : α} (h : Sd lt tag (X1 ++ X2)) (h2 : ∀ y ∈ X2, lt x y = true) (h1 : ∀ y ∈ X1, lt x y = false) (ht : ∀ y ∈ X1, tag y < tag x) : Sd lt tag (X1 ++ x :: X2) := by
  refine Sd.append h.left (List.pairwise_cons.2 ⟨fun y hy => llt_of_lt hO (h2 y hy), h.right⟩) fun y hy z hz => ?_
  rcases List.mem_cons.1 hz with rfl | hz
  · exact llt_of_tag (h1 y hy) (ht y hy)
  · exact h.cross y hy z hz
include hO in
/-- x, which came ahead of all of X, put behind those that are less. -/
theorem ins_left {X1 X2 : List α} {x : α} (h : Sd lt tag (X1 ++ X2)) (h1 : ∀ y ∈ X1, lt y x = true) (h2 : ∀ y ∈ X2, lt y x = false) (ht : ∀ y ∈ X2, tag x < tag y) : Sd lt tag (X1 ++ x :: X2) := by
  refine Sd.append h.left (List.pairwise_cons.2 ⟨fun y hy => llt_of_tag (h2 y hy) (ht y hy), h.right⟩) fun y hy z hz => ?_
  rcases List.mem_cons.1 hz with rfl | hz
  · exact llt_of_lt hO (h1 y hy)
  · exact h.cross y hy z hz
include hO in
theorem all_not_lt {X : List α} {x z : α} (h : Sd lt tag (X ++ [z])) (hz : lt x z = false) : ∀ y ∈ X ++ [z], lt x y = false := fun y hy => by
  rcases List.mem_append.1 hy with hy | hy
  · exact hO.ntrans x z y hz (h.last y hy)
  · simp at hy; subst hy; exact hz
include hO in
theorem all_lt_left {X : List α} {x z : α} (h : Sd lt tag (X ++ [z])) (hz : lt z x = true) : ∀ y ∈ X ++ [z], lt y x = true := fun y hy => by
  rcases List.mem_append.1 hy with hy | hy
  · exact lt_mid' hO hz (h.last y hy)
  · simp at hy; subst hy; exact hz
include hO in
theorem all_lt_right {X : List α} {x z : α} (h : Sd lt tag (z :: X)) (hz : lt x z = true) : ∀ y ∈ z :: X, lt x y = true := fun y hy => by
  rcases List.mem_cons.1 hy with rfl | hy
  · exact hz
  · exact lt_mid hO hz (h.first y hy)
include hO in
theorem all_not_lt_right {X : List α} {x z : α} (h : Sd lt tag (z :: X)) (hz : lt z x = false) : ∀ y ∈ z :: X, lt y x = false := fun y hy => by
  rcases List.mem_cons.1 hy with rfl | hy
  · exact hz
  · exact hO.ntrans y z x (h.first y hy) hz
include hO in
/-- Two sorted runs, cut and turned: both halves may be merged apart. -/
theorem cut_done {L1 L2 R1 R2 M1 M2 : List α} (hL : Sd lt tag (L1 ++ L2)) (hR : Sd lt tag (R1 ++ R2)) (ht : Tl tag (L1 ++ L2) (R1 ++ R2)) (h1 : M1.Perm (L1 ++ R1)) (h2 : M2.Perm (L2 ++ R2)) (s1 : Sd lt tag M1) (s2 : Sd lt tag M2)
    (ha : ∀ x ∈ R1, ∀ y ∈ L2, lt x y = true) (hb : ∀ x ∈ L1, ∀ y ∈ R2, lt y x = false) : Sd lt tag (M1 ++ M2) := by
  refine s1.append s2 fun x hx y hy => ?_
  have hx := h1.mem_iff.1 hx
  have hy := h2.mem_iff.1 hy
  rcases List.mem_append.1 hx with hx | hx
  · rcases List.mem_append.1 hy with hy | hy
    · exact hL.cross x hx y hy
    · exact llt_of_tag (hb x hx y hy) (ht x (by simp [hx]) y (by simp [hy]))
  · rcases List.mem_append.1 hy with hy | hy
    · exact llt_of_lt hO (ha x hx y hy)
    · exact hR.cross x hx y hy
include hO in
theorem cross_lt {R1 L2 : List α} {r l : α} (hR : Sd lt tag (R1 ++ [r])) (hL : Sd lt tag (l :: L2)) (h : lt r l = true) : ∀ x ∈ R1 ++ [r], ∀ y ∈ l :: L2, lt x y = true := fun x hx y hy =>
  all_lt_right hO hL (all_lt_left hO hR h x hx) y hy
include hO in
theorem cross_not {L1 R2 : List α} {l r : α} (hL : Sd lt tag (L1 ++ [l])) (hR : Sd lt tag (r :: R2)) (h : lt r l = false) : ∀ x ∈ L1 ++ [l], ∀ y ∈ r :: R2, lt y x = false := fun x hx y hy =>
  all_not_lt_right hO hR (all_not_lt hO hL h x hx) y hy
theorem Tl.perm {X Y X' Y' : List α} (h : Tl tag X Y) (hx : X'.Perm X) (hy : Y'.Perm Y) : Tl tag X' Y' := fun x a y b => h x (hx.mem_iff.1 a) y (hy.mem_iff.1 b)
end
/-! Places of a list's array -/
section
variable {α : Type} [Inhabited α]
theorem get_at {A C : List α} {x : α} {i : Nat} (h : A.length = i) : (A ++ x :: C).toArray[i]! = x := by
  subst h; simp
theorem get_app {A C : List α} {i j : Nat} (h : A.length + j = i) (hj : j < C.length) : (A ++ C).toArray[i]! = C[j] := by
  subst h
  rw [← Array.getElem!_toList, List.getElem!_eq_getElem?_getD, List.getElem?_append_right (by omega)]
  simp [hj]
theorem swp_at {A B C : List α} {x y : α} {i j : Nat} (hi : A.length = i) (hj : i + 1 + B.length = j) : swp (A ++ x :: (B ++ y :: C)).toArray i j = (A ++ y :: (B ++ x :: C)).toArray := by
  subst hi
  have e1 : (A ++ x :: (B ++ y :: C)).toArray[A.length]! = x := get_at rfl
  have e2 : (A ++ x :: (B ++ y :: C)).toArray[j]! = y := by
    have := get_at (A := A ++ x :: B) (C := C) (x := y) (i := j) (by simp; omega)
    simpa using this
  unfold swp
  rw [e1, e2]
  apply Array.ext'
  simp only [Array.toList_setIfInBounds]
  rw [List.set_append, if_neg (by omega), Nat.sub_self, List.set_cons_zero, List.set_append, if_neg (by omega)]
  rw [show j - A.length = B.length + 1 from by omega, List.set_cons_succ, List.set_append, if_neg (by omega), Nat.sub_self, List.set_cons_zero]
theorem swp_comm_at {A B C : List α} {x y : α} {i j : Nat} (hi : A.length = i) (hj : i + 1 + B.length = j) : swp (A ++ x :: (B ++ y :: C)).toArray j i = (A ++ y :: (B ++ x :: C)).toArray := by
  have e1 : (A ++ x :: (B ++ y :: C)).toArray[i]! = x := get_at hi
  have e2 : (A ++ x :: (B ++ y :: C)).toArray[j]! = y := by
    have := get_at (A := A ++ x :: B) (C := C) (x := y) (i := j) (by simp; omega)
    simpa using this
  have h : swp (A ++ x :: (B ++ y :: C)).toArray j i = swp (A ++ x :: (B ++ y :: C)).toArray i j := by
    unfold swp
    rw [e1, e2]
    apply Array.ext'
    simp only [Array.toList_setIfInBounds]
    rw [List.set_comm _ _ (by omega)]
  rw [h, swp_at hi hj]
end
end Go.Proofs.Ytkjddfmhledckaa.Stab
