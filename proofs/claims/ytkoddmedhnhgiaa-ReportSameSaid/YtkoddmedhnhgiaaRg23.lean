/- Printed by shake.py. -/
import Derived.Test.YtkoddmedhnhgiaaRg21
namespace Go.Proofs.Ytkoddmedhnhgiaa.PReportBack
open Go.RowKit Go.Proofs.YtkoddmedhnhgiaaW.PrintWords Go.Proofs.YtkoddmedhnhgiaaW.PrintLast Go.Proofs.YtkoddmedhnhgiaaW.PrintMore
attribute [local go_sem] max2_int min2_int max_two min_two max_three min_three max_four min_four
set_option linter.unusedVariables false
set_option linter.unusedSimpArgs false
def coronerref01_Digit.f (a0 : Int) : Option (Bool) := if a0 ≥ 48 then (some (decide (a0 ≤ 57))) else (some false)
mutual
def coronerref01_Value.j0 : Nat → List Int → Bool → Option (Int)
 | 0, _, _ => none
 | k + 1, x0, x23 => if x23 = true then (some (-1)) else (coronerref01_Value.l0 k x0 0 0)
def coronerref01_Value.l0 : Nat → List Int → Int → Int → Option (Int)
 | 0, _, _, _ => none
 | k + 1, x0, x3, x4 => if x4 < (x0.length : Int) then (if 0 ≤ x4 then ((coronerref01_Digit.f (rd x0 x4)).bind fun t168 => (if t168 = true then (coronerref01_Value.l0 k x0 (wrap64 ((wrap64 ((wrap64 (10 * x3)) + (wrap64 (rd x0 x4)))) - 48)) (wrap64 (x4 + 1))) else (some (-1)))) else (none)) else (if x3 > 2147483647 then (some (-1)) else (some x3))
end
def coronerref01_Value.f (k : Nat) (l0 : List Int) : Option (Int) := if (l0.length : Int) = 0 then (coronerref01_Value.j0 k l0 true) else (if (l0.length : Int) > 10 then (coronerref01_Value.j0 k l0 true) else (if (l0.length : Int) > 1 then (if 0 < (l0.length : Int) then (coronerref01_Value.j0 k l0 ((rd l0 0) == 48)) else (none)) else (coronerref01_Value.j0 k l0 false)))
theorem coronerref01_Value.mono_l : ∀ k, (∀ y0 y1, LeO (coronerref01_Value.j0 k y0 y1) (coronerref01_Value.j0 (k + 1) y0 y1)) ∧ (∀ y0 y1 y2, LeO (coronerref01_Value.l0 k y0 y1 y2) (coronerref01_Value.l0 (k + 1) y0 y1 y2))
 | 0 => ⟨fun _ _ r h => by simp [coronerref01_Value.j0] at h, fun _ _ _ r h => by simp [coronerref01_Value.l0] at h⟩
 | k + 1 => by
  obtain ⟨ih0, ih1⟩ := coronerref01_Value.mono_l k
  refine ⟨?_, ?_⟩
  ·intro y0 y1
   unfold coronerref01_Value.j0
   repeat' first
   | (with_reducible exact ih0 _ _)
   | (with_reducible exact ih1 _ _ _)
   | (with_reducible exact LeO.refl _)
   | (with_reducible exact LeO.none _)
   | (with_reducible refine LeO.ite ?_ ?_)
   | (with_reducible refine LeO.bind ?_ (fun _ => ?_))
   | exact ih0 _ _
   | exact ih1 _ _ _
   | exact LeO.none _
   | refine LeO.ite ?_ ?_
   | refine LeO.bind ?_ (fun _ => ?_)
  ·intro y0 y1 y2
   unfold coronerref01_Value.l0
   repeat' first
   | (with_reducible exact ih0 _ _)
   | (with_reducible exact ih1 _ _ _)
   | (with_reducible exact LeO.refl _)
   | (with_reducible exact LeO.none _)
   | (with_reducible refine LeO.ite ?_ ?_)
   | (with_reducible refine LeO.bind ?_ (fun _ => ?_))
   | exact ih0 _ _
   | exact ih1 _ _ _
   | exact LeO.none _
   | refine LeO.ite ?_ ?_
   | refine LeO.bind ?_ (fun _ => ?_)
theorem coronerref01_Value.mono : ∀ a0 k, LeO (coronerref01_Value.f k a0) (coronerref01_Value.f (k + 1) a0) := by
 intro a0 k
 obtain ⟨ih0, ih1⟩ := coronerref01_Value.mono_l k
 unfold coronerref01_Value.f
 repeat' first
  | (with_reducible exact ih0 _ _)
  | (with_reducible exact ih1 _ _ _)
  | (with_reducible exact LeO.refl _)
  | (with_reducible exact LeO.none _)
  | (with_reducible refine LeO.ite ?_ ?_)
  | (with_reducible refine LeO.bind ?_ (fun _ => ?_))
  | exact ih0 _ _
  | exact ih1 _ _ _
  | exact LeO.none _
  | refine LeO.ite ?_ ?_
  | refine LeO.bind ?_ (fun _ => ?_)
mutual
def coronerref01_Parse.j0 : Nat → List Int → Int → Bool → Option (Int × Int × Bool)
 | 0, _, _, _ => none
 | k + 1, x0, x1, x16 => if x16 = true then (some (0, 0, false)) else (coronerref01_Parse.l0 k x0 x1 x1)
def coronerref01_Parse.j2 : Nat → List Int → Int → Int → Option (Int × Int × Bool)
 | 0, _, _, _ => none
 | k + 1, x0, x1, x7 => coronerref01_Parse.l1 k x0 x1 x7 (wrap64 (x1 + 1))
def coronerref01_Parse.l1 : Nat → List Int → Int → Int → Int → Option (Int × Int × Bool)
 | 0, _, _, _, _ => none
 | k + 1, x0, x1, x7, x8 => if x8 ≤ x7 then (if 0 ≤ x1 then (if x1 ≤ x8 then (if x8 ≤ (x0.length : Int) then ((coronerref01_Value.f k ((x0.take (x8 : Int).toNat).drop (x1 : Int).toNat)).bind fun t173 => (if t173 < 0 then (some (0, wrap64 (x8 - 1), false)) else (coronerref01_Parse.l1 k x0 x1 x7 (wrap64 (x8 + 1))))) else (none)) else (none)) else (none)) else (if x7 = x1 then (some (0, x1, false)) else (if 0 ≤ x1 then (if x1 ≤ x7 then (if x7 ≤ (x0.length : Int) then ((coronerref01_Value.f k ((x0.take (x7 : Int).toNat).drop (x1 : Int).toNat)).bind fun t175 => (some (t175, x7, true))) else (none)) else (none)) else (none)))
def coronerref01_Parse.l0 : Nat → List Int → Int → Int → Option (Int × Int × Bool)
 | 0, _, _, _ => none
 | k + 1, x0, x1, x7 => if x7 < (x0.length : Int) then (if 0 ≤ x7 then ((coronerref01_Digit.f (rd x0 x7)).bind fun t171 => (if t171 = true then (coronerref01_Parse.l0 k x0 x1 (wrap64 (x7 + 1))) else (coronerref01_Parse.j2 k x0 x1 x7))) else (none)) else (coronerref01_Parse.j2 k x0 x1 x7)
end
def coronerref01_Parse.f (k : Nat) (l0 : List Int) (a1 : Int) : Option (Int × Int × Bool) := if a1 < 0 then (coronerref01_Parse.j0 k l0 a1 true) else (coronerref01_Parse.j0 k l0 a1 (decide (a1 > (l0.length : Int))))
theorem coronerref01_Parse.mono_l : ∀ k, (∀ y0 y1 y2, LeO (coronerref01_Parse.j0 k y0 y1 y2) (coronerref01_Parse.j0 (k + 1) y0 y1 y2)) ∧ (∀ y0 y1 y2, LeO (coronerref01_Parse.j2 k y0 y1 y2) (coronerref01_Parse.j2 (k + 1) y0 y1 y2)) ∧ (∀ y0 y1 y2 y3, LeO (coronerref01_Parse.l1 k y0 y1 y2 y3) (coronerref01_Parse.l1 (k + 1) y0 y1 y2 y3)) ∧ (∀ y0 y1 y2, LeO (coronerref01_Parse.l0 k y0 y1 y2) (coronerref01_Parse.l0 (k + 1) y0 y1 y2))
 | 0 => ⟨fun _ _ _ r h => by simp [coronerref01_Parse.j0] at h, fun _ _ _ r h => by simp [coronerref01_Parse.j2] at h, fun _ _ _ _ r h => by simp [coronerref01_Parse.l1] at h, fun _ _ _ r h => by simp [coronerref01_Parse.l0] at h⟩
 | k + 1 => by
  obtain ⟨ih0, ih1, ih2, ih3⟩ := coronerref01_Parse.mono_l k
  refine ⟨?_, ?_, ?_, ?_⟩
  ·intro y0 y1 y2
   unfold coronerref01_Parse.j0
   repeat' first
   | (with_reducible exact ih0 _ _ _)
   | (with_reducible exact ih1 _ _ _)
   | (with_reducible exact ih2 _ _ _ _)
   | (with_reducible exact ih3 _ _ _)
   | (with_reducible exact coronerref01_Value.mono _ _)
   | (with_reducible exact LeO.refl _)
   | (with_reducible exact LeO.none _)
   | (with_reducible refine LeO.ite ?_ ?_)
   | (with_reducible refine LeO.bind ?_ (fun _ => ?_))
   | exact ih0 _ _ _
   | exact ih1 _ _ _
   | exact ih2 _ _ _ _
   | exact ih3 _ _ _
   | exact coronerref01_Value.mono _ _
   | exact LeO.none _
   | refine LeO.ite ?_ ?_
   | refine LeO.bind ?_ (fun _ => ?_)
  ·intro y0 y1 y2
   unfold coronerref01_Parse.j2
   repeat' first
   | (with_reducible exact ih0 _ _ _)
   | (with_reducible exact ih1 _ _ _)
   | (with_reducible exact ih2 _ _ _ _)
   | (with_reducible exact ih3 _ _ _)
   | (with_reducible exact coronerref01_Value.mono _ _)
   | (with_reducible exact LeO.refl _)
   | (with_reducible exact LeO.none _)
   | (with_reducible refine LeO.ite ?_ ?_)
   | (with_reducible refine LeO.bind ?_ (fun _ => ?_))
   | exact ih0 _ _ _
   | exact ih1 _ _ _
   | exact ih2 _ _ _ _
   | exact ih3 _ _ _
   | exact coronerref01_Value.mono _ _
   | exact LeO.none _
   | refine LeO.ite ?_ ?_
   | refine LeO.bind ?_ (fun _ => ?_)
  ·intro y0 y1 y2 y3
   unfold coronerref01_Parse.l1
   repeat' first
   | (with_reducible exact ih0 _ _ _)
   | (with_reducible exact ih1 _ _ _)
   | (with_reducible exact ih2 _ _ _ _)
   | (with_reducible exact ih3 _ _ _)
   | (with_reducible exact coronerref01_Value.mono _ _)
   | (with_reducible exact LeO.refl _)
   | (with_reducible exact LeO.none _)
   | (with_reducible refine LeO.ite ?_ ?_)
   | (with_reducible refine LeO.bind ?_ (fun _ => ?_))
   | exact ih0 _ _ _
   | exact ih1 _ _ _
   | exact ih2 _ _ _ _
   | exact ih3 _ _ _
   | exact coronerref01_Value.mono _ _
   | exact LeO.none _
   | refine LeO.ite ?_ ?_
   | refine LeO.bind ?_ (fun _ => ?_)
  ·intro y0 y1 y2
   unfold coronerref01_Parse.l0
   repeat' first
   | (with_reducible exact ih0 _ _ _)
   | (with_reducible exact ih1 _ _ _)
   | (with_reducible exact ih2 _ _ _ _)
   | (with_reducible exact ih3 _ _ _)
   | (with_reducible exact coronerref01_Value.mono _ _)
   | (with_reducible exact LeO.refl _)
   | (with_reducible exact LeO.none _)
   | (with_reducible refine LeO.ite ?_ ?_)
   | (with_reducible refine LeO.bind ?_ (fun _ => ?_))
   | exact ih0 _ _ _
   | exact ih1 _ _ _
   | exact ih2 _ _ _ _
   | exact ih3 _ _ _
   | exact coronerref01_Value.mono _ _
   | exact LeO.none _
   | refine LeO.ite ?_ ?_
   | refine LeO.bind ?_ (fun _ => ?_)
theorem coronerref01_Parse.mono : ∀ a0 a1 k, LeO (coronerref01_Parse.f k a0 a1) (coronerref01_Parse.f (k + 1) a0 a1) := by
 intro a0 a1 k
 obtain ⟨ih0, ih1, ih2, ih3⟩ := coronerref01_Parse.mono_l k
 unfold coronerref01_Parse.f
 repeat' first
  | (with_reducible exact ih0 _ _ _)
  | (with_reducible exact ih1 _ _ _)
  | (with_reducible exact ih2 _ _ _ _)
  | (with_reducible exact ih3 _ _ _)
  | (with_reducible exact coronerref01_Value.mono _ _)
  | (with_reducible exact LeO.refl _)
  | (with_reducible exact LeO.none _)
  | (with_reducible refine LeO.ite ?_ ?_)
  | (with_reducible refine LeO.bind ?_ (fun _ => ?_))
  | exact ih0 _ _ _
  | exact ih1 _ _ _
  | exact ih2 _ _ _ _
  | exact ih3 _ _ _
  | exact coronerref01_Value.mono _ _
  | exact LeO.none _
  | refine LeO.ite ?_ ?_
  | refine LeO.bind ?_ (fun _ => ?_)
end Go.Proofs.Ytkoddmedhnhgiaa.PReportBack
