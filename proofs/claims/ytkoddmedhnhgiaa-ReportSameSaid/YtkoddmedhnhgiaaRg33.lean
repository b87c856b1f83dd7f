/- Printed by shake.py. -/
import Derived.Test.YtkoddmedhnhgiaaRg21
import Derived.Test.YtkoddmedhnhgiaaRg23
namespace Go.Proofs.Ytkoddmedhnhgiaa.PReportBack
open Go.RowKit Go.Proofs.YtkoddmedhnhgiaaW.PrintWords Go.Proofs.YtkoddmedhnhgiaaW.PrintLast Go.Proofs.YtkoddmedhnhgiaaW.PrintMore
attribute [local go_sem] max2_int min2_int max_two min_two max_three min_three max_four min_four
set_option linter.unusedVariables false
set_option linter.unusedSimpArgs false
mutual
def coronerref31_read.j0 : Nat → List Int → Int → Int → Bool → Option (List Int × Int × Bool)
 | 0, _, _, _, _ => none
 | k + 1, x0, x1, x3, x27 => if x27 = true then (some (([] : List Int), x1, false)) else (coronerref31_read.l0 k x0 (wrap64 (x1 + 1)) x3 ([] : List Int) 0)
def coronerref31_read.l0 : Nat → List Int → Int → Int → List Int → Int → Option (List Int × Int × Bool)
 | 0, _, _, _, _, _ => none
 | k + 1, x0, x1, x3, x11, x12 => if x3 < 0 then (coronerref31_read.j2 k x0 x1 x3 x11 x12 true) else (coronerref31_read.j2 k x0 x1 x3 x11 x12 (decide (x12 < x3)))
def coronerref31_read.j2 : Nat → List Int → Int → Int → List Int → Int → Bool → Option (List Int × Int × Bool)
 | 0, _, _, _, _, _, _ => none
 | k + 1, x0, x1, x3, x11, x12, x37 => if x37 = true then (if x1 ≥ (x0.length : Int) then (coronerref31_read.j3 k x0 x1 x3 x11 x12 true) else (if 0 ≤ x1 then (if x1 < (x0.length : Int) then (coronerref31_read.j3 k x0 x1 x3 x11 x12 ((rd x0 x1) != 32)) else (none)) else (none))) else (if x1 ≥ (x0.length : Int) then (some (([] : List Int), x1, false)) else (if 0 ≤ x1 then (if x1 < (x0.length : Int) then (if (rd x0 x1) = 10 then (some (x11, wrap64 (x1 + 1), true)) else (some (([] : List Int), x1, false))) else (none)) else (none)))
def coronerref31_read.j3 : Nat → List Int → Int → Int → List Int → Int → Bool → Option (List Int × Int × Bool)
 | 0, _, _, _, _, _, _ => none
 | k + 1, x0, x1, x3, x11, x12, x50 => if x50 = true then (if x3 < 0 then (if x1 ≥ (x0.length : Int) then (some (([] : List Int), x1, false)) else (if 0 ≤ x1 then (if x1 < (x0.length : Int) then (if (rd x0 x1) = 10 then (some (x11, wrap64 (x1 + 1), true)) else (some (([] : List Int), x1, false))) else (none)) else (none))) else (some (([] : List Int), x1, false))) else (if (wrap64 (x1 + 1)) < (x0.length : Int) then (if 0 ≤ (wrap64 (x1 + 1)) then (coronerref31_read.j4 k x0 x1 x3 x11 x12 ((rd x0 (wrap64 (x1 + 1))) == 45)) else (none)) else (coronerref31_read.j4 k x0 x1 x3 x11 x12 false))
def coronerref31_read.j4 : Nat → List Int → Int → Int → List Int → Int → Bool → Option (List Int × Int × Bool)
 | 0, _, _, _, _, _, _ => none
 | k + 1, x0, x1, x3, x11, x12, x66 => if x66 = true then (if x11.length < 17592186044416 then (coronerref31_read.l0 k x0 (wrap64 (x1 + 2)) x3 (x11 ++ [(-1)]) (wrap64 (x12 + 1))) else (none)) else ((coronerref01_Parse.f k x0 (wrap64 (x1 + 1))).bind fun bt184 => (if bt184.2.2 = true then (if x11.length < 17592186044416 then (coronerref31_read.l0 k x0 bt184.2.1 x3 (x11 ++ [bt184.1]) (wrap64 (x12 + 1))) else (none)) else (some (([] : List Int), bt184.2.1, false))))
end
def coronerref31_read.f (k : Nat) (l0 : List Int) (a1 : Int) (a2 : Int) (a3 : Int) : Option (List Int × Int × Bool) := if a1 ≥ (l0.length : Int) then (coronerref31_read.j0 k l0 a1 a3 true) else (if 0 ≤ a1 then (if a1 < (l0.length : Int) then (coronerref31_read.j0 k l0 a1 a3 ((rd l0 a1) != a2)) else (none)) else (none))
theorem coronerref31_read.mono_l : ∀ k, (∀ y0 y1 y2 y3, LeO (coronerref31_read.j0 k y0 y1 y2 y3) (coronerref31_read.j0 (k + 1) y0 y1 y2 y3)) ∧ (∀ y0 y1 y2 y3 y4, LeO (coronerref31_read.l0 k y0 y1 y2 y3 y4) (coronerref31_read.l0 (k + 1) y0 y1 y2 y3 y4)) ∧ (∀ y0 y1 y2 y3 y4 y5, LeO (coronerref31_read.j2 k y0 y1 y2 y3 y4 y5) (coronerref31_read.j2 (k + 1) y0 y1 y2 y3 y4 y5)) ∧ (∀ y0 y1 y2 y3 y4 y5, LeO (coronerref31_read.j3 k y0 y1 y2 y3 y4 y5) (coronerref31_read.j3 (k + 1) y0 y1 y2 y3 y4 y5)) ∧ (∀ y0 y1 y2 y3 y4 y5, LeO (coronerref31_read.j4 k y0 y1 y2 y3 y4 y5) (coronerref31_read.j4 (k + 1) y0 y1 y2 y3 y4 y5))
 | 0 => ⟨fun _ _ _ _ r h => by simp [coronerref31_read.j0] at h, fun _ _ _ _ _ r h => by simp [coronerref31_read.l0] at h, fun _ _ _ _ _ _ r h => by simp [coronerref31_read.j2] at h, fun _ _ _ _ _ _ r h => by simp [coronerref31_read.j3] at h, fun _ _ _ _ _ _ r h => by simp [coronerref31_read.j4] at h⟩
 | k + 1 => by
  obtain ⟨ih0, ih1, ih2, ih3, ih4⟩ := coronerref31_read.mono_l k
  refine ⟨?_, ?_, ?_, ?_, ?_⟩
  ·intro y0 y1 y2 y3
   unfold coronerref31_read.j0
   repeat' first
   | (with_reducible exact ih0 _ _ _ _)
   | (with_reducible exact ih1 _ _ _ _ _)
   | (with_reducible exact ih2 _ _ _ _ _ _)
   | (with_reducible exact ih3 _ _ _ _ _ _)
   | (with_reducible exact ih4 _ _ _ _ _ _)
   | (with_reducible exact coronerref01_Parse.mono _ _ _)
   | (with_reducible exact LeO.refl _)
   | (with_reducible exact LeO.none _)
   | (with_reducible refine LeO.ite ?_ ?_)
   | (with_reducible refine LeO.bind ?_ (fun _ => ?_))
   | exact ih0 _ _ _ _
   | exact ih1 _ _ _ _ _
   | exact ih2 _ _ _ _ _ _
   | exact ih3 _ _ _ _ _ _
   | exact ih4 _ _ _ _ _ _
   | exact coronerref01_Parse.mono _ _ _
   | exact LeO.none _
   | refine LeO.ite ?_ ?_
   | refine LeO.bind ?_ (fun _ => ?_)
  ·intro y0 y1 y2 y3 y4
   unfold coronerref31_read.l0
   repeat' first
   | (with_reducible exact ih0 _ _ _ _)
   | (with_reducible exact ih1 _ _ _ _ _)
   | (with_reducible exact ih2 _ _ _ _ _ _)
   | (with_reducible exact ih3 _ _ _ _ _ _)
   | (with_reducible exact ih4 _ _ _ _ _ _)
   | (with_reducible exact coronerref01_Parse.mono _ _ _)
   | (with_reducible exact LeO.refl _)
   | (with_reducible exact LeO.none _)
   | (with_reducible refine LeO.ite ?_ ?_)
   | (with_reducible refine LeO.bind ?_ (fun _ => ?_))
   | exact ih0 _ _ _ _
   | exact ih1 _ _ _ _ _
   | exact ih2 _ _ _ _ _ _
   | exact ih3 _ _ _ _ _ _
   | exact ih4 _ _ _ _ _ _
   | exact coronerref01_Parse.mono _ _ _
   | exact LeO.none _
   | refine LeO.ite ?_ ?_
   | refine LeO.bind ?_ (fun _ => ?_)
  ·intro y0 y1 y2 y3 y4 y5
   unfold coronerref31_read.j2
   repeat' first
   | (with_reducible exact ih0 _ _ _ _)
   | (with_reducible exact ih1 _ _ _ _ _)
   | (with_reducible exact ih2 _ _ _ _ _ _)
   | (with_reducible exact ih3 _ _ _ _ _ _)
   | (with_reducible exact ih4 _ _ _ _ _ _)
   | (with_reducible exact coronerref01_Parse.mono _ _ _)
   | (with_reducible exact LeO.refl _)
   | (with_reducible exact LeO.none _)
   | (with_reducible refine LeO.ite ?_ ?_)
   | (with_reducible refine LeO.bind ?_ (fun _ => ?_))
   | exact ih0 _ _ _ _
   | exact ih1 _ _ _ _ _
   | exact ih2 _ _ _ _ _ _
   | exact ih3 _ _ _ _ _ _
   | exact ih4 _ _ _ _ _ _
   | exact coronerref01_Parse.mono _ _ _
   | exact LeO.none _
   | refine LeO.ite ?_ ?_
   | refine LeO.bind ?_ (fun _ => ?_)
  ·intro y0 y1 y2 y3 y4 y5
   unfold coronerref31_read.j3
   repeat' first
   | (with_reducible exact ih0 _ _ _ _)
   | (with_reducible exact ih1 _ _ _ _ _)
   | (with_reducible exact ih2 _ _ _ _ _ _)
   | (with_reducible exact ih3 _ _ _ _ _ _)
   | (with_reducible exact ih4 _ _ _ _ _ _)
   | (with_reducible exact coronerref01_Parse.mono _ _ _)
   | (with_reducible exact LeO.refl _)
   | (with_reducible exact LeO.none _)
   | (with_reducible refine LeO.ite ?_ ?_)
   | (with_reducible refine LeO.bind ?_ (fun _ => ?_))
   | exact ih0 _ _ _ _
   | exact ih1 _ _ _ _ _
   | exact ih2 _ _ _ _ _ _
   | exact ih3 _ _ _ _ _ _
   | exact ih4 _ _ _ _ _ _
   | exact coronerref01_Parse.mono _ _ _
   | exact LeO.none _
   | refine LeO.ite ?_ ?_
   | refine LeO.bind ?_ (fun _ => ?_)
  ·intro y0 y1 y2 y3 y4 y5
   unfold coronerref31_read.j4
   repeat' first
   | (with_reducible exact ih0 _ _ _ _)
   | (with_reducible exact ih1 _ _ _ _ _)
   | (with_reducible exact ih2 _ _ _ _ _ _)
   | (with_reducible exact ih3 _ _ _ _ _ _)
   | (with_reducible exact ih4 _ _ _ _ _ _)
   | (with_reducible exact coronerref01_Parse.mono _ _ _)
   | (with_reducible exact LeO.refl _)
   | (with_reducible exact LeO.none _)
   | (with_reducible refine LeO.ite ?_ ?_)
   | (with_reducible refine LeO.bind ?_ (fun _ => ?_))
   | exact ih0 _ _ _ _
   | exact ih1 _ _ _ _ _
   | exact ih2 _ _ _ _ _ _
   | exact ih3 _ _ _ _ _ _
   | exact ih4 _ _ _ _ _ _
   | exact coronerref01_Parse.mono _ _ _
   | exact LeO.none _
   | refine LeO.ite ?_ ?_
   | refine LeO.bind ?_ (fun _ => ?_)
theorem coronerref31_read.mono : ∀ a0 a1 a2 a3 k, LeO (coronerref31_read.f k a0 a1 a2 a3) (coronerref31_read.f (k + 1) a0 a1 a2 a3) := by
 intro a0 a1 a2 a3 k
 obtain ⟨ih0, ih1, ih2, ih3, ih4⟩ := coronerref31_read.mono_l k
 unfold coronerref31_read.f
 repeat' first
  | (with_reducible exact ih0 _ _ _ _)
  | (with_reducible exact ih1 _ _ _ _ _)
  | (with_reducible exact ih2 _ _ _ _ _ _)
  | (with_reducible exact ih3 _ _ _ _ _ _)
  | (with_reducible exact ih4 _ _ _ _ _ _)
  | (with_reducible exact coronerref01_Parse.mono _ _ _)
  | (with_reducible exact LeO.refl _)
  | (with_reducible exact LeO.none _)
  | (with_reducible refine LeO.ite ?_ ?_)
  | (with_reducible refine LeO.bind ?_ (fun _ => ?_))
  | exact ih0 _ _ _ _
  | exact ih1 _ _ _ _ _
  | exact ih2 _ _ _ _ _ _
  | exact ih3 _ _ _ _ _ _
  | exact ih4 _ _ _ _ _ _
  | exact coronerref01_Parse.mono _ _ _
  | exact LeO.none _
  | refine LeO.ite ?_ ?_
  | refine LeO.bind ?_ (fun _ => ?_)
def coronerref31_is.f (l0 : List Int) (a1 : Int) (a2 : Int) : Option (Bool) := if a1 < (l0.length : Int) then (if 0 ≤ a1 then (some ((rd l0 a1) == a2)) else (none)) else (some false)
end Go.Proofs.Ytkoddmedhnhgiaa.PReportBack
