/- Printed by shake.py. -/
import Derived.Test.YtkoddmedhnhgiaaRg21
import Derived.Test.YtkoddmedhnhgiaaRg29
import Derived.Test.YtkoddmedhnhgiaaRg33
namespace Go.Proofs.Ytkoddmedhnhgiaa.PReportBack
open Go.RowKit Go.Proofs.YtkoddmedhnhgiaaW.PrintWords Go.Proofs.YtkoddmedhnhgiaaW.PrintLast Go.Proofs.YtkoddmedhnhgiaaW.PrintMore
attribute [local go_sem] max2_int min2_int max_two min_two max_three min_three max_four min_four
set_option linter.unusedVariables false
set_option linter.unusedSimpArgs false
mutual
def coronerref31_Parse.l0 : Nat → List Int → Int → Int → List (S44) → Option (Int × (List (S44)) × List Int × Int × Int)
 | 0, _, _, _, _ => none
 | k + 1, x0, x7, x193000, x193001 => (coronerref31_is.f x0 x7 102).bind fun t199 => (if t199 = true then ((coronerref31_read.f k x0 x7 102 6).bind fun bt200 => (if bt200.2.2 = true then (if 0 < (bt200.1.length : Int) then (if 1 < (bt200.1.length : Int) then (if 2 < (bt200.1.length : Int) then (if 3 < (bt200.1.length : Int) then (if 4 < (bt200.1.length : Int) then (if 5 < (bt200.1.length : Int) then (coronerref31_Parse.l1 k x0 bt200.2.1 x193000 x193001 (rd bt200.1 0) (rd bt200.1 1) (rd bt200.1 2) (rd bt200.1 3) (rd bt200.1 4) (rd bt200.1 5) ([] : List (S49))) else (none)) else (none)) else (none)) else (none)) else (none)) else (none)) else (some (0, ([] : List (S44)), ([] : List Int), 4, bt200.2.1)))) else ((coronerref31_read.f k x0 x7 111 (-1)).bind fun bt230 => (if bt230.2.2 = true then (if bt230.2.1 < (x0.length : Int) then (some (0, ([] : List (S44)), ([] : List Int), 4, bt230.2.1)) else ((coronerref31_Check.f k x193000 x193001 bt230.1).bind fun t235 => (if t235 = 0 then (some (x193000, x193001, bt230.1, 0, 0)) else (some (0, ([] : List (S44)), ([] : List Int), 2, 0))))) else (some (0, ([] : List (S44)), ([] : List Int), 4, bt230.2.1)))))
def coronerref31_Parse.l1 : Nat → List Int → Int → Int → List (S44) → Int → Int → Int → Int → Int → Int → List (S49) → Option (Int × (List (S44)) × List Int × Int × Int)
 | 0, _, _, _, _, _, _, _, _, _, _, _ => none
 | k + 1, x0, x7, x193000, x193001, x212000, x212001, x212002, x212003, x212004, x212005, x212006 => (coronerref31_is.f x0 x7 101).bind fun t212 => (if t212 = true then ((coronerref31_read.f k x0 x7 101 6).bind fun bt213 => (if bt213.2.2 = true then (if 0 < (bt213.1.length : Int) then (if 1 < (bt213.1.length : Int) then (if 2 < (bt213.1.length : Int) then (if 3 < (bt213.1.length : Int) then (if 4 < (bt213.1.length : Int) then (if 5 < (bt213.1.length : Int) then (if x212006.length < 2932031007402 then (coronerref31_Parse.l1 k x0 bt213.2.1 x193000 x193001 x212000 x212001 x212002 x212003 x212004 x212005 (x212006 ++ [(⟨rd bt213.1 0, rd bt213.1 1, rd bt213.1 2, rd bt213.1 3, rd bt213.1 4, rd bt213.1 5⟩ : S49)])) else (none)) else (none)) else (none)) else (none)) else (none)) else (none)) else (none)) else (some (0, ([] : List (S44)), ([] : List Int), 4, bt213.2.1)))) else (if x193001.length < 1954687338268 then (coronerref31_Parse.l0 k x0 x7 x193000 (x193001 ++ [(⟨x212000, x212001, x212002, x212003, x212004, x212005, x212006⟩ : S44)])) else (none)))
end
def coronerref31_Parse.f (k : Nat) (l0 : List Int) : Option (Int × (List (S44)) × List Int × Int × Int) := (coronerref31_read.f k l0 0 108 1).bind fun bt193 => (if bt193.2.2 = true then (if 0 < (bt193.1.length : Int) then (coronerref31_Parse.l0 k l0 bt193.2.1 (rd bt193.1 0) ([] : List (S44))) else (none)) else (some (0, ([] : List (S44)), ([] : List Int), 4, bt193.2.1)))
theorem coronerref31_Parse.mono_l : ∀ k, (∀ y0 y1 y2 y3, LeO (coronerref31_Parse.l0 k y0 y1 y2 y3) (coronerref31_Parse.l0 (k + 1) y0 y1 y2 y3)) ∧ (∀ y0 y1 y2 y3 y4 y5 y6 y7 y8 y9 y10, LeO (coronerref31_Parse.l1 k y0 y1 y2 y3 y4 y5 y6 y7 y8 y9 y10) (coronerref31_Parse.l1 (k + 1) y0 y1 y2 y3 y4 y5 y6 y7 y8 y9 y10))
 | 0 => ⟨fun _ _ _ _ r h => by simp [coronerref31_Parse.l0] at h, fun _ _ _ _ _ _ _ _ _ _ _ r h => by simp [coronerref31_Parse.l1] at h⟩
 | k + 1 => by
  obtain ⟨ih0, ih1⟩ := coronerref31_Parse.mono_l k
  refine ⟨?_, ?_⟩
  ·intro y0 y1 y2 y3
   unfold coronerref31_Parse.l0
   repeat' first
   | (with_reducible exact ih0 _ _ _ _)
   | (with_reducible exact ih1 _ _ _ _ _ _ _ _ _ _ _)
   | (with_reducible exact coronerref31_Check.mono _ _ _ _)
   | (with_reducible exact coronerref31_read.mono _ _ _ _ _)
   | (with_reducible exact LeO.refl _)
   | (with_reducible exact LeO.none _)
   | (with_reducible refine LeO.ite ?_ ?_)
   | (with_reducible refine LeO.bind ?_ (fun _ => ?_))
   | exact ih0 _ _ _ _
   | exact ih1 _ _ _ _ _ _ _ _ _ _ _
   | exact coronerref31_Check.mono _ _ _ _
   | exact coronerref31_read.mono _ _ _ _ _
   | exact LeO.none _
   | refine LeO.ite ?_ ?_
   | refine LeO.bind ?_ (fun _ => ?_)
  ·intro y0 y1 y2 y3 y4 y5 y6 y7 y8 y9 y10
   unfold coronerref31_Parse.l1
   repeat' first
   | (with_reducible exact ih0 _ _ _ _)
   | (with_reducible exact ih1 _ _ _ _ _ _ _ _ _ _ _)
   | (with_reducible exact coronerref31_Check.mono _ _ _ _)
   | (with_reducible exact coronerref31_read.mono _ _ _ _ _)
   | (with_reducible exact LeO.refl _)
   | (with_reducible exact LeO.none _)
   | (with_reducible refine LeO.ite ?_ ?_)
   | (with_reducible refine LeO.bind ?_ (fun _ => ?_))
   | exact ih0 _ _ _ _
   | exact ih1 _ _ _ _ _ _ _ _ _ _ _
   | exact coronerref31_Check.mono _ _ _ _
   | exact coronerref31_read.mono _ _ _ _ _
   | exact LeO.none _
   | refine LeO.ite ?_ ?_
   | refine LeO.bind ?_ (fun _ => ?_)
theorem coronerref31_Parse.mono : ∀ a0 k, LeO (coronerref31_Parse.f k a0) (coronerref31_Parse.f (k + 1) a0) := by
 intro a0 k
 obtain ⟨ih0, ih1⟩ := coronerref31_Parse.mono_l k
 unfold coronerref31_Parse.f
 repeat' first
  | (with_reducible exact ih0 _ _ _ _)
  | (with_reducible exact ih1 _ _ _ _ _ _ _ _ _ _ _)
  | (with_reducible exact coronerref31_Check.mono _ _ _ _)
  | (with_reducible exact coronerref31_read.mono _ _ _ _ _)
  | (with_reducible exact LeO.refl _)
  | (with_reducible exact LeO.none _)
  | (with_reducible refine LeO.ite ?_ ?_)
  | (with_reducible refine LeO.bind ?_ (fun _ => ?_))
  | exact ih0 _ _ _ _
  | exact ih1 _ _ _ _ _ _ _ _ _ _ _
  | exact coronerref31_Check.mono _ _ _ _
  | exact coronerref31_read.mono _ _ _ _ _
  | exact LeO.none _
  | refine LeO.ite ?_ ?_
  | refine LeO.bind ?_ (fun _ => ?_)
end Go.Proofs.Ytkoddmedhnhgiaa.PReportBack
