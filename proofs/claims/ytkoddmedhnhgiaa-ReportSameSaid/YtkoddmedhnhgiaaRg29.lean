/- Printed by shake.py. -/
import Derived.Test.YtkoddmedhnhgiaaRg21
import Derived.Test.YtkoddmedhnhgiaaRg28
namespace Go.Proofs.Ytkoddmedhnhgiaa.PReportBack
open Go.RowKit Go.Proofs.YtkoddmedhnhgiaaW.PrintWords Go.Proofs.YtkoddmedhnhgiaaW.PrintLast Go.Proofs.YtkoddmedhnhgiaaW.PrintMore
attribute [local go_sem] max2_int min2_int max_two min_two max_three min_three max_four min_four
set_option linter.unusedVariables false
set_option linter.unusedSimpArgs false
mutual
def coronerref31_Check.j0 : Nat → Bool → Int → List (S44) → List Int → Option (Int)
 | 0, _, _, _, _ => none
 | k + 1, x31, x154000, x154001, x154002 => if x31 = true then (some 2) else (coronerref31_Check.l0 k 0 x154000 x154001 x154002)
def coronerref31_Check.l0 : Nat → Int → Int → List (S44) → List Int → Option (Int)
 | 0, _, _, _, _ => none
 | k + 1, x3, x154000, x154001, x154002 => if x3 < (x154001.length : Int) then (if 0 ≤ x3 then ((coronerref31_finding.f ((rd_T44 x154001 x3).f0) ((rd_T44 x154001 x3).f1) ((rd_T44 x154001 x3).f2) ((rd_T44 x154001 x3).f3) ((rd_T44 x154001 x3).f4) ((rd_T44 x154001 x3).f5) ((rd_T44 x154001 x3).f6)).bind fun t157 => ((coronerref31_may.f k t157).bind fun t160 => (if t160 = true then (coronerref31_Check.j2 k x3 (decide ((((rd_T44 x154001 x3).f6).length : Int) > 1024)) x154000 x154001 x154002 ((rd_T44 x154001 x3).f0) ((rd_T44 x154001 x3).f1) ((rd_T44 x154001 x3).f2) ((rd_T44 x154001 x3).f3) ((rd_T44 x154001 x3).f4) ((rd_T44 x154001 x3).f5) ((rd_T44 x154001 x3).f6)) else (coronerref31_Check.j2 k x3 true x154000 x154001 x154002 ((rd_T44 x154001 x3).f0) ((rd_T44 x154001 x3).f1) ((rd_T44 x154001 x3).f2) ((rd_T44 x154001 x3).f3) ((rd_T44 x154001 x3).f4) ((rd_T44 x154001 x3).f5) ((rd_T44 x154001 x3).f6))))) else (none)) else (some 0)
def coronerref31_Check.j2 : Nat → Int → Bool → Int → List (S44) → List Int → Int → Int → Int → Int → Int → Int → List (S49) → Option (Int)
 | 0, _, _, _, _, _, _, _, _, _, _, _, _ => none
 | k + 1, x3, x53, x154000, x154001, x154002, x157000, x157001, x157002, x157003, x157004, x157005, x157006 => if x53 = true then (some 2) else (coronerref31_Check.l1 k x3 0 x154000 x154001 x154002 x157000 x157001 x157002 x157003 x157004 x157005 x157006)
def coronerref31_Check.l1 : Nat → Int → Int → Int → List (S44) → List Int → Int → Int → Int → Int → Int → Int → List (S49) → Option (Int)
 | 0, _, _, _, _, _, _, _, _, _, _, _, _ => none
 | k + 1, x3, x5, x154000, x154001, x154002, x157000, x157001, x157002, x157003, x157004, x157005, x157006 => if x5 < (x157006.length : Int) then (if 0 ≤ x5 then ((coronerref31_edge.f ((rd_T49 x157006 x5).f0) ((rd_T49 x157006 x5).f1) ((rd_T49 x157006 x5).f2) ((rd_T49 x157006 x5).f3) ((rd_T49 x157006 x5).f4) ((rd_T49 x157006 x5).f5)).bind fun t162 => ((coronerref31_may.f k t162).bind fun t165 => (if t165 = true then (coronerref31_Check.l1 k x3 (wrap64 (x5 + 1)) x154000 x154001 x154002 x157000 x157001 x157002 x157003 x157004 x157005 x157006) else (some 2)))) else (none)) else (coronerref31_Check.l0 k (wrap64 (x3 + 1)) x154000 x154001 x154002)
end
def coronerref31_Check.f (k : Nat) (a0_0 : Int) (l0_1 : List (S44)) (l0_2 : List Int) : Option (Int) := if a0_0 < 0 then (coronerref31_Check.j0 k true a0_0 l0_1 l0_2) else (if a0_0 > 4 then (coronerref31_Check.j0 k true a0_0 l0_1 l0_2) else (if (l0_1.length : Int) > 1024 then (coronerref31_Check.j0 k true a0_0 l0_1 l0_2) else (if (l0_2.length : Int) > 1024 then (coronerref31_Check.j0 k true a0_0 l0_1 l0_2) else ((coronerref31_may.f k l0_2).bind fun t154 => (coronerref31_Check.j0 k (!t154) a0_0 l0_1 l0_2)))))
theorem coronerref31_Check.mono_l : ∀ k, (∀ y0 y1 y2 y3, LeO (coronerref31_Check.j0 k y0 y1 y2 y3) (coronerref31_Check.j0 (k + 1) y0 y1 y2 y3)) ∧ (∀ y0 y1 y2 y3, LeO (coronerref31_Check.l0 k y0 y1 y2 y3) (coronerref31_Check.l0 (k + 1) y0 y1 y2 y3)) ∧ (∀ y0 y1 y2 y3 y4 y5 y6 y7 y8 y9 y10 y11, LeO (coronerref31_Check.j2 k y0 y1 y2 y3 y4 y5 y6 y7 y8 y9 y10 y11) (coronerref31_Check.j2 (k + 1) y0 y1 y2 y3 y4 y5 y6 y7 y8 y9 y10 y11)) ∧ (∀ y0 y1 y2 y3 y4 y5 y6 y7 y8 y9 y10 y11, LeO (coronerref31_Check.l1 k y0 y1 y2 y3 y4 y5 y6 y7 y8 y9 y10 y11) (coronerref31_Check.l1 (k + 1) y0 y1 y2 y3 y4 y5 y6 y7 y8 y9 y10 y11))
 | 0 => ⟨fun _ _ _ _ r h => by simp [coronerref31_Check.j0] at h, fun _ _ _ _ r h => by simp [coronerref31_Check.l0] at h, fun _ _ _ _ _ _ _ _ _ _ _ _ r h => by simp [coronerref31_Check.j2] at h, fun _ _ _ _ _ _ _ _ _ _ _ _ r h => by simp [coronerref31_Check.l1] at h⟩
 | k + 1 => by
  obtain ⟨ih0, ih1, ih2, ih3⟩ := coronerref31_Check.mono_l k
  refine ⟨?_, ?_, ?_, ?_⟩
  ·intro y0 y1 y2 y3
   unfold coronerref31_Check.j0
   repeat' first
   | (with_reducible exact ih0 _ _ _ _)
   | (with_reducible exact ih1 _ _ _ _)
   | (with_reducible exact ih2 _ _ _ _ _ _ _ _ _ _ _ _)
   | (with_reducible exact ih3 _ _ _ _ _ _ _ _ _ _ _ _)
   | (with_reducible exact coronerref31_may.mono _ _)
   | (with_reducible exact LeO.refl _)
   | (with_reducible exact LeO.none _)
   | (with_reducible refine LeO.ite ?_ ?_)
   | (with_reducible refine LeO.bind ?_ (fun _ => ?_))
   | exact ih0 _ _ _ _
   | exact ih1 _ _ _ _
   | exact ih2 _ _ _ _ _ _ _ _ _ _ _ _
   | exact ih3 _ _ _ _ _ _ _ _ _ _ _ _
   | exact coronerref31_may.mono _ _
   | exact LeO.none _
   | refine LeO.ite ?_ ?_
   | refine LeO.bind ?_ (fun _ => ?_)
  ·intro y0 y1 y2 y3
   unfold coronerref31_Check.l0
   repeat' first
   | (with_reducible exact ih0 _ _ _ _)
   | (with_reducible exact ih1 _ _ _ _)
   | (with_reducible exact ih2 _ _ _ _ _ _ _ _ _ _ _ _)
   | (with_reducible exact ih3 _ _ _ _ _ _ _ _ _ _ _ _)
   | (with_reducible exact coronerref31_may.mono _ _)
   | (with_reducible exact LeO.refl _)
   | (with_reducible exact LeO.none _)
   | (with_reducible refine LeO.ite ?_ ?_)
   | (with_reducible refine LeO.bind ?_ (fun _ => ?_))
   | exact ih0 _ _ _ _
   | exact ih1 _ _ _ _
   | exact ih2 _ _ _ _ _ _ _ _ _ _ _ _
   | exact ih3 _ _ _ _ _ _ _ _ _ _ _ _
   | exact coronerref31_may.mono _ _
   | exact LeO.none _
   | refine LeO.ite ?_ ?_
   | refine LeO.bind ?_ (fun _ => ?_)
  ·intro y0 y1 y2 y3 y4 y5 y6 y7 y8 y9 y10 y11
   unfold coronerref31_Check.j2
   repeat' first
   | (with_reducible exact ih0 _ _ _ _)
   | (with_reducible exact ih1 _ _ _ _)
   | (with_reducible exact ih2 _ _ _ _ _ _ _ _ _ _ _ _)
   | (with_reducible exact ih3 _ _ _ _ _ _ _ _ _ _ _ _)
   | (with_reducible exact coronerref31_may.mono _ _)
   | (with_reducible exact LeO.refl _)
   | (with_reducible exact LeO.none _)
   | (with_reducible refine LeO.ite ?_ ?_)
   | (with_reducible refine LeO.bind ?_ (fun _ => ?_))
   | exact ih0 _ _ _ _
   | exact ih1 _ _ _ _
   | exact ih2 _ _ _ _ _ _ _ _ _ _ _ _
   | exact ih3 _ _ _ _ _ _ _ _ _ _ _ _
   | exact coronerref31_may.mono _ _
   | exact LeO.none _
   | refine LeO.ite ?_ ?_
   | refine LeO.bind ?_ (fun _ => ?_)
  ·intro y0 y1 y2 y3 y4 y5 y6 y7 y8 y9 y10 y11
   unfold coronerref31_Check.l1
   repeat' first
   | (with_reducible exact ih0 _ _ _ _)
   | (with_reducible exact ih1 _ _ _ _)
   | (with_reducible exact ih2 _ _ _ _ _ _ _ _ _ _ _ _)
   | (with_reducible exact ih3 _ _ _ _ _ _ _ _ _ _ _ _)
   | (with_reducible exact coronerref31_may.mono _ _)
   | (with_reducible exact LeO.refl _)
   | (with_reducible exact LeO.none _)
   | (with_reducible refine LeO.ite ?_ ?_)
   | (with_reducible refine LeO.bind ?_ (fun _ => ?_))
   | exact ih0 _ _ _ _
   | exact ih1 _ _ _ _
   | exact ih2 _ _ _ _ _ _ _ _ _ _ _ _
   | exact ih3 _ _ _ _ _ _ _ _ _ _ _ _
   | exact coronerref31_may.mono _ _
   | exact LeO.none _
   | refine LeO.ite ?_ ?_
   | refine LeO.bind ?_ (fun _ => ?_)
theorem coronerref31_Check.mono : ∀ a0 a1 a2 k, LeO (coronerref31_Check.f k a0 a1 a2) (coronerref31_Check.f (k + 1) a0 a1 a2) := by
 intro a0 a1 a2 k
 obtain ⟨ih0, ih1, ih2, ih3⟩ := coronerref31_Check.mono_l k
 unfold coronerref31_Check.f
 repeat' first
  | (with_reducible exact ih0 _ _ _ _)
  | (with_reducible exact ih1 _ _ _ _)
  | (with_reducible exact ih2 _ _ _ _ _ _ _ _ _ _ _ _)
  | (with_reducible exact ih3 _ _ _ _ _ _ _ _ _ _ _ _)
  | (with_reducible exact coronerref31_may.mono _ _)
  | (with_reducible exact LeO.refl _)
  | (with_reducible exact LeO.none _)
  | (with_reducible refine LeO.ite ?_ ?_)
  | (with_reducible refine LeO.bind ?_ (fun _ => ?_))
  | exact ih0 _ _ _ _
  | exact ih1 _ _ _ _
  | exact ih2 _ _ _ _ _ _ _ _ _ _ _ _
  | exact ih3 _ _ _ _ _ _ _ _ _ _ _ _
  | exact coronerref31_may.mono _ _
  | exact LeO.none _
  | refine LeO.ite ?_ ?_
  | refine LeO.bind ?_ (fun _ => ?_)
end Go.Proofs.Ytkoddmedhnhgiaa.PReportBack
