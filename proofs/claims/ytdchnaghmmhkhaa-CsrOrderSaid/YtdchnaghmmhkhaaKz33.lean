/- Printed by shake.py. -/
import Derived.Test.YtdchnaghmmhkhaaKz21
namespace Go.Proofs.Ytdchnaghmmhkhaa.PCsrGraphs
open Go.RowKit Go.Proofs.YtdchnaghmmhkhaaW.PrintWords Go.Proofs.YtdchnaghmmhkhaaW.PrintLast Go.Proofs.YtdchnaghmmhkhaaW.PrintMore
attribute [local go_sem] max2_int min2_int max_two min_two max_three min_three max_four min_four
set_option linter.unusedVariables false
set_option linter.unusedSimpArgs false
mutual
def coronerref19_New.j0 : Nat → Int → List (S53) → Bool → Option (Int × (List (List Int)) × Int)
 | 0, _, _, _ => none
 | k + 1, x0, x1, x15 => if x15 = true then (some (0, ([] : List (List Int)), 2)) else (coronerref19_New.l0 k x0 x1 0)
def coronerref19_New.l0 : Nat → Int → List (S53) → Int → Option (Int × (List (List Int)) × Int)
 | 0, _, _, _ => none
 | k + 1, x0, x1, x6 => if x6 < (x1.length : Int) then (if 0 ≤ x6 then (if ((rd_T53 x1 x6).f0) < 0 then (some (0, ([] : List (List Int)), 2)) else (if ((rd_T53 x1 x6).f0) ≥ x0 then (some (0, ([] : List (List Int)), 2)) else (if ((rd_T53 x1 x6).f1) < 0 then (some (0, ([] : List (List Int)), 2)) else (if ((rd_T53 x1 x6).f1) ≥ x0 then (some (0, ([] : List (List Int)), 2)) else (coronerref19_New.l0 k x0 x1 (wrap64 (x6 + 1))))))) else (none)) else (coronerref19_New.l1 k x0 x1 0 x0 ([] : List (List Int)))
def coronerref19_New.l1 : Nat → Int → List (S53) → Int → Int → List (List Int) → Option (Int × (List (List Int)) × Int)
 | 0, _, _, _, _, _ => none
 | k + 1, x0, x1, x8, x127000, x127001 => if x8 < x0 then (if 0 ≤ x0 then (if (x0 : Int).toNat ≤ 35184372088832 then (if x127001.length < 5864062014805 then (coronerref19_New.l1 k x0 x1 (wrap64 (x8 + 1)) x127000 (x127001 ++ [(List.replicate (x0 : Int).toNat 0)])) else (none)) else (none)) else (none)) else (coronerref19_New.l2 k x1 0 x127000 x127001)
def coronerref19_New.l2 : Nat → List (S53) → Int → Int → List (List Int) → Option (Int × (List (List Int)) × Int)
 | 0, _, _, _, _ => none
 | k + 1, x1, x9, x127000, x127001 => if x9 < (x1.length : Int) then (if 0 ≤ x9 then (if ((rd_T53 x1 x9).f0) = ((rd_T53 x1 x9).f1) then (coronerref19_New.l2 k x1 (wrap64 (x9 + 1)) x127000 x127001) else (if 0 ≤ ((rd_T53 x1 x9).f0) then (if ((rd_T53 x1 x9).f0) < (x127001.length : Int) then (if 0 ≤ ((rd_T53 x1 x9).f1) then (if ((rd_T53 x1 x9).f1) < ((rd_L3 x127001 ((rd_T53 x1 x9).f0)).length : Int) then (coronerref19_New.l2 k x1 (wrap64 (x9 + 1)) x127000 (x127001.set (((rd_T53 x1 x9).f0) : Int).toNat ((rd_L3 x127001 ((rd_T53 x1 x9).f0)).set (((rd_T53 x1 x9).f1) : Int).toNat (Go.bits .or .i64 (rd (rd_L3 x127001 ((rd_T53 x1 x9).f0)) ((rd_T53 x1 x9).f1)) ((rd_T53 x1 x9).f2))))) else (none)) else (none)) else (none)) else (none))) else (none)) else (some (x127000, x127001, 0))
end
def coronerref19_New.f (k : Nat) (a0 : Int) (l1 : List (S53)) : Option (Int × (List (List Int)) × Int) := if a0 < 0 then (coronerref19_New.j0 k a0 l1 true) else (coronerref19_New.j0 k a0 l1 (decide (a0 > 1024)))
theorem coronerref19_New.mono_l : ∀ k, (∀ y0 y1 y2, LeO (coronerref19_New.j0 k y0 y1 y2) (coronerref19_New.j0 (k + 1) y0 y1 y2)) ∧ (∀ y0 y1 y2, LeO (coronerref19_New.l0 k y0 y1 y2) (coronerref19_New.l0 (k + 1) y0 y1 y2)) ∧ (∀ y0 y1 y2 y3 y4, LeO (coronerref19_New.l1 k y0 y1 y2 y3 y4) (coronerref19_New.l1 (k + 1) y0 y1 y2 y3 y4)) ∧ (∀ y0 y1 y2 y3, LeO (coronerref19_New.l2 k y0 y1 y2 y3) (coronerref19_New.l2 (k + 1) y0 y1 y2 y3))
 | 0 => ⟨fun _ _ _ r h => by simp [coronerref19_New.j0] at h, fun _ _ _ r h => by simp [coronerref19_New.l0] at h, fun _ _ _ _ _ r h => by simp [coronerref19_New.l1] at h, fun _ _ _ _ r h => by simp [coronerref19_New.l2] at h⟩
 | k + 1 => by
  obtain ⟨ih0, ih1, ih2, ih3⟩ := coronerref19_New.mono_l k
  refine ⟨?_, ?_, ?_, ?_⟩
  ·intro y0 y1 y2
   unfold coronerref19_New.j0
   repeat' first
   | (with_reducible exact ih0 _ _ _)
   | (with_reducible exact ih1 _ _ _)
   | (with_reducible exact ih2 _ _ _ _ _)
   | (with_reducible exact ih3 _ _ _ _)
   | (with_reducible exact LeO.refl _)
   | (with_reducible exact LeO.none _)
   | (with_reducible refine LeO.ite ?_ ?_)
   | (with_reducible refine LeO.bind ?_ (fun _ => ?_))
   | exact ih0 _ _ _
   | exact ih1 _ _ _
   | exact ih2 _ _ _ _ _
   | exact ih3 _ _ _ _
   | exact LeO.none _
   | refine LeO.ite ?_ ?_
   | refine LeO.bind ?_ (fun _ => ?_)
  ·intro y0 y1 y2
   unfold coronerref19_New.l0
   repeat' first
   | (with_reducible exact ih0 _ _ _)
   | (with_reducible exact ih1 _ _ _)
   | (with_reducible exact ih2 _ _ _ _ _)
   | (with_reducible exact ih3 _ _ _ _)
   | (with_reducible exact LeO.refl _)
   | (with_reducible exact LeO.none _)
   | (with_reducible refine LeO.ite ?_ ?_)
   | (with_reducible refine LeO.bind ?_ (fun _ => ?_))
   | exact ih0 _ _ _
   | exact ih1 _ _ _
   | exact ih2 _ _ _ _ _
   | exact ih3 _ _ _ _
   | exact LeO.none _
   | refine LeO.ite ?_ ?_
   | refine LeO.bind ?_ (fun _ => ?_)
  ·intro y0 y1 y2 y3 y4
   unfold coronerref19_New.l1
   repeat' first
   | (with_reducible exact ih0 _ _ _)
   | (with_reducible exact ih1 _ _ _)
   | (with_reducible exact ih2 _ _ _ _ _)
   | (with_reducible exact ih3 _ _ _ _)
   | (with_reducible exact LeO.refl _)
   | (with_reducible exact LeO.none _)
   | (with_reducible refine LeO.ite ?_ ?_)
   | (with_reducible refine LeO.bind ?_ (fun _ => ?_))
   | exact ih0 _ _ _
   | exact ih1 _ _ _
   | exact ih2 _ _ _ _ _
   | exact ih3 _ _ _ _
   | exact LeO.none _
   | refine LeO.ite ?_ ?_
   | refine LeO.bind ?_ (fun _ => ?_)
  ·intro y0 y1 y2 y3
   unfold coronerref19_New.l2
   repeat' first
   | (with_reducible exact ih0 _ _ _)
   | (with_reducible exact ih1 _ _ _)
   | (with_reducible exact ih2 _ _ _ _ _)
   | (with_reducible exact ih3 _ _ _ _)
   | (with_reducible exact LeO.refl _)
   | (with_reducible exact LeO.none _)
   | (with_reducible refine LeO.ite ?_ ?_)
   | (with_reducible refine LeO.bind ?_ (fun _ => ?_))
   | exact ih0 _ _ _
   | exact ih1 _ _ _
   | exact ih2 _ _ _ _ _
   | exact ih3 _ _ _ _
   | exact LeO.none _
   | refine LeO.ite ?_ ?_
   | refine LeO.bind ?_ (fun _ => ?_)
theorem coronerref19_New.mono : ∀ a0 a1 k, LeO (coronerref19_New.f k a0 a1) (coronerref19_New.f (k + 1) a0 a1) := by
 intro a0 a1 k
 obtain ⟨ih0, ih1, ih2, ih3⟩ := coronerref19_New.mono_l k
 unfold coronerref19_New.f
 repeat' first
  | (with_reducible exact ih0 _ _ _)
  | (with_reducible exact ih1 _ _ _)
  | (with_reducible exact ih2 _ _ _ _ _)
  | (with_reducible exact ih3 _ _ _ _)
  | (with_reducible exact LeO.refl _)
  | (with_reducible exact LeO.none _)
  | (with_reducible refine LeO.ite ?_ ?_)
  | (with_reducible refine LeO.bind ?_ (fun _ => ?_))
  | exact ih0 _ _ _
  | exact ih1 _ _ _
  | exact ih2 _ _ _ _ _
  | exact ih3 _ _ _ _
  | exact LeO.none _
  | refine LeO.ite ?_ ?_
  | refine LeO.bind ?_ (fun _ => ?_)
end Go.Proofs.Ytdchnaghmmhkhaa.PCsrGraphs
