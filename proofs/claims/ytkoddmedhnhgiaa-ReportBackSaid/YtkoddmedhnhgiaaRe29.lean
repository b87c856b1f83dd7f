/- Printed by shake.py. -/
import Derived.Test.YtkoddmedhnhgiaaRe21
import Derived.Test.YtkoddmedhnhgiaaRe28
namespace Go.Proofs.Ytkoddmedhnhgiaa.PReportBack
open Go.RowKit Go.Proofs.YtkoddmedhnhgiaaW.PrintWords Go.Proofs.YtkoddmedhnhgiaaW.PrintLast Go.Proofs.YtkoddmedhnhgiaaW.PrintMore
attribute [local go_sem] max2_int min2_int max_two min_two max_three min_three max_four min_four
set_option linter.unusedVariables false
set_option linter.unusedSimpArgs false
mutual
def coronerref31_Check.j0 : Nat → Bool → Int → List (S44) → List Int → Option (Int)
 | 0, _, _, _, _ => none
 | k + 1, x31, x154000, x154001, x154002 => if x31 = true then (some 2) else (coronerref31_Check.l0 k 0 x154000 x154001 x154002)
def coronerref31_Check.l0 : Nat → Int → Int → List (S44) → List Int → Option (Int)
 | 0, _, _, _, _ => none
 | k + 1, x3, x154000, x154001, x154002 => if x3 < (x154001.length : Int) then (if 0 ≤ x3 then ((coronerref31_finding.f ((rd_T44 x154001 x3).f0) ((rd_T44 x154001 x3).f1) ((rd_T44 x154001 x3).f2) ((rd_T44 x154001 x3).f3) ((rd_T44 x154001 x3).f4) ((rd_T44 x154001 x3).f5) ((rd_T44 x154001 x3).f6)).bind fun t157 => ((coronerref31_may.f k t157).bind fun t160 => (if t160 = true then (coronerref31_Check.j2 k x3 (decide ((((rd_T44 x154001 x3).f6).length : Int) > 1024)) x154000 x154001 x154002 ((rd_T44 x154001 x3).f0) ((rd_T44 x154001 x3).f1) ((rd_T44 x154001 x3).f2) ((rd_T44 x154001 x3).f3) ((rd_T44 x154001 x3).f4) ((rd_T44 x154001 x3).f5) ((rd_T44 x154001 x3).f6)) else (coronerref31_Check.j2 k x3 true x154000 x154001 x154002 ((rd_T44 x154001 x3).f0) ((rd_T44 x154001 x3).f1) ((rd_T44 x154001 x3).f2) ((rd_T44 x154001 x3).f3) ((rd_T44 x154001 x3).f4) ((rd_T44 x154001 x3).f5) ((rd_T44 x154001 x3).f6))))) else (none)) else (some 0)
def coronerref31_Check.j2 : Nat → Int → Bool → Int → List (S44) → List Int → Int → Int → Int → Int → Int → Int → List (S49) → Option (Int)
 | 0, _, _, _, _, _, _, _, _, _, _, _, _ => none
 | k + 1, x3, x53, x154000, x154001, x154002, x157000, x157001, x157002, x157003, x157004, x157005, x157006 => if x53 = true then (some 2) else (coronerref31_Check.l1 k x3 0 x154000 x154001 x154002 x157000 x157001 x157002 x157003 x157004 x157005 x157006)
def coronerref31_Check.l1 : Nat → Int → Int → Int → List (S44) → List Int → Int → Int → Int → Int → Int → Int → List (S49) → Option (Int)
 | 0, _, _, _, _, _, _, _, _, _, _, _, _ => none
 | k + 1, x3, x5, x154000, x154001, x154002, x157000, x157001, x157002, x157003, x157004, x157005, x157006 => if x5 < (x157006.length : Int) then (if 0 ≤ x5 then ((coronerref31_edge.f ((rd_T49 x157006 x5).f0) ((rd_T49 x157006 x5).f1) ((rd_T49 x157006 x5).f2) ((rd_T49 x157006 x5).f3) ((rd_T49 x157006 x5).f4) ((rd_T49 x157006 x5).f5)).bind fun t162 => ((coronerref31_may.f k t162).bind fun t165 => (if t165 = true then (coronerref31_Check.l1 k x3 (wrap64 (x5 + 1)) x154000 x154001 x154002 x157000 x157001 x157002 x157003 x157004 x157005 x157006) else (some 2)))) else (none)) else (coronerref31_Check.l0 k (wrap64 (x3 + 1)) x154000 x154001 x154002)
end
def coronerref31_Check.f (k : Nat) (a0_0 : Int) (l0_1 : List (S44)) (l0_2 : List Int) : Option (Int) := if a0_0 < 0 then (coronerref31_Check.j0 k true a0_0 l0_1 l0_2) else (if a0_0 > 4 then (coronerref31_Check.j0 k true a0_0 l0_1 l0_2) else (if (l0_1.length : Int) > 1024 then (coronerref31_Check.j0 k true a0_0 l0_1 l0_2) else (if (l0_2.length : Int) > 1024 then (coronerref31_Check.j0 k true a0_0 l0_1 l0_2) else ((coronerref31_may.f k l0_2).bind fun t154 => (coronerref31_Check.j0 k (!t154) a0_0 l0_1 l0_2)))))
theorem coronerref31_Check.mono_l : ∀ k, (∀ y0 y1 y2 y3, LeO (coronerref31_Check.j0 k y0 y1 y2 y3) (coronerref31_Check.j0 (k + 1) y0 y1 y2 y3)) ∧ (∀ y0 y1 y2 y3, LeO (coronerref31_Check.l0 k y0 y1 y2 y3) (coronerref31_Check.l0 (k + 1) y0 y1 y2 y3)) ∧ (∀ y0 y1 y2 y3 y4 y5 y6 y7 y8 y9 y10 y11, LeO (coronerref31_Check.j2 k y0 y1 y2 y3 y4 y5 y6 y7 y8 y9 y10 y11) (coronerref31_Check.j2 (k + 1) y0 y1 y2 y3 y4 y5 y6 y7 y8 y9 y10 y11)) ∧ (∀ y0 y1 y2 y3 y4 y5 y6 y7 y8 y9 y10 y11, LeO (coronerref31_Check.l1 k y0 y1 y2 y3 y4 y5 y6 y7 y8 y9 y10 y11) (coronerref31_Check.l1 (k + 1) y0 y1 y2 y3 y4 y5 y6 y7 y8 y9 y10 y11))
 | 0 => ⟨fun _ _ _ _ r h => by simp [coronerref31_Check.j0] at h, fun _ _ _ _ r h => by simp [coronerref31_Check.l0] at h, fun _ _ _ _ _ _ _ _ _ _ _ _ r h => by simp [coronerref31_Check.j2] at h, fun _ _ _ _ _ _ _ _ _ _ _ _ r h => by simp [coronerref31_Check.l1] at h⟩
 | k + 1 => by
  obtain ⟨ih0, ih1, ih2, ih3⟩ := coronerref31_Check.mono_l k
  refine ⟨?_, ?_, ?_, ?_⟩
  ·intro y0 y1 y2 y3
   unfold coronerref31_Check.j0
   repeat' first
   | (with_reducible exact ih0 _ _ _ _)
   | (with_reducible exact ih1 _ _ _ _)
   | (with_reducible exact ih2 _ _ _ _ _ _ _ _ _ _ _ _)
   | (with_reducible exact ih3 _ _ _ _ _ _ _ _ _ _ _ _)
   | (with_reducible exact coronerref31_may.mono _ _)
   | (with_reducible exact LeO.refl _)
   | (with_reducible exact LeO.none _)
   | (with_reducible refine LeO.ite ?_ ?_)
   | (with_reducible refine LeO.bind ?_ (fun _ => ?_))
   | exact ih0 _ _ _ _
   | exact ih1 _ _ _ _
   | exact ih2 _ _ _ _ _ _ _ _ _ _ _ _
   | exact ih3 _ _ _ _ _ _ _ _ _ _ _ _
   | exact coronerref31_may.mono _ _
   | exact LeO.none _
   | refine LeO.ite ?_ ?_
   | refine LeO.bind ?_ (fun _ => ?_)
  ·intro y0 y1 y2 y3
   unfold coronerref31_Check.l0
   repeat' first
   | (with_reducible exact ih0 _ _ _ _)
   | (with_reducible exact ih1 _ _ _ _)
   | (with_reducible exact ih2 _ _ _ _ _ _ _ _ _ _ _ _)
   | (with_reducible exact ih3 _ _ _ _ _ _ _ _ _ _ _ _)
   | (with_reducible exact coronerref31_may.mono _ _)
   | (with_reducible exact LeO.refl _)
   | (with_reducible exact LeO.none _)
   | (with_reducible refine LeO.ite ?_ ?_)
   | (with_reducible refine LeO.bind ?_ (fun _ => ?_))
   | exact ih0 _ _ _ _
   | exact ih1 _ _ _ _
   | exact ih2 _ _ _ _ _ _ _ _ _ _ _ _
   | exact ih3 _ _ _ _ _ _ _ _ _ _ _ _
   | exact coronerref31_may.mono _ _
   | exact LeO.none _
   | refine LeO.ite ?_ ?_
   | refine LeO.bind ?_ (fun _ => ?_)
  ·intro y0 y1 y2 y3 y4 y5 y6 y7 y8 y9 y10 y11
   unfold coronerref31_Check.j2
   repeat' first
   | (with_reducible exact ih0 _ _ _ _)
   | (with_reducible exact ih1 _ _ _ _)
   | (with_reducible exact ih2 _ _ _ _ _ _ _ _ _ _ _ _)
   | (with_reducible exact ih3 _ _ _ _ _ _ _ _ _ _ _ _)
   | (with_reducible exact coronerref31_may.mono _ _)
   | (with_reducible exact LeO.refl _)
   | (with_reducible exact LeO.none _)
   | (with_reducible refine LeO.ite ?_ ?_)
   | (with_reducible refine LeO.bind ?_ (fun _ => ?_))
   | exact ih0 _ _ _ _
   | exact ih1 _ _ _ _
   | exact ih2 _ _ _ _ _ _ _ _ _ _ _ _
   | exact ih3 _ _ _ _ _ _ _ _ _ _ _ _
   | exact coronerref31_may.mono _ _
   | exact LeO.none _
   | refine LeO.ite ?_ ?_
   | refine LeO.bind ?_ (fun _ => ?_)
  ·intro y0 y1 y2 y3 y4 y5 y6 y7 y8 y9 y10 y11
   unfold coronerref31_Check.l1
   repeat' first
   | (with_reducible exact ih0 _ _ _ _)
   | (with_reducible exact ih1 _ _ _ _)
   | (with_reducible exact ih2 _ _ _ _ _ _ _ _ _ _ _ _)
   | (with_reducible exact ih3 _ _ _ _ _ _ _ _ _ _ _ _)
   | (with_reducible exact coronerref31_may.mono _ _)
   | (with_reducible exact LeO.refl _)
   | (with_reducible exact LeO.none _)
   | (with_reducible refine LeO.ite ?_ ?_)
   | (with_reducible refine LeO.bind ?_ (fun _ => ?_))
   | exact ih0 _ _ _ _
   | exact ih1 _ _ _ _
   | exact ih2 _ _ _ _ _ _ _ _ _ _ _ _
   | exact ih3 _ _ _ _ _ _ _ _ _ _ _ _
   | exact coronerref31_may.mono _ _
   | exact LeO.none _
   | refine LeO.ite ?_ ?_
   | refine LeO.bind ?_ (fun _ => ?_)
theorem coronerref31_Check.mono : ∀ a0 a1 a2 k, LeO (coronerref31_Check.f k a0 a1 a2) (coronerref31_Check.f (k + 1) a0 a1 a2) := by
 intro a0 a1 a2 k
 obtain ⟨ih0, ih1, ih2, ih3⟩ := coronerref31_Check.mono_l k
 unfold coronerref31_Check.f
 repeat' first
  | (with_reducible exact ih0 _ _ _ _)
  | (with_reducible exact ih1 _ _ _ _)
  | (with_reducible exact ih2 _ _ _ _ _ _ _ _ _ _ _ _)
  | (with_reducible exact ih3 _ _ _ _ _ _ _ _ _ _ _ _)
  | (with_reducible exact coronerref31_may.mono _ _)
  | (with_reducible exact LeO.refl _)
  | (with_reducible exact LeO.none _)
  | (with_reducible refine LeO.ite ?_ ?_)
  | (with_reducible refine LeO.bind ?_ (fun _ => ?_))
  | exact ih0 _ _ _ _
  | exact ih1 _ _ _ _
  | exact ih2 _ _ _ _ _ _ _ _ _ _ _ _
  | exact ih3 _ _ _ _ _ _ _ _ _ _ _ _
  | exact coronerref31_may.mono _ _
  | exact LeO.none _
  | refine LeO.ite ?_ ?_
  | refine LeO.bind ?_ (fun _ => ?_)
set_option maxHeartbeats 8000000 in
set_option maxRecDepth 100000 in
theorem coronerref31_Check.calls (k : Nat) (a0_0 : Int) (A0_1 : Option Addr) (c0_1 : Nat) (l0_1 : List (S44)) (A0_2 : Option Addr) (c0_2 : Nat) (l0_2 : List Int) (r : Int) (w : World) (hr0_1 : Kd.C k44 w A0_1 l0_1.length l0_1) (hc0_1 : l0_1.length ≤ c0_1) (hr0_2 : Kd.C (Kd.int .i64) w A0_2 l0_2.length l0_2) (hc0_2 : l0_2.length ≤ c0_2) (h : coronerref31_Check.f k a0_0 l0_1 l0_2 = some r) :
 Calls Try.prog 15 #[.agg #[.int .i64 a0_0, .slice A0_1 l0_1.length c0_1, .slice A0_2 l0_2.length c0_2]] w fun e w' => e = .returned (.int .i64 r) ∧ Below w.heap.size w w' := by
 have hu25 := Try.underlying25
 have hu44 := Try.underlying44
 have hu49 := Try.underlying49
 have HR0_1 := Aside0.mk hr0_1
 have HC0_1 := Aside0.mk hc0_1
 clear hr0_1 hc0_1
 have HR0_2 := Aside0.mk hr0_2
 have HC0_2 := Aside0.mk hc0_2
 clear hr0_2 hc0_2
 have HB := Aside0.mk (Below.refl w.heap.size w)
 have H : (if a0_0 < 0 then (coronerref31_Check.j0 k true a0_0 l0_1 l0_2) else (if a0_0 > 4 then (coronerref31_Check.j0 k true a0_0 l0_1 l0_2) else (if (l0_1.length : Int) > 1024 then (coronerref31_Check.j0 k true a0_0 l0_1 l0_2) else (if (l0_2.length : Int) > 1024 then (coronerref31_Check.j0 k true a0_0 l0_1 l0_2) else ((coronerref31_may.f k l0_2).bind fun t154 => (coronerref31_Check.j0 k (!t154) a0_0 l0_1 l0_2)))))) = some r := h
 clear h
 have HC2 := Aside0.mk H
 clear H
 go_enter Try.func15, Try.ntmps15
 go_upto_region 1 with (first | ((with_reducible refine gate_dst (N := 1) rfl ?_); (try (refine gate_guard (by rfl) ?_; dsimp only)); refine box_event ?hg (N := 1) ?hd (cs := #[.int .i64 a0_0, .slice A0_1 l0_1.length c0_1, .slice A0_2 l0_2.length c0_2]) (t := 25) ?hr ?_; (case hd => rfl); (case hg => rfl); (case hr => first | (go_simp; done) | (go_simp; rfl)); intro gb153 hg w3 hbox hb; have n0_ := Aside0.mk (below_step (by repeat (first | (with_reducible first | exact HB.out | apply below_alloc | apply pw_below_drewN | apply below_drew1) | exact HB.out)) hb); have n1_ := Aside0.mk (hbox); have n2_ := Aside0.mk ((by rw [hg]; exact (below_size (by repeat (first | (with_reducible first | exact HB.out | apply below_alloc | apply pw_below_drewN | apply below_drew1) | exact HB.out))) : w.heap.size ≤ gb153)); have n3_ := Aside0.mk ((by rw [hg]; exact (below_size (by repeat (first | (with_reducible first | exact HB.out | apply below_alloc | apply pw_below_drewN | apply below_drew1) | exact HB.out))) : w.heap.size ≤ gb153)); clear HB; have HB := n0_; have BK153 := n1_; have GW153 := n2_; have GE153 := n3_; clear n0_ n1_ n2_ n3_; clear hb hbox hg))
 (try simp only [Act.put, List.setIfInBounds_toArray, List.set_cons_zero, List.set_cons_succ])
 go_cut [31] (fun v31 wc => ∃ (kq : Nat) (x31_1 : Bool), v31 = .bool x31_1 ∧ Aside0 (coronerref31_Check.j0 kq x31_1 a0_0 l0_1 l0_2 = some r) ∧ Aside0 (kq ≤ k) ∧ Aside0 (wc.heap[gb153]? = some (.cells #[.int .i64 a0_0, (.slice A0_1 l0_1.length c0_1), (.slice A0_2 l0_2.length c0_2)] 25 (0, 0))) ∧ Aside0 (Below w.heap.size w wc))
 case first =>
  have H := HC2.out
  clear HC2
  by_cases c4 : a0_0 < 0
  ·rw [if_pos c4] at H
   have c4b0 : decide (a0_0 < 0) = true := decide_eq_true c4
   clear c4
   (first | rw [c4b0] | (simp only [i64_w, i32_w]; rw [c4b0]) | skip)
   have H' := Aside0.mk H
   clear H
   have hcz5_0 : w3.cell? ⟨gb153, 0, none⟩ = some (.int .i64 a0_0) := (blk_cell BK153.out 0).trans rfl
   have hcz5_1 : w3.cell? ⟨gb153, 1, none⟩ = some (.slice A0_1 l0_1.length c0_1) := (blk_cell BK153.out 1).trans rfl
   have hcz5_2 : w3.cell? ⟨gb153, 2, none⟩ = some (.slice A0_2 l0_2.length c0_2) := (blk_cell BK153.out 2).trans rfl
   have hfz5_0 := blk_frozen BK153.out 0
   have hfz5_1 := blk_frozen BK153.out 1
   have hfz5_2 := blk_frozen BK153.out 2
   go_wp2
   go_meet
   case rel => exact ⟨_, (true), (by first | rfl | (simp; done) | (simp [*]; done)), H', ⟨by first | omega | exact Nat.le_refl _⟩, ⟨by (with_reducible repeat (first | refine blk_drewN ?_ _ | refine blk_drew ?_ | refine blk_alloc ?_ _)); exact BK153.out⟩, ⟨by repeat (first | (with_reducible first | exact HB.out | apply below_alloc | apply pw_below_drewN | apply below_drew1 | refine below_set ?_ GE153.out) | exact HB.out)⟩⟩
  ·rw [if_neg c4] at H
   have c4b0 : decide (a0_0 < 0) = false := decide_eq_false c4
   clear c4
   (first | rw [c4b0] | (simp only [i64_w, i32_w]; rw [c4b0]) | skip)
   by_cases c6 : a0_0 > 4
   ·rw [if_pos c6] at H
    have c6b0 : decide (4 < a0_0) = true := decide_eq_true c6
    clear c6
    have H' := Aside0.mk H
    clear H
    have hcz7_0 : w3.cell? ⟨gb153, 0, none⟩ = some (.int .i64 a0_0) := (blk_cell BK153.out 0).trans rfl
    have hcz7_1 : w3.cell? ⟨gb153, 1, none⟩ = some (.slice A0_1 l0_1.length c0_1) := (blk_cell BK153.out 1).trans rfl
    have hcz7_2 : w3.cell? ⟨gb153, 2, none⟩ = some (.slice A0_2 l0_2.length c0_2) := (blk_cell BK153.out 2).trans rfl
    have hfz7_0 := blk_frozen BK153.out 0
    have hfz7_1 := blk_frozen BK153.out 1
    have hfz7_2 := blk_frozen BK153.out 2
    go_wp2
    go_meet
    case rel => exact ⟨_, (true), (by first | rfl | (simp; done) | (simp [*]; done)), H', ⟨by first | omega | exact Nat.le_refl _⟩, ⟨by (with_reducible repeat (first | refine blk_drewN ?_ _ | refine blk_drew ?_ | refine blk_alloc ?_ _)); exact BK153.out⟩, ⟨by repeat (first | (with_reducible first | exact HB.out | apply below_alloc | apply pw_below_drewN | apply below_drew1 | refine below_set ?_ GE153.out) | exact HB.out)⟩⟩
   ·rw [if_neg c6] at H
    have c6b0 : decide (4 < a0_0) = false := decide_eq_false c6
    clear c6
    by_cases c8 : (l0_1.length : Int) > 1024
    ·rw [if_pos c8] at H
     have c8b0 : decide (1024 < (l0_1.length : Int)) = true := decide_eq_true c8
     have c8b1 : decide (1024 < l0_1.length) = true := decide_eq_true (by omega)
     clear c8
     have H' := Aside0.mk H
     clear H
     have hcz9_0 : w3.cell? ⟨gb153, 0, none⟩ = some (.int .i64 a0_0) := (blk_cell BK153.out 0).trans rfl
     have hcz9_1 : w3.cell? ⟨gb153, 1, none⟩ = some (.slice A0_1 l0_1.length c0_1) := (blk_cell BK153.out 1).trans rfl
     have hcz9_2 : w3.cell? ⟨gb153, 2, none⟩ = some (.slice A0_2 l0_2.length c0_2) := (blk_cell BK153.out 2).trans rfl
     have hfz9_0 := blk_frozen BK153.out 0
     have hfz9_1 := blk_frozen BK153.out 1
     have hfz9_2 := blk_frozen BK153.out 2
     go_wp2
     go_meet
     case rel => exact ⟨_, (true), (by first | rfl | (simp; done) | (simp [*]; done)), H', ⟨by first | omega | exact Nat.le_refl _⟩, ⟨by (with_reducible repeat (first | refine blk_drewN ?_ _ | refine blk_drew ?_ | refine blk_alloc ?_ _)); exact BK153.out⟩, ⟨by repeat (first | (with_reducible first | exact HB.out | apply below_alloc | apply pw_below_drewN | apply below_drew1 | refine below_set ?_ GE153.out) | exact HB.out)⟩⟩
    ·rw [if_neg c8] at H
     have c8b0 : decide (1024 < (l0_1.length : Int)) = false := decide_eq_false c8
     have c8b1 : decide (1024 < l0_1.length) = false := decide_eq_false (by omega)
     clear c8
     by_cases c10 : (l0_2.length : Int) > 1024
     ·rw [if_pos c10] at H
      have c10b0 : decide (1024 < (l0_2.length : Int)) = true := decide_eq_true c10
      have c10b1 : decide (1024 < l0_2.length) = true := decide_eq_true (by omega)
      clear c10
      have H' := Aside0.mk H
      clear H
      have hcz11_0 : w3.cell? ⟨gb153, 0, none⟩ = some (.int .i64 a0_0) := (blk_cell BK153.out 0).trans rfl
      have hcz11_1 : w3.cell? ⟨gb153, 1, none⟩ = some (.slice A0_1 l0_1.length c0_1) := (blk_cell BK153.out 1).trans rfl
      have hcz11_2 : w3.cell? ⟨gb153, 2, none⟩ = some (.slice A0_2 l0_2.length c0_2) := (blk_cell BK153.out 2).trans rfl
      have hfz11_0 := blk_frozen BK153.out 0
      have hfz11_1 := blk_frozen BK153.out 1
      have hfz11_2 := blk_frozen BK153.out 2
      go_wp2
      go_meet
      case rel => exact ⟨_, (true), (by first | rfl | (simp; done) | (simp [*]; done)), H', ⟨by first | omega | exact Nat.le_refl _⟩, ⟨by (with_reducible repeat (first | refine blk_drewN ?_ _ | refine blk_drew ?_ | refine blk_alloc ?_ _)); exact BK153.out⟩, ⟨by repeat (first | (with_reducible first | exact HB.out | apply below_alloc | apply pw_below_drewN | apply below_drew1 | refine below_set ?_ GE153.out) | exact HB.out)⟩⟩
     ·rw [if_neg c10] at H
      have c10b0 : decide (1024 < (l0_2.length : Int)) = false := decide_eq_false c10
      have c10b1 : decide (1024 < l0_2.length) = false := decide_eq_false (by omega)
      clear c10
      replace H := Option.bind_eq_some_iff.mp H
      obtain ⟨t154, A120, H⟩ := H
      replace H : (coronerref31_Check.j0 k (!t154) a0_0 l0_1 l0_2) = some r := H
      have A12 := Aside0.mk A120
      clear A120
      have H' := Aside0.mk H
      clear H
      have hcz13_0 : w3.cell? ⟨gb153, 0, none⟩ = some (.int .i64 a0_0) := (blk_cell BK153.out 0).trans rfl
      have hcz13_1 : w3.cell? ⟨gb153, 1, none⟩ = some (.slice A0_1 l0_1.length c0_1) := (blk_cell BK153.out 1).trans rfl
      have hcz13_2 : w3.cell? ⟨gb153, 2, none⟩ = some (.slice A0_2 l0_2.length c0_2) := (blk_cell BK153.out 2).trans rfl
      have hfz13_0 := blk_frozen BK153.out 0
      have hfz13_1 := blk_frozen BK153.out 1
      have hfz13_2 := blk_frozen BK153.out 2
      go_wp2_with (first | (go_at_call 41; (with_reducible refine (coronerref31_may.calls k _ _ l0_2 t154 _ ?side1 ?side2 A12.out).mono ?_); (case side1 => repeat (first | exact (Kd.C_below HR0_2.out HB.out) | (with_reducible refine Kd.C_alloc ?_ _) | (with_reducible refine Kd.C_drewN ?_ _) | (with_reducible refine Kd.C_drew ?_))); (case side2 => exact HC0_2.out); rintro e w' ⟨rfl, ⟨nd, rfl⟩⟩))
      go_meet
      case rel => exact ⟨_, (!t154), (by first | rfl | (simp; done) | (simp [*]; done)), H', ⟨by first | omega | exact Nat.le_refl _⟩, ⟨by (with_reducible repeat (first | refine blk_drewN ?_ _ | refine blk_drew ?_ | refine blk_alloc ?_ _)); exact BK153.out⟩, ⟨by repeat (first | (with_reducible first | exact HB.out | apply below_alloc | apply pw_below_drewN | apply below_drew1 | refine below_set ?_ GE153.out) | exact HB.out)⟩⟩
 case rest =>
  clear HC2
  try clear c1
  try clear p2
  try clear c4
  try clear c4b0
  try clear c6
  try clear c6b0
  try clear c8
  try clear c8b0
  try clear c8b1
  try clear c10
  try clear c10b0
  try clear c10b1
  try clear hcz11_0
  try clear hcz11_1
  try clear hcz11_2
  try clear hcz13_0
  try clear hcz13_1
  try clear hcz13_2
  try clear hcz5_0
  try clear hcz5_1
  try clear hcz5_2
  try clear hcz7_0
  try clear hcz7_1
  try clear hcz7_2
  try clear hcz9_0
  try clear hcz9_1
  try clear hcz9_2
  try clear hfz11_0
  try clear hfz11_1
  try clear hfz11_2
  try clear hfz13_0
  try clear hfz13_1
  try clear hfz13_2
  try clear hfz5_0
  try clear hfz5_1
  try clear hfz5_2
  try clear hfz7_0
  try clear hfz7_1
  try clear hfz7_2
  try clear hfz9_0
  try clear hfz9_1
  try clear hfz9_2
  obtain ⟨kq, x31_1, rfl, HA, HJ1, BK153, HB⟩ := hcut
  cases kq with
  | zero => exact absurd HA.out (by simp [coronerref31_Check.j0])
  | succ kj1 =>
   have H := HA.out
   clear HA
   simp only [coronerref31_Check.j0] at H
   by_cases c14 : x31_1 = true
   ·subst c14
    have H1 : (some 2) = some r := by rw [if_pos rfl] at H; exact H
    clear H
    have H := H1
    clear H1
    obtain rfl := Option.some.inj H
    go_wp2
    go_ret
    exact ⟨by first | rfl | (simp [errW_none, errW_some] <;> rfl) | (simp [*, errW_none, errW_some] <;> rfl), by repeat (first | (with_reducible first | exact HB.out | apply below_alloc | apply pw_below_drewN | apply below_drew1 | refine below_set ?_ GE153.out) | exact HB.out)⟩
   ·replace c14 := Bool.eq_false_iff.mpr c14
    subst c14
    have H1 : (coronerref31_Check.l0 kj1 0 a0_0 l0_1 l0_2) = some r := by rw [if_neg (show ¬ (false = true) by decide)] at H; exact H
    clear H
    have H := H1
    clear H1
    have H' := Aside0.mk H
    clear H
    go_wp2
    go_loopg [3] kj1 (fun kq v3 w' => ∃ (x3_2 : Int), v3 = .int .i64 x3_2 ∧ Aside0 (coronerref31_Check.l0 kq x3_2 a0_0 l0_1 l0_2 = some r) ∧ Aside0 (kq ≤ kj1) ∧ Aside0 (w'.heap[gb153]? = some (.cells #[.int .i64 a0_0, (.slice A0_1 l0_1.length c0_1), (.slice A0_2 l0_2.length c0_2)] 25 (0, 0))) ∧ Aside0 (Below w.heap.size w w'))
    case atStart => exact ⟨(0), (by first | rfl | (simp; done) | (simp [*]; done)), H', ⟨Nat.le_refl _⟩, ⟨by (with_reducible repeat (first | refine blk_drewN ?_ _ | refine blk_drew ?_ | refine blk_alloc ?_ _)); exact BK153.out⟩, ⟨by repeat (first | (with_reducible first | exact HB.out | apply below_alloc | apply pw_below_drewN | apply below_drew1 | refine below_set ?_ GE153.out) | exact HB.out)⟩⟩
    case round =>
     clear H'
     try clear c1
     try clear p2
     try clear c4
     try clear c4b0
     try clear c6
     try clear c6b0
     try clear c8
     try clear c8b0
     try clear c8b1
     try clear c10
     try clear c10b0
     try clear c10b1
     try clear c14
     try clear hcz11_0
     try clear hcz11_1
     try clear hcz11_2
     try clear hcz13_0
     try clear hcz13_1
     try clear hcz13_2
     try clear hcz5_0
     try clear hcz5_1
     try clear hcz5_2
     try clear hcz7_0
     try clear hcz7_1
     try clear hcz7_2
     try clear hcz9_0
     try clear hcz9_1
     try clear hcz9_2
     try clear hfz11_0
     try clear hfz11_1
     try clear hfz11_2
     try clear hfz13_0
     try clear hfz13_1
     try clear hfz13_2
     try clear hfz5_0
     try clear hfz5_1
     try clear hfz5_2
     try clear hfz7_0
     try clear hfz7_1
     try clear hfz7_2
     try clear hfz9_0
     try clear hfz9_1
     try clear hfz9_2
     try clear p2
     obtain ⟨x3_2, rfl, HA, HK2, BK153, HB⟩ := hrel
     cases gk with
     | zero => exact absurd HA.out (by simp [coronerref31_Check.l0])
     | succ k2 =>
      have H := HA.out
      clear HA
      simp only [coronerref31_Check.l0] at H
      by_cases c15 : x3_2 < (l0_1.length : Int)
      ·rw [if_pos c15] at H
       have c15b0 : decide (x3_2 < (l0_1.length : Int)) = true := decide_eq_true c15
       clear c15
       by_cases c16 : 0 ≤ x3_2
       ·rw [if_pos c16] at H
        have c16b0 : decide (0 ≤ x3_2) = true := decide_eq_true c16
        clear c16
        have HC17 := Aside0.mk H
        clear H
        have hcz18_0 : wr.cell? ⟨gb153, 0, none⟩ = some (.int .i64 a0_0) := (blk_cell BK153.out 0).trans rfl
        have hcz18_1 : wr.cell? ⟨gb153, 1, none⟩ = some (.slice A0_1 l0_1.length c0_1) := (blk_cell BK153.out 1).trans rfl
        have hcz18_2 : wr.cell? ⟨gb153, 2, none⟩ = some (.slice A0_2 l0_2.length c0_2) := (blk_cell BK153.out 2).trans rfl
        have hfz18_0 := blk_frozen BK153.out 0
        have hfz18_1 := blk_frozen BK153.out 1
        have hfz18_2 := blk_frozen BK153.out 2
        have p155 : 0 ≤ (x3_2 : Int) := of_decide_eq_true (by first | (with_reducible assumption) | assumption)
        have q155 : x3_2 < (l0_1.length : Int) := of_decide_eq_true (by first | (with_reducible assumption) | assumption)
        obtain ⟨ad155, A155_6, c155_6, e155, hx155_0, hx155_1, hx155_2, hx155_3, hx155_4, hx155_5, hx155_6, hl155_6, hi155_6⟩ := at_T44 HR0_1.out x3_2 p155 q155
        cases e155
        replace hx155_0 := (HB.out.cell (World.block_lt_of_cell? w _ hx155_0)).trans hx155_0
        replace hx155_1 := (HB.out.cell (World.block_lt_of_cell? w _ hx155_1)).trans hx155_1
        replace hx155_2 := (HB.out.cell (World.block_lt_of_cell? w _ hx155_2)).trans hx155_2
        replace hx155_3 := (HB.out.cell (World.block_lt_of_cell? w _ hx155_3)).trans hx155_3
        replace hx155_4 := (HB.out.cell (World.block_lt_of_cell? w _ hx155_4)).trans hx155_4
        replace hx155_5 := (HB.out.cell (World.block_lt_of_cell? w _ hx155_5)).trans hx155_5
        replace hx155_6 := (HB.out.cell (World.block_lt_of_cell? w _ hx155_6)).trans hx155_6
        have HR155_6 := Aside0.mk hi155_6
        have HC155_6 := Aside0.mk hl155_6
        clear hi155_6 hl155_6
        replace p155 := eq_true p155
        replace q155 := eq_true q155
        go_upto_region 7 with (first | ((with_reducible refine gate_dst (N := 4) rfl ?_); (try (refine gate_guard (by rfl) ?_; dsimp only)); refine box_event ?hg (N := 4) ?hd (cs := #[.int .i64 0, .int .i64 0, .int .i64 0, .int .i64 0, .int .i64 0, .int .i64 0, .slice none 0 0]) (t := 44) ?hr ?_; (case hd => rfl); (case hg => rfl); (case hr => first | (go_simp; done) | (go_simp; rfl)); intro gb156 hg w19 hbox hb; have n0_ := Aside0.mk (blk_below (g := gb153) (o := .cells #[.int .i64 a0_0, .slice (some ad155) l0_1.length c0_1, .slice A0_2 l0_2.length c0_2] 25 (0, 0)) (by (with_reducible repeat (first | refine blk_drewN ?_ _ | refine blk_drew ?_ | refine blk_alloc ?_ _)); exact BK153.out) hb); have n1_ := Aside0.mk (below_step (by repeat (first | (with_reducible first | exact HB.out | apply below_alloc | apply pw_below_drewN | apply below_drew1 | refine below_set ?_ GE153.out) | exact HB.out)) hb); have n2_ := Aside0.mk (hbox); have n3_ := Aside0.mk ((by rw [hg]; exact (below_size (by repeat (first | (with_reducible first | exact HB.out | apply below_alloc | apply pw_below_drewN | apply below_drew1 | refine below_set ?_ GE153.out) | exact HB.out))) : w.heap.size ≤ gb156)); have n4_ := Aside0.mk ((by rw [hg]; exact (below_size (by repeat (first | (with_reducible first | exact HB.out | apply below_alloc | apply pw_below_drewN | apply below_drew1 | refine below_set ?_ GE153.out) | exact HB.out))) : w.heap.size ≤ gb156)); have n5_ := Aside0.mk ((by rw [hg]; exact Nat.ne_of_lt (blk_lt (g := gb153) (o := .cells #[.int .i64 a0_0, .slice (some ad155) l0_1.length c0_1, .slice A0_2 l0_2.length c0_2] 25 (0, 0)) (by (with_reducible repeat (first | refine blk_drewN ?_ _ | refine blk_drew ?_ | refine blk_alloc ?_ _)); exact BK153.out)) : gb153 ≠ gb156)); have n6_ := Aside0.mk ((by rw [hg]; exact Nat.ne_of_gt (blk_lt (g := gb153) (o := .cells #[.int .i64 a0_0, .slice (some ad155) l0_1.length c0_1, .slice A0_2 l0_2.length c0_2] 25 (0, 0)) (by (with_reducible repeat (first | refine blk_drewN ?_ _ | refine blk_drew ?_ | refine blk_alloc ?_ _)); exact BK153.out)) : gb156 ≠ gb153)); clear BK153; clear HB; have BK153 := n0_; have HB := n1_; have BK156 := n2_; have GW156 := n3_; have GE156 := n4_; have NB153_156 := n5_; have NB156_153 := n6_; clear n0_ n1_ n2_ n3_ n4_ n5_ n6_; clear hb hbox hg; have hnb20 := NB156_153.out; have hnc20 := NB153_156.out; have hcz21_0 : w19.cell? ⟨gb156, 0, none⟩ = some (.int .i64 0) := (blk_cell BK156.out 0).trans rfl; have hcz21_1 : w19.cell? ⟨gb156, 1, none⟩ = some (.int .i64 0) := (blk_cell BK156.out 1).trans rfl; have hcz21_2 : w19.cell? ⟨gb156, 2, none⟩ = some (.int .i64 0) := (blk_cell BK156.out 2).trans rfl; have hcz21_3 : w19.cell? ⟨gb156, 3, none⟩ = some (.int .i64 0) := (blk_cell BK156.out 3).trans rfl; have hcz21_4 : w19.cell? ⟨gb156, 4, none⟩ = some (.int .i64 0) := (blk_cell BK156.out 4).trans rfl; have hcz21_5 : w19.cell? ⟨gb156, 5, none⟩ = some (.int .i64 0) := (blk_cell BK156.out 5).trans rfl; have hcz21_6 : w19.cell? ⟨gb156, 6, none⟩ = some (.slice none 0 0) := (blk_cell BK156.out 6).trans rfl; have hfz21_0 := blk_frozen BK156.out 0; have hfz21_1 := blk_frozen BK156.out 1; have hfz21_2 := blk_frozen BK156.out 2; have hfz21_3 := blk_frozen BK156.out 3; have hfz21_4 := blk_frozen BK156.out 4; have hfz21_5 := blk_frozen BK156.out 5; have hfz21_6 := blk_frozen BK156.out 6))
        (try simp only [Act.put, List.setIfInBounds_toArray, List.set_cons_zero, List.set_cons_succ])
        go_cut [53] (fun v53 wc => ∃ (kq : Nat) (x53_16 : Bool), v53 = .bool x53_16 ∧ Aside0 (coronerref31_Check.j2 kq x3_2 x53_16 a0_0 l0_1 l0_2 ((rd_T44 l0_1 x3_2).f0) ((rd_T44 l0_1 x3_2).f1) ((rd_T44 l0_1 x3_2).f2) ((rd_T44 l0_1 x3_2).f3) ((rd_T44 l0_1 x3_2).f4) ((rd_T44 l0_1 x3_2).f5) ((rd_T44 l0_1 x3_2).f6) = some r) ∧ Aside0 (kq ≤ k2) ∧ Aside0 (wc.heap[gb153]? = some (.cells #[.int .i64 a0_0, (.slice (some ad155) l0_1.length c0_1), (.slice A0_2 l0_2.length c0_2)] 25 (0, 0))) ∧ Aside0 (wc.heap[gb156]? = some (.cells #[.int .i64 ((rd_T44 l0_1 x3_2).f0), .int .i64 ((rd_T44 l0_1 x3_2).f1), .int .i64 ((rd_T44 l0_1 x3_2).f2), .int .i64 ((rd_T44 l0_1 x3_2).f3), .int .i64 ((rd_T44 l0_1 x3_2).f4), .int .i64 ((rd_T44 l0_1 x3_2).f5), (.slice A155_6 ((rd_T44 l0_1 x3_2).f6).length c155_6)] 44 (0, 0))) ∧ Aside0 (Below w.heap.size w wc))
        case first =>
         have H := HC17.out
         clear HC17
         replace H := Option.bind_eq_some_iff.mp H
         obtain ⟨t157, A220, H⟩ := H
         replace H : ((coronerref31_may.f k2 t157).bind fun t160 => (if t160 = true then (coronerref31_Check.j2 k2 x3_2 (decide ((((rd_T44 l0_1 x3_2).f6).length : Int) > 1024)) a0_0 l0_1 l0_2 ((rd_T44 l0_1 x3_2).f0) ((rd_T44 l0_1 x3_2).f1) ((rd_T44 l0_1 x3_2).f2) ((rd_T44 l0_1 x3_2).f3) ((rd_T44 l0_1 x3_2).f4) ((rd_T44 l0_1 x3_2).f5) ((rd_T44 l0_1 x3_2).f6)) else (coronerref31_Check.j2 k2 x3_2 true a0_0 l0_1 l0_2 ((rd_T44 l0_1 x3_2).f0) ((rd_T44 l0_1 x3_2).f1) ((rd_T44 l0_1 x3_2).f2) ((rd_T44 l0_1 x3_2).f3) ((rd_T44 l0_1 x3_2).f4) ((rd_T44 l0_1 x3_2).f5) ((rd_T44 l0_1 x3_2).f6)))) = some r := H
         have A22 := Aside0.mk A220
         clear A220
         replace H := Option.bind_eq_some_iff.mp H
         obtain ⟨t160, A230, H⟩ := H
         replace H : (if t160 = true then (coronerref31_Check.j2 k2 x3_2 (decide ((((rd_T44 l0_1 x3_2).f6).length : Int) > 1024)) a0_0 l0_1 l0_2 ((rd_T44 l0_1 x3_2).f0) ((rd_T44 l0_1 x3_2).f1) ((rd_T44 l0_1 x3_2).f2) ((rd_T44 l0_1 x3_2).f3) ((rd_T44 l0_1 x3_2).f4) ((rd_T44 l0_1 x3_2).f5) ((rd_T44 l0_1 x3_2).f6)) else (coronerref31_Check.j2 k2 x3_2 true a0_0 l0_1 l0_2 ((rd_T44 l0_1 x3_2).f0) ((rd_T44 l0_1 x3_2).f1) ((rd_T44 l0_1 x3_2).f2) ((rd_T44 l0_1 x3_2).f3) ((rd_T44 l0_1 x3_2).f4) ((rd_T44 l0_1 x3_2).f5) ((rd_T44 l0_1 x3_2).f6))) = some r := H
         have A23 := Aside0.mk A230
         clear A230
         by_cases c24 : t160 = true
         ·subst c24
          have H1 : (coronerref31_Check.j2 k2 x3_2 (decide ((((rd_T44 l0_1 x3_2).f6).length : Int) > 1024)) a0_0 l0_1 l0_2 ((rd_T44 l0_1 x3_2).f0) ((rd_T44 l0_1 x3_2).f1) ((rd_T44 l0_1 x3_2).f2) ((rd_T44 l0_1 x3_2).f3) ((rd_T44 l0_1 x3_2).f4) ((rd_T44 l0_1 x3_2).f5) ((rd_T44 l0_1 x3_2).f6)) = some r := by rw [if_pos rfl] at H; exact H
          clear H
          have H := H1
          clear H1
          have H' := Aside0.mk H
          clear H
          have hnb25 := NB156_153.out
          have hnc25 := NB153_156.out
          have hcz26_0 : w19.cell? ⟨gb156, 0, none⟩ = some (.int .i64 0) := (blk_cell BK156.out 0).trans rfl
          have hcz26_1 : w19.cell? ⟨gb156, 1, none⟩ = some (.int .i64 0) := (blk_cell BK156.out 1).trans rfl
          have hcz26_2 : w19.cell? ⟨gb156, 2, none⟩ = some (.int .i64 0) := (blk_cell BK156.out 2).trans rfl
          have hcz26_3 : w19.cell? ⟨gb156, 3, none⟩ = some (.int .i64 0) := (blk_cell BK156.out 3).trans rfl
          have hcz26_4 : w19.cell? ⟨gb156, 4, none⟩ = some (.int .i64 0) := (blk_cell BK156.out 4).trans rfl
          have hcz26_5 : w19.cell? ⟨gb156, 5, none⟩ = some (.int .i64 0) := (blk_cell BK156.out 5).trans rfl
          have hcz26_6 : w19.cell? ⟨gb156, 6, none⟩ = some (.slice none 0 0) := (blk_cell BK156.out 6).trans rfl
          have hfz26_0 := blk_frozen BK156.out 0
          have hfz26_1 := blk_frozen BK156.out 1
          have hfz26_2 := blk_frozen BK156.out 2
          have hfz26_3 := blk_frozen BK156.out 3
          have hfz26_4 := blk_frozen BK156.out 4
          have hfz26_5 := blk_frozen BK156.out 5
          have hfz26_6 := blk_frozen BK156.out 6
          go_wp2_with (first | ((with_reducible refine gate_callee (f := 21) rfl ?_); refine goesL_ (some 45) rfl rfl Try.func21 (by kernel_rfl) rfl #[.agg #[.int .i64 ((rd_T44 l0_1 x3_2).f0), .int .i64 ((rd_T44 l0_1 x3_2).f1), .int .i64 ((rd_T44 l0_1 x3_2).f2), .int .i64 ((rd_T44 l0_1 x3_2).f3), .int .i64 ((rd_T44 l0_1 x3_2).f4), .int .i64 ((rd_T44 l0_1 x3_2).f5), .slice A155_6 ((rd_T44 l0_1 x3_2).f6).length c155_6]] rfl (by (try simp only [List.map_toArray, List.map_cons, List.map_nil]); first | done | rfl | (simp only [List.length_drop, List.length_take]; rfl)) ?_; (with_reducible refine (coronerref31_finding.calls ((rd_T44 l0_1 x3_2).f0) ((rd_T44 l0_1 x3_2).f1) ((rd_T44 l0_1 x3_2).f2) ((rd_T44 l0_1 x3_2).f3) ((rd_T44 l0_1 x3_2).f4) ((rd_T44 l0_1 x3_2).f5) _ _ ((rd_T44 l0_1 x3_2).f6) t157 _ ?side1 ?side2 A22.out).mono ?_); (case side1 => exact Kd.C_below HR155_6.out (by repeat (first | (with_reducible first | exact HB.out | apply below_alloc | apply pw_below_drewN | apply below_drew1 | refine below_set ?_ GE153.out | refine below_set ?_ GE156.out) | exact HB.out))); (case side2 => exact HC155_6.out); rintro e w27 ⟨v158, rfl, ho0, hb⟩; refine ⟨_, rfl, ?_⟩; have n0_ := Aside0.mk (Kd.R_lower ho0 (below_size (by repeat (first | (with_reducible first | exact HB.out | apply below_alloc | apply pw_below_drewN | apply below_drew1 | refine below_set ?_ GE153.out | refine below_set ?_ GE156.out) | exact HB.out)))); have n1_ := Aside0.mk (blk_below (g := gb153) (o := .cells #[.int .i64 a0_0, .slice (some ad155) l0_1.length c0_1, .slice A0_2 l0_2.length c0_2] 25 (0, 0)) (by (with_reducible repeat (first | refine blk_drewN ?_ _ | refine blk_drew ?_ | refine blk_alloc ?_ _)); refine blk_far ?_ NB153_156.out _; (with_reducible repeat (first | refine blk_drewN ?_ _ | refine blk_drew ?_ | refine blk_alloc ?_ _)); refine blk_far ?_ NB153_156.out _; (with_reducible repeat (first | refine blk_drewN ?_ _ | refine blk_drew ?_ | refine blk_alloc ?_ _)); refine blk_far ?_ NB153_156.out _; (with_reducible repeat (first | refine blk_drewN ?_ _ | refine blk_drew ?_ | refine blk_alloc ?_ _)); refine blk_far ?_ NB153_156.out _; (with_reducible repeat (first | refine blk_drewN ?_ _ | refine blk_drew ?_ | refine blk_alloc ?_ _)); refine blk_far ?_ NB153_156.out _; (with_reducible repeat (first | refine blk_drewN ?_ _ | refine blk_drew ?_ | refine blk_alloc ?_ _)); refine blk_far ?_ NB153_156.out _; (with_reducible repeat (first | refine blk_drewN ?_ _ | refine blk_drew ?_ | refine blk_alloc ?_ _)); refine blk_far ?_ NB153_156.out _; (with_reducible repeat (first | refine blk_drewN ?_ _ | refine blk_drew ?_ | refine blk_alloc ?_ _)); exact BK153.out) hb); have n2_ := Aside0.mk (blk_below (g := gb156) (o := .cells #[.int .i64 ((rd_T44 l0_1 x3_2).f0), .int .i64 ((rd_T44 l0_1 x3_2).f1), .int .i64 ((rd_T44 l0_1 x3_2).f2), .int .i64 ((rd_T44 l0_1 x3_2).f3), .int .i64 ((rd_T44 l0_1 x3_2).f4), .int .i64 ((rd_T44 l0_1 x3_2).f5), .slice A155_6 ((rd_T44 l0_1 x3_2).f6).length c155_6] 44 (0, 0)) (by (with_reducible repeat (first | refine blk_drewN ?_ _ | refine blk_drew ?_ | refine blk_alloc ?_ _)); refine blk_put (cs := #[.int .i64 ((rd_T44 l0_1 x3_2).f0), .int .i64 ((rd_T44 l0_1 x3_2).f1), .int .i64 ((rd_T44 l0_1 x3_2).f2), .int .i64 ((rd_T44 l0_1 x3_2).f3), .int .i64 ((rd_T44 l0_1 x3_2).f4), .int .i64 ((rd_T44 l0_1 x3_2).f5), .slice none 0 0]) ?_ 6 _ rfl; (with_reducible repeat (first | refine blk_drewN ?_ _ | refine blk_drew ?_ | refine blk_alloc ?_ _)); refine blk_put (cs := #[.int .i64 ((rd_T44 l0_1 x3_2).f0), .int .i64 ((rd_T44 l0_1 x3_2).f1), .int .i64 ((rd_T44 l0_1 x3_2).f2), .int .i64 ((rd_T44 l0_1 x3_2).f3), .int .i64 ((rd_T44 l0_1 x3_2).f4), .int .i64 0, .slice none 0 0]) ?_ 5 _ rfl; (with_reducible repeat (first | refine blk_drewN ?_ _ | refine blk_drew ?_ | refine blk_alloc ?_ _)); refine blk_put (cs := #[.int .i64 ((rd_T44 l0_1 x3_2).f0), .int .i64 ((rd_T44 l0_1 x3_2).f1), .int .i64 ((rd_T44 l0_1 x3_2).f2), .int .i64 ((rd_T44 l0_1 x3_2).f3), .int .i64 0, .int .i64 0, .slice none 0 0]) ?_ 4 _ rfl; (with_reducible repeat (first | refine blk_drewN ?_ _ | refine blk_drew ?_ | refine blk_alloc ?_ _)); refine blk_put (cs := #[.int .i64 ((rd_T44 l0_1 x3_2).f0), .int .i64 ((rd_T44 l0_1 x3_2).f1), .int .i64 ((rd_T44 l0_1 x3_2).f2), .int .i64 0, .int .i64 0, .int .i64 0, .slice none 0 0]) ?_ 3 _ rfl; (with_reducible repeat (first | refine blk_drewN ?_ _ | refine blk_drew ?_ | refine blk_alloc ?_ _)); refine blk_put (cs := #[.int .i64 ((rd_T44 l0_1 x3_2).f0), .int .i64 ((rd_T44 l0_1 x3_2).f1), .int .i64 0, .int .i64 0, .int .i64 0, .int .i64 0, .slice none 0 0]) ?_ 2 _ rfl; (with_reducible repeat (first | refine blk_drewN ?_ _ | refine blk_drew ?_ | refine blk_alloc ?_ _)); refine blk_put (cs := #[.int .i64 ((rd_T44 l0_1 x3_2).f0), .int .i64 0, .int .i64 0, .int .i64 0, .int .i64 0, .int .i64 0, .slice none 0 0]) ?_ 1 _ rfl; (with_reducible repeat (first | refine blk_drewN ?_ _ | refine blk_drew ?_ | refine blk_alloc ?_ _)); refine blk_put (cs := #[.int .i64 0, .int .i64 0, .int .i64 0, .int .i64 0, .int .i64 0, .int .i64 0, .slice none 0 0]) ?_ 0 _ rfl; (with_reducible repeat (first | refine blk_drewN ?_ _ | refine blk_drew ?_ | refine blk_alloc ?_ _)); exact BK156.out) hb); have n3_ := Aside0.mk (below_step (by repeat (first | (with_reducible first | exact HB.out | apply below_alloc | apply pw_below_drewN | apply below_drew1 | refine below_set ?_ GE153.out | refine below_set ?_ GE156.out) | exact HB.out)) hb); clear BK153; clear BK156; clear HB; have HO159 := n0_; have BK153 := n1_; have BK156 := n2_; have HB := n3_; clear n0_ n1_ n2_ n3_; (try clear hb); (try clear hb2); (try clear hk); (try clear hi); (try clear ho0); obtain ⟨Ao28, co28, eo28⟩ := Kd.R_slice HO159.out; subst eo28) | ((with_reducible refine gate_callee (f := 41) rfl ?_); refine goesL_ (some 46) rfl rfl Try.func41 (by kernel_rfl) rfl #[.slice Ao28 t157.length co28] rfl (by (try simp only [List.map_toArray, List.map_cons, List.map_nil]); first | done | rfl | (simp only [List.length_drop, List.length_take]; rfl)) ?_; (with_reducible refine (coronerref31_may.calls k2 _ _ t157 true _ ?side1 ?side2 A23.out).mono ?_); (case side1 => repeat (first | exact (Kd.R_reads' HO159.out).2.2 | (with_reducible refine Kd.C_alloc ?_ _) | (with_reducible refine Kd.C_drewN ?_ _) | (with_reducible refine Kd.C_drew ?_))); (case side2 => exact (Kd.R_reads' HO159.out).2.1); rintro e w' ⟨rfl, ⟨nd, rfl⟩⟩; refine ⟨_, rfl, ?_⟩; have hcz29_0 : w27.cell? ⟨gb156, 0, none⟩ = some (.int .i64 ((rd_T44 l0_1 x3_2).f0)) := (blk_cell BK156.out 0).trans rfl; have hcz29_1 : w27.cell? ⟨gb156, 1, none⟩ = some (.int .i64 ((rd_T44 l0_1 x3_2).f1)) := (blk_cell BK156.out 1).trans rfl; have hcz29_2 : w27.cell? ⟨gb156, 2, none⟩ = some (.int .i64 ((rd_T44 l0_1 x3_2).f2)) := (blk_cell BK156.out 2).trans rfl; have hcz29_3 : w27.cell? ⟨gb156, 3, none⟩ = some (.int .i64 ((rd_T44 l0_1 x3_2).f3)) := (blk_cell BK156.out 3).trans rfl; have hcz29_4 : w27.cell? ⟨gb156, 4, none⟩ = some (.int .i64 ((rd_T44 l0_1 x3_2).f4)) := (blk_cell BK156.out 4).trans rfl; have hcz29_5 : w27.cell? ⟨gb156, 5, none⟩ = some (.int .i64 ((rd_T44 l0_1 x3_2).f5)) := (blk_cell BK156.out 5).trans rfl; have hcz29_6 : w27.cell? ⟨gb156, 6, none⟩ = some (.slice A155_6 ((rd_T44 l0_1 x3_2).f6).length c155_6) := (blk_cell BK156.out 6).trans rfl; have hfz29_0 := blk_frozen BK156.out 0; have hfz29_1 := blk_frozen BK156.out 1; have hfz29_2 := blk_frozen BK156.out 2; have hfz29_3 := blk_frozen BK156.out 3; have hfz29_4 := blk_frozen BK156.out 4; have hfz29_5 := blk_frozen BK156.out 5; have hfz29_6 := blk_frozen BK156.out 6))
          go_meet
          case rel => exact ⟨_, (decide ((((rd_T44 l0_1 x3_2).f6).length : Int) > 1024)), (by first | rfl | (simp; done) | (simp [*]; done)), H', ⟨by have := HJ1.out; have := HK2.out; first | omega | exact Nat.le_refl _⟩, ⟨by (with_reducible repeat (first | refine blk_drewN ?_ _ | refine blk_drew ?_ | refine blk_alloc ?_ _)); exact BK153.out⟩, ⟨by (with_reducible repeat (first | refine blk_drewN ?_ _ | refine blk_drew ?_ | refine blk_alloc ?_ _)); exact BK156.out⟩, ⟨by repeat (first | (with_reducible first | exact HB.out | apply below_alloc | apply pw_below_drewN | apply below_drew1 | refine below_set ?_ GE153.out | refine below_set ?_ GE156.out) | exact HB.out)⟩⟩
         ·replace c24 := Bool.eq_false_iff.mpr c24
          subst c24
          have H1 : (coronerref31_Check.j2 k2 x3_2 true a0_0 l0_1 l0_2 ((rd_T44 l0_1 x3_2).f0) ((rd_T44 l0_1 x3_2).f1) ((rd_T44 l0_1 x3_2).f2) ((rd_T44 l0_1 x3_2).f3) ((rd_T44 l0_1 x3_2).f4) ((rd_T44 l0_1 x3_2).f5) ((rd_T44 l0_1 x3_2).f6)) = some r := by rw [if_neg (show ¬ (false = true) by decide)] at H; exact H
          clear H
          have H := H1
          clear H1
          have H' := Aside0.mk H
          clear H
          have hnb30 := NB156_153.out
          have hnc30 := NB153_156.out
          have hcz31_0 : w19.cell? ⟨gb156, 0, none⟩ = some (.int .i64 0) := (blk_cell BK156.out 0).trans rfl
          have hcz31_1 : w19.cell? ⟨gb156, 1, none⟩ = some (.int .i64 0) := (blk_cell BK156.out 1).trans rfl
          have hcz31_2 : w19.cell? ⟨gb156, 2, none⟩ = some (.int .i64 0) := (blk_cell BK156.out 2).trans rfl
          have hcz31_3 : w19.cell? ⟨gb156, 3, none⟩ = some (.int .i64 0) := (blk_cell BK156.out 3).trans rfl
          have hcz31_4 : w19.cell? ⟨gb156, 4, none⟩ = some (.int .i64 0) := (blk_cell BK156.out 4).trans rfl
          have hcz31_5 : w19.cell? ⟨gb156, 5, none⟩ = some (.int .i64 0) := (blk_cell BK156.out 5).trans rfl
          have hcz31_6 : w19.cell? ⟨gb156, 6, none⟩ = some (.slice none 0 0) := (blk_cell BK156.out 6).trans rfl
          have hfz31_0 := blk_frozen BK156.out 0
          have hfz31_1 := blk_frozen BK156.out 1
          have hfz31_2 := blk_frozen BK156.out 2
          have hfz31_3 := blk_frozen BK156.out 3
          have hfz31_4 := blk_frozen BK156.out 4
          have hfz31_5 := blk_frozen BK156.out 5
          have hfz31_6 := blk_frozen BK156.out 6
          go_wp2_with (first | ((with_reducible refine gate_callee (f := 21) rfl ?_); refine goesL_ (some 45) rfl rfl Try.func21 (by kernel_rfl) rfl #[.agg #[.int .i64 ((rd_T44 l0_1 x3_2).f0), .int .i64 ((rd_T44 l0_1 x3_2).f1), .int .i64 ((rd_T44 l0_1 x3_2).f2), .int .i64 ((rd_T44 l0_1 x3_2).f3), .int .i64 ((rd_T44 l0_1 x3_2).f4), .int .i64 ((rd_T44 l0_1 x3_2).f5), .slice A155_6 ((rd_T44 l0_1 x3_2).f6).length c155_6]] rfl (by (try simp only [List.map_toArray, List.map_cons, List.map_nil]); first | done | rfl | (simp only [List.length_drop, List.length_take]; rfl)) ?_; (with_reducible refine (coronerref31_finding.calls ((rd_T44 l0_1 x3_2).f0) ((rd_T44 l0_1 x3_2).f1) ((rd_T44 l0_1 x3_2).f2) ((rd_T44 l0_1 x3_2).f3) ((rd_T44 l0_1 x3_2).f4) ((rd_T44 l0_1 x3_2).f5) _ _ ((rd_T44 l0_1 x3_2).f6) t157 _ ?side1 ?side2 A22.out).mono ?_); (case side1 => exact Kd.C_below HR155_6.out (by repeat (first | (with_reducible first | exact HB.out | apply below_alloc | apply pw_below_drewN | apply below_drew1 | refine below_set ?_ GE153.out | refine below_set ?_ GE156.out) | exact HB.out))); (case side2 => exact HC155_6.out); rintro e w32 ⟨v158, rfl, ho0, hb⟩; refine ⟨_, rfl, ?_⟩; have n0_ := Aside0.mk (Kd.R_lower ho0 (below_size (by repeat (first | (with_reducible first | exact HB.out | apply below_alloc | apply pw_below_drewN | apply below_drew1 | refine below_set ?_ GE153.out | refine below_set ?_ GE156.out) | exact HB.out)))); have n1_ := Aside0.mk (blk_below (g := gb153) (o := .cells #[.int .i64 a0_0, .slice (some ad155) l0_1.length c0_1, .slice A0_2 l0_2.length c0_2] 25 (0, 0)) (by (with_reducible repeat (first | refine blk_drewN ?_ _ | refine blk_drew ?_ | refine blk_alloc ?_ _)); refine blk_far ?_ NB153_156.out _; (with_reducible repeat (first | refine blk_drewN ?_ _ | refine blk_drew ?_ | refine blk_alloc ?_ _)); refine blk_far ?_ NB153_156.out _; (with_reducible repeat (first | refine blk_drewN ?_ _ | refine blk_drew ?_ | refine blk_alloc ?_ _)); refine blk_far ?_ NB153_156.out _; (with_reducible repeat (first | refine blk_drewN ?_ _ | refine blk_drew ?_ | refine blk_alloc ?_ _)); refine blk_far ?_ NB153_156.out _; (with_reducible repeat (first | refine blk_drewN ?_ _ | refine blk_drew ?_ | refine blk_alloc ?_ _)); refine blk_far ?_ NB153_156.out _; (with_reducible repeat (first | refine blk_drewN ?_ _ | refine blk_drew ?_ | refine blk_alloc ?_ _)); refine blk_far ?_ NB153_156.out _; (with_reducible repeat (first | refine blk_drewN ?_ _ | refine blk_drew ?_ | refine blk_alloc ?_ _)); refine blk_far ?_ NB153_156.out _; (with_reducible repeat (first | refine blk_drewN ?_ _ | refine blk_drew ?_ | refine blk_alloc ?_ _)); exact BK153.out) hb); have n2_ := Aside0.mk (blk_below (g := gb156) (o := .cells #[.int .i64 ((rd_T44 l0_1 x3_2).f0), .int .i64 ((rd_T44 l0_1 x3_2).f1), .int .i64 ((rd_T44 l0_1 x3_2).f2), .int .i64 ((rd_T44 l0_1 x3_2).f3), .int .i64 ((rd_T44 l0_1 x3_2).f4), .int .i64 ((rd_T44 l0_1 x3_2).f5), .slice A155_6 ((rd_T44 l0_1 x3_2).f6).length c155_6] 44 (0, 0)) (by (with_reducible repeat (first | refine blk_drewN ?_ _ | refine blk_drew ?_ | refine blk_alloc ?_ _)); refine blk_put (cs := #[.int .i64 ((rd_T44 l0_1 x3_2).f0), .int .i64 ((rd_T44 l0_1 x3_2).f1), .int .i64 ((rd_T44 l0_1 x3_2).f2), .int .i64 ((rd_T44 l0_1 x3_2).f3), .int .i64 ((rd_T44 l0_1 x3_2).f4), .int .i64 ((rd_T44 l0_1 x3_2).f5), .slice none 0 0]) ?_ 6 _ rfl; (with_reducible repeat (first | refine blk_drewN ?_ _ | refine blk_drew ?_ | refine blk_alloc ?_ _)); refine blk_put (cs := #[.int .i64 ((rd_T44 l0_1 x3_2).f0), .int .i64 ((rd_T44 l0_1 x3_2).f1), .int .i64 ((rd_T44 l0_1 x3_2).f2), .int .i64 ((rd_T44 l0_1 x3_2).f3), .int .i64 ((rd_T44 l0_1 x3_2).f4), .int .i64 0, .slice none 0 0]) ?_ 5 _ rfl; (with_reducible repeat (first | refine blk_drewN ?_ _ | refine blk_drew ?_ | refine blk_alloc ?_ _)); refine blk_put (cs := #[.int .i64 ((rd_T44 l0_1 x3_2).f0), .int .i64 ((rd_T44 l0_1 x3_2).f1), .int .i64 ((rd_T44 l0_1 x3_2).f2), .int .i64 ((rd_T44 l0_1 x3_2).f3), .int .i64 0, .int .i64 0, .slice none 0 0]) ?_ 4 _ rfl; (with_reducible repeat (first | refine blk_drewN ?_ _ | refine blk_drew ?_ | refine blk_alloc ?_ _)); refine blk_put (cs := #[.int .i64 ((rd_T44 l0_1 x3_2).f0), .int .i64 ((rd_T44 l0_1 x3_2).f1), .int .i64 ((rd_T44 l0_1 x3_2).f2), .int .i64 0, .int .i64 0, .int .i64 0, .slice none 0 0]) ?_ 3 _ rfl; (with_reducible repeat (first | refine blk_drewN ?_ _ | refine blk_drew ?_ | refine blk_alloc ?_ _)); refine blk_put (cs := #[.int .i64 ((rd_T44 l0_1 x3_2).f0), .int .i64 ((rd_T44 l0_1 x3_2).f1), .int .i64 0, .int .i64 0, .int .i64 0, .int .i64 0, .slice none 0 0]) ?_ 2 _ rfl; (with_reducible repeat (first | refine blk_drewN ?_ _ | refine blk_drew ?_ | refine blk_alloc ?_ _)); refine blk_put (cs := #[.int .i64 ((rd_T44 l0_1 x3_2).f0), .int .i64 0, .int .i64 0, .int .i64 0, .int .i64 0, .int .i64 0, .slice none 0 0]) ?_ 1 _ rfl; (with_reducible repeat (first | refine blk_drewN ?_ _ | refine blk_drew ?_ | refine blk_alloc ?_ _)); refine blk_put (cs := #[.int .i64 0, .int .i64 0, .int .i64 0, .int .i64 0, .int .i64 0, .int .i64 0, .slice none 0 0]) ?_ 0 _ rfl; (with_reducible repeat (first | refine blk_drewN ?_ _ | refine blk_drew ?_ | refine blk_alloc ?_ _)); exact BK156.out) hb); have n3_ := Aside0.mk (below_step (by repeat (first | (with_reducible first | exact HB.out | apply below_alloc | apply pw_below_drewN | apply below_drew1 | refine below_set ?_ GE153.out | refine below_set ?_ GE156.out) | exact HB.out)) hb); clear BK153; clear BK156; clear HB; have HO159 := n0_; have BK153 := n1_; have BK156 := n2_; have HB := n3_; clear n0_ n1_ n2_ n3_; (try clear hb); (try clear hb2); (try clear hk); (try clear hi); (try clear ho0); obtain ⟨Ao33, co33, eo33⟩ := Kd.R_slice HO159.out; subst eo33) | ((with_reducible refine gate_callee (f := 41) rfl ?_); refine goesL_ (some 46) rfl rfl Try.func41 (by kernel_rfl) rfl #[.slice Ao33 t157.length co33] rfl (by (try simp only [List.map_toArray, List.map_cons, List.map_nil]); first | done | rfl | (simp only [List.length_drop, List.length_take]; rfl)) ?_; (with_reducible refine (coronerref31_may.calls k2 _ _ t157 false _ ?side1 ?side2 A23.out).mono ?_); (case side1 => repeat (first | exact (Kd.R_reads' HO159.out).2.2 | (with_reducible refine Kd.C_alloc ?_ _) | (with_reducible refine Kd.C_drewN ?_ _) | (with_reducible refine Kd.C_drew ?_))); (case side2 => exact (Kd.R_reads' HO159.out).2.1); rintro e w' ⟨rfl, ⟨nd, rfl⟩⟩; refine ⟨_, rfl, ?_⟩))
          go_meet
          case rel => exact ⟨_, (true), (by first | rfl | (simp; done) | (simp [*]; done)), H', ⟨by have := HJ1.out; have := HK2.out; first | omega | exact Nat.le_refl _⟩, ⟨by (with_reducible repeat (first | refine blk_drewN ?_ _ | refine blk_drew ?_ | refine blk_alloc ?_ _)); exact BK153.out⟩, ⟨by (with_reducible repeat (first | refine blk_drewN ?_ _ | refine blk_drew ?_ | refine blk_alloc ?_ _)); exact BK156.out⟩, ⟨by repeat (first | (with_reducible first | exact HB.out | apply below_alloc | apply pw_below_drewN | apply below_drew1 | refine below_set ?_ GE153.out | refine below_set ?_ GE156.out) | exact HB.out)⟩⟩
        case rest =>
         clear HC17
         try clear c1
         try clear p1
         try clear q1
         try clear hx1
         try clear c2
         try clear p2
         try clear c3
         try clear c4
         try clear c4b0
         try clear c6
         try clear c6b0
         try clear c8
         try clear c8b0
         try clear c8b1
         try clear c10
         try clear c10b0
         try clear c10b1
         try clear c14
         try clear c15
         try clear c15b0
         try clear p15
         try clear q15
         try clear hx15
         try clear c16
         try clear c16b0
         try clear c20
         try clear c21
         try clear c24
         try clear c25
         try clear c30
         try clear hcz11_0
         try clear hcz11_1
         try clear hcz11_2
         try clear hcz13_0
         try clear hcz13_1
         try clear hcz13_2
         try clear hcz18_0
         try clear hcz18_1
         try clear hcz18_2
         try clear hcz21_0
         try clear hcz21_1
         try clear hcz21_2
         try clear hcz21_3
         try clear hcz21_4
         try clear hcz21_5
         try clear hcz21_6
         try clear hcz26_0
         try clear hcz26_1
         try clear hcz26_2
         try clear hcz26_3
         try clear hcz26_4
         try clear hcz26_5
         try clear hcz26_6
         try clear hcz29_0
         try clear hcz29_1
         try clear hcz29_2
         try clear hcz29_3
         try clear hcz29_4
         try clear hcz29_5
         try clear hcz29_6
         try clear hcz31_0
         try clear hcz31_1
         try clear hcz31_2
         try clear hcz31_3
         try clear hcz31_4
         try clear hcz31_5
         try clear hcz31_6
         try clear hcz5_0
         try clear hcz5_1
         try clear hcz5_2
         try clear hcz7_0
         try clear hcz7_1
         try clear hcz7_2
         try clear hcz9_0
         try clear hcz9_1
         try clear hcz9_2
         try clear hfz11_0
         try clear hfz11_1
         try clear hfz11_2
         try clear hfz13_0
         try clear hfz13_1
         try clear hfz13_2
         try clear hfz18_0
         try clear hfz18_1
         try clear hfz18_2
         try clear hfz21_0
         try clear hfz21_1
         try clear hfz21_2
         try clear hfz21_3
         try clear hfz21_4
         try clear hfz21_5
         try clear hfz21_6
         try clear hfz26_0
         try clear hfz26_1
         try clear hfz26_2
         try clear hfz26_3
         try clear hfz26_4
         try clear hfz26_5
         try clear hfz26_6
         try clear hfz29_0
         try clear hfz29_1
         try clear hfz29_2
         try clear hfz29_3
         try clear hfz29_4
         try clear hfz29_5
         try clear hfz29_6
         try clear hfz31_0
         try clear hfz31_1
         try clear hfz31_2
         try clear hfz31_3
         try clear hfz31_4
         try clear hfz31_5
         try clear hfz31_6
         try clear hfz5_0
         try clear hfz5_1
         try clear hfz5_2
         try clear hfz7_0
         try clear hfz7_1
         try clear hfz7_2
         try clear hfz9_0
         try clear hfz9_1
         try clear hfz9_2
         try clear hx155_0
         try clear hx155_1
         try clear hx155_2
         try clear hx155_3
         try clear hx155_4
         try clear hx155_5
         try clear hx155_6
         try clear p155
         try clear p2
         try clear q155
         obtain ⟨kq, x53_16, rfl, HA, HJ16, BK153, BK156, HB⟩ := hcut
         cases kq with
         | zero => exact absurd HA.out (by simp [coronerref31_Check.j2])
         | succ kj16 =>
          have H := HA.out
          clear HA
          simp only [coronerref31_Check.j2] at H
          by_cases c34 : x53_16 = true
          ·subst c34
           have H1 : (some 2) = some r := by rw [if_pos rfl] at H; exact H
           clear H
           have H := H1
           clear H1
           obtain rfl := Option.some.inj H
           go_wp2
           go_ret
           exact ⟨by first | rfl | (simp [errW_none, errW_some] <;> rfl) | (simp [*, errW_none, errW_some] <;> rfl), by repeat (first | (with_reducible first | exact HB.out | apply below_alloc | apply pw_below_drewN | apply below_drew1 | refine below_set ?_ GE153.out | refine below_set ?_ GE156.out) | exact HB.out)⟩
          ·replace c34 := Bool.eq_false_iff.mpr c34
           subst c34
           have H1 : (coronerref31_Check.l1 kj16 x3_2 0 a0_0 l0_1 l0_2 ((rd_T44 l0_1 x3_2).f0) ((rd_T44 l0_1 x3_2).f1) ((rd_T44 l0_1 x3_2).f2) ((rd_T44 l0_1 x3_2).f3) ((rd_T44 l0_1 x3_2).f4) ((rd_T44 l0_1 x3_2).f5) ((rd_T44 l0_1 x3_2).f6)) = some r := by rw [if_neg (show ¬ (false = true) by decide)] at H; exact H
           clear H
           have H := H1
           clear H1
           have H' := Aside0.mk H
           clear H
           go_wp2
           go_loopg [5] kj16 (fun kq v5 w' => ∃ (x5_4 : Int), v5 = .int .i64 x5_4 ∧ Aside0 (coronerref31_Check.l1 kq x3_2 x5_4 a0_0 l0_1 l0_2 ((rd_T44 l0_1 x3_2).f0) ((rd_T44 l0_1 x3_2).f1) ((rd_T44 l0_1 x3_2).f2) ((rd_T44 l0_1 x3_2).f3) ((rd_T44 l0_1 x3_2).f4) ((rd_T44 l0_1 x3_2).f5) ((rd_T44 l0_1 x3_2).f6) = some r) ∧ Aside0 (kq ≤ kj16) ∧ Aside0 (w'.heap[gb153]? = some (.cells #[.int .i64 a0_0, (.slice (some ad155) l0_1.length c0_1), (.slice A0_2 l0_2.length c0_2)] 25 (0, 0))) ∧ Aside0 (w'.heap[gb156]? = some (.cells #[.int .i64 ((rd_T44 l0_1 x3_2).f0), .int .i64 ((rd_T44 l0_1 x3_2).f1), .int .i64 ((rd_T44 l0_1 x3_2).f2), .int .i64 ((rd_T44 l0_1 x3_2).f3), .int .i64 ((rd_T44 l0_1 x3_2).f4), .int .i64 ((rd_T44 l0_1 x3_2).f5), (.slice A155_6 ((rd_T44 l0_1 x3_2).f6).length c155_6)] 44 (0, 0))) ∧ Aside0 (Below w.heap.size w w'))
           case atStart => exact ⟨(0), (by first | rfl | (simp; done) | (simp [*]; done)), H', ⟨Nat.le_refl _⟩, ⟨by (with_reducible repeat (first | refine blk_drewN ?_ _ | refine blk_drew ?_ | refine blk_alloc ?_ _)); exact BK153.out⟩, ⟨by (with_reducible repeat (first | refine blk_drewN ?_ _ | refine blk_drew ?_ | refine blk_alloc ?_ _)); exact BK156.out⟩, ⟨by repeat (first | (with_reducible first | exact HB.out | apply below_alloc | apply pw_below_drewN | apply below_drew1 | refine below_set ?_ GE153.out | refine below_set ?_ GE156.out) | exact HB.out)⟩⟩
           case round =>
            clear H'
            try clear c1
            try clear p1
            try clear q1
            try clear hx1
            try clear c2
            try clear p2
            try clear c3
            try clear c4
            try clear c4b0
            try clear c6
            try clear c6b0
            try clear c8
            try clear c8b0
            try clear c8b1
            try clear c10
            try clear c10b0
            try clear c10b1
            try clear c14
            try clear c15
            try clear c15b0
            try clear p15
            try clear q15
            try clear hx15
            try clear c16
            try clear c16b0
            try clear c20
            try clear c21
            try clear c24
            try clear c25
            try clear c30
            try clear c34
            try clear hcz11_0
            try clear hcz11_1
            try clear hcz11_2
            try clear hcz13_0
            try clear hcz13_1
            try clear hcz13_2
            try clear hcz18_0
            try clear hcz18_1
            try clear hcz18_2
            try clear hcz21_0
            try clear hcz21_1
            try clear hcz21_2
            try clear hcz21_3
            try clear hcz21_4
            try clear hcz21_5
            try clear hcz21_6
            try clear hcz26_0
            try clear hcz26_1
            try clear hcz26_2
            try clear hcz26_3
            try clear hcz26_4
            try clear hcz26_5
            try clear hcz26_6
            try clear hcz29_0
            try clear hcz29_1
            try clear hcz29_2
            try clear hcz29_3
            try clear hcz29_4
            try clear hcz29_5
            try clear hcz29_6
            try clear hcz31_0
            try clear hcz31_1
            try clear hcz31_2
            try clear hcz31_3
            try clear hcz31_4
            try clear hcz31_5
            try clear hcz31_6
            try clear hcz5_0
            try clear hcz5_1
            try clear hcz5_2
            try clear hcz7_0
            try clear hcz7_1
            try clear hcz7_2
            try clear hcz9_0
            try clear hcz9_1
            try clear hcz9_2
            try clear hfz11_0
            try clear hfz11_1
            try clear hfz11_2
            try clear hfz13_0
            try clear hfz13_1
            try clear hfz13_2
            try clear hfz18_0
            try clear hfz18_1
            try clear hfz18_2
            try clear hfz21_0
            try clear hfz21_1
            try clear hfz21_2
            try clear hfz21_3
            try clear hfz21_4
            try clear hfz21_5
            try clear hfz21_6
            try clear hfz26_0
            try clear hfz26_1
            try clear hfz26_2
            try clear hfz26_3
            try clear hfz26_4
            try clear hfz26_5
            try clear hfz26_6
            try clear hfz29_0
            try clear hfz29_1
            try clear hfz29_2
            try clear hfz29_3
            try clear hfz29_4
            try clear hfz29_5
            try clear hfz29_6
            try clear hfz31_0
            try clear hfz31_1
            try clear hfz31_2
            try clear hfz31_3
            try clear hfz31_4
            try clear hfz31_5
            try clear hfz31_6
            try clear hfz5_0
            try clear hfz5_1
            try clear hfz5_2
            try clear hfz7_0
            try clear hfz7_1
            try clear hfz7_2
            try clear hfz9_0
            try clear hfz9_1
            try clear hfz9_2
            try clear hx155_0
            try clear hx155_1
            try clear hx155_2
            try clear hx155_3
            try clear hx155_4
            try clear hx155_5
            try clear hx155_6
            try clear p1
            try clear p15
            try clear p155
            try clear p2
            try clear q1
            try clear q15
            try clear q155
            obtain ⟨x5_4, rfl, HA, HK4, BK153, BK156, HB⟩ := hrel
            cases gk with
            | zero => exact absurd HA.out (by simp [coronerref31_Check.l1])
            | succ k4 =>
             have H := HA.out
             clear HA
             simp only [coronerref31_Check.l1] at H
             by_cases c35 : x5_4 < (((rd_T44 l0_1 x3_2).f6).length : Int)
             ·rw [if_pos c35] at H
              have c35b0 : decide (x5_4 < (((rd_T44 l0_1 x3_2).f6).length : Int)) = true := decide_eq_true c35
              clear c35
              by_cases c36 : 0 ≤ x5_4
              ·rw [if_pos c36] at H
               have c36b0 : decide (0 ≤ x5_4) = true := decide_eq_true c36
               clear c36
               replace H := Option.bind_eq_some_iff.mp H
               obtain ⟨t162, A370, H⟩ := H
               replace H : ((coronerref31_may.f k4 t162).bind fun t165 => (if t165 = true then (coronerref31_Check.l1 k4 x3_2 (wrap64 (x5_4 + 1)) a0_0 l0_1 l0_2 ((rd_T44 l0_1 x3_2).f0) ((rd_T44 l0_1 x3_2).f1) ((rd_T44 l0_1 x3_2).f2) ((rd_T44 l0_1 x3_2).f3) ((rd_T44 l0_1 x3_2).f4) ((rd_T44 l0_1 x3_2).f5) ((rd_T44 l0_1 x3_2).f6)) else (some 2))) = some r := H
               have A37 := Aside0.mk A370
               clear A370
               replace H := Option.bind_eq_some_iff.mp H
               obtain ⟨t165, A380, H⟩ := H
               replace H : (if t165 = true then (coronerref31_Check.l1 k4 x3_2 (wrap64 (x5_4 + 1)) a0_0 l0_1 l0_2 ((rd_T44 l0_1 x3_2).f0) ((rd_T44 l0_1 x3_2).f1) ((rd_T44 l0_1 x3_2).f2) ((rd_T44 l0_1 x3_2).f3) ((rd_T44 l0_1 x3_2).f4) ((rd_T44 l0_1 x3_2).f5) ((rd_T44 l0_1 x3_2).f6)) else (some 2)) = some r := H
               have A38 := Aside0.mk A380
               clear A380
               by_cases c39 : t165 = true
               ·subst c39
                have H1 : (coronerref31_Check.l1 k4 x3_2 (wrap64 (x5_4 + 1)) a0_0 l0_1 l0_2 ((rd_T44 l0_1 x3_2).f0) ((rd_T44 l0_1 x3_2).f1) ((rd_T44 l0_1 x3_2).f2) ((rd_T44 l0_1 x3_2).f3) ((rd_T44 l0_1 x3_2).f4) ((rd_T44 l0_1 x3_2).f5) ((rd_T44 l0_1 x3_2).f6)) = some r := by rw [if_pos rfl] at H; exact H
                clear H
                have H := H1
                clear H1
                have H' := Aside0.mk H
                clear H
                have hnb40 := NB156_153.out
                have hnc40 := NB153_156.out
                have hcz41_0 : wr.cell? ⟨gb156, 0, none⟩ = some (.int .i64 ((rd_T44 l0_1 x3_2).f0)) := (blk_cell BK156.out 0).trans rfl
                have hcz41_1 : wr.cell? ⟨gb156, 1, none⟩ = some (.int .i64 ((rd_T44 l0_1 x3_2).f1)) := (blk_cell BK156.out 1).trans rfl
                have hcz41_2 : wr.cell? ⟨gb156, 2, none⟩ = some (.int .i64 ((rd_T44 l0_1 x3_2).f2)) := (blk_cell BK156.out 2).trans rfl
                have hcz41_3 : wr.cell? ⟨gb156, 3, none⟩ = some (.int .i64 ((rd_T44 l0_1 x3_2).f3)) := (blk_cell BK156.out 3).trans rfl
                have hcz41_4 : wr.cell? ⟨gb156, 4, none⟩ = some (.int .i64 ((rd_T44 l0_1 x3_2).f4)) := (blk_cell BK156.out 4).trans rfl
                have hcz41_5 : wr.cell? ⟨gb156, 5, none⟩ = some (.int .i64 ((rd_T44 l0_1 x3_2).f5)) := (blk_cell BK156.out 5).trans rfl
                have hcz41_6 : wr.cell? ⟨gb156, 6, none⟩ = some (.slice A155_6 ((rd_T44 l0_1 x3_2).f6).length c155_6) := (blk_cell BK156.out 6).trans rfl
                have hfz41_0 := blk_frozen BK156.out 0
                have hfz41_1 := blk_frozen BK156.out 1
                have hfz41_2 := blk_frozen BK156.out 2
                have hfz41_3 := blk_frozen BK156.out 3
                have hfz41_4 := blk_frozen BK156.out 4
                have hfz41_5 := blk_frozen BK156.out 5
                have hfz41_6 := blk_frozen BK156.out 6
                have p161 : 0 ≤ (x5_4 : Int) := of_decide_eq_true (by first | (with_reducible assumption) | assumption)
                have q161 : x5_4 < (((rd_T44 l0_1 x3_2).f6).length : Int) := of_decide_eq_true (by first | (with_reducible assumption) | assumption)
                obtain ⟨ad161, e161, hx161_0, hx161_1, hx161_2, hx161_3, hx161_4, hx161_5⟩ := at_T49 HR155_6.out x5_4 p161 q161
                cases e161
                replace hx161_0 := (HB.out.cell (World.block_lt_of_cell? w _ hx161_0)).trans hx161_0
                replace hx161_1 := (HB.out.cell (World.block_lt_of_cell? w _ hx161_1)).trans hx161_1
                replace hx161_2 := (HB.out.cell (World.block_lt_of_cell? w _ hx161_2)).trans hx161_2
                replace hx161_3 := (HB.out.cell (World.block_lt_of_cell? w _ hx161_3)).trans hx161_3
                replace hx161_4 := (HB.out.cell (World.block_lt_of_cell? w _ hx161_4)).trans hx161_4
                replace hx161_5 := (HB.out.cell (World.block_lt_of_cell? w _ hx161_5)).trans hx161_5
                replace p161 := eq_true p161
                replace q161 := eq_true q161
                go_wp2_with (first | ((with_reducible refine gate_callee (f := 22) rfl ?_); refine goesL_ (some 66) rfl rfl Try.func22 (by kernel_rfl) rfl #[.agg #[.int .i64 ((rd_T49 ((rd_T44 l0_1 x3_2).f6) x5_4).f0), .int .i64 ((rd_T49 ((rd_T44 l0_1 x3_2).f6) x5_4).f1), .int .i64 ((rd_T49 ((rd_T44 l0_1 x3_2).f6) x5_4).f2), .int .i64 ((rd_T49 ((rd_T44 l0_1 x3_2).f6) x5_4).f3), .int .i64 ((rd_T49 ((rd_T44 l0_1 x3_2).f6) x5_4).f4), .int .i64 ((rd_T49 ((rd_T44 l0_1 x3_2).f6) x5_4).f5)]] rfl (by (try simp only [List.map_toArray, List.map_cons, List.map_nil]); first | done | rfl | (simp only [List.length_drop, List.length_take]; rfl)) ?_; (with_reducible refine (coronerref31_edge.calls ((rd_T49 ((rd_T44 l0_1 x3_2).f6) x5_4).f0) ((rd_T49 ((rd_T44 l0_1 x3_2).f6) x5_4).f1) ((rd_T49 ((rd_T44 l0_1 x3_2).f6) x5_4).f2) ((rd_T49 ((rd_T44 l0_1 x3_2).f6) x5_4).f3) ((rd_T49 ((rd_T44 l0_1 x3_2).f6) x5_4).f4) ((rd_T49 ((rd_T44 l0_1 x3_2).f6) x5_4).f5) t162 _ A37.out).mono ?_); rintro e w42 ⟨v163, rfl, ho0, hb⟩; refine ⟨_, rfl, ?_⟩; have n0_ := Aside0.mk (Kd.R_lower ho0 (below_size (by repeat (first | (with_reducible first | exact HB.out | apply below_alloc | apply pw_below_drewN | apply below_drew1 | refine below_set ?_ GE153.out | refine below_set ?_ GE156.out) | exact HB.out)))); have n1_ := Aside0.mk (blk_below (g := gb153) (o := .cells #[.int .i64 a0_0, .slice (some ad155) l0_1.length c0_1, .slice A0_2 l0_2.length c0_2] 25 (0, 0)) (by (with_reducible repeat (first | refine blk_drewN ?_ _ | refine blk_drew ?_ | refine blk_alloc ?_ _)); exact BK153.out) hb); have n2_ := Aside0.mk (blk_below (g := gb156) (o := .cells #[.int .i64 ((rd_T44 l0_1 x3_2).f0), .int .i64 ((rd_T44 l0_1 x3_2).f1), .int .i64 ((rd_T44 l0_1 x3_2).f2), .int .i64 ((rd_T44 l0_1 x3_2).f3), .int .i64 ((rd_T44 l0_1 x3_2).f4), .int .i64 ((rd_T44 l0_1 x3_2).f5), .slice (some ad161) ((rd_T44 l0_1 x3_2).f6).length c155_6] 44 (0, 0)) (by (with_reducible repeat (first | refine blk_drewN ?_ _ | refine blk_drew ?_ | refine blk_alloc ?_ _)); exact BK156.out) hb); have n3_ := Aside0.mk (below_step (by repeat (first | (with_reducible first | exact HB.out | apply below_alloc | apply pw_below_drewN | apply below_drew1 | refine below_set ?_ GE153.out | refine below_set ?_ GE156.out) | exact HB.out)) hb); clear BK153; clear BK156; clear HB; have HO164 := n0_; have BK153 := n1_; have BK156 := n2_; have HB := n3_; clear n0_ n1_ n2_ n3_; (try clear hb); (try clear hb2); (try clear hk); (try clear hi); (try clear ho0); obtain ⟨Ao43, co43, eo43⟩ := Kd.R_slice HO164.out; subst eo43) | ((with_reducible refine gate_callee (f := 41) rfl ?_); refine goesL_ (some 67) rfl rfl Try.func41 (by kernel_rfl) rfl #[.slice Ao43 t162.length co43] rfl (by (try simp only [List.map_toArray, List.map_cons, List.map_nil]); first | done | rfl | (simp only [List.length_drop, List.length_take]; rfl)) ?_; (with_reducible refine (coronerref31_may.calls k4 _ _ t162 true _ ?side1 ?side2 A38.out).mono ?_); (case side1 => repeat (first | exact (Kd.R_reads' HO164.out).2.2 | (with_reducible refine Kd.C_alloc ?_ _) | (with_reducible refine Kd.C_drewN ?_ _) | (with_reducible refine Kd.C_drew ?_))); (case side2 => exact (Kd.R_reads' HO164.out).2.1); rintro e w' ⟨rfl, ⟨nd, rfl⟩⟩; refine ⟨_, rfl, ?_⟩))
                go_roundg k4
                case measure => have := HJ1.out; have := HK2.out; have := HJ16.out; have := HK4.out; omega
                case rel => exact ⟨(wrap64 (x5_4 + 1)), (by first | rfl | (simp; done) | (simp [*]; done)), H', ⟨by have := HJ1.out; have := HK2.out; have := HJ16.out; have := HK4.out; omega⟩, ⟨by (with_reducible repeat (first | refine blk_drewN ?_ _ | refine blk_drew ?_ | refine blk_alloc ?_ _)); exact BK153.out⟩, ⟨by (with_reducible repeat (first | refine blk_drewN ?_ _ | refine blk_drew ?_ | refine blk_alloc ?_ _)); exact BK156.out⟩, ⟨by repeat (first | (with_reducible first | exact HB.out | apply below_alloc | apply pw_below_drewN | apply below_drew1 | refine below_set ?_ GE153.out | refine below_set ?_ GE156.out) | exact HB.out)⟩⟩
               ·replace c39 := Bool.eq_false_iff.mpr c39
                subst c39
                have H1 : (some 2) = some r := by rw [if_neg (show ¬ (false = true) by decide)] at H; exact H
                clear H
                have H := H1
                clear H1
                obtain rfl := Option.some.inj H
                have hnb44 := NB156_153.out
                have hnc44 := NB153_156.out
                have hcz45_0 : wr.cell? ⟨gb156, 0, none⟩ = some (.int .i64 ((rd_T44 l0_1 x3_2).f0)) := (blk_cell BK156.out 0).trans rfl
                have hcz45_1 : wr.cell? ⟨gb156, 1, none⟩ = some (.int .i64 ((rd_T44 l0_1 x3_2).f1)) := (blk_cell BK156.out 1).trans rfl
                have hcz45_2 : wr.cell? ⟨gb156, 2, none⟩ = some (.int .i64 ((rd_T44 l0_1 x3_2).f2)) := (blk_cell BK156.out 2).trans rfl
                have hcz45_3 : wr.cell? ⟨gb156, 3, none⟩ = some (.int .i64 ((rd_T44 l0_1 x3_2).f3)) := (blk_cell BK156.out 3).trans rfl
                have hcz45_4 : wr.cell? ⟨gb156, 4, none⟩ = some (.int .i64 ((rd_T44 l0_1 x3_2).f4)) := (blk_cell BK156.out 4).trans rfl
                have hcz45_5 : wr.cell? ⟨gb156, 5, none⟩ = some (.int .i64 ((rd_T44 l0_1 x3_2).f5)) := (blk_cell BK156.out 5).trans rfl
                have hcz45_6 : wr.cell? ⟨gb156, 6, none⟩ = some (.slice A155_6 ((rd_T44 l0_1 x3_2).f6).length c155_6) := (blk_cell BK156.out 6).trans rfl
                have hfz45_0 := blk_frozen BK156.out 0
                have hfz45_1 := blk_frozen BK156.out 1
                have hfz45_2 := blk_frozen BK156.out 2
                have hfz45_3 := blk_frozen BK156.out 3
                have hfz45_4 := blk_frozen BK156.out 4
                have hfz45_5 := blk_frozen BK156.out 5
                have hfz45_6 := blk_frozen BK156.out 6
                have p161 : 0 ≤ (x5_4 : Int) := of_decide_eq_true (by first | (with_reducible assumption) | assumption)
                have q161 : x5_4 < (((rd_T44 l0_1 x3_2).f6).length : Int) := of_decide_eq_true (by first | (with_reducible assumption) | assumption)
                obtain ⟨ad161, e161, hx161_0, hx161_1, hx161_2, hx161_3, hx161_4, hx161_5⟩ := at_T49 HR155_6.out x5_4 p161 q161
                cases e161
                replace hx161_0 := (HB.out.cell (World.block_lt_of_cell? w _ hx161_0)).trans hx161_0
                replace hx161_1 := (HB.out.cell (World.block_lt_of_cell? w _ hx161_1)).trans hx161_1
                replace hx161_2 := (HB.out.cell (World.block_lt_of_cell? w _ hx161_2)).trans hx161_2
                replace hx161_3 := (HB.out.cell (World.block_lt_of_cell? w _ hx161_3)).trans hx161_3
                replace hx161_4 := (HB.out.cell (World.block_lt_of_cell? w _ hx161_4)).trans hx161_4
                replace hx161_5 := (HB.out.cell (World.block_lt_of_cell? w _ hx161_5)).trans hx161_5
                replace p161 := eq_true p161
                replace q161 := eq_true q161
                go_wp2_with (first | ((with_reducible refine gate_callee (f := 22) rfl ?_); refine goesL_ (some 66) rfl rfl Try.func22 (by kernel_rfl) rfl #[.agg #[.int .i64 ((rd_T49 ((rd_T44 l0_1 x3_2).f6) x5_4).f0), .int .i64 ((rd_T49 ((rd_T44 l0_1 x3_2).f6) x5_4).f1), .int .i64 ((rd_T49 ((rd_T44 l0_1 x3_2).f6) x5_4).f2), .int .i64 ((rd_T49 ((rd_T44 l0_1 x3_2).f6) x5_4).f3), .int .i64 ((rd_T49 ((rd_T44 l0_1 x3_2).f6) x5_4).f4), .int .i64 ((rd_T49 ((rd_T44 l0_1 x3_2).f6) x5_4).f5)]] rfl (by (try simp only [List.map_toArray, List.map_cons, List.map_nil]); first | done | rfl | (simp only [List.length_drop, List.length_take]; rfl)) ?_; (with_reducible refine (coronerref31_edge.calls ((rd_T49 ((rd_T44 l0_1 x3_2).f6) x5_4).f0) ((rd_T49 ((rd_T44 l0_1 x3_2).f6) x5_4).f1) ((rd_T49 ((rd_T44 l0_1 x3_2).f6) x5_4).f2) ((rd_T49 ((rd_T44 l0_1 x3_2).f6) x5_4).f3) ((rd_T49 ((rd_T44 l0_1 x3_2).f6) x5_4).f4) ((rd_T49 ((rd_T44 l0_1 x3_2).f6) x5_4).f5) t162 _ A37.out).mono ?_); rintro e w46 ⟨v163, rfl, ho0, hb⟩; refine ⟨_, rfl, ?_⟩; have n0_ := Aside0.mk (Kd.R_lower ho0 (below_size (by repeat (first | (with_reducible first | exact HB.out | apply below_alloc | apply pw_below_drewN | apply below_drew1 | refine below_set ?_ GE153.out | refine below_set ?_ GE156.out) | exact HB.out)))); have n1_ := Aside0.mk (blk_below (g := gb153) (o := .cells #[.int .i64 a0_0, .slice (some ad155) l0_1.length c0_1, .slice A0_2 l0_2.length c0_2] 25 (0, 0)) (by (with_reducible repeat (first | refine blk_drewN ?_ _ | refine blk_drew ?_ | refine blk_alloc ?_ _)); exact BK153.out) hb); have n2_ := Aside0.mk (blk_below (g := gb156) (o := .cells #[.int .i64 ((rd_T44 l0_1 x3_2).f0), .int .i64 ((rd_T44 l0_1 x3_2).f1), .int .i64 ((rd_T44 l0_1 x3_2).f2), .int .i64 ((rd_T44 l0_1 x3_2).f3), .int .i64 ((rd_T44 l0_1 x3_2).f4), .int .i64 ((rd_T44 l0_1 x3_2).f5), .slice (some ad161) ((rd_T44 l0_1 x3_2).f6).length c155_6] 44 (0, 0)) (by (with_reducible repeat (first | refine blk_drewN ?_ _ | refine blk_drew ?_ | refine blk_alloc ?_ _)); exact BK156.out) hb); have n3_ := Aside0.mk (below_step (by repeat (first | (with_reducible first | exact HB.out | apply below_alloc | apply pw_below_drewN | apply below_drew1 | refine below_set ?_ GE153.out | refine below_set ?_ GE156.out) | exact HB.out)) hb); clear BK153; clear BK156; clear HB; have HO164 := n0_; have BK153 := n1_; have BK156 := n2_; have HB := n3_; clear n0_ n1_ n2_ n3_; (try clear hb); (try clear hb2); (try clear hk); (try clear hi); (try clear ho0); obtain ⟨Ao47, co47, eo47⟩ := Kd.R_slice HO164.out; subst eo47) | ((with_reducible refine gate_callee (f := 41) rfl ?_); refine goesL_ (some 67) rfl rfl Try.func41 (by kernel_rfl) rfl #[.slice Ao47 t162.length co47] rfl (by (try simp only [List.map_toArray, List.map_cons, List.map_nil]); first | done | rfl | (simp only [List.length_drop, List.length_take]; rfl)) ?_; (with_reducible refine (coronerref31_may.calls k4 _ _ t162 false _ ?side1 ?side2 A38.out).mono ?_); (case side1 => repeat (first | exact (Kd.R_reads' HO164.out).2.2 | (with_reducible refine Kd.C_alloc ?_ _) | (with_reducible refine Kd.C_drewN ?_ _) | (with_reducible refine Kd.C_drew ?_))); (case side2 => exact (Kd.R_reads' HO164.out).2.1); rintro e w' ⟨rfl, ⟨nd, rfl⟩⟩; refine ⟨_, rfl, ?_⟩))
                go_ret
                exact ⟨by first | rfl | (simp [errW_none, errW_some] <;> rfl) | (simp [*, errW_none, errW_some] <;> rfl), by repeat (first | (with_reducible first | exact HB.out | apply below_alloc | apply pw_below_drewN | apply below_drew1 | refine below_set ?_ GE153.out | refine below_set ?_ GE156.out) | exact HB.out)⟩
              ·rw [if_neg c36] at H
               exact absurd H (by simp)
             ·rw [if_neg c35] at H
              have c35b0 : decide (x5_4 < (((rd_T44 l0_1 x3_2).f6).length : Int)) = false := decide_eq_false c35
              clear c35
              have H' := Aside0.mk H
              clear H
              have hnb48 := NB156_153.out
              have hnc48 := NB153_156.out
              have hcz49_0 : wr.cell? ⟨gb156, 0, none⟩ = some (.int .i64 ((rd_T44 l0_1 x3_2).f0)) := (blk_cell BK156.out 0).trans rfl
              have hcz49_1 : wr.cell? ⟨gb156, 1, none⟩ = some (.int .i64 ((rd_T44 l0_1 x3_2).f1)) := (blk_cell BK156.out 1).trans rfl
              have hcz49_2 : wr.cell? ⟨gb156, 2, none⟩ = some (.int .i64 ((rd_T44 l0_1 x3_2).f2)) := (blk_cell BK156.out 2).trans rfl
              have hcz49_3 : wr.cell? ⟨gb156, 3, none⟩ = some (.int .i64 ((rd_T44 l0_1 x3_2).f3)) := (blk_cell BK156.out 3).trans rfl
              have hcz49_4 : wr.cell? ⟨gb156, 4, none⟩ = some (.int .i64 ((rd_T44 l0_1 x3_2).f4)) := (blk_cell BK156.out 4).trans rfl
              have hcz49_5 : wr.cell? ⟨gb156, 5, none⟩ = some (.int .i64 ((rd_T44 l0_1 x3_2).f5)) := (blk_cell BK156.out 5).trans rfl
              have hcz49_6 : wr.cell? ⟨gb156, 6, none⟩ = some (.slice A155_6 ((rd_T44 l0_1 x3_2).f6).length c155_6) := (blk_cell BK156.out 6).trans rfl
              have hfz49_0 := blk_frozen BK156.out 0
              have hfz49_1 := blk_frozen BK156.out 1
              have hfz49_2 := blk_frozen BK156.out 2
              have hfz49_3 := blk_frozen BK156.out 3
              have hfz49_4 := blk_frozen BK156.out 4
              have hfz49_5 := blk_frozen BK156.out 5
              have hfz49_6 := blk_frozen BK156.out 6
              go_wp2
              go_roundg k4
              case measure => have := HJ1.out; have := HK2.out; have := HJ16.out; have := HK4.out; omega
              case rel => exact ⟨(wrap64 (x3_2 + 1)), (by first | rfl | (simp; done) | (simp [*]; done)), H', ⟨by have := HJ1.out; have := HK2.out; have := HJ16.out; have := HK4.out; omega⟩, ⟨by (with_reducible repeat (first | refine blk_drewN ?_ _ | refine blk_drew ?_ | refine blk_alloc ?_ _)); exact BK153.out⟩, ⟨by repeat (first | (with_reducible first | exact HB.out | apply below_alloc | apply pw_below_drewN | apply below_drew1 | refine below_set ?_ GE153.out | refine below_set ?_ GE156.out) | exact HB.out)⟩⟩
       ·rw [if_neg c16] at H
        exact absurd H (by simp)
      ·rw [if_neg c15] at H
       have c15b0 : decide (x3_2 < (l0_1.length : Int)) = false := decide_eq_false c15
       clear c15
       obtain rfl := Option.some.inj H
       have hcz50_0 : wr.cell? ⟨gb153, 0, none⟩ = some (.int .i64 a0_0) := (blk_cell BK153.out 0).trans rfl
       have hcz50_1 : wr.cell? ⟨gb153, 1, none⟩ = some (.slice A0_1 l0_1.length c0_1) := (blk_cell BK153.out 1).trans rfl
       have hcz50_2 : wr.cell? ⟨gb153, 2, none⟩ = some (.slice A0_2 l0_2.length c0_2) := (blk_cell BK153.out 2).trans rfl
       have hfz50_0 := blk_frozen BK153.out 0
       have hfz50_1 := blk_frozen BK153.out 1
       have hfz50_2 := blk_frozen BK153.out 2
       go_wp2
       go_ret
       exact ⟨by first | rfl | (simp [errW_none, errW_some] <;> rfl) | (simp [*, errW_none, errW_some] <;> rfl), by repeat (first | (with_reducible first | exact HB.out | apply below_alloc | apply pw_below_drewN | apply below_drew1 | refine below_set ?_ GE153.out) | exact HB.out)⟩
end Go.Proofs.Ytkoddmedhnhgiaa.PReportBack
