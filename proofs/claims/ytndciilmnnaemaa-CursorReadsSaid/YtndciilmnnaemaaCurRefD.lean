/- The contracts of cursor's reference: List. -/
import Derived.Test.YtndciilmnnaemaaCurRefC
set_option linter.unusedVariables false
set_option linter.unusedSimpArgs false
namespace Go.Proofs.Ytndciilmnnaemaa
open Go.RowKit Go.Proofs.YtndciilmnnaemaaW.PrintWords
namespace Cur

theorem own_set4 {w1 : World} {e base b : Nat} {v : Value} {L : List Int} (h : Kd.R (Kd.int .i64) e w1 base (fun _ => True) v L) (hb : b < base) (x0 x1 x2 x3 : Value) :
    Kd.R (Kd.int .i64) e ((((w1.setCell ⟨b, 0, none⟩ x0).setCell ⟨b, 1, none⟩ x1).setCell ⟨b, 2, none⟩ x2).setCell ⟨b, 3, none⟩ x3) base (fun _ => True) v L :=
  own_set (own_set (own_set (own_set h hb 0 _) hb 1 _) hb 2 _) hb 3 _
/-- A struct and a list of numbers come out. -/
def ListsT (w : World) (base : Nat) (r : Ending) (g : Value) (L : List Int) : Prop := ∃ v, r = .returned (.tuple #[g, v]) ∧ Kd.R (Kd.int .i64) 3 w base (fun _ => True) v L
theorem listsT_nil (w : World) (base : Nat) (g : Value) : ListsT w base (.returned (.tuple #[g, .slice none 0 0])) g [] := ⟨_, rfl, Kd.R_nil _ _ _ _ _⟩
theorem listsT_own {w1 : World} {base base' : Nat} {v g : Value} {L : List Int} (h : Kd.R (Kd.int .i64) 3 w1 base (fun _ => True) v L) (hb : base' ≤ base) : ListsT w1 base' (.returned (.tuple #[g, v])) g L := ⟨v, rfl, Kd.R_lower h hb⟩
theorem reflist_own (l : List Int) (a : Int) (A : Option Addr) (c : Nat) (w : World) (hr : Kd.C (Kd.int .u8) w A l.length l) (hc : l.length ≤ c) (hl : (l.length : Int) ≤ 17592186044416) :
    Calls Try.prog 23 #[.slice A l.length c, .int .i64 a] w fun e w' => ∃ v, e = .returned (.tuple #[v, .int .i64 (list l a).2.1, .bool (list l a).2.2]) ∧ Kd.R (Kd.int .i64) 3 w' w.heap.size (fun _ => True) v (list l a).1 ∧ Below w.heap.size w w' :=
  PDigitsLists.coronerref01_List.calls _ A c l a _ _ _ w hr hc (list_ref l hl a _ (Nat.le_refl _))

set_option maxRecDepth 100000 in
set_option maxHeartbeats 2000000 in
theorem rnums_calls (w : World) (A : Option Addr) (l : List Int) (c : Nat) (s : Cr) (hr : Kd.C (Kd.int .u8) w A l.length l) (hc : l.length ≤ c) (hl : (l.length : Int) ≤ 17592186044416) :
    Calls Try.prog 89 #[rc A l.length c s] w fun r w' => ListsT w' w.heap.size r (rc A l.length c (nums_ l s).1) (nums_ l s).2 ∧ Below w.heap.size w w' := by
  have hb1 := below2 w (.cells #[.slice A l.length c, .int .i64 s.p, .int .i64 s.e, .int .i64 s.x] 69) (.cells #[.slice none 0 0, .int .i64 0, .int .i64 0, .int .i64 0] 69)
  have hX : Blk ((w.alloc (.cells #[.slice A l.length c, .int .i64 s.p, .int .i64 s.e, .int .i64 s.x] 69)).alloc (.cells #[.slice none 0 0, .int .i64 0, .int .i64 0, .int .i64 0] 69)) w.heap.size (rcs A l.length c s) 69 := (Blk.new w (rcs A l.length c s) _).alloc _
  have hY : Blk ((w.alloc (.cells #[.slice A l.length c, .int .i64 s.p, .int .i64 s.e, .int .i64 s.x] 69)).alloc (.cells #[.slice none 0 0, .int .i64 0, .int .i64 0, .int .i64 0] 69)) (w.heap.size + 1) zc 69 := heap_alloc2_new w _ _
  have HP := Lib.hid (reflist_own l s.p A c ((w.alloc (.cells #[.slice A l.length c, .int .i64 s.p, .int .i64 s.e, .int .i64 s.x] 69)).alloc (.cells #[.slice none 0 0, .int .i64 0, .int .i64 0, .int .i64 0] 69)) (Kd.C_below hr hb1) hc hl)
  have HF := Lib.hid (fun w2 a => rfail_calls w2 A l.length c s 4 a)
  unfold nums_
  unfold rc at *
  clear hr
  generalize (list l s.p).1 = v at *
  generalize (list l s.p).2.1 = to_ at *
  generalize (list l s.p).2.2 = ok at *
  generalize l.length = n at *
  by_cases he : s.e = 0
  · rw [if_pos he]
    rcases s with ⟨p, e, x⟩
    simp only at *
    subst he
    go_enter Try.func89, Try.ntmps89
    go_wp2_with fail
    refine HP.out.mono ?_
    rintro r w2 ⟨v2, rfl, hR, hb2⟩
    simp only [World.size_alloc] at hR
    have hbw := hb1.trans (hb2.mono (by simp; omega))
    have hX2 := hX.below hb2 hX.lt
    have hY2 := hY.below hb2 hY.lt
    have HY2 := Lib.hid hY2
    obtain ⟨⟨x0, x1, x2, x3⟩, g0, g1, g2, g3⟩ := facts4 hX2
    obtain ⟨⟨y0, y1, y2, y3⟩, f0, f1, f2, f3⟩ := facts4 hY2
    simp only at x1 x2 x3
    clear hX hY hX2 hY2 hb1 hb2 HP
    cases ok
    · go_wp2_with fail
      refine (HF.out w2 _).mono ?_
      rintro r w3 ⟨rfl, hb3⟩
      have hY3 := HY2.out.below hb3 HY2.out.lt
      have HY3 := Lib.hid hY3
      clear y0 y1 y2 y3 f0 f1 f2 f3
      obtain ⟨⟨y0, y1, y2, y3⟩, f0, f1, f2, f3⟩ := facts4 hY3
      clear hY3
      go_wp2
      exact bodyPost_ret (results_row_tmp rfl _ _ (w.heap.size + 1) _ _ (0, 0) _ rfl (set4 HY3.out _ _ _ _) rfl Try.underlying69 (rc_info 0 _ rfl)) rfl ⟨listsT_nil _ _ _, below4 (hbw.trans (hb3.mono hbw.size)) (by omega) _ _ _ _⟩
    · go_wp2
      exact bodyPost_ret (results_row_tmp rfl _ _ (w.heap.size + 1) _ _ (0, 0) _ rfl (set4 (HY2.out.other (a := ⟨w.heap.size, 1, none⟩) (by simp) _) _ _ _ _) rfl Try.underlying69 (rc_info 0 _ rfl)) rfl ⟨listsT_own (own_set4 (own_set hR (by omega) 1 _) (by omega) _ _ _ _) (by omega), below4 (bset (by omega) hbw) (by omega) _ _ _ _⟩
  · rw [if_neg he]
    have heb : (s.e != 0) = true := by simp [he]
    clear he HF HP hX hY hb1
    rcases s with ⟨p, e, x⟩
    simp only at *
    go_enter Try.func89, Try.ntmps89
    go_wp2
    exact bodyPost_ret (results_row_tmp rfl _ _ (w.heap.size + 1) _ _ (0, 0) _ rfl (heap_alloc2_new w _ _) rfl Try.underlying69 (rc_info 0 _ rfl)) rfl ⟨listsT_nil _ _ _, below2 _ _ _⟩
end Cur
end Go.Proofs.Ytndciilmnnaemaa
