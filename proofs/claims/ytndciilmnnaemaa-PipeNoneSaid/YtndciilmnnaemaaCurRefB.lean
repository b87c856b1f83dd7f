/- The contracts of cursor's reference: Byte, Number, List. -/
import Derived.Test.YtndciilmnnaemaaCurRef
set_option linter.unusedVariables false
set_option linter.unusedSimpArgs false
namespace Go.Proofs.Ytndciilmnnaemaa
open Go.RowKit Go.Proofs.YtndciilmnnaemaaW.PrintWords
namespace Cur

/-- The cells of a reference's cursor. -/
def rcs (A : Option Addr) (n c : Nat) (s : Cr) : List Value := [.slice A n c, .int .i64 s.p, .int .i64 s.e, .int .i64 s.x]
theorem set4 {w : World} {g : Nat} {x0 x1 x2 x3 : Value} {t : TypeId} (h : Blk w g [x0, x1, x2, x3] t) (a b c d : Value) :
    Blk ((((w.setCell ⟨g, 0, none⟩ a).setCell ⟨g, 1, none⟩ b).setCell ⟨g, 2, none⟩ c).setCell ⟨g, 3, none⟩ d) g [a, b, c, d] t := (((h.set 0 a).set 1 b).set 2 c).set 3 d
theorem below4 {w0 w : World} {B g : Nat} (h : Below B w0 w) (hg : B ≤ g) (a b c d : Value) : Below B w0 ((((w.setCell ⟨g, 0, none⟩ a).setCell ⟨g, 1, none⟩ b).setCell ⟨g, 2, none⟩ c).setCell ⟨g, 3, none⟩ d) :=
  bset hg (bset hg (bset hg (bset hg h)))
/-- A struct of four cells lies and may be written. -/
theorem facts4 {w : World} {g : Nat} {a b c d : Value} {t : TypeId} (h : Blk w g [a, b, c, d] t) : (w.cell? ⟨g, 0, none⟩ = some a ∧ w.cell? ⟨g, 1, none⟩ = some b ∧ w.cell? ⟨g, 2, none⟩ = some c ∧ w.cell? ⟨g, 3, none⟩ = some d) ∧
    w.frozen? ⟨g, 0, none⟩ = false ∧ w.frozen? ⟨g, 1, none⟩ = false ∧ w.frozen? ⟨g, 2, none⟩ = false ∧ w.frozen? ⟨g, 3, none⟩ = false :=
  ⟨⟨h.cell 0, h.cell 1, h.cell 2, h.cell 3⟩, h.free 0, h.free 1, h.free 2, h.free 3⟩
def zc : List Value := [.slice none 0 0, .int .i64 0, .int .i64 0, .int .i64 0]

set_option maxRecDepth 100000 in
set_option maxHeartbeats 2000000 in
theorem rbyte_calls (w : World) (A : Option Addr) (l : List Int) (c : Nat) (s : Cr) (hr : Kd.C (Kd.int .u8) w A l.length l) (h0 : 0 ≤ s.p) (hl : (l.length : Int) ≤ 140737488351232) (y : Int) :
    Calls Try.prog 87 #[rc A l.length c s, .int .u8 y] w fun r w' => r = .returned (rc A l.length c (byte l s y)) ∧ Below w.heap.size w w' := by
  have hb1 := below2 w (.cells #[.slice A l.length c, .int .i64 s.p, .int .i64 s.e, .int .i64 s.x] 69) (.cells #[.slice none 0 0, .int .i64 0, .int .i64 0, .int .i64 0] 69)
  have hX : Blk ((w.alloc (.cells #[.slice A l.length c, .int .i64 s.p, .int .i64 s.e, .int .i64 s.x] 69)).alloc (.cells #[.slice none 0 0, .int .i64 0, .int .i64 0, .int .i64 0] 69)) w.heap.size (rcs A l.length c s) 69 := (Blk.new w (rcs A l.length c s) _).alloc _
  have hY : Blk ((w.alloc (.cells #[.slice A l.length c, .int .i64 s.p, .int .i64 s.e, .int .i64 s.x] 69)).alloc (.cells #[.slice none 0 0, .int .i64 0, .int .i64 0, .int .i64 0] 69)) (w.heap.size + 1) zc 69 := heap_alloc2_new w _ _
  have hs1 : ((w.alloc (.cells #[.slice A l.length c, .int .i64 s.p, .int .i64 s.e, .int .i64 s.x] 69)).alloc (.cells #[.slice none 0 0, .int .i64 0, .int .i64 0, .int .i64 0] 69)).heap.size = w.heap.size + 1 + 1 := by simp
  have HP := Lib.hid (rpeek_calls ((w.alloc (.cells #[.slice A l.length c, .int .i64 s.p, .int .i64 s.e, .int .i64 s.x] 69)).alloc (.cells #[.slice none 0 0, .int .i64 0, .int .i64 0, .int .i64 0] 69)) A l c s (Kd.C_below hr hb1) h0)
  have HF := Lib.hid (fun w2 => rfail_calls w2 A l.length c s 4 s.p)
  have hpl : (peek l s).2 = true → s.p < l.length := by
    unfold peek
    intro hp
    split at hp
    · rename_i hh; exact hh.2
    · simp at hp
  unfold byte
  unfold rc at *
  clear hr
  generalize fail s 4 s.p = s' at *
  generalize (peek l s).1 = z at *
  generalize (peek l s).2 = ok at *
  generalize l.length = n at *
  rcases s with ⟨p, e, x⟩
  simp only at *
  go_enter Try.func87, Try.ntmps87
  go_wp2_with fail
  refine HP.out.mono ?_
  rintro r w2 ⟨rfl, hb2⟩
  have hbw := hb1.trans (hb2.mono (by omega))
  have hX2 := hX.below hb2 (by omega)
  have hY2 := hY.below hb2 (by omega)
  have HX2 := Lib.hid hX2
  have HY2 := Lib.hid hY2
  obtain ⟨⟨x0, x1, x2, x3⟩, g0, g1, g2, g3⟩ := facts4 hX2
  obtain ⟨⟨y0, y1, y2, y3⟩, f0, f1, f2, f3⟩ := facts4 hY2
  simp only at x1 x2 x3
  clear hX hY hX2 hY2 hb1 hb2 hs1 HP
  by_cases hy : y = z
  · subst hy
    cases ok
    · go_wp2_with fail
      refine (HF.out w2).mono ?_
      rintro r w3 ⟨rfl, hb3⟩
      have hY3 := HY2.out.below hb3 HY2.out.lt
      have HY3 := Lib.hid hY3
      clear y0 y1 y2 y3 f0 f1 f2 f3
      obtain ⟨⟨y0, y1, y2, y3⟩, f0, f1, f2, f3⟩ := facts4 hY3
      clear hY3
      go_wp2
      exact bodyPost_ret (results_cell_row rfl _ _ (w.heap.size + 1) _ _ (0, 0) _ rfl (set4 HY3.out _ _ _ _) Try.underlying69 rfl (rc_info 0 _ rfl)) rfl ⟨rfl, below4 (hbw.trans (hb3.mono hbw.size)) (by omega) _ _ _ _⟩
    · have hpl2 := hpl rfl
      go_wp2
      exact bodyPost_ret (results_cell_row rfl _ _ (w.heap.size + 1) _ _ (0, 0) _ rfl (set4 (HY2.out.other (a := ⟨w.heap.size, 1, none⟩) (by simp) _) _ _ _ _) Try.underlying69 rfl (rc_info 0 _ rfl)) rfl ⟨rfl, below4 (bset (by omega) hbw) (by omega) _ _ _ _⟩
  · have hyb : (y != z) = true := by simp [hy]
    cases ok
    · go_wp2_with fail
      refine (HF.out w2).mono ?_
      rintro r w3 ⟨rfl, hb3⟩
      have hY3 := HY2.out.below hb3 HY2.out.lt
      have HY3 := Lib.hid hY3
      clear y0 y1 y2 y3 f0 f1 f2 f3
      obtain ⟨⟨y0, y1, y2, y3⟩, f0, f1, f2, f3⟩ := facts4 hY3
      clear hY3
      go_wp2
      exact bodyPost_ret (results_cell_row rfl _ _ (w.heap.size + 1) _ _ (0, 0) _ rfl (set4 HY3.out _ _ _ _) Try.underlying69 rfl (rc_info 0 _ rfl)) rfl ⟨rfl, below4 (hbw.trans (hb3.mono hbw.size)) (by omega) _ _ _ _⟩
    · go_wp2_with fail
      refine (HF.out w2).mono ?_
      rintro r w3 ⟨rfl, hb3⟩
      have hY3 := HY2.out.below hb3 HY2.out.lt
      have HY3 := Lib.hid hY3
      clear y0 y1 y2 y3 f0 f1 f2 f3
      obtain ⟨⟨y0, y1, y2, y3⟩, f0, f1, f2, f3⟩ := facts4 hY3
      clear hY3
      go_wp2
      exact bodyPost_ret (results_cell_row rfl _ _ (w.heap.size + 1) _ _ (0, 0) _ rfl (set4 HY3.out _ _ _ _) Try.underlying69 rfl (rc_info 0 _ rfl)) rfl ⟨rfl, below4 (hbw.trans (hb3.mono hbw.size)) (by omega) _ _ _ _⟩
end Cur
end Go.Proofs.Ytndciilmnnaemaa
