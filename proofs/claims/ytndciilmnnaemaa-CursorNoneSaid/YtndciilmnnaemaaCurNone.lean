/- The contracts of cursor, of one that is not there, or that no call made. -/
import Derived.Test.YtndciilmnnaemaaCurW
set_option linter.unusedVariables false
set_option linter.unusedSimpArgs false
namespace Go.Proofs.Ytndciilmnnaemaa
open Go.RowKit Go.Proofs.YtndciilmnnaemaaW.PrintWords
namespace Cur

/-- No cursor stands at v. -/
def Void (w : World) (v : Value) : Prop := Calls Try.prog 92 #[v] w fun r w' => r = .returned (.bool false) ∧ w = w'
set_option maxHeartbeats 400000 in
theorem peek_void (w : World) (v : Value) (h : Void w v) : Calls Try.prog 48 #[v] w fun r w' => r = .returned (.tuple #[.int .u8 0, .bool false]) ∧ w = w' := by
  have HI := Lib.hid (goes_not w v h); clear h
  go_enter Try.func48, Try.ntmps48
  go_wp2_with fail
  refine HI.out.mono ?_
  rintro r w' ⟨rfl, rfl⟩
  go_wp2
  go_ret2
  exact ⟨rfl, rfl⟩
set_option maxHeartbeats 400000 in
theorem at_void (w : World) (v : Value) (h : Void w v) : Calls Try.prog 46 #[v] w fun r w' => r = .returned (.int .i64 0) ∧ w = w' := by
  have HI := Lib.hid h; clear h
  go_enter Try.func46, Try.ntmps46
  go_wp2_with fail
  refine HI.out.mono ?_
  rintro r w' ⟨rfl, rfl⟩
  go_wp2
  go_ret
  exact ⟨rfl, rfl⟩
set_option maxHeartbeats 400000 in
theorem number_void (w : World) (v : Value) (h : Void w v) : Calls Try.prog 49 #[v] w fun r w' => r = .returned (.int .i64 0) ∧ w = w' := by
  have HI := Lib.hid (goes_not w v h); clear h
  go_enter Try.func49, Try.ntmps49
  go_wp2_with fail
  refine HI.out.mono ?_
  rintro r w' ⟨rfl, rfl⟩
  go_wp2
  go_ret
  exact ⟨rfl, rfl⟩
set_option maxHeartbeats 400000 in
theorem nums_void (w : World) (v : Value) (h : Void w v) : Calls Try.prog 50 #[v] w fun r w' => r = .returned (.slice none 0 0) ∧ w = w' := by
  have HI := Lib.hid (goes_not w v h); clear h
  go_enter Try.func50, Try.ntmps50
  go_wp2_with fail
  refine HI.out.mono ?_
  rintro r w' ⟨rfl, rfl⟩
  go_wp2
  go_ret
  exact ⟨rfl, rfl⟩
set_option maxHeartbeats 400000 in
theorem err_void (w : World) (v : Value) (h : Void w v) : Calls Try.prog 45 #[v] w fun r w' => r = .returned (.tuple #[.int .i64 1, .int .i64 0]) ∧ w = w' := by
  have HI := Lib.hid h; clear h
  go_enter Try.func45, Try.ntmps45
  go_wp2_with fail
  refine HI.out.mono ?_
  rintro r w' ⟨rfl, rfl⟩
  go_wp2
  go_ret2
  exact ⟨rfl, rfl⟩
set_option maxHeartbeats 400000 in
theorem fail_void (w : World) (v : Value) (h : Void w v) (e a : Int) : Calls Try.prog 47 #[v, .int .i64 e, .int .i64 a] w fun r w' => r = .returned (.tuple #[]) ∧ w = w' := by
  have HI := Lib.hid (goes_not w v h); clear h
  go_enter Try.func47, Try.ntmps47
  go_wp2_with fail
  refine HI.out.mono ?_
  rintro r w' ⟨rfl, rfl⟩
  go_wp2
  go_end0
  exact ⟨rfl, rfl⟩
set_option maxHeartbeats 400000 in
theorem byte_void (w : World) (v : Value) (h : Void w v) (y : Int) : Calls Try.prog 51 #[v, .int .u8 y] w fun r w' => r = .returned (.tuple #[]) ∧ w = w' := by
  have HP := Lib.hid (peek_void w v h)
  have HA := Lib.hid (at_void w v h)
  have HF := Lib.hid (fail_void w v h 4 0)
  clear h
  go_enter Try.func51, Try.ntmps51
  go_wp2_with fail
  refine HP.out.mono ?_
  rintro r w' ⟨rfl, rfl⟩
  go_wp2_with fail
  refine HA.out.mono ?_
  rintro r w' ⟨rfl, rfl⟩
  go_wp2_with fail
  refine HF.out.mono ?_
  rintro r w' ⟨rfl, rfl⟩
  go_wp2
  go_end0
  exact ⟨rfl, rfl⟩
set_option maxHeartbeats 1000000 in
theorem none_calls (w : World) (v : Value) (h : Void w v) (x n : Int) : Calls Try.prog 52 #[v, .int .u8 x, .int .i64 n] w fun r w' => r = .returned (.bool true) ∧ w = w' := by
  have H1 := Lib.hid (byte_void w v h x)
  have H2 := Lib.hid (fail_void w v h 2 n)
  have H3 := Lib.hid (peek_void w v h)
  have H4 := Lib.hid (err_void w v h)
  have H5 := Lib.hid (number_void w v h)
  have H6 := Lib.hid (nums_void w v h)
  have H7 := Lib.hid (at_void w v h)
  clear h
  go_enter Try.func52, Try.ntmps52
  go_wp2_with fail
  refine H1.out.mono ?_
  rintro r w' ⟨rfl, rfl⟩
  go_wp2_with fail
  refine H2.out.mono ?_
  rintro r w' ⟨rfl, rfl⟩
  go_wp2_with fail
  refine H3.out.mono ?_
  rintro r w' ⟨rfl, rfl⟩
  go_wp2_with fail
  refine H4.out.mono ?_
  rintro r w' ⟨rfl, rfl⟩
  go_wp2_with fail
  refine H5.out.mono ?_
  rintro r w' ⟨rfl, rfl⟩
  go_wp2_with fail
  refine H6.out.mono ?_
  rintro r w' ⟨rfl, rfl⟩
  go_wp2_with fail
  refine H7.out.mono ?_
  rintro r w' ⟨rfl, rfl⟩
  go_wp2
  go_ret
  exact ⟨rfl, rfl⟩
end Cur
open Cur
theorem void_nil (w : World) : Void w (.pointer none) := is_nil w
theorem void_new (w : World) : Void (w.alloc (.cells #[.bool false, .slice none 0 0, .int .i64 0, .int .i64 0, .int .i64 0] 88)) (.pointer (some ⟨w.heap.size, 0, none⟩)) :=
  is_calls _ _ false none 0 0 0 0 0 (Blk.new w (Cur.cells false none 0 0 0 0 0) _)
set_option maxHeartbeats 1000000 in
theorem walk_CursorNone (w : World) (x : Int) (_hx : (Lit.int .u8 x).wf = true) (n : Int) (_hn : (Lit.int .i64 n).wf = true) :
    Calls Try.prog 15 #[.int .u8 x, .int .i64 n] w fun e w' => e = .returned (.bool true) ∧ Below w.heap.size w w' := by
  clear _hx _hn
  have HB := Lib.hid ((Below.refl w.heap.size w).alloc (Nat.le_refl _) (.cells #[.bool false, .slice none 0 0, .int .i64 0, .int .i64 0, .int .i64 0] 88))
  go_enter Try.func15, Try.ntmps15
  go_wp2_with fail
  refine (none_calls w _ (void_nil w) x n).mono ?_
  rintro e w1 ⟨rfl, rfl⟩
  go_wp2_with fail
  refine (none_calls _ _ (void_new w) x n).mono ?_
  rintro e w1 ⟨rfl, rfl⟩
  go_wp2_with fail
  refine (works02 _).mono ?_
  rintro e w2 ⟨rfl, hb2⟩
  go_wp2
  go_ret
  exact ⟨rfl, HB.out.trans (hb2.mono HB.out.size)⟩
end Go.Proofs.Ytndciilmnnaemaa
