/- The contracts of pipe, of one that is not there, or that no call made; works. -/
import Derived.Test.YtndciilmnnaemaaPipeRef
set_option linter.unusedVariables false
set_option linter.unusedSimpArgs false
namespace Go.Proofs.Ytndciilmnnaemaa.DqI
open Go.RowKit Go.Shelf Go.Proofs.YtndciilmnnaemaaW.PrintWords

/-- No pipe stands at v. -/
def PVoid (w : World) (v : Value) : Prop := Calls Try.prog 97 #[v] w fun e w' => e = .returned (.bool false) ∧ w = w'
set_option maxHeartbeats 400000 in
theorem pvoid_nil (w : World) : PVoid w (.pointer none) := by
  unfold PVoid
  go_enter Try.func97, Try.ntmps97
  go_wp2
  go_ret
  exact ⟨rfl, rfl⟩
set_option maxHeartbeats 400000 in
theorem pvoid_new (w : World) : PVoid (w.alloc (.cells #[.int .i64 0, .slice none 0 0, .int .i64 0, .int .i64 0, .bool false, .int .i64 0, .int .i64 0] 117)) (.pointer (some ⟨w.heap.size, 0, none⟩)) := by
  unfold PVoid
  have q0 := Blk.cell (Blk.new w [.int .i64 0, .slice none 0 0, .int .i64 0, .int .i64 0, .bool false, .int .i64 0, .int .i64 0] 117) 0
  simp only [List.getElem?_cons_zero] at q0
  generalize w.alloc (.cells [.int .i64 0, .slice none 0 0, .int .i64 0, .int .i64 0, .bool false, .int .i64 0, .int .i64 0].toArray 117) = W at *
  go_enter Try.func97, Try.ntmps97
  go_wp2
  go_ret
  exact ⟨rfl, rfl⟩
set_option maxHeartbeats 400000 in
theorem psend_void (w : World) (v : Value) (h : PVoid w v) (x : Int) : Calls Try.prog 67 #[v, .int .i64 x] w fun e w' => e = .returned (.int .i64 1) ∧ w = w' := by
  have HI := Lib.hid h; clear h
  go_enter Try.func67, Try.ntmps67
  go_wp2_with fail
  refine HI.out.mono ?_
  rintro e w' ⟨rfl, rfl⟩
  go_wp2
  go_ret
  exact ⟨rfl, rfl⟩
set_option maxHeartbeats 400000 in
theorem precv_void (w : World) (v : Value) (h : PVoid w v) : Calls Try.prog 63 #[v] w fun e w' => e = .returned (.tuple #[.int .i64 0, .int .i64 1]) ∧ w = w' := by
  have HI := Lib.hid h; clear h
  go_enter Try.func63, Try.ntmps63
  go_wp2_with fail
  refine HI.out.mono ?_
  rintro e w' ⟨rfl, rfl⟩
  go_wp2
  go_ret2
  exact ⟨rfl, rfl⟩
set_option maxHeartbeats 400000 in
theorem pclose_void (w : World) (v : Value) (h : PVoid w v) : Calls Try.prog 65 #[v] w fun e w' => e = .returned (.int .i64 1) ∧ w = w' := by
  have HI := Lib.hid h; clear h
  go_enter Try.func65, Try.ntmps65
  go_wp2_with fail
  refine HI.out.mono ?_
  rintro e w' ⟨rfl, rfl⟩
  go_wp2
  go_ret
  exact ⟨rfl, rfl⟩
set_option maxHeartbeats 400000 in
theorem plen_void (w : World) (v : Value) (h : PVoid w v) : Calls Try.prog 70 #[v] w fun e w' => e = .returned (.int .i64 0) ∧ w = w' := by
  have HI := Lib.hid h; clear h
  go_enter Try.func70, Try.ntmps70
  go_wp2_with fail
  refine HI.out.mono ?_
  rintro e w' ⟨rfl, rfl⟩
  go_wp2
  go_ret
  exact ⟨rfl, rfl⟩
set_option maxHeartbeats 400000 in
theorem proom_void (w : World) (v : Value) (h : PVoid w v) : Calls Try.prog 71 #[v] w fun e w' => e = .returned (.int .i64 0) ∧ w = w' := by
  have HI := Lib.hid h; clear h
  go_enter Try.func71, Try.ntmps71
  go_wp2_with fail
  refine HI.out.mono ?_
  rintro e w' ⟨rfl, rfl⟩
  go_wp2
  go_ret
  exact ⟨rfl, rfl⟩
set_option maxHeartbeats 400000 in
theorem pclosed_void (w : World) (v : Value) (h : PVoid w v) : Calls Try.prog 72 #[v] w fun e w' => e = .returned (.bool false) ∧ w = w' := by
  have HI := Lib.hid h; clear h
  go_enter Try.func72, Try.ntmps72
  go_wp2_with fail
  refine HI.out.mono ?_
  rintro e w' ⟨rfl, rfl⟩
  go_wp2
  go_ret
  exact ⟨rfl, rfl⟩
set_option maxHeartbeats 400000 in
theorem pcounts_void (w : World) (v : Value) (h : PVoid w v) : Calls Try.prog 69 #[v] w fun e w' => e = .returned (.tuple #[.int .i64 0, .int .i64 0]) ∧ w = w' := by
  have HI := Lib.hid h; clear h
  go_enter Try.func69, Try.ntmps69
  go_wp2_with fail
  refine HI.out.mono ?_
  rintro e w' ⟨rfl, rfl⟩
  go_wp2
  go_ret2
  exact ⟨rfl, rfl⟩
set_option maxHeartbeats 400000 in
theorem pdone_void (w : World) (v : Value) (h : PVoid w v) : Calls Try.prog 73 #[v] w fun e w' => e = .returned (.bool false) ∧ w = w' := by
  have HI := Lib.hid (pclosed_void w v h); clear h
  go_enter Try.func73, Try.ntmps73
  go_wp2_with fail
  refine HI.out.mono ?_
  rintro e w' ⟨rfl, rfl⟩
  go_wp2
  go_ret
  exact ⟨rfl, rfl⟩
set_option maxHeartbeats 1000000 in
theorem pnone_calls (w : World) (v : Value) (h : PVoid w v) (x : Int) : Calls Try.prog 74 #[v, .int .i64 x] w fun e w' => e = .returned (.bool true) ∧ w = w' := by
  have H0 := Lib.hid (psend_void w v h x)
  have H1 := Lib.hid (pclose_void w v h)
  have H2 := Lib.hid (precv_void w v h)
  have H3 := Lib.hid (pcounts_void w v h)
  have H4 := Lib.hid (plen_void w v h)
  have H5 := Lib.hid (proom_void w v h)
  have H6 := Lib.hid (pclosed_void w v h)
  have H7 := Lib.hid (pdone_void w v h)
  clear h
  go_enter Try.func74, Try.ntmps74
  go_wp2_with fail
  refine H0.out.mono ?_
  rintro e w' ⟨rfl, rfl⟩
  go_wp2_with fail
  refine H1.out.mono ?_
  rintro e w' ⟨rfl, rfl⟩
  go_wp2_with fail
  refine H2.out.mono ?_
  rintro e w' ⟨rfl, rfl⟩
  go_wp2_with fail
  refine H3.out.mono ?_
  rintro e w' ⟨rfl, rfl⟩
  go_wp2_with fail
  refine H4.out.mono ?_
  rintro e w' ⟨rfl, rfl⟩
  go_wp2_with fail
  refine H5.out.mono ?_
  rintro e w' ⟨rfl, rfl⟩
  go_wp2_with fail
  refine H6.out.mono ?_
  rintro e w' ⟨rfl, rfl⟩
  go_wp2_with fail
  refine H7.out.mono ?_
  rintro e w' ⟨rfl, rfl⟩
  go_wp2
  go_ret
  exact ⟨rfl, rfl⟩

set_option maxHeartbeats 1000000 in
theorem works08 (w : World) : Calls Try.prog 54 #[] w fun e w' => e = .returned (.bool true) ∧ Below w.heap.size w w' := by
  go_enter Try.func54, Try.ntmps54
  go_wp2_with fail
  refine (pnew_calls w 1 (by decide) (by decide)).mono ?_
  rintro e w1 ⟨rfl, ⟨cs0, h0⟩, hb⟩
  have hsz := hb.size
  go_wp2_with fail
  refine (psend_of _ _ _ _ _ 5 h0 (by decide) (by decide) hsz).mono ?_
  rintro e w2 ⟨rfl, cs1, h1, hS⟩
  replace hb := hb.trans (hS.below h0 hsz)
  replace hsz := hb.size
  replace h1 : PI w2 w.heap.size w.heap.size cs1 ⟨1, [5], false, 1, 0⟩ := h1
  clear h0 hS
  rw [show sendE ⟨(1 : Int).toNat, [], false, 0, 0⟩ = 0 from rfl]
  go_wp2_with fail
  refine (psend_of _ _ _ _ _ 6 h1 (by decide) (by decide) hsz).mono ?_
  rintro e w3 ⟨rfl, cs2, h2, hS⟩
  replace hb := hb.trans (hS.below h1 hsz)
  replace hsz := hb.size
  replace h2 : PI w3 w.heap.size w.heap.size cs2 ⟨1, [5], false, 1, 0⟩ := h2
  clear h1 hS
  rw [show sendE ⟨1, [5], false, 1, 0⟩ = 9 from rfl]
  go_wp2_with fail
  refine (pclose_calls _ _ _ _ _ h2).mono ?_
  rintro e w4 ⟨rfl, cs3, h3, hS⟩
  replace hb := hb.trans (hS.below h2 hsz)
  replace hsz := hb.size
  replace h3 : PI w4 w.heap.size w.heap.size cs3 ⟨1, [5], true, 1, 0⟩ := h3
  clear h2 hS
  go_wp2_with fail
  refine (psend_of _ _ _ _ _ 7 h3 (by decide) (by decide) hsz).mono ?_
  rintro e w5 ⟨rfl, cs4, h4, hS⟩
  replace hb := hb.trans (hS.below h3 hsz)
  replace hsz := hb.size
  replace h4 : PI w5 w.heap.size w.heap.size cs4 ⟨1, [5], true, 1, 0⟩ := h4
  clear h3 hS
  rw [show sendE ⟨1, [5], true, 1, 0⟩ = 11 from rfl]
  go_wp2_with fail
  refine (precv_calls _ _ _ _ _ h4 (by decide)).mono ?_
  rintro e w6 ⟨rfl, cs5, h5, hS⟩
  replace hb := hb.trans (hS.below h4 hsz)
  replace hsz := hb.size
  replace h5 : PI w6 w.heap.size w.heap.size cs5 ⟨1, [], true, 1, 1⟩ := h5
  clear h4 hS
  rw [show recvX ⟨1, [5], true, 1, 0⟩ = 5 from rfl, show recvE ⟨1, [5], true, 1, 0⟩ = 0 from rfl]
  unfold enc
  go_wp2_with fail
  refine (precv_calls _ _ _ _ _ h5 (by decide)).mono ?_
  rintro e w7 ⟨rfl, cs6, h6, hS⟩
  replace hb := hb.trans (hS.below h5 hsz)
  replace hsz := hb.size
  replace h6 : PI w7 w.heap.size w.heap.size cs6 ⟨1, [], true, 1, 1⟩ := h6
  clear h5 hS
  rw [show recvX ⟨1, [], true, 1, 1⟩ = 0 from rfl, show recvE ⟨1, [], true, 1, 1⟩ = 11 from rfl]
  unfold enc
  have HD := Lib.hid (pdone_calls _ _ _ _ _ h6)
  go_wp2_with fail
  refine HD.out.mono ?_
  rintro e w' ⟨rfl, rfl⟩
  go_wp2
  go_ret
  exact ⟨rfl, hb⟩
end Go.Proofs.Ytndciilmnnaemaa.DqI
namespace Go.Proofs.Ytndciilmnnaemaa
open Go.RowKit DqI
set_option maxHeartbeats 1000000 in
theorem walk_PipeNone (w : World) (x : Int) (_hx : (Lit.int .i64 x).wf = true) :
    Calls Try.prog 18 #[.int .i64 x] w fun e w' => e = .returned (.bool true) ∧ Below w.heap.size w w' := by
  clear _hx
  have HB := Lib.hid ((Below.refl w.heap.size w).alloc (Nat.le_refl _) (.cells #[.int .i64 0, .slice none 0 0, .int .i64 0, .int .i64 0, .bool false, .int .i64 0, .int .i64 0] 117))
  go_enter Try.func18, Try.ntmps18
  go_wp2_with fail
  refine (pnone_calls w _ (pvoid_nil w) x).mono ?_
  rintro e w1 ⟨rfl, rfl⟩
  go_wp2_with fail
  refine (pnone_calls _ _ (pvoid_new w) x).mono ?_
  rintro e w1 ⟨rfl, rfl⟩
  go_wp2_with fail
  refine (works08 _).mono ?_
  rintro e w2 ⟨rfl, hb2⟩
  go_wp2
  go_ret
  exact ⟨rfl, HB.out.trans (hb2.mono HB.out.size)⟩
end Go.Proofs.Ytndciilmnnaemaa
