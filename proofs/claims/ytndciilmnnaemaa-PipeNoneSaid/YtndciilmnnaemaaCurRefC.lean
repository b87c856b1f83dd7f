/- The contracts of cursor's reference: Number, List. -/
import Derived.Test.YtndciilmnnaemaaCurRefB
import Derived.Laws.ResultCell
set_option linter.unusedVariables false
set_option linter.unusedSimpArgs false
namespace Go.Proofs.Ytndciilmnnaemaa
open Go.RowKit Go.Proofs.YtndciilmnnaemaaW.PrintWords
namespace Cur

theorem results_row_tmp {fn : Func} {p u : Tmp} {ty : TypeId} (h : fn.results = #[.cell p ty, .tmp u]) (tmps : Array Value) {P : Program} (w : World) (g : Nat) (t : TypeId) (cs : Array Value) (fr : Nat × Nat) (d : TypeDesc)
    (hp : tmps.getD p undef = .pointer (some ⟨g, 0, none⟩)) (hg : w.heap[g]? = some (.cells cs t fr))
    (hd : (match d with | .struct _ | .array _ _ => true | _ => false) = true) (hu : P.underlying ty = some d) (hi : (P.info? ty).map (·.size) = some cs.size) :
    (results fn tmps).run P w = .ok (.tuple #[.agg cs, tmps.getD u undef]) w := by
  have ha : (asAddr (.pointer (some ⟨g, 0, none⟩))).run P w = .ok ⟨g, 0, none⟩ w := rfl
  rw [results_cell_tmp h, hp, ha, Result.andThen_ok, run_loadVar_row w g t ty cs fr d hg hu (by cases d <;> simp_all) hi, Result.andThen_ok]

set_option maxRecDepth 100000 in
set_option maxHeartbeats 2000000 in
theorem rnumber_calls (w : World) (A : Option Addr) (l : List Int) (c : Nat) (s : Cr) (hr : Kd.C (Kd.int .u8) w A l.length l) (hc : l.length ≤ c) (hl : (l.length : Int) ≤ 140737488351232) :
    Calls Try.prog 88 #[rc A l.length c s] w fun r w' => r = .returned (.tuple #[rc A l.length c (number l s).1, .int .i64 (number l s).2]) ∧ Below w.heap.size w w' := by
  have hb1 := below2 w (.cells #[.slice A l.length c, .int .i64 s.p, .int .i64 s.e, .int .i64 s.x] 69) (.cells #[.slice none 0 0, .int .i64 0, .int .i64 0, .int .i64 0] 69)
  have hX : Blk ((w.alloc (.cells #[.slice A l.length c, .int .i64 s.p, .int .i64 s.e, .int .i64 s.x] 69)).alloc (.cells #[.slice none 0 0, .int .i64 0, .int .i64 0, .int .i64 0] 69)) w.heap.size (rcs A l.length c s) 69 := (Blk.new w (rcs A l.length c s) _).alloc _
  have hY : Blk ((w.alloc (.cells #[.slice A l.length c, .int .i64 s.p, .int .i64 s.e, .int .i64 s.x] 69)).alloc (.cells #[.slice none 0 0, .int .i64 0, .int .i64 0, .int .i64 0] 69)) (w.heap.size + 1) zc 69 := heap_alloc2_new w _ _
  have HP := Lib.hid (refparse_calls l s.p A c ((w.alloc (.cells #[.slice A l.length c, .int .i64 s.p, .int .i64 s.e, .int .i64 s.x] 69)).alloc (.cells #[.slice none 0 0, .int .i64 0, .int .i64 0, .int .i64 0] 69)) (Kd.C_below hr hb1) hc hl)
  have HF := Lib.hid (fun w2 a => rfail_calls w2 A l.length c s 4 a)
  unfold number
  have hfe : ∀ a, fail s 4 a = fail s 4 a := fun _ => rfl
  unfold rc at *
  clear hr hfe
  generalize (parse l s.p).1 = v at *
  generalize (parse l s.p).2.1 = to_ at *
  generalize (parse l s.p).2.2 = ok at *
  generalize l.length = n at *
  by_cases he : s.e = 0
  · rw [if_pos he]
    rcases s with ⟨p, e, x⟩
    simp only at *
    subst he
    go_enter Try.func88, Try.ntmps88
    go_wp2_with fail
    refine HP.out.mono ?_
    rintro r w2 ⟨rfl, hd2⟩
    have hb2 := hd2.below
    have hbw := hb1.trans (hb2.mono (by simp; omega))
    have hX2 := hX.below hb2 hX.lt
    have hY2 := hY.below hb2 hY.lt
    have HY2 := Lib.hid hY2
    obtain ⟨⟨x0, x1, x2, x3⟩, g0, g1, g2, g3⟩ := facts4 hX2
    obtain ⟨⟨y0, y1, y2, y3⟩, f0, f1, f2, f3⟩ := facts4 hY2
    simp only at x1 x2 x3
    clear hX hY hX2 hY2 hb1 hb2 hd2 HP
    cases ok
    · go_wp2_with fail
      refine (HF.out w2 _).mono ?_
      rintro r w3 ⟨rfl, hb3⟩
      have hY3 := HY2.out.below hb3 HY2.out.lt
      have HY3 := Lib.hid hY3
      clear y0 y1 y2 y3 f0 f1 f2 f3
      obtain ⟨⟨y0, y1, y2, y3⟩, f0, f1, f2, f3⟩ := facts4 hY3
      clear hY3
      go_wp2
      exact bodyPost_ret (results_row_tmp rfl _ _ (w.heap.size + 1) _ _ (0, 0) _ rfl (set4 HY3.out _ _ _ _) rfl Try.underlying69 (rc_info 0 _ rfl)) rfl ⟨rfl, below4 (hbw.trans (hb3.mono hbw.size)) (by omega) _ _ _ _⟩
    · go_wp2
      exact bodyPost_ret (results_row_tmp rfl _ _ (w.heap.size + 1) _ _ (0, 0) _ rfl (set4 (HY2.out.other (a := ⟨w.heap.size, 1, none⟩) (by simp) _) _ _ _ _) rfl Try.underlying69 (rc_info 0 _ rfl)) rfl ⟨rfl, below4 (bset (by omega) hbw) (by omega) _ _ _ _⟩
  · rw [if_neg he]
    have heb : (s.e != 0) = true := by simp [he]
    have HY := Lib.hid hY
    have hb := hb1
    clear he HF HP hX hY hb1
    rcases s with ⟨p, e, x⟩
    simp only at *
    go_enter Try.func88, Try.ntmps88
    go_wp2
    exact bodyPost_ret (results_row_tmp rfl _ _ (w.heap.size + 1) _ _ (0, 0) _ rfl (heap_alloc2_new w _ _) rfl Try.underlying69 (rc_info 0 _ rfl)) rfl ⟨rfl, below2 _ _ _⟩
end Cur
end Go.Proofs.Ytndciilmnnaemaa
