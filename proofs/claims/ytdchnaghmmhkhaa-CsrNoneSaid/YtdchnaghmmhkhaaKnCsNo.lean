/- coroner's law CsrNone: its walk. -/
import Derived.Test.YtdchnaghmmhkhaaKnC
set_option linter.unusedSimpArgs false
namespace Go.Proofs.Ytdchnaghmmhkhaa
open Go.Shelf Go.RowKit Go.Lib Go.Sort Go.Proofs.Ytdchnaghmmhkhaa.RowAt Go.Proofs.Ytdchnaghmmhkhaa.PCsrGraphs Go.Proofs.YtdchnaghmmhkhaaW.PrintWords Cs Cs.Ai
set_option linter.unusedSectionVars false
set_option linter.unusedVariables false
attribute [local go_sem] Oper.semAt_some

theorem results_cell_bool {fn : Func} {p : Tmp} {ty : TypeId} (h : fn.results = #[.cell p ty]) (tmps : Array Value) (P : Program) (w : World) (a : Addr) (b : Bool) (hp : tmps.getD p undef = .pointer (some a)) (hc : w.cell? a = some (.bool b)) (hu : P.underlying ty = some .bool) :
    (results fn tmps).run P w = .ok (.bool b) w := by
  have hp' : tmps[p]?.getD undef = .pointer (some a) := by simpa using hp
  have hagg : (isAgg ty).run P w = .ok false w := by
    unfold isAgg
    rw [Sem.run_bind, run_underlying hu w]
    simp
  simp only [results, h]
  simp [hp', asAddr, loadVar, hagg, hc]
theorem func_eq (w : World) (f : Fn) (a b : Array Value) : (binOp .eql 44 (.func f a b) .nilFunc).run Try.prog w = .ok (.bool false) w := by
  have h : ∀ d : Nat, (Op.equalIn (d + 1) 44 (.func f a b) .nilFunc).run Try.prog w = .ok false w := fun d => by
    simp [Op.equalIn, run_underlying Try.underlying44]
  simp only [binOp]
  simp [Op.equal, Op.maxDepth, h 9999]
/-- What stays. -/
def NJ (w : World) (a b : Int) (W : World) : Prop :=
  Below w.heap.size w W ∧ Blk W w.heap.size [.bool false] 4 ∧ Blk W (w.heap.size + 1) [.pointer none] 24 ∧ Blk W (w.heap.size + 2) [.int .i64 a] 3 ∧ Blk W (w.heap.size + 3) [.int .i64 b] 3 ∧ w.heap.size + 6 ≤ W.heap.size
theorem NJ.below {w W W' : World} {a b : Int} (h : NJ w a b W) (hb : Below W.heap.size W W') : NJ w a b W' :=
  ⟨h.1.trans (hb.mono h.1.size), h.2.1.below hb h.2.1.lt, h.2.2.1.below hb h.2.2.1.lt, h.2.2.2.1.below hb h.2.2.2.1.lt, h.2.2.2.2.1.below hb h.2.2.2.2.1.lt, Nat.le_trans h.2.2.2.2.2 hb.size⟩

set_option maxRecDepth 1000000 in
set_option maxHeartbeats 4000000 in
theorem none_in (w : World) (a b : Int) : CallsIn Fence.wide 0 Try.prog 7 #[.int .i64 a, .int .i64 b] w fun e w' => e = .returned (.bool true) ∧ Below w.heap.size w w' := by
  have e1 : ∀ args w, (callFunc 12 args).run Try.prog w = .ok (.enter 12 args) w := enters_of Try.func12 (by kernel_rfl) rfl
  have e2 : ∀ args w, (callFunc 15 args).run Try.prog w = .ok (.enter 15 args) w := enters_of Try.func15 (by kernel_rfl) rfl
  have e3 : ∀ args w, (callFunc 17 args).run Try.prog w = .ok (.enter 17 args) w := enters_of Try.func17 (by kernel_rfl) rfl
  have e4 : ∀ args w, (callFunc 23 args).run Try.prog w = .ok (.enter 23 args) w := enters_of Try.func23 (by kernel_rfl) rfl
  have e5 : ∀ args w, (callFunc 20 args).run Try.prog w = .ok (.enter 20 args) w := enters_of Try.func20 (by kernel_rfl) rfl
  have e6 : ∀ args w, (callFunc 8 args).run Try.prog w = .ok (.enter 8 args) w := enters_of Try.func8 (by kernel_rfl) rfl
  have hen : ∀ (args : Array Value) (w : World), (callFunc 35 args).run Try.prog w = .ok (.enter 35 args) w := enters_of Try.func35 (by kernel_rfl) rfl
  refine callsIn_of_wp_marks Try.func7 rfl trivial ?_ rfl
  simp only [Try.ntmps7, List.size_toArray, List.length_cons, List.length_nil, Nat.reduceAdd, Nat.reduceSub, Array.replicate_succ, Array.replicate_zero, List.push_toArray, List.append_toArray, List.nil_append, List.cons_append]
  have hF : ∀ f, Fence.wide.fn f = True := fun _ => rfl
  have hD : Fence.wide.depth = none := rfl
  have hfe := func_eq
  gi_wp2_with (gi_at_call 20; refine (callsIn_wide.2 (out_c none a b _)).mono ?_; rintro e w' ⟨rfl, rfl⟩)
  have hsz : ((((w.alloc (.cells #[.bool false] 4)).alloc (.cells #[.pointer none] 24)).alloc (.cells #[.int .i64 a] 3)).alloc (.cells #[.int .i64 b] 3)).heap.size = w.heap.size + 4 := by simp
  have hbw : Below w.heap.size w ((((w.alloc (.cells #[.bool false] 4)).alloc (.cells #[.pointer none] 24)).alloc (.cells #[.int .i64 a] 3)).alloc (.cells #[.int .i64 b] 3)) := ((((Below.refl _ w).alloc (Nat.le_refl _) _).alloc (by simp) _).alloc (by simp; omega) _).alloc (by simp; omega) _
  have b0 := (((Blk.new w [.bool false] 4).alloc (.cells #[.pointer none] 24)).alloc (.cells #[.int .i64 a] 3)).alloc (.cells #[.int .i64 b] 3)
  have b1 := ((Blk.new (w.alloc (.cells #[.bool false] 4)) [.pointer none] 24).alloc (.cells #[.int .i64 a] 3)).alloc (.cells #[.int .i64 b] 3)
  have b2 := (Blk.new ((w.alloc (.cells #[.bool false] 4)).alloc (.cells #[.pointer none] 24)) [.int .i64 a] 3).alloc (.cells #[.int .i64 b] 3)
  have b3 := Blk.new (((w.alloc (.cells #[.bool false] 4)).alloc (.cells #[.pointer none] 24)).alloc (.cells #[.int .i64 a] 3)) [.int .i64 b] 3
  simp only [World.size_alloc] at b1 b2 b3
  have H0 := Lib.hid b0
  have H1 := Lib.hid b1
  have H2 := Lib.hid b2
  have H3 := Lib.hid b3
  have HBW := Lib.hid hbw
  clear b0 b1 b2 b3 hbw
  generalize ((((w.alloc (.cells #[.bool false] 4)).alloc (.cells #[.pointer none] 24)).alloc (.cells #[.int .i64 a] 3)).alloc (.cells #[.int .i64 b] 3)) = w0 at *
  refine wp_range_by (fun j a => { tmps := ((a.tmps.setIfInBounds 15 (.int .i64 ((flt b []).getD j ⟨0, 0, 0⟩).f1)).setIfInBounds 16 (.int .i64 ((flt b []).getD j ⟨0, 0, 0⟩).f2)).setIfInBounds 7 (.int .i64 ((flt b []).getD j ⟨0, 0, 0⟩).f1), defers := [] })
    (gf := 35) (lb := #[.pointer (some ⟨w.heap.size + 1, 0, none⟩), .pointer (some ⟨w.heap.size + 2, 0, none⟩), .pointer (some ⟨w.heap.size + 3, 0, none⟩)]) rfl hen 0 (fun j => #[.int .i64 ((flt b []).getD j ⟨0, 0, 0⟩).f1, .int .i64 ((flt b []).getD j ⟨0, 0, 0⟩).f2]) (fun _ => rfl) (fun W W' => Below W.heap.size W W')
    (fun W W' i ob hs h _ => by
      have hlt : i < W.heap.size := (Array.getElem?_eq_some_iff.1 h).1
      rw [hs.block i hlt]; exact h)
    (fun j W => j = 0 ∧ NJ w a b W) (fun _ _ => False)
    ?put (fun _ _ _ h => h) ?draw (fun _ _ _ _ h => h) ?start
    (fun W => W.cell? ⟨w.heap.size + 1, 0, none⟩ = some (.pointer none) ∧ W.cell? ⟨w.heap.size + 1 + 1, 0, none⟩ = some (.int .i64 a) ∧ W.cell? ⟨w.heap.size + 1 + 2, 0, none⟩ = some (.int .i64 b) ∧ RowAt W (.pointer none) a none []) ?inv
    (fun rr => out1_goes _ (w.heap.size + 1) none a b none [] (by decide) _) ?assign ?body ?done (fun _ _ h => h.elim)
  case put =>
    rintro j W ob ⟨h0, h1, h2, h3, h4, h5, h6⟩
    rw [hsz]
    have hne : ∀ i, i ≠ w.heap.size + 4 + 1 → (W.putObj (w.heap.size + 4 + 1) ob).heap[i]? = W.heap[i]? := fun i hi => World.putObj_heap_other hi
    exact ⟨h0, h1.trans ⟨rfl, rfl, rfl, by simp, fun i hi => hne i (by omega)⟩, (hne _ (by omega)).trans h2, (hne _ (by omega)).trans h3, (hne _ (by omega)).trans h4, (hne _ (by omega)).trans h5, by simpa using h6⟩
  case draw =>
    rintro j W W' hb ⟨h0, h⟩
    exact ⟨h0, h.below hb⟩
  case start =>
    intro rr
    refine ⟨rfl, ?_⟩
    have hb : Below w0.heap.size w0 ((w0.alloc (.deferred (some []))).alloc (.loop rr)) := ((Below.refl _ w0).alloc (Nat.le_refl _) _).alloc (by simp) _
    exact ⟨HBW.out.trans (hb.mono HBW.out.size), H0.out.below hb H0.out.lt, H1.out.below hb H1.out.lt, H2.out.below hb H2.out.lt, H3.out.below hb H3.out.lt, by simp [hsz]⟩
  case inv =>
    rintro j W ⟨h0, h1, h2, h3, h4, h5, h6⟩
    exact ⟨(h3.cell 0).trans rfl, (h4.cell 0).trans rfl, (h5.cell 0).trans rfl, RowAt.none (row_nil a W)⟩
  case assign =>
    intro j W K hK
    gi_wp2
    simpa using hK
  case body =>
    intro j W hj _
    exact absurd hj (by omega)
  case done =>
    rintro W ⟨_, h1, h2, h3, h4, h5, h6⟩ hDf
    have HH1 := Lib.hid h1
    have HH2 := Lib.hid h2
    rw [hsz] at hDf ⊢
    have HDF := Lib.hid hDf
    clear h1 h2 h3 h4 h5 h6 hDf H0 H1 H2 H3 HBW
    gi_wp2_with (fail)
    refine (callsIn_wide.2 (len_nil W)).mono ?_
    rintro e w1 ⟨rfl, rfl⟩
    gi_wp2_with (fail)
    refine (callsIn_wide.2 (arcs_nil w1)).mono ?_
    rintro e w2 ⟨rfl, rfl⟩
    gi_wp2_with (fail)
    refine (callsIn_wide.2 (mask_nil a b w2)).mono ?_
    rintro e w3 ⟨rfl, hb3⟩
    have HB3 := Lib.hid hb3
    clear hb3
    gi_wp2_with (fail)
    refine (callsIn_wide.2 (turned_nil w3)).mono ?_
    rintro e w4 ⟨q, rfl, hq4, hb4⟩
    have HQ4 := Lib.hid hq4
    have HB4 := Lib.hid (HB3.out.trans (hb4.mono HB3.out.size))
    clear hq4 hb4
    gi_wp2_with (fail)
    refine (callsIn_wide.2 (len_c 0 [] q w4 HQ4.out (by decide))).mono ?_
    rintro e w5 ⟨rfl, rfl⟩
    gi_wp2_with (fail)
    refine (callsIn_wide.2 (works_c w5)).mono ?_
    rintro e w6 ⟨rfl, hb6⟩
    have hb := HB4.out.trans (hb6.mono HB4.out.size)
    have hB6 := HH2.out.below hb HH2.out.lt
    have hD6 : w6.heap[w.heap.size + 4]? = some (.deferred (some [])) := by
      have hlt : w.heap.size + 4 < w2.heap.size := (Array.getElem?_eq_some_iff.1 HDF.out).1
      rw [hb.block _ hlt]; exact HDF.out
    have hw6 := HH1.out.trans (hb.mono HH1.out.size)
    have hc6 := hB6.cell 0
    have hf6 := hB6.free 0
    simp only [List.getElem?_cons_zero] at hc6
    have HE : Hid ((w6.setCell ⟨w.heap.size, 0, none⟩ (.bool true)).heap[w.heap.size + 4]? = some (.deferred (some [])) ∧ ((w6.setCell ⟨w.heap.size, 0, none⟩ (.bool true)).putObj (w.heap.size + 4) (.deferred none)).cell? ⟨w.heap.size, 0, none⟩ = some (.bool true) ∧ Below w.heap.size w ((w6.setCell ⟨w.heap.size, 0, none⟩ (.bool true)).putObj (w.heap.size + 4) (.deferred none))) := Lib.hid (by
      have hne : ∀ i, i ≠ w.heap.size + 4 → ((w6.setCell ⟨w.heap.size, 0, none⟩ (.bool true)).putObj (w.heap.size + 4) (.deferred none)).heap[i]? = (w6.setCell ⟨w.heap.size, 0, none⟩ (.bool true)).heap[i]? := fun i hi => World.putObj_heap_other hi
      refine ⟨(heap_setCell_other _ _ _ _ (by simp)).trans hD6, ?_, (bset (Nat.le_refl _) hw6).trans ⟨rfl, rfl, rfl, by simp, fun i hi => hne i (by omega)⟩⟩
      exact (World.cell?_of_block (w := w6.setCell ⟨w.heap.size, 0, none⟩ (.bool true)) (a := ⟨w.heap.size, 0, none⟩) (hne _ (by simp))).trans ((hB6.set 0 (.bool true)).cell 0))
    clear hb hD6 hw6 hb6
    gi_wp2
    refine leaves_mark (v := .bool true) HE.out.1 (results_cell_bool rfl _ _ _ ⟨w.heap.size, 0, none⟩ true rfl HE.out.2.1 Try.underlying4) ⟨rfl, HE.out.2.2⟩
theorem walk_CsrNone (w : World) (a : Int) (_h1 : (Lit.int .i64 a).wf = true) (b : Int) (_h2 : (Lit.int .i64 b).wf = true) : Calls Try.prog 7 #[.int .i64 a, .int .i64 b] w fun e w' => e = .returned (.bool true) ∧ Below w.heap.size w w' := callsIn_wide.1 (none_in w a b)
end Go.Proofs.Ytdchnaghmmhkhaa
