/- List of a deque that is not there. -/
import Derived.Test.YtndciilmnnaemaaDequeIntF
set_option linter.unusedVariables false
set_option linter.unusedSimpArgs false
namespace Go.Proofs.Ytndciilmnnaemaa.DqI
open Go.RowKit Go.Shelf Go.Proofs.YtndciilmnnaemaaW.PrintWords
attribute [local go_sem] Oper.semAt_some

set_option maxHeartbeats 400000 in
theorem each_none (w : World) : Calls Try.prog 82 #[.pointer none] w fun e w' =>
    e = .returned (.func (.func 98) #[] #[.pointer (some ⟨w.heap.size, 0, none⟩)]) ∧ w' = w.alloc (.cells #[.pointer none] 41) := by
  go_enter Try.func82, Try.ntmps82
  go_wp2
  go_ret
  exact ⟨rfl, rfl⟩

set_option maxRecDepth 100000 in
set_option maxHeartbeats 1000000 in
theorem each1_none (l B : Nat) (W : World) :
    Goes Try.prog 98 #[.pointer (some ⟨B, 0, none⟩)] 0 (fun _ => #[enc 0]) (fun W W' => ∃ n, W' = W.drewN n)
      (fun W => W.cell? ⟨B, 0, none⟩ = some (.pointer none)) l W := by
  intro Y Yx h0 hInv hSt hStx hY
  refine callsIn_of_wp Try.func98 rfl trivial ?_ rfl
  simp only [Try.ntmps98, List.size_toArray, List.length_cons, List.length_nil, Nat.reduceAdd, Nat.reduceSub, Array.replicate_succ, Array.replicate_zero, List.push_toArray, List.append_toArray, List.nil_append, List.cons_append]
  gi_wp2
  gi_loopw [3] (fun v3 wr => v3 = .int .i64 0 ∧ Y 0 wr) (fun v3 _ => 0)
  case atStart => exact ⟨rfl, h0⟩
  case round =>
    obtain ⟨rfl, hYk⟩ := hrel
    have hB := hInv 0 wr hYk
    have hF : ∀ f, Fence.wide.fn f = True := fun _ => rfl
    have hD : Fence.wide.depth = none := rfl
    gi_wp2
    refine wpIn_wide.2 ?_
    go_quiet ((go_at_call 35; exact Calls.quiet_of_same ((len_none _).mono fun _ _ h => ⟨h.1, h.2.symm⟩)))
    gi_wp2
    go_end0
    exact ⟨⟨_, rfl⟩, .inl (hSt 0 wr _ ⟨_, rfl⟩ hYk)⟩

/-- What List finds. -/
def NilJ (w : World) (_ : Nat) (W : World) : Prop :=
  Blk W w.heap.size [.slice none 0 0] 27 ∧ Below w.heap.size w W ∧ W.cell? ⟨w.heap.size + 1, 0, none⟩ = some (.pointer none) ∧ w.heap.size + 4 ≤ W.heap.size

set_option maxRecDepth 100000 in
set_option maxHeartbeats 1000000 in
theorem list_none_in (w : World) :
    CallsIn Fence.wide 0 Try.prog 36 #[.pointer none] w fun e w' => e = .returned (.slice none 0 0) ∧ Below w.heap.size w w' := by
  refine callsIn_of_wp_marks Try.func36 rfl trivial ?_ rfl
  simp only [Try.ntmps36, List.size_toArray, List.length_cons, List.length_nil, Nat.reduceAdd, Nat.reduceSub, Array.replicate_succ, Array.replicate_zero, List.push_toArray, List.append_toArray, List.nil_append, List.cons_append]
  have hF : ∀ f, Fence.wide.fn f = True := fun _ => rfl
  have hD : Fence.wide.depth = none := rfl
  gi_wp2_with (gi_at_call 82; refine (callsIn_wide.2 (each_none _)).mono ?_; rintro e w' ⟨rfl, rfl⟩)
  have hen : ∀ (args : Array Value) (w : World), (callFunc 98 args).run Try.prog w = .ok (.enter 98 args) w := enters_of Try.func98 (by kernel_rfl) rfl
  have hw0 : Below w.heap.size w ((w.alloc (.cells #[.slice none 0 0] 27)).alloc (.cells #[.pointer none] 41)) := ((Below.refl _ _).alloc (Nat.le_refl _) _).alloc (by simp) _
  refine wp_range (gf := 98) (lb := #[.pointer (some ⟨w.heap.size + 1, 0, none⟩)]) rfl hen 0 (fun _ => #[enc 0]) (fun _ => rfl) (fun W W' => ∃ n, W' = W.drewN n)
    (fun W W' i ob hs h _ => by obtain ⟨n, rfl⟩ := hs; exact h)
    (NilJ w) (fun _ _ => False)
    (fun k => { tmps := #[.pointer none, undef, .slice none 0 0, .pointer (some ⟨w.heap.size, 0, none⟩), enc 0, .pointer none, .func (.func 98) #[] #[.pointer (some ⟨w.heap.size + 1, 0, none⟩)], enc 0, undef, undef, undef, undef, undef], defers := [] })
    ?put (fun _ _ _ h => h) ?draw (fun _ _ _ _ h => h) ?start (fun W => W.cell? ⟨w.heap.size + 1, 0, none⟩ = some (.pointer none)) ?inv ?seq ?assign ?body ?done (fun _ _ h => h.elim)
  case put =>
    intro k W ob hJ
    obtain ⟨hB, hb, hc, hs⟩ := hJ
    simp only [World.size_alloc]
    have hne : ∀ i, i ≠ w.heap.size + 1 + 1 + 1 → (W.putObj (w.heap.size + 1 + 1 + 1) ob).heap[i]? = W.heap[i]? := fun i hi => World.putObj_heap_other hi
    refine ⟨(hne _ (by omega)).trans hB, hb.trans ⟨rfl, rfl, rfl, by simp, fun i hi => hne i (by omega)⟩, ?_, by simpa using hs⟩
    exact (World.cell?_of_block (w := W) (a := ⟨w.heap.size + 1, 0, none⟩) (hne _ (by simp))).trans hc
  case draw =>
    rintro k W W' ⟨n, rfl⟩ ⟨hB, hb, hc, hs⟩
    exact ⟨hB, pw_below_drewN hb n, hc, hs⟩
  case start =>
    intro r
    refine ⟨?_, (hw0.alloc (by simp; omega) _).alloc (by simp; omega) _, ?_, by simp⟩
    · exact (((Blk.new w [.slice none 0 0] 27).alloc _).alloc _).alloc _
    · have h1 := blk_new2' w (.cells #[.slice none 0 0] 27) [.pointer none] 41
      exact ((h1.alloc _).alloc _).cell 0
  case inv =>
    rintro k W ⟨hB, hb, hc, hs⟩
    exact hc
  case seq => exact fun r => each1_none _ _ _
  case assign =>
    intro k W K hK
    simp only [World.size_alloc]
    gi_wp2
    simpa using hK
  case body =>
    intro k W hk hJ
    exact absurd hk (by omega)
  case done =>
    intro W hJ hD
    obtain ⟨hB, hb, hc, hs⟩ := hJ
    have hq := hB.cell 0
    simp only [List.getElem?_cons_zero] at hq
    simp only [World.size_alloc] at hD ⊢
    gi_wp2
    have hne : ∀ i, i ≠ w.heap.size + 1 + 1 → (W.putObj (w.heap.size + 1 + 1) (.deferred none)).heap[i]? = W.heap[i]? := fun i hi => World.putObj_heap_other hi
    refine leaves_mark hD (results_tmp rfl _ _ _) ⟨rfl, ?_⟩
    exact hb.trans ⟨rfl, rfl, rfl, by simp, fun i hi => hne i (by omega)⟩
theorem list_none (w : World) : Calls Try.prog 36 #[.pointer none] w fun e w' => e = .returned (.slice none 0 0) ∧ Below w.heap.size w w' :=
  callsIn_wide.1 (list_none_in w)
end Go.Proofs.Ytndciilmnnaemaa.DqI
