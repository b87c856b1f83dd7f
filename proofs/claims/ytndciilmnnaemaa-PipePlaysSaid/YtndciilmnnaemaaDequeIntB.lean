/- The contracts of deque, at rows of int: lists, pushing and taking. -/
import Derived.Test.YtndciilmnnaemaaDequeInt
set_option linter.unusedVariables false
set_option linter.unusedSimpArgs false
namespace Go.Proofs.Ytndciilmnnaemaa.DqI
open Go.RowKit Go.Shelf Go.Proofs.YtndciilmnnaemaaW.PrintWords
attribute [local go_sem] Oper.semAt_some

theorem Is.lt_ring {w : World} {base b o t : Nat} {cs : List Value} {l : List Int} (h : Is w base b o t cs l) : ∀ k, set cs b o k → k < w.heap.size := by
  obtain ⟨hb, _, rv, top, ring, c0, c1, c2, hr, hm, hring⟩ := h
  intro k hk
  rcases hk with rfl | hk
  · exact hb.lt
  · rw [List.getD_eq_getElem?_getD, c0, Option.getD_some] at hk
    rcases hring with ⟨rfl, _⟩ | ⟨g, rfl, _, _, hg⟩
    · simp [Value.ownBlock] at hk
    · simp [Value.ownBlock] at hk; subst hk; exact hg.lt
theorem Is.keeps {w w' : World} {base b o t : Nat} {cs : List Value} {l : List Int} (h : Is w base b o t cs l) (hk : ∀ k, set cs b o k → w'.heap[k]? = w.heap[k]?) : Is w' base b o t cs l := by
  obtain ⟨hb, hbb, rv, top, ring, c0, c1, c2, hr, hm, hring⟩ := h
  refine ⟨(hk b (.inl rfl)).trans hb, hbb, rv, top, ring, c0, c1, c2, hr, hm, ?_⟩
  rcases hring with h | ⟨g, rfl, h1, h2, hg⟩
  · exact .inl h
  · refine .inr ⟨g, rfl, h1, h2, (hk g (.inr ?_)).trans hg⟩
    rw [List.getD_eq_getElem?_getD, c0, Option.getD_some]
    simp [Value.ownBlock]
theorem Is.below {w w' : World} {base b o t : Nat} {cs : List Value} {l : List Int} (h : Is w base b o t cs l) (hb : Below w.heap.size w w') : Is w' base b o t cs l :=
  h.keeps fun k hk => hb.block k (h.lt_ring k hk)

set_option maxHeartbeats 400000 in
theorem each_calls (a : Addr) (w : World) : Calls Try.prog 82 #[.pointer (some a)] w fun e w' =>
    e = .returned (.func (.func 98) #[] #[.pointer (some ⟨w.heap.size, 0, none⟩)]) ∧ w' = w.alloc (.cells #[.pointer (some a)] 41) := by
  go_enter Try.func82, Try.ntmps82
  go_wp2
  go_ret
  exact ⟨rfl, rfl⟩

theorem elem_info : (Try.prog.info? 3).map (fun i => (i.zero, i.size, i.bytes)) = some (some (Value.int .i64 0), 1, 8) := by kernel_rfl

theorem app_in {F : Fence} {n : Nat} (W : World) {ops : Array Oper} {rest : List Oper} {op : Oper} {a : Act} {Q : Exit → Act → World → Prop} (base : Nat) (s x : Operand) (hgd : op.guard = none)
    (ho : op.op = .call { callee := .builtin .append, args := #[s, x], argTypes := #[27, 27] })
    (v : Value) (xs : List Value) (y : Int) (hs : a.eval s = v) (hx : a.eval x = .slice (some ⟨W.heap.size, 0, none⟩) 1 1)
    (HO : W.ownsRow base 3 1 v xs.length xs) (hbase : base ≤ W.heap.size) (hl : (xs.length + 1) * 8 ≤ 140737488355328)
    (h : ∀ v1 w1, w1.ownsRow base 3 1 v1 (xs.length + 1) (xs ++ [enc y]) → Below base W w1 → wpListIn F n Try.prog ops Q rest (a.put op.dst v1) w1) :
    wpListIn F n Try.prog ops Q (op :: rest) a (W.alloc (.cells #[enc y] 3)) := by
  obtain ⟨i0, hi, hz0, hz1, hz2⟩ := info_parts elem_info
  refine wpListIn_append_own (W.alloc (.cells #[enc y] 3)) hgd s x 27 ho base 3 i0 (Value.int .i64 0) 1 8 Try.underlying27 hi hz0 hz1 hz2 rfl (by decide) v xs.length xs hs (HO.alloc _) ⟨W.heap.size, 0, none⟩ 1 1 [enc y] hx rfl
    (World.news_of_block (cs := #[enc y]) (t := 3) (fr := (0, 0)) (heap_alloc_new W _)) (by simp [enc, Value.oneCell']) (by simp only [maxLen]; omega) hl (by simp; omega) ?_
  intro v1 w1 hown hg _
  exact h v1 w1 hown (((Below.refl base W).alloc hbase _).grown hg (by simp; omega) (own_base HO))

theorem own_form {w : World} {base n size : Nat} {e : TypeId} {v : Value} {xs : List Value} (h : w.ownsRow base e size v n xs) : ∃ A c, v = .slice A n c ∧ n ≤ c := by
  rcases h.2 with ⟨rfl, h0⟩ | ⟨g, cap, cur, rfl, _, _, h2, _⟩
  · have h1 := h.1
    exact ⟨none, 0, by rw [h0], by omega⟩
  · exact ⟨_, _, rfl, h2⟩

theorem blk_new2' (w : World) (o : Obj) (cs : List Value) (t : TypeId) : Blk ((w.alloc o).alloc (.cells cs.toArray t)) (w.heap.size + 1) cs t := by
  have := Blk.new (w.alloc o) cs t
  simpa using this
/-- What a round of List finds. -/
def ListJ (w : World) (a : Addr) (L : List Int) (k : Nat) (W : World) : Prop :=
  ∃ v, Blk W w.heap.size [v] 27 ∧ W.ownsRow (w.heap.size + 4) 3 1 v k ((L.take k).map enc) ∧ Below w.heap.size w W ∧ W.cell? ⟨w.heap.size + 1, 0, none⟩ = some (.pointer (some a)) ∧ w.heap.size + 4 ≤ W.heap.size

set_option maxRecDepth 100000 in
set_option maxHeartbeats 1000000 in
theorem list_in (b o t base : Nat) (w : World) (cs : List Value) (L : List Int) (h : Is w base b o t cs L) (hL : L.length ≤ 1000000000) :
    CallsIn Fence.wide 0 Try.prog 36 #[.pointer (some ⟨b, o, none⟩)] w fun e w' => ∃ v, e = .returned v ∧ w'.ownsRow w.heap.size 3 1 v L.length (L.map enc) ∧ Below w.heap.size w w' := by
  refine callsIn_of_wp_marks Try.func36 rfl trivial ?_ rfl
  simp only [Try.ntmps36, List.size_toArray, List.length_cons, List.length_nil, Nat.reduceAdd, Nat.reduceSub, Array.replicate_succ, Array.replicate_zero, List.push_toArray, List.append_toArray, List.nil_append, List.cons_append]
  have hF : ∀ f, Fence.wide.fn f = True := fun _ => rfl
  have hD : Fence.wide.depth = none := rfl
  gi_wp2_with (gi_at_call 82; refine (callsIn_wide.2 (each_calls _ _)).mono ?_; rintro e w' ⟨rfl, rfl⟩)
  have hen : ∀ (args : Array Value) (w : World), (callFunc 98 args).run Try.prog w = .ok (.enter 98 args) w := enters_of Try.func98 (by kernel_rfl) rfl
  have hw0 : Below w.heap.size w ((w.alloc (.cells #[.slice none 0 0] 27)).alloc (.cells #[.pointer (some ⟨b, o, none⟩)] 41)) := ((Below.refl _ _).alloc (Nat.le_refl _) _).alloc (by simp) _
  refine wp_range (gf := 98) (lb := #[.pointer (some ⟨w.heap.size + 1, 0, none⟩)]) rfl hen L.length (fun k => #[enc (L.getD k 0)]) (fun _ => rfl) (fun W W' => ∃ n, W' = W.drewN n)
    (fun W W' i ob hs h _ => by obtain ⟨n, rfl⟩ := hs; exact h)
    (ListJ w ⟨b, o, none⟩ L) (fun _ _ => False)
    (fun k => { tmps := #[.pointer (some ⟨b, o, none⟩), undef, .slice none 0 0, .pointer (some ⟨w.heap.size, 0, none⟩), enc (L.getD k 0), .pointer (some ⟨b, o, none⟩), .func (.func 98) #[] #[.pointer (some ⟨w.heap.size + 1, 0, none⟩)], enc (L.getD k 0), undef, undef, undef, undef, undef], defers := [] })
    ?put (fun _ _ _ h => h) ?draw (fun _ _ _ _ h => h) ?start (fun W => W.cell? ⟨w.heap.size + 1, 0, none⟩ = some (.pointer (some ⟨b, o, none⟩)) ∧ Is W base b o t cs L) ?inv ?seq ?assign ?body ?done (fun _ _ h => h.elim)
  case put =>
    intro k W ob hJ
    obtain ⟨v, hB, ho, hb, hc, hs⟩ := hJ
    simp only [World.size_alloc]
    have hne : ∀ i, i ≠ w.heap.size + 1 + 1 + 1 → (W.putObj (w.heap.size + 1 + 1 + 1) ob).heap[i]? = W.heap[i]? := fun i hi => World.putObj_heap_other hi
    refine ⟨v, (hne _ (by omega)).trans hB, own_move ho (fun q hq => hne q (by have := own_base ho q hq; omega)), hb.trans ⟨rfl, rfl, rfl, by simp, fun i hi => hne i (by omega)⟩, ?_, by simpa using hs⟩
    exact (World.cell?_of_block (w := W) (a := ⟨w.heap.size + 1, 0, none⟩) (hne _ (by simp))).trans hc
  case draw =>
    rintro k W W' ⟨n, rfl⟩ ⟨v, hB, ho, hb, hc, hs⟩
    exact ⟨v, hB, ho, pw_below_drewN hb n, hc, hs⟩
  case start =>
    intro r
    refine ⟨.slice none 0 0, ?_, own_nil _ _ _ _, (hw0.alloc (by simp; omega) _).alloc (by simp; omega) _, ?_, by simp⟩
    · exact (((Blk.new w [.slice none 0 0] 27).alloc _).alloc _).alloc _
    · have h1 := blk_new2' w (.cells #[.slice none 0 0] 27) [.pointer (some ⟨b, o, none⟩)] 41
      exact ((h1.alloc _).alloc _).cell 0
  case inv =>
    rintro k W ⟨v, hB, ho, hb, hc, hs⟩
    exact ⟨hc, h.below hb⟩
  case seq => exact fun r => each1_goes _ _ b o t base cs L hL _
  case assign =>
    intro k W K hK
    simp only [World.size_alloc]
    gi_wp2
    simpa using hK
  case body =>
    intro k W hk hJ
    obtain ⟨v, hB, ho, hb, hc, hs⟩ := hJ
    have hq := hB.cell 0
    have hf := hB.free 0
    simp only [List.getElem?_cons_zero] at hq
    have hlk : ((L.take k).map enc).length = k := by simp; omega
    replace ho : W.ownsRow (w.heap.size + 4) 3 1 v ((L.take k).map enc).length ((L.take k).map enc) := by rw [hlk]; exact ho
    have hgd : L.getD k 0 = L[k] := by rw [List.getD_eq_getElem?_getD, List.getElem?_eq_getElem hk]; rfl
    have htk : (L.take k).map enc ++ [enc (L.getD k 0)] = (L.take (k + 1)).map enc := by
      rw [hgd, List.take_succ_eq_append_getElem hk, List.map_append]; rfl
    have Htk := Lib.hid htk
    have Hlk := Lib.hid hlk
    have hl8 : (((L.take k).map enc).length + 1) * 8 ≤ 140737488355328 := by rw [hlk]; omega
    clear hgd htk hlk
    generalize L.getD k 0 = x at *
    generalize (L.take k).map enc = xs at *
    simp only [World.size_alloc, enc] at *
    gi_wp2_with (gi_at_builtin; refine app_in W (w.heap.size + 4) (.tmp 8) (.tmp 10) rfl rfl v xs x rfl rfl ho hs hl8 ?_; intro v1 w1 ho1 hb1; obtain ⟨A1, c1, rfl, hc1⟩ := own_form ho1; have hq1 := (hb1.cell (p := ⟨w.heap.size, 0, none⟩) (by simp)).trans hq; have hf1 := (hb1.frozen (p := ⟨w.heap.size, 0, none⟩) (by simp)).trans hf)
    have hB1 := (hB.below hb1 (by omega)).set 0 (.slice A1 (xs.length + 1) c1)
    have hne : ∀ i, i ≠ w.heap.size → i < w.heap.size + 4 → (w1.setCell ⟨w.heap.size, 0, none⟩ (.slice A1 (xs.length + 1) c1)).heap[i]? = W.heap[i]? := fun i hi h4 => (heap_setCell_other _ _ _ _ hi).trans (hb1.block i h4)
    refine ⟨⟨_, hB1, ?_, bset (Nat.le_refl _) (hb.trans (hb1.mono (by omega))), ?_, ?_⟩, hne _ (by omega) (by omega), hne _ (by omega) (by omega)⟩
    · rw [← Htk.out, ← Hlk.out]
      exact ownsRow_setCell_below ho1 (by simp) _
    · exact (World.cell?_of_block (w := W) (a := ⟨w.heap.size + 1, 0, none⟩) (hne _ (by simp) (by simp))).trans hc
    · have := hb1.size
      simp [World.setCell]; omega
  case done =>
    intro W hJ hD
    obtain ⟨v, hB, ho, hb, hc, hs⟩ := hJ
    have hq := hB.cell 0
    simp only [List.getElem?_cons_zero] at hq
    simp only [World.size_alloc] at hD ⊢
    gi_wp2
    rw [List.take_length] at ho
    have hne : ∀ i, i ≠ w.heap.size + 1 + 1 → (W.putObj (w.heap.size + 1 + 1) (.deferred none)).heap[i]? = W.heap[i]? := fun i hi => World.putObj_heap_other hi
    refine leaves_mark hD (results_tmp rfl _ _ _) ⟨v, rfl, ?_, ?_⟩
    · exact own_less (own_move ho (fun q hq => hne q (by have := own_base ho q hq; omega))) (by omega)
    · exact hb.trans ⟨rfl, rfl, rfl, by simp, fun i hi => hne i (by omega)⟩

theorem list_calls (b o t base : Nat) (w : World) (cs : List Value) (L : List Int) (h : Is w base b o t cs L) (hL : L.length ≤ 1000000000) :
    Calls Try.prog 36 #[.pointer (some ⟨b, o, none⟩)] w fun e w' => ∃ v, e = .returned v ∧ w'.ownsRow w.heap.size 3 1 v L.length (L.map enc) ∧ Below w.heap.size w w' :=
  callsIn_wide.1 (list_in b o t base w cs L h hL)
end Go.Proofs.Ytndciilmnnaemaa.DqI
