/- The contracts of pipe's Counts, and of pipe's reference. -/
import Derived.Test.YtndciilmnnaemaaPipeInt
import Derived.Test.YtndciilmnnaemaaFour
import Derived.Test.YtndciilmnnaemaaSteps
set_option linter.unusedVariables false
set_option linter.unusedSimpArgs false
namespace Go.Proofs.Ytndciilmnnaemaa.DqI
open Go.RowKit Go.Shelf Go.Proofs.YtndciilmnnaemaaW.PrintWords Go.Proofs.Ytndciilmnnaemaa.Fr

set_option maxHeartbeats 400000 in
theorem pcounts_calls (w : World) (base b : Nat) (cs : List Value) (p : Pp) (h : PI w base b cs p) : Calls Try.prog 69 #[.pointer (some ⟨b, 0, none⟩)] w fun e w' => e = .returned (.tuple #[.int .i64 p.sent, .int .i64 p.recv]) ∧ ∃ q, w' = w.drewN q := by
  obtain ⟨q0, q4, q5, q6⟩ := h.cells
  have HI := Lib.hid (pis_calls w base b cs p h)
  clear h
  go_enter Try.func69, Try.ntmps69
  go_wp2_with fail
  refine HI.out.mono ?_
  rintro e w' ⟨rfl, rfl⟩
  go_wp2
  go_quiet (fail)
  go_wp2
  go_ret2
  exact ⟨rfl, _, rfl⟩

def rq (A : Option Addr) (n c : Nat) (room recv : Int) (cl : Bool) : Value := .agg #[.int .i64 room, .slice A n c, .int .i64 recv, .bool cl]
def rqs (A : Option Addr) (n c : Nat) (room recv : Int) (cl : Bool) : List Value := [.int .i64 room, .slice A n c, .int .i64 recv, .bool cl]
def zq : List Value := [.int .i64 0, .slice none 0 0, .int .i64 0, .bool false]
theorem rq_info (cs : Array Value) (h : cs.size = 4) : (Try.prog.info? 102).map (·.size) = some cs.size := by
  rw [h]; kernel_rfl
theorem results_row_tmp2 {fn : Func} {p u v : Tmp} {ty : TypeId} (h : fn.results = #[.cell p ty, .tmp u, .tmp v]) (tmps : Array Value) {P : Program} (w : World) (g : Nat) (t : TypeId) (cs : Array Value) (fr : Nat × Nat) (d : TypeDesc)
    (hp : tmps.getD p undef = .pointer (some ⟨g, 0, none⟩)) (hg : w.heap[g]? = some (.cells cs t fr))
    (hd : (match d with | .struct _ | .array _ _ => true | _ => false) = true) (hu : P.underlying ty = some d) (hi : (P.info? ty).map (·.size) = some cs.size) :
    (results fn tmps).run P w = .ok (.tuple #[.agg cs, tmps.getD u undef, tmps.getD v undef]) w := by
  have ha : (asAddr (.pointer (some ⟨g, 0, none⟩))).run P w = .ok ⟨g, 0, none⟩ w := rfl
  have e : (results fn tmps).run P w = ((asAddr (tmps.getD p undef)).run P w).andThen fun a w₁ => ((loadVar ty a).run P w₁).andThen fun x w₂ => .ok (.tuple #[x, tmps.getD u undef, tmps.getD v undef]) w₂ := by
    simp only [results, h]
    simp [Sem.run_bind, Result.andThen]
  rw [e, hp, ha, Result.andThen_ok, run_loadVar_row w g t ty cs fr d hg hu (by cases d <;> simp_all) hi, Result.andThen_ok]

set_option maxHeartbeats 400000 in
theorem rnew_calls (w : World) (n : Int) : Calls Try.prog 62 #[.int .i64 n] w fun e w' => e = .returned (.int .i64 (if n < 1 ∨ 64 < n then 2 else 0)) ∧ w = w' := by
  by_cases h1 : n < 1
  · rw [if_pos (.inl h1)]
    go_enter Try.func62, Try.ntmps62
    go_wp2
    go_ret
    exact ⟨rfl, rfl⟩
  · by_cases h2 : 64 < n
    · rw [if_pos (.inr h2)]
      go_enter Try.func62, Try.ntmps62
      go_wp2
      go_ret
      exact ⟨rfl, rfl⟩
    · rw [if_neg (by omega)]
      go_enter Try.func62, Try.ntmps62
      go_wp2
      go_ret
      exact ⟨rfl, rfl⟩
set_option maxHeartbeats 1000000 in
theorem rclose_calls (w : World) (A : Option Addr) (n c : Nat) (room recv : Int) (cl : Bool) :
    Calls Try.prog 66 #[rq A n c room recv cl] w fun r w' => r = .returned (.tuple #[rq A n c room recv true, .int .i64 (if cl = true then 11 else 0)]) ∧ Below w.heap.size w w' := by
  unfold rq
  have hb1 := below2 w (.cells #[.int .i64 room, .slice A n c, .int .i64 recv, .bool cl] 102) (.cells #[.int .i64 0, .slice none 0 0, .int .i64 0, .bool false] 102)
  have hX : Blk ((w.alloc (.cells #[.int .i64 room, .slice A n c, .int .i64 recv, .bool cl] 102)).alloc (.cells #[.int .i64 0, .slice none 0 0, .int .i64 0, .bool false] 102)) w.heap.size (rqs A n c room recv cl) 102 := (Blk.new w (rqs A n c room recv cl) _).alloc _
  have hY : Blk ((w.alloc (.cells #[.int .i64 room, .slice A n c, .int .i64 recv, .bool cl] 102)).alloc (.cells #[.int .i64 0, .slice none 0 0, .int .i64 0, .bool false] 102)) (w.heap.size + 1) zq 102 := heap_alloc2_new w _ _
  go_enter Try.func66, Try.ntmps66
  go_upto_region 1 with (fail)
  generalize ((w.alloc (.cells #[.int .i64 room, .slice A n c, .int .i64 recv, .bool cl] 102)).alloc (.cells #[.int .i64 0, .slice none 0 0, .int .i64 0, .bool false] 102)) = W at *
  obtain ⟨⟨x0, x1, x2, x3⟩, g0, g1, g2, g3⟩ := facts4 hX
  obtain ⟨⟨y0, y1, y2, y3⟩, f0, f1, f2, f3⟩ := facts4 hY
  have HX := Lib.hid hX
  have HY := Lib.hid hY
  have HB := Lib.hid hb1
  clear hX hY hb1
  cases cl
  · go_wp2
    exact bodyPost_ret (results_row_tmp rfl _ _ (w.heap.size + 1) _ _ (0, 0) _ rfl (set4 (HY.out.other (a := ⟨w.heap.size, 3, none⟩) (by simp) _) _ _ _ _) rfl Try.underlying102 (rq_info _ rfl)) rfl ⟨rfl, below4 (bset (by omega) HB.out) (by omega) _ _ _ _⟩
  · go_wp2
    exact bodyPost_ret (results_row_tmp rfl _ _ (w.heap.size + 1) _ _ (0, 0) _ rfl (set4 HY.out _ _ _ _) rfl Try.underlying102 (rq_info _ rfl)) rfl ⟨rfl, below4 HB.out (by omega) _ _ _ _⟩
set_option maxHeartbeats 1000000 in
theorem rrecv_calls (w : World) (A : Option Addr) (S : List Int) (c : Nat) (room : Int) (recv : Nat) (cl : Bool) (hr : ReadsInt w .i64 A S.length S) (hrec : recv ≤ 1000000000) (hS : S.length ≤ 1000000000) :
    Calls Try.prog 64 #[rq A S.length c room recv cl] w fun r w' => r = .returned (.tuple #[rq A S.length c room (if recv < S.length then recv + 1 else recv) cl, .int .i64 (if recv < S.length then S.getD recv 0 else 0), .int .i64 (if recv < S.length then 0 else if cl = true then 11 else 10)]) ∧ Below w.heap.size w w' := by
  unfold rq
  have hb1 := below2 w (.cells #[.int .i64 room, .slice A S.length c, .int .i64 recv, .bool cl] 102) (.cells #[.int .i64 0, .slice none 0 0, .int .i64 0, .bool false] 102)
  have hX : Blk ((w.alloc (.cells #[.int .i64 room, .slice A S.length c, .int .i64 recv, .bool cl] 102)).alloc (.cells #[.int .i64 0, .slice none 0 0, .int .i64 0, .bool false] 102)) w.heap.size (rqs A S.length c room recv cl) 102 := (Blk.new w (rqs A S.length c room recv cl) _).alloc _
  have hY : Blk ((w.alloc (.cells #[.int .i64 room, .slice A S.length c, .int .i64 recv, .bool cl] 102)).alloc (.cells #[.int .i64 0, .slice none 0 0, .int .i64 0, .bool false] 102)) (w.heap.size + 1) zq 102 := heap_alloc2_new w _ _
  by_cases hlt : recv < S.length
  · rw [if_pos hlt, if_pos hlt, if_pos hlt]
    obtain ⟨ad, rfl, hx⟩ := hr.2.2 (by omega)
    have hx0 := hx recv hlt
    have hd : decide (recv < S.length) = true := decide_eq_true hlt
    have hri : (recv : Int) < S.length := by omega
    clear hr hx
    generalize S.getD recv 0 = y at *
    generalize S.length = n at *
    go_enter Try.func64, Try.ntmps64
    go_upto_region 1 with (fail)
    generalize ((w.alloc (.cells #[.int .i64 room, .slice (some ad) n c, .int .i64 recv, .bool cl] 102)).alloc (.cells #[.int .i64 0, .slice none 0 0, .int .i64 0, .bool false] 102)) = W at *
    obtain ⟨⟨x0, x1, x2, x3⟩, g0, g1, g2, g3⟩ := facts4 hX
    obtain ⟨⟨y0, y1, y2, y3⟩, f0, f1, f2, f3⟩ := facts4 hY
    have HX := Lib.hid hX
    have HY := Lib.hid hY
    have HB := Lib.hid hb1
    clear hX hY hb1
    have hx1 := pw_cell_below HB.out hx0
    go_wp2
    exact bodyPost_ret (results_row_tmp2 rfl _ _ (w.heap.size + 1) _ _ (0, 0) _ rfl (set4 (HY.out.other (a := ⟨w.heap.size, 2, none⟩) (by simp) _) _ _ _ _) rfl Try.underlying102 (rq_info _ rfl)) rfl ⟨rfl, below4 (bset (by omega) HB.out) (by omega) _ _ _ _⟩
  · rw [if_neg hlt, if_neg hlt, if_neg hlt]
    have hd : decide (recv < S.length) = false := decide_eq_false hlt
    clear hr hlt
    generalize S.length = n at *
    go_enter Try.func64, Try.ntmps64
    go_upto_region 1 with (fail)
    generalize ((w.alloc (.cells #[.int .i64 room, .slice A n c, .int .i64 recv, .bool cl] 102)).alloc (.cells #[.int .i64 0, .slice none 0 0, .int .i64 0, .bool false] 102)) = W at *
    obtain ⟨⟨x0, x1, x2, x3⟩, g0, g1, g2, g3⟩ := facts4 hX
    obtain ⟨⟨y0, y1, y2, y3⟩, f0, f1, f2, f3⟩ := facts4 hY
    have HX := Lib.hid hX
    have HY := Lib.hid hY
    have HB := Lib.hid hb1
    clear hX hY hb1
    cases cl
    all_goals
      go_wp2
      exact bodyPost_ret (results_row_tmp2 rfl _ _ (w.heap.size + 1) _ _ (0, 0) _ rfl (set4 HY.out _ _ _ _) rfl Try.underlying102 (rq_info _ rfl)) rfl ⟨rfl, below4 HB.out (by omega) _ _ _ _⟩
theorem own_empty_i (W : World) (base : Nat) (hb : base ≤ W.heap.size) : (W.alloc (.cells #[] 3)).ownsRow base 3 1 (.slice (some ⟨W.heap.size, 0, none⟩) 0 0) ([] : List Int).length (nums .i64 []) :=
  World.ownsRow_made W #[] 0 hb (by decide) rfl
theorem own_put5 {w W : World} {n size : Nat} {e : TypeId} {v : Value} {xs : List Value} {b : Nat} (h : W.ownsRow (w.heap.size + 2) e size v n xs) (hb : b < w.heap.size + 2) (j : Nat) (u : Value) : (W.setCell ⟨b, j, none⟩ u).ownsRow (w.heap.size + 2) e size v n xs :=
  own_move h (fun q hq => Below.heap_setCell _ _ _ _ (by have := own_base h q hq; simp; omega))
theorem own_five {w W : World} {n size : Nat} {e : TypeId} {v : Value} {xs : List Value} (h : W.ownsRow (w.heap.size + 2) e size v n xs) (u x0 x1 x2 x3 : Value) :
    (((((W.setCell ⟨w.heap.size, 1, none⟩ u).setCell ⟨w.heap.size + 1, 0, none⟩ x0).setCell ⟨w.heap.size + 1, 1, none⟩ x1).setCell ⟨w.heap.size + 1, 2, none⟩ x2).setCell ⟨w.heap.size + 1, 3, none⟩ x3).ownsRow w.heap.size e size v n xs :=
  own_weaken (own_put5 (own_put5 (own_put5 (own_put5 (own_put5 h (by omega) 1 u) (by omega) 0 x0) (by omega) 1 x1) (by omega) 2 x2) (by omega) 3 x3) (by omega)
/-- What the reference's Send hands back. -/
def SendR (w w' : World) (r : Ending) (A : Option Addr) (S : List Int) (c : Nat) (room recv : Int) (cl : Bool) (x : Int) : Prop :=
  if cl = true then r = .returned (.tuple #[rq A S.length c room recv cl, .int .i64 11])
  else if room ≤ (S.length : Int) - recv then r = .returned (.tuple #[rq A S.length c room recv cl, .int .i64 9])
  else ∃ A' c', r = .returned (.tuple #[rq A' (S.length + 1) c' room recv cl, .int .i64 0]) ∧ w'.ownsRow w.heap.size 3 1 (.slice A' (S.length + 1) c') (S.length + 1) (nums .i64 (S ++ [x]))
theorem SendR.closed (w w' : World) (A : Option Addr) (S : List Int) (c : Nat) (room recv x : Int) : SendR w w' (.returned (.tuple #[.agg #[.int .i64 room, .slice A S.length c, .int .i64 recv, .bool true], .int .i64 11])) A S c room recv true x := by
  unfold SendR; rw [if_pos rfl]; rfl
theorem SendR.full (w w' : World) (A : Option Addr) (S : List Int) (c : Nat) (room recv x : Int) (h : room ≤ (S.length : Int) - recv) : SendR w w' (.returned (.tuple #[.agg #[.int .i64 room, .slice A S.length c, .int .i64 recv, .bool false], .int .i64 9])) A S c room recv false x := by
  unfold SendR; rw [if_neg (by simp), if_pos h]; rfl
theorem SendR.sent (w w' : World) (A : Option Addr) (S : List Int) (c : Nat) (room recv x : Int) (h : ¬ room ≤ (S.length : Int) - recv) (A' : Option Addr) (c' : Nat) (ho : w'.ownsRow w.heap.size 3 1 (.slice A' (S.length + 1) c') (S.length + 1) (nums .i64 (S ++ [x]))) :
    SendR w w' (.returned (.tuple #[.agg #[.int .i64 room, .slice A' (S.length + 1) c', .int .i64 recv, .bool false], .int .i64 0])) A S c room recv false x := by
  unfold SendR; rw [if_neg (by simp), if_neg h]; exact ⟨A', c', rfl, ho⟩
set_option maxRecDepth 100000 in
set_option maxHeartbeats 1000000 in
theorem rsend_calls (w : World) (A : Option Addr) (S : List Int) (c : Nat) (room : Int) (recv : Nat) (cl : Bool) (x : Int) (hr : ReadsInt w .i64 A S.length S) (hrec : recv ≤ S.length) (hS : S.length ≤ 1000000000) :
    Calls Try.prog 68 #[rq A S.length c room recv cl, .int .i64 x] w fun r w' => SendR w w' r A S c room recv cl x ∧ Below w.heap.size w w' := by
  unfold rq
  have hb1 := below2 w (.cells #[.int .i64 room, .slice A S.length c, .int .i64 recv, .bool cl] 102) (.cells #[.int .i64 0, .slice none 0 0, .int .i64 0, .bool false] 102)
  have hX : Blk ((w.alloc (.cells #[.int .i64 room, .slice A S.length c, .int .i64 recv, .bool cl] 102)).alloc (.cells #[.int .i64 0, .slice none 0 0, .int .i64 0, .bool false] 102)) w.heap.size (rqs A S.length c room recv cl) 102 := (Blk.new w (rqs A S.length c room recv cl) _).alloc _
  have hY : Blk ((w.alloc (.cells #[.int .i64 room, .slice A S.length c, .int .i64 recv, .bool cl] 102)).alloc (.cells #[.int .i64 0, .slice none 0 0, .int .i64 0, .bool false] 102)) (w.heap.size + 1) zq 102 := heap_alloc2_new w _ _
  have hs2 : ((w.alloc (.cells #[.int .i64 room, .slice A S.length c, .int .i64 recv, .bool cl] 102)).alloc (.cells #[.int .i64 0, .slice none 0 0, .int .i64 0, .bool false] 102)).heap.size = w.heap.size + 2 := by simp
  cases cl
  · have hsub : (0 : Int) ≤ (S.length : Int) - recv := by omega
    by_cases hfull : room ≤ (S.length : Int) - recv
    · have HFU := Lib.hid hfull
      clear hr
      go_enter Try.func68, Try.ntmps68
      go_upto_region 1 with (fail)
      generalize ((w.alloc (.cells #[.int .i64 room, .slice A S.length c, .int .i64 recv, .bool false] 102)).alloc (.cells #[.int .i64 0, .slice none 0 0, .int .i64 0, .bool false] 102)) = W at *
      obtain ⟨⟨x0, x1, x2, x3⟩, g0, g1, g2, g3⟩ := facts4 hX
      obtain ⟨⟨y0, y1, y2, y3⟩, f0, f1, f2, f3⟩ := facts4 hY
      have HX := Lib.hid hX
      have HY := Lib.hid hY
      have HB := Lib.hid hb1
      have HS2 := Lib.hid hs2
      clear hX hY hb1 hs2
      go_wp2
      exact bodyPost_ret (results_row_tmp rfl _ _ (w.heap.size + 1) _ _ (0, 0) _ rfl (set4 HY.out _ _ _ _) rfl Try.underlying102 (rq_info _ rfl)) rfl ⟨SendR.full _ _ _ _ _ _ _ _ HFU.out, below4 HB.out (by omega) _ _ _ _⟩
    · have HFU := Lib.hid hfull
      go_enter Try.func68, Try.ntmps68
      go_upto_region 1 with (fail)
      generalize ((w.alloc (.cells #[.int .i64 room, .slice A S.length c, .int .i64 recv, .bool false] 102)).alloc (.cells #[.int .i64 0, .slice none 0 0, .int .i64 0, .bool false] 102)) = W at *
      obtain ⟨⟨x0, x1, x2, x3⟩, g0, g1, g2, g3⟩ := facts4 hX
      obtain ⟨⟨y0, y1, y2, y3⟩, f0, f1, f2, f3⟩ := facts4 hY
      have HX := Lib.hid hX
      have HY := Lib.hid hY
      have HB := Lib.hid hb1
      have HS2 := Lib.hid hs2
      clear hX hY hb1 hs2
      have HRW := Lib.hid (ReadsInt.below hr HB.out)
      have hlen : (S ++ [x]).length = S.length + 1 := by simp
      have HN := Lib.hid hlen
      clear hlen hr
      have xa1 : (W.alloc (.cells #[] 3)).cell? ⟨w.heap.size, 1, none⟩ = some (.slice A S.length c) := Blk.cell (Blk.alloc HX.out (.cells #[] 3)) 1
      go_wp2_with (first
        | (at_builtin; refine print_append_row (w0 := W) W.heap.size rfl (.tmp 19) (.tmp 21) 27 3 .i64 8 rfl Try.underlying27 (by kernel_rfl) (by decide) _ [] S A S.length c rfl rfl (own_empty_i W W.heap.size (Nat.le_refl _)) (ReadsInt.below HRW.out ((Below.refl W.heap.size W).alloc (Nat.le_refl _) _)) ((Below.refl W.heap.size W).alloc (Nat.le_refl _) _) (by simp) (by simp; omega) ?_; intro v1 w1 ho1 hb1 hg1 ha1; obtain ⟨A1, c1, rfl, hc1⟩ := own_form ho1; rw [List.nil_append] at ho1 hc1 ⊢; have HO1 := Lib.hid ho1; have HB1 := Lib.hid hb1; clear ho1 hb1 hg1 ha1 xa1)
        | (at_builtin; refine print_append_row (w0 := W) W.heap.size rfl (.tmp 22) (.tmp 24) 27 3 .i64 8 rfl Try.underlying27 (by kernel_rfl) (by decide) _ S [x] (some ⟨w1.heap.size, 0, none⟩) 1 1 rfl rfl (HO1.out.alloc _) ⟨rfl, by simp, fun _ => ⟨_, rfl, fun j hj => by obtain rfl : j = 0 := by { simp at hj; exact hj }; exact World.news_of_block (cs := #[.int .i64 x]) (t := 3) (fr := (0, 0)) (heap_alloc_new w1 _) 0 _ rfl⟩⟩ (HB1.out.alloc HB1.out.size _) (by have := HB1.out.size; simp; omega) (by omega) ?_; intro v2 w2 ho2 hb2 hg2 ha2; obtain ⟨A2, c2, rfl, hc2⟩ := own_form ho2; have HO2 := Lib.hid ho2; have HB2 := Lib.hid hb2; clear ho2 hb2 hg2 ha2; have hX2 := HX.out.below HB2.out HX.out.lt; obtain ⟨⟨m0, m1, m2, m3⟩, n0, n1, n2, n3⟩ := facts4 hX2; have hY2 := HY.out.below HB2.out HY.out.lt; obtain ⟨⟨o0, o1, o2, o3⟩, p0, p1, p2, p3⟩ := facts4 hY2; clear x0 x1 x2 x3 g0 g1 g2 g3 y0 y1 y2 y3 f0 f1 f2 f3; have HX2 := Lib.hid hX2; have HY2 := Lib.hid hY2; clear hX2 hY2))
      exact bodyPost_ret (results_row_tmp rfl _ _ (w.heap.size + 1) _ _ (0, 0) _ rfl (set4 (HY2.out.other (a := ⟨w.heap.size, 1, none⟩) (by simp) _) _ _ _ _) rfl Try.underlying102 (rq_info _ rfl)) rfl ⟨SendR.sent _ _ _ _ _ _ _ _ (Int.not_le.2 HFU.out) A2 c2 (own_five (by have := HO2.out; rw [HS2.out, HN.out] at this; exact this) _ _ _ _ _), below4 (bset (by omega) (HB.out.trans (HB2.out.mono HB.out.size))) (by omega) _ _ _ _⟩
  · go_enter Try.func68, Try.ntmps68
    go_upto_region 1 with (fail)
    generalize ((w.alloc (.cells #[.int .i64 room, .slice A S.length c, .int .i64 recv, .bool true] 102)).alloc (.cells #[.int .i64 0, .slice none 0 0, .int .i64 0, .bool false] 102)) = W at *
    obtain ⟨⟨x0, x1, x2, x3⟩, g0, g1, g2, g3⟩ := facts4 hX
    obtain ⟨⟨y0, y1, y2, y3⟩, f0, f1, f2, f3⟩ := facts4 hY
    have HX := Lib.hid hX
    have HY := Lib.hid hY
    have HB := Lib.hid hb1
    have HS2 := Lib.hid hs2
    clear hX hY hb1 hs2
    go_wp2
    exact bodyPost_ret (results_row_tmp rfl _ _ (w.heap.size + 1) _ _ (0, 0) _ rfl (set4 HY.out _ _ _ _) rfl Try.underlying102 (rq_info _ rfl)) rfl ⟨SendR.closed _ _ _ _ _ _ _ _, below4 HB.out (by omega) _ _ _ _⟩
end Go.Proofs.Ytndciilmnnaemaa.DqI
