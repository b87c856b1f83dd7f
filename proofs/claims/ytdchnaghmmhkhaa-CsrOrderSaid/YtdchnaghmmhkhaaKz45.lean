/- Printed by shake.py. -/
import Derived.Test.YtdchnaghmmhkhaaKz44
import Derived.Test.YtdchnaghmmhkhaaKz24
import Derived.Test.YtdchnaghmmhkhaaKz26
import Derived.Laws.OwnMore
import Derived.Lib.OwnBridge
set_option linter.unusedSimpArgs false
namespace Go.Proofs.Ytdchnaghmmhkhaa.Cs.Au
open Go.Shelf Go.RowKit Go.Lib Go.Sort Go.Proofs.Ytdchnaghmmhkhaa.RowAt Go.Proofs.Ytdchnaghmmhkhaa.Stab Go.Proofs.Ytdchnaghmmhkhaa.Stab.Au Go.Proofs.Ytdchnaghmmhkhaa.PCsrGraphs Go.Proofs.YtdchnaghmmhkhaaW.PrintWords Go.Proofs.YtdchnaghmmhkhaaW.PrintLast
set_option linter.unusedSectionVars false
set_option linter.unusedVariables false
def enc1 (x : Ar) : List Value := [.int .i64 x.f0, .int .i64 x.f1, .int .u8 x.f2]
def enc (x : Ar × Nat) : List Value := [.int .i64 x.1.f0, .int .i64 x.1.f1, .int .u8 x.1.f2]
theorem enc_len (x : Ar × Nat) : (enc x).length = 3 := rfl
theorem enc1_len (x : Ar) : (enc1 x).length = 3 := rfl
theorem enc_one (x : Ar × Nat) : ∀ v ∈ enc x, v.oneCell' = true := by
 intro v hv
 simp only [enc, List.mem_cons, List.mem_nil_iff, or_false] at hv
 rcases hv with rfl | rfl | rfl <;> rfl
theorem enc1_one (x : Ar) : ∀ v ∈ enc1 x, v.oneCell' = true := enc_one (x, 0)
def zc : Array Value := #[.int .i64 0, .int .i64 0, .int .u8 0]
theorem arc_info : (Try.prog.info? 55).map (fun i => (i.zero, i.size, i.bytes)) = some (some (.agg #[(.int .i64 0), (.int .i64 0), (.int .u8 0)]), 3, 24) := by kernel_rfl
theorem lt : LT Try.prog 3 where
 mixed := by kernel_rfl
 t0 := Try.underlying0
 a0 := Try.isAgg0
 z0 := Try.sizeOf0
 v0 := Try.zeroValue0
 t3 := Try.underlying3
 a3 := Try.isAgg3
 z3 := Try.sizeOf3
 v3 := Try.zeroValue3
 t4 := Try.underlying4
 a4 := Try.isAgg4
 z4 := Try.sizeOf4
 v4 := Try.zeroValue4
 t22 := Try.underlying51
 a22 := Try.isAgg51
 z22 := Try.sizeOf51
 v22 := Try.zeroValue51
 t25 := Try.underlying86
 a25 := Try.isAgg86
 z25 := Try.sizeOf86
 v25 := Try.zeroValue86
 t57 := Try.underlying82
 a57 := Try.isAgg82
 z57 := Try.sizeOf82
 v57 := Try.zeroValue82
 aE := Try.isAgg55
 zE := Try.sizeOf55
theorem lu : ∃ i0, LU Try.prog 3 zc 24 i0 := by
 obtain ⟨i0, hi, h0⟩ := Option.map_eq_some_iff.1 arc_info
 simp only [Prod.mk.injEq] at h0
 refine ⟨i0, ?_⟩
 exact {
  t42 := Try.underlying74
  a42 := Try.isAgg74
  z42 := Try.sizeOf74
  v42 := Try.zeroValue74
  vE := Try.zeroValue55
  hz := rfl
  hz1 := by
   intro v hv
   simp only [zc, Array.mem_toList_iff, List.mem_toArray, List.mem_cons, List.mem_nil_iff, or_false] at hv
   rcases hv with rfl | rfl | rfl <;> rfl
  hk := by decide
  hi := hi
  hi0 := h0.1
  hi1 := h0.2.1
  hi2 := h0.2.2 }
set_option maxHeartbeats 1000000 in
set_option maxRecDepth 1000000 in
theorem joined1 : PredB Try.prog 49 #[] enc bad := by
 intro W x
 have hb : bad x = (x.1.f0 == x.1.f1 || x.1.f2 == 0) := by
  unfold bad
  by_cases h1 : x.1.f0 = x.1.f1 <;> by_cases h2 : x.1.f2 = 0 <;> simp [h1, h2]
 rw [hb]
 go_enter Try.func49, Try.ntmps49
 unfold enc
 go_wp2
 all_goals go_ret
 all_goals refine ⟨?_, (Below.refl _ W).alloc (Nat.le_refl _) _⟩
 all_goals first | rfl | (show Ending.returned (Value.bool true) = _; simp [*])
def RgSt.T : Bool × List (List Nat × List Nat) := (true, [([], []), ([0], [0]), ([], []), ([2], [2]), ([1, 3], [1, 3]), ([], []), ([5], [5]), ([], []), ([7], [7]), ([6, 8, 4], [6, 8]), ([4, 9], [4, 9]), ([10, 9], [10]), ([11, 11, 0, 1, 2, 3, 4, 5, 6, 7, 8, 9, 10, 11], [11])])
def RgSt.B : List Nat := [0, 1, 0, 4, 15, 0, 32, 0, 128, 511, 1023, 2047, 4095]
theorem RgSt.tab : rtab .any (opsOf Try.f51 1) = RgSt.T := by kernel_rfl
theorem RgSt.bits : waitsOk RgSt.T.2 RgSt.B = true := by kernel_rfl
set_option maxHeartbeats 4000000 in
set_option maxRecDepth 1000000 in
theorem stands (W : World) (x y : Ar × Nat) : Calls Try.prog 51 #[.agg (enc x).toArray, .agg (enc y).toArray] W fun e w' => e = .returned (.int .i64 (cf x y)) ∧ Gw W w' := by
 have FIN : Aside (∀ w', Gw ((W.alloc (.cells (enc x).toArray 55)).alloc (.cells (enc y).toArray 55)) w' → Gw W w') := fun w' h => (((Gw.refl W).alloc _).alloc _).trans h
 have FX0 : ∀ w', Gw ((W.alloc (.cells (enc x).toArray 55)).alloc (.cells (enc y).toArray 55)) w' → w'.cell? ⟨W.heap.size, 0, none⟩ = some (.int .i64 x.1.f0) ∧ w'.cell? ⟨W.heap.size, 1, none⟩ = some (.int .i64 x.1.f1) ∧ w'.cell? ⟨W.heap.size + 1, 0, none⟩ = some (.int .i64 y.1.f0) ∧ w'.cell? ⟨W.heap.size + 1, 1, none⟩ = some (.int .i64 y.1.f1) := fun w' h => by
  have b1 := (Blk.new W (enc x) 55).alloc (.cells (enc y).toArray 55)
  have b2 := Blk.new (W.alloc (.cells (enc x).toArray 55)) (enc y) 55
  rw [World.size_alloc] at b2
  exact ⟨h.cell ((b1.cell 0).trans rfl), h.cell ((b1.cell 1).trans rfl), h.cell ((b2.cell 0).trans rfl), h.cell ((b2.cell 1).trans rfl)⟩
 have FX := Lib.hid FX0
 have HC1 : Hid (∀ (B w : World), Gw B w → Calls Try.prog 34 #[.int .i64 x.1.f0, .int .i64 y.1.f0] w fun e w' => e = .returned (.int .i64 (cmpI x.1.f0 y.1.f0)) ∧ Gw B w') := Lib.hid fun B w h => (compare _ _ w).mono fun e w' ⟨he, hd⟩ => ⟨he, h.drawn hd⟩
 have HC2 : Hid (∀ (B w : World), Gw B w → Calls Try.prog 34 #[.int .i64 x.1.f1, .int .i64 y.1.f1] w fun e w' => e = .returned (.int .i64 (cmpI x.1.f1 y.1.f1)) ∧ Gw B w') := Lib.hid fun B w h => (compare _ _ w).mono fun e w' ⟨he, hd⟩ => ⟨he, h.drawn hd⟩
 clear FX0
 go_enter Try.func51, Try.ntmps51
 unfold enc at FX FIN ⊢
 go_wp2_with fail
 have HC3 : Hid (∀ (B w : World) (b : Nat), w.cell? ⟨b, 0, none⟩ = some (.int .i64 (cmpI x.1.f0 y.1.f0)) → w.cell? ⟨b, 1, none⟩ = some (.int .i64 (cmpI x.1.f1 y.1.f1)) → Gw B w → Calls Try.prog 53 #[.slice (some ⟨b, 0, none⟩) 2 2] w fun e w' => e = .returned (.int .i64 (cf x y)) ∧ Gw B w') := Lib.hid fun B w b h0 h1 h => (cmpOr ⟨b, 0, none⟩ 2 _ _ w h0 h1 (by decide)).mono fun e w' ⟨he, hd⟩ => ⟨by rw [he]; rfl, h.drawn hd⟩
 generalize (W.alloc (.cells #[.int .i64 x.1.f0, .int .i64 x.1.f1, .int .u8 x.1.f2] 55)).alloc (.cells #[.int .i64 y.1.f0, .int .i64 y.1.f1, .int .u8 y.1.f2] 55) = W2 at FX FIN ⊢
 refine start_ (n := 13) (S := fun w' => Gw W2 w') (ds := []) #[false, false, false, false, false, false, false, false, false, false, false, false, false] (by kernel_rfl) rfl rfl (Gw.refl W2).drew (fun hHeld => ?_)
 refine with_tabW RgSt.tab RgSt.bits (fun HT_ HW_ => ?_)
 refine pure_ (i := 0) (N := some 5) (v := ?_) (a' := ?_) #[true, false, false, false, false, false, false, false, false, false, false, false, false] rfl rfl (any_of HT_.out (by kernel_rfl)) (fun _ _ _ h => h) (Or.inl ⟨by rfl, ?_⟩) ?_ ?_
 rotate_left
 ·intro w'
  go_simp
  with_reducible rfl
 rotate_left
 ·simp only [Act.put, List.setIfInBounds_toArray, List.set_cons_zero, List.set_cons_succ, i64_w, i32_w]
  rfl
 refine take_ (i := 1) (N := some 6) (v := ?_) (a' := ?_) #[true, true, false, false, false, false, false, false, false, false, false, false, false] rfl rfl (take_ofW HT_.out HW_.out (by kernel_rfl)) (fun _ _ _ h => h) (Or.inl ⟨by rfl, ?_⟩) hHeld ?_ ?_
 rotate_left
 ·intro w' hW
  obtain ⟨s0, s1, s2, s3⟩ := FX.out w' hW
  go_simp
  with_reducible rfl
 rotate_left
 ·simp only [Act.put, List.setIfInBounds_toArray, List.set_cons_zero, List.set_cons_succ, i64_w, i32_w]
  rfl
 refine pure_ (i := 2) (N := some 7) (v := ?_) (a' := ?_) #[true, true, true, false, false, false, false, false, false, false, false, false, false] rfl rfl (any_of HT_.out (by kernel_rfl)) (fun _ _ _ h => h) (Or.inl ⟨by rfl, ?_⟩) ?_ ?_
 rotate_left
 ·intro w'
  go_simp
  with_reducible rfl
 rotate_left
 ·simp only [Act.put, List.setIfInBounds_toArray, List.set_cons_zero, List.set_cons_succ, i64_w, i32_w]
  rfl
 refine take_ (i := 3) (N := some 8) (v := ?_) (a' := ?_) #[true, true, true, true, false, false, false, false, false, false, false, false, false] rfl rfl (take_ofW HT_.out HW_.out (by kernel_rfl)) (fun _ _ _ h => h) (Or.inl ⟨by rfl, ?_⟩) hHeld ?_ ?_
 rotate_left
 ·intro w' hW
  obtain ⟨s0, s1, s2, s3⟩ := FX.out w' hW
  go_simp
  with_reducible rfl
 rotate_left
 ·simp only [Act.put, List.setIfInBounds_toArray, List.set_cons_zero, List.set_cons_succ, i64_w, i32_w]
  rfl
 refine pure_ (i := 5) (N := some 10) (v := ?_) (a' := ?_) #[true, true, true, true, false, true, false, false, false, false, false, false, false] rfl rfl (any_of HT_.out (by kernel_rfl)) (fun _ _ _ h => h) (Or.inl ⟨by rfl, ?_⟩) ?_ ?_
 rotate_left
 ·intro w'
  go_simp
  with_reducible rfl
 rotate_left
 ·simp only [Act.put, List.setIfInBounds_toArray, List.set_cons_zero, List.set_cons_succ, i64_w, i32_w]
  rfl
 refine take_ (i := 6) (N := some 11) (v := ?_) (a' := ?_) #[true, true, true, true, false, true, true, false, false, false, false, false, false] rfl rfl (take_ofW HT_.out HW_.out (by kernel_rfl)) (fun _ _ _ h => h) (Or.inl ⟨by rfl, ?_⟩) hHeld ?_ ?_
 rotate_left
 ·intro w' hW
  obtain ⟨s0, s1, s2, s3⟩ := FX.out w' hW
  go_simp
  with_reducible rfl
 rotate_left
 ·simp only [Act.put, List.setIfInBounds_toArray, List.set_cons_zero, List.set_cons_succ, i64_w, i32_w]
  rfl
 refine pure_ (i := 7) (N := some 12) (v := ?_) (a' := ?_) #[true, true, true, true, false, true, true, true, false, false, false, false, false] rfl rfl (any_of HT_.out (by kernel_rfl)) (fun _ _ _ h => h) (Or.inl ⟨by rfl, ?_⟩) ?_ ?_
 rotate_left
 ·intro w'
  go_simp
  with_reducible rfl
 rotate_left
 ·simp only [Act.put, List.setIfInBounds_toArray, List.set_cons_zero, List.set_cons_succ, i64_w, i32_w]
  rfl
 refine take_ (i := 8) (N := some 13) (v := ?_) (a' := ?_) #[true, true, true, true, false, true, true, true, true, false, false, false, false] rfl rfl (take_ofW HT_.out HW_.out (by kernel_rfl)) (fun _ _ _ h => h) (Or.inl ⟨by rfl, ?_⟩) hHeld ?_ ?_
 rotate_left
 ·intro w' hW
  obtain ⟨s0, s1, s2, s3⟩ := FX.out w' hW
  go_simp
  with_reducible rfl
 rotate_left
 ·simp only [Act.put, List.setIfInBounds_toArray, List.set_cons_zero, List.set_cons_succ, i64_w, i32_w]
  rfl
 refine one_ (i := 4) (N := some 9) #[true, true, true, true, true, true, true, true, true, false, false, false, false] rfl rfl (one_of HT_.out (by kernel_rfl)) (by decide) (fun K hK => ?_)
 refine goes_ Try.func34 (by kernel_rfl) rfl #[.int .i64 x.1.f0, .int .i64 y.1.f0] (by rfl) rfl rfl (by (try simp only [List.map_toArray, List.map_cons, List.map_nil]); first | done | rfl) ?_
 refine (HC1.out _ _ hHeld).mono ?_
 rintro e_ w_1 ⟨rfl, hH_⟩
 refine ⟨_, rfl, ?_⟩
 refine hK.out _ _ hH_ (fun hHeld => ?_)
 clear hK K hH_
 refine norm_ (a' := ?_) ?_ ?_
 rotate_left
 ·show Act.put _ (some 9) _ = _
  simp only [Act.put, List.setIfInBounds_toArray, List.set_cons_zero, List.set_cons_succ, i64_w, i32_w]
  rfl
 refine one_ (i := 9) (N := some 14) #[true, true, true, true, true, true, true, true, true, true, false, false, false] rfl rfl (one_of HT_.out (by kernel_rfl)) (by decide) (fun K hK => ?_)
 refine goes_ Try.func34 (by kernel_rfl) rfl #[.int .i64 x.1.f1, .int .i64 y.1.f1] (by rfl) rfl rfl (by (try simp only [List.map_toArray, List.map_cons, List.map_nil]); first | done | rfl) ?_
 refine (HC2.out _ _ hHeld).mono ?_
 rintro e_ w_2 ⟨rfl, hH_⟩
 refine ⟨_, rfl, ?_⟩
 refine hK.out _ _ hH_ (fun hHeld => ?_)
 clear hK K hH_
 refine norm_ (a' := ?_) ?_ ?_
 rotate_left
 ·show Act.put _ (some 14) _ = _
  simp only [Act.put, List.setIfInBounds_toArray, List.set_cons_zero, List.set_cons_succ, i64_w, i32_w]
  rfl
 refine one_ (i := 10) (N := some 15) #[true, true, true, true, true, true, true, true, true, true, true, false, false] rfl rfl (one_of HT_.out (by kernel_rfl)) (by decide) (fun K hK => ?_)
 refine value_ (v := .slice (some ⟨w_2.heap.size, 0, none⟩) 2 2) (w1 := w_2.alloc (.cells #[.int .i64 (cmpI x.1.f0 y.1.f0), .int .i64 (cmpI x.1.f1 y.1.f1)] 3)) (by rfl) rfl (by first | (go_simp; done) | (go_simp; rfl)) ?_
 have hB := Blk.new w_2 [.int .i64 (cmpI x.1.f0 y.1.f0), .int .i64 (cmpI x.1.f1 y.1.f1)] 3
 have hn_ := hHeld.alloc (.cells #[.int .i64 (cmpI x.1.f0 y.1.f0), .int .i64 (cmpI x.1.f1 y.1.f1)] 3)
 refine hK.out _ _ hn_ (fun hHeld => ?_)
 clear hK K hn_
 refine norm_ (a' := ?_) ?_ ?_
 rotate_left
 ·show Act.put _ (some 15) _ = _
  simp only [Act.put, List.setIfInBounds_toArray, List.set_cons_zero, List.set_cons_succ, i64_w, i32_w]
  rfl
 refine one_ (i := 11) (N := some 16) #[true, true, true, true, true, true, true, true, true, true, true, true, false] rfl rfl (one_of HT_.out (by kernel_rfl)) (by decide) (fun K hK => ?_)
 refine goes_ Try.func53 (by kernel_rfl) rfl #[.slice (some ⟨w_2.heap.size, 0, none⟩) 2 2] (by rfl) rfl rfl (by (try simp only [List.map_toArray, List.map_cons, List.map_nil]); first | done | rfl) ?_
 refine (HC3.out _ _ _ ((hB.cell 0).trans rfl) ((hB.cell 1).trans rfl) hHeld).mono ?_
 rintro e_ w_3 ⟨rfl, hH_⟩
 refine ⟨_, rfl, ?_⟩
 refine hK.out _ _ hH_ (fun hHeld => ?_)
 clear hK K hH_
 refine norm_ (a' := ?_) ?_ ?_
 rotate_left
 ·show Act.put _ (some 16) _ = _
  simp only [Act.put, List.setIfInBounds_toArray, List.set_cons_zero, List.set_cons_succ, i64_w, i32_w]
  rfl
 refine pure_ (i := 12) (N := some 4) (v := ?_) (a' := ?_) #[true, true, true, true, true, true, true, true, true, true, true, true, true] rfl rfl (any_of HT_.out (by kernel_rfl)) (fun _ _ _ h => h) (Or.inl ⟨by rfl, ?_⟩) ?_ ?_
 rotate_left
 ·intro w'
  go_simp
  with_reducible rfl
 rotate_left
 ·simp only [Act.put, List.setIfInBounds_toArray, List.set_cons_zero, List.set_cons_succ, i64_w, i32_w]
  rfl
 refine done_ (done_of HT_.out (by kernel_rfl)) ?_
 go_wp2
 go_ret
 exact ⟨rfl, FIN.out _ hHeld⟩
end Go.Proofs.Ytdchnaghmmhkhaa.Cs.Au
set_option linter.unusedSimpArgs false
namespace Go.Proofs.Ytdchnaghmmhkhaa.Cs.Au
open Go.Shelf Go.RowKit Go.Lib Go.Sort Go.Proofs.Ytdchnaghmmhkhaa.RowAt Go.Proofs.Ytdchnaghmmhkhaa.Stab Go.Proofs.Ytdchnaghmmhkhaa.Stab.Au Go.Proofs.Ytdchnaghmmhkhaa.PCsrGraphs Go.Proofs.YtdchnaghmmhkhaaW.PrintWords
set_option linter.unusedSectionVars false
set_option linter.unusedVariables false
def At3 (w : World) (b o : Nat) (x : Ar) : Prop := w.cell? ⟨b, o, none⟩ = some (.int .i64 x.f0) ∧ w.cell? ⟨b, o + 1, none⟩ = some (.int .i64 x.f1) ∧ w.cell? ⟨b, o + 2, none⟩ = some (.int .u8 x.f2)
def Reads (w : World) (A : Option Addr) (D : List Ar) : Prop := D ≠ [] → ∃ b o, A = some ⟨b, o, none⟩ ∧ ∀ i x, D[i]? = some x → At3 w b (o + i * 3) x
theorem Reads.keep {w w' : World} {A : Option Addr} {D : List Ar} (h : Reads w A D) (hk : ∀ a v, w.cell? a = some v → w'.cell? a = some v) : Reads w' A D := fun hD => by
 obtain ⟨b, o, e, hc⟩ := h hD
 exact ⟨b, o, e, fun i x hx => ⟨hk _ _ (hc i x hx).1, hk _ _ (hc i x hx).2.1, hk _ _ (hc i x hx).2.2⟩⟩
theorem cell_lt {w : World} {a : Addr} {v : Value} (hc : w.cell? a = some v) : a.block < w.heap.size := by
 unfold World.cell? at hc
 rcases Nat.lt_or_ge a.block w.heap.size with h | h
 ·exact h
 ·rw [Array.getElem?_eq_none h] at hc; cases hc
theorem below_cell {w w' : World} (hb : Below w.heap.size w w') : ∀ a v, w.cell? a = some v → w'.cell? a = some v := fun a v hc => by
 rw [hb.cell (cell_lt hc)]; exact hc
theorem Reads.below {w w' : World} {A : Option Addr} {D : List Ar} (h : Reads w A D) (hb : Below w.heap.size w w') : Reads w' A D := h.keep (below_cell hb)
theorem Row.at3 {w : World} {g o : Nat} {D : List Ar} (h : Row enc1 3 w g o D) {i : Nat} {x : Ar} (hx : D[i]? = some x) : At3 w g (o + i * 3) x :=
 ⟨(h i x hx 0 _ rfl).1, (h i x hx 1 _ rfl).1, (h i x hx 2 _ rfl).1⟩
theorem Reads.row {w : World} {g : Nat} {D : List Ar} (h : Row enc1 3 w g 0 D) : Reads w (some ⟨g, 0, none⟩) D := fun _ => ⟨g, 0, rfl, fun i x hx => Row.at3 h hx⟩
def outB (n v : Int) : Bool := decide (v < 0) || decide (v ≥ n)
def outA (n : Int) (x : Ar) : Bool := outB n x.f0 || outB n x.f1
set_option maxHeartbeats 1000000 in
set_option maxRecDepth 1000000 in
theorem new1 (n v : Int) (p : Addr) (w : World) (hp : w.cell? p = some (.int .i64 n)) : Calls Try.prog 36 (#[.int .i64 v] ++ #[.pointer (some p)]) w fun e w' => e = .returned (.bool (outB n v)) ∧ w' = w := by
 go_enter Try.func36, Try.ntmps36
 go_wp2
 all_goals go_ret
 all_goals refine ⟨?_, rfl⟩
 all_goals first | rfl | (show Ending.returned (Value.bool true) = _; unfold outB; simp [*])
set_option maxHeartbeats 1000000 in
set_option maxRecDepth 1000000 in
theorem new2 (n : Int) (x : Ar) (p q : Addr) (w : World) (hp : w.cell? p = some (.int .i64 n)) (hq : w.cell? q = some (.func (.func 36) #[] #[.pointer (some p)])) : Calls Try.prog 38 (#[.agg (enc1 x).toArray] ++ #[.pointer (some q)]) w fun e w' => e = .returned (.bool (outA n x)) ∧ Below w.heap.size w w' := by
 have e1 : ∀ args w, (callFunc 36 args).run Try.prog w = .ok (.enter 36 args) w := enters_of Try.func36 (by kernel_rfl) rfl
 have hp' : (w.alloc (.cells (enc1 x).toArray 55)).cell? p = some (.int .i64 n) := Lib.cell?_alloc_some _ hp
 have hq' : (w.alloc (.cells (enc1 x).toArray 55)).cell? q = some (.func (.func 36) #[] #[.pointer (some p)]) := Lib.cell?_alloc_some _ hq
 have hB : Aside (Below w.heap.size w (w.alloc (.cells (enc1 x).toArray 55))) := (Below.refl _ w).alloc (Nat.le_refl _) _
 unfold enc1 at hp' hq' hB ⊢
 have HC := Lib.hid (fun v w hp => new1 n v p w hp)
 cases h1 : outB n x.f0 with
 | true =>
  have hr : outA n x = true := by unfold outA; rw [h1]; rfl
  rw [hr]
  go_enter Try.func38, Try.ntmps38
  go_wp2_with (go_at_fn 36; refine (HC.out _ _ hp').mono ?_; rintro e w' ⟨rfl, rfl⟩; rw [h1])
  go_ret
  exact ⟨rfl, hB.out⟩
 | false =>
  have hr : outA n x = outB n x.f1 := by unfold outA; rw [h1]; rfl
  rw [hr]
  go_enter Try.func38, Try.ntmps38
  go_wp2_with (go_at_fn 36; refine (HC.out _ _ hp').mono ?_; rintro e w' ⟨rfl, rfl⟩; first | rw [h1] | skip)
  go_ret
  exact ⟨rfl, hB.out⟩
set_option maxHeartbeats 1000000 in
set_option maxRecDepth 1000000 in
theorem indexFunc_w (g : Nat) (cb : Array Value) (p : Ar → Bool) (A : Option Addr) (cap : Nat) (D : List Ar) (w : World) (eg : ∀ args w, (callFunc g args).run Try.prog w = .ok (.enter g args) w)
 (hp : ∀ W, Below w.heap.size w W → ∀ x, Calls Try.prog g (#[.agg (enc1 x).toArray] ++ cb) W fun e w' => e = .returned (.bool (p x)) ∧ Below W.heap.size W w') (R : Reads w A D) (hsz : D.length < 1152921504606846976) :
 Calls Try.prog 47 #[.slice A D.length cap, .func (.func g) #[] cb] w fun e w' => (∃ i : Int, e = .returned (.int .i64 i) ∧ decide (i ≥ 0) = D.any p) ∧ Below w.heap.size w w' := by
 obtain ⟨N, hN⟩ : ∃ N, D.length = N := ⟨_, rfl⟩
 have HN := Lib.hid hN
 have HR : Aside (Reads w A D) := R
 have HP := Lib.hid hp
 rw [hN] at hsz ⊢
 clear R hp hN
 go_enter Try.func47, Try.ntmps47
 go_wp2
 go_loopg [5, 8] N (fun gg _ s8 wr => ∃ kk : Nat, s8 = .int .i64 kk ∧ kk ≤ N ∧ N - kk ≤ gg ∧ Aside (Below w.heap.size w wr) ∧ Aside (∀ y ∈ D.take kk, p y = false))
 case atStart => exact ⟨0, rfl, by omega, by omega, Below.refl _ w, fun y hy => by simp at hy⟩
 case round =>
  obtain ⟨kk, rfl, hkk, hg, BW, AA⟩ := hrel
  by_cases hlt : kk < N
  ·have hltz : (kk : Int) < (N : Int) := by omega
   have hD : D[kk]? = some (D[kk]'(by rw [HN.out]; exact hlt)) := List.getElem?_eq_getElem _
   generalize (D[kk]'(by rw [HN.out]; exact hlt)) = y at hD
   obtain ⟨b, o, rfl, hcell⟩ := HR.out (by intro e; rw [e] at hD; cases hD)
   obtain ⟨q0, q1, q2⟩ := hcell _ _ hD
   have l0 := below_cell BW.out _ _ q0
   have l1 := below_cell BW.out _ _ q1
   have l2 := below_cell BW.out _ _ q2
   clear q0 q1 q2
   have hcall := HP.out wr BW.out y
   have hsplit : D = D.take kk ++ y :: D.drop (kk + 1) := by
    obtain ⟨h1, h2⟩ := List.getElem?_eq_some_iff.1 hD
    rw [← h2, ← List.drop_eq_getElem_cons h1, List.take_append_drop]
   have HSP := Lib.hid hsplit
   clear hsplit hD hcell
   unfold enc1 at hcall
   cases hq : p y with
   | true =>
    rw [hq] at hcall
    go_wp2_with (go_at_fn g; refine hcall.mono ?_; rintro e w' ⟨rfl, hb'⟩)
    go_ret
    refine ⟨⟨kk, rfl, ?_⟩, BW.out.trans (hb'.mono BW.out.size)⟩
    rw [HSP.out, List.any_append, List.any_cons, hq, Bool.true_or, Bool.or_true]
    simp
   | false =>
    rw [hq] at hcall
    go_wp2_with (go_at_fn g; refine hcall.mono ?_; rintro e w' ⟨rfl, hb'⟩)
    go_roundg (N - (kk + 1))
    case measure => omega
    case rel =>
     refine ⟨kk + 1, by go_num, by omega, Nat.le_refl _, BW.out.trans (hb'.mono BW.out.size), (show Aside _ from fun x hx => ?_)⟩
     have h2 := HSP.out
     rw [h2, List.take_append, List.length_take, HN.out, Nat.min_eq_left (by omega), show kk + 1 - kk = 1 by omega, List.take_of_length_le (by rw [List.length_take]; omega)] at hx
     rcases List.mem_append.1 hx with hx | hx
     ·exact AA.out x hx
     ·have : x = y := by simpa using hx
      rw [this]; exact hq
  ·have hltz : ¬ (kk : Int) < (N : Int) := by omega
   have hkN : kk = N := by omega
   subst hkN
   go_wp2
   go_ret
   refine ⟨⟨-1, rfl, ?_⟩, BW.out⟩
   have h2 : D.any p = false := by
    rw [List.any_eq_false]
    intro x hx
    rw [AA.out x (by rw [List.take_of_length_le (by rw [HN.out]; exact Nat.le_refl _)]; exact hx)]
    exact Bool.false_ne_true
   rw [h2]; rfl
set_option maxHeartbeats 1000000 in
set_option maxRecDepth 1000000 in
theorem containsFunc_w (g : Nat) (cb : Array Value) (p : Ar → Bool) (A : Option Addr) (cap : Nat) (D : List Ar) (w : World) (eg : ∀ args w, (callFunc g args).run Try.prog w = .ok (.enter g args) w)
 (hp : ∀ W, Below w.heap.size w W → ∀ x, Calls Try.prog g (#[.agg (enc1 x).toArray] ++ cb) W fun e w' => e = .returned (.bool (p x)) ∧ Below W.heap.size W w') (R : Reads w A D) (hsz : D.length < 1152921504606846976) :
 Calls Try.prog 37 #[.slice A D.length cap, .func (.func g) #[] cb] w fun e w' => e = .returned (.bool (D.any p)) ∧ Below w.heap.size w w' := by
 have e1 : ∀ args w, (callFunc 47 args).run Try.prog w = .ok (.enter 47 args) w := enters_of Try.func47 (by kernel_rfl) rfl
 have HC := Lib.hid (indexFunc_w g cb p A cap D w eg hp R hsz)
 clear hp R
 generalize D.any p = r at HC ⊢
 go_enter Try.func37, Try.ntmps37
 go_wp2_with (go_at_fn 47; refine HC.out.mono ?_; rintro e w' ⟨⟨i, rfl, hi⟩, hb⟩)
 go_ret
 exact ⟨by rw [← hi]; rfl, hb⟩
end Go.Proofs.Ytdchnaghmmhkhaa.Cs.Au
set_option linter.unusedSimpArgs false
namespace Go.Proofs.Ytdchnaghmmhkhaa.Cs.Au
open Go.Shelf Go.RowKit Go.Lib Go.Sort Go.Proofs.Ytdchnaghmmhkhaa.RowAt Go.Proofs.Ytdchnaghmmhkhaa.Stab Go.Proofs.Ytdchnaghmmhkhaa.Stab.Au
set_option linter.unusedSectionVars false
set_option linter.unusedVariables false
set_option maxRecDepth 1000000 in
theorem clone_nil (n c : Nat) (w : World) : Calls Try.prog 40 #[.slice none n c] w fun e w' => e = .returned (.slice none 0 0) ∧ w' = w := by
 have q22 : ∀ (w : World) (a : Option Addr) (n c n' c' : Nat), (binOp .eql 51 (.slice a n c) (.slice none n' c')).run Try.prog w = .ok (.bool a.isNone) w := fun w a n c n' c' => Lib.run_eql_slice_nil w _ _ a n c n' c' lt.t22
 go_enter Try.func40, Try.ntmps40
 go_wp2
 go_ret
 exact ⟨rfl, rfl⟩
set_option maxRecDepth 1000000 in
theorem index_nil (f : Value) (w : World) : Calls Try.prog 47 #[.slice none 0 0, f] w fun e w' => e = .returned (.int .i64 (-1)) ∧ w' = w := by
 go_enter Try.func47, Try.ntmps47
 go_wp2
 go_loopg [5, 8] 1 (fun gg _ s8 wr => s8 = .int .i64 0 ∧ wr = w)
 case atStart => exact ⟨rfl, rfl⟩
 case round =>
  obtain ⟨rfl, rfl⟩ := hrel
  go_wp2
  go_ret
  exact ⟨rfl, rfl⟩
set_option maxRecDepth 1000000 in
theorem delete_nil (f : Value) (w : World) : Calls Try.prog 48 #[.slice none 0 0, f] w fun e w' => e = .returned (.slice none 0 0) ∧ w' = w := by
 have e33 : ∀ args w, (callFunc 47 args).run Try.prog w = .ok (.enter 47 args) w := enters_of Try.func47 (by kernel_rfl) rfl
 go_enter Try.func48, Try.ntmps48
 go_wp2_with (go_at_fn 47; refine (index_nil _ _).mono ?_; rintro e w' ⟨rfl, rfl⟩)
 go_ret
 exact ⟨rfl, rfl⟩
set_option maxRecDepth 1000000 in
theorem insertion_nil (f : Value) (w : World) : Calls Try.prog 57 #[.slice none 0 0, .int .i64 0, .int .i64 0, f] w fun e w' => e = .returned (.tuple #[]) ∧ w' = w := by
 go_enter Try.func57, Try.ntmps57
 go_wp2
 go_loopg [8, 9] 1 (fun gg s8 _ wr => s8 = .int .i64 1 ∧ wr = w)
 case atStart => exact ⟨rfl, rfl⟩
 case round =>
  obtain ⟨rfl, rfl⟩ := hrel
  go_wp2
  go_end0
  exact ⟨rfl, rfl⟩
set_option maxRecDepth 1000000 in
theorem stable_nil (f : Value) (w : World) : Calls Try.prog 54 #[.slice none 0 0, .int .i64 0, f] w fun e w' => e = .returned (.tuple #[]) ∧ w' = w := by
 have e37 : ∀ args w, (callFunc 57 args).run Try.prog w = .ok (.enter 57 args) w := enters_of Try.func57 (by kernel_rfl) rfl
 go_enter Try.func54, Try.ntmps54
 go_wp2
 go_loopg [7, 8] 1 (fun gg s7 s8 wr => s7 = .int .i64 0 ∧ s8 = .int .i64 20 ∧ wr = w)
 case atStart => exact ⟨rfl, rfl, rfl⟩
 case round =>
  obtain ⟨rfl, rfl, rfl⟩ := hrel
  go_wp2_with (go_at_fn 57; refine (insertion_nil _ _).mono ?_; rintro e w' ⟨rfl, rfl⟩)
  go_loopg [6, 7, 8, 9] 1 (fun gg s6 _ _ _ wr => s6 = .int .i64 20 ∧ wr = w')
  case atStart => exact ⟨rfl, rfl⟩
  case round =>
   obtain ⟨rfl, rfl⟩ := hrel
   go_wp2
   go_end0
   exact ⟨rfl, rfl⟩
set_option maxRecDepth 1000000 in
theorem sortStable_nil (f : Value) (w : World) : Calls Try.prog 50 #[.slice none 0 0, f] w fun e w' => e = .returned (.tuple #[]) ∧ w' = w := by
 have e34 : ∀ args w, (callFunc 54 args).run Try.prog w = .ok (.enter 54 args) w := enters_of Try.func54 (by kernel_rfl) rfl
 go_enter Try.func50, Try.ntmps50
 go_wp2_with (go_at_fn 54; refine (stable_nil _ _).mono ?_; rintro e w' ⟨rfl, rfl⟩)
 go_end0
 exact ⟨rfl, rfl⟩
end Go.Proofs.Ytdchnaghmmhkhaa.Cs.Au
set_option linter.unusedSimpArgs false
namespace Go.Proofs.Ytdchnaghmmhkhaa.Cs.Au
open Go.Shelf Go.RowKit Go.Lib Go.Sort Go.Proofs.Ytdchnaghmmhkhaa.RowAt Go.Proofs.Ytdchnaghmmhkhaa.Stab Go.Proofs.Ytdchnaghmmhkhaa.Stab.Au Go.Proofs.Ytdchnaghmmhkhaa.PCsrGraphs Go.Proofs.YtdchnaghmmhkhaaW.PrintWords
set_option linter.unusedSectionVars false
set_option linter.unusedVariables false
def put (out : List Ar) (a : Ar) : List Ar := match out.getLast? with
 | some b => if cA b a = 0 then out.dropLast ++ [⟨b.f0, b.f1, Go.bits .or .u8 b.f2 a.f2⟩] else out ++ [a]
 | none => out ++ [a]
theorem put_nil (a : Ar) : put [] a = [a] := rfl
theorem put_snoc (L : List Ar) (b a : Ar) : put (L ++ [b]) a = if cA b a = 0 then L ++ [⟨b.f0, b.f1, Go.bits .or .u8 b.f2 a.f2⟩] else (L ++ [b]) ++ [a] := by
 unfold put
 rw [List.getLast?_append, List.getLast?_singleton, Option.some_or, List.dropLast_concat]
def jn (S : List (Ar × Nat)) : List Ar := (S.map Prod.fst).foldl put []
theorem jn_snoc (S : List (Ar × Nat)) (x : Ar × Nat) : jn (S ++ [x]) = put (jn S) x.1 := by
 unfold jn
 rw [List.map_append, List.foldl_append]; rfl
theorem put_len (out : List Ar) (a : Ar) : (put out a).length ≤ out.length + 1 := by
 rcases List.eq_nil_or_concat out with rfl | ⟨L, b, rfl⟩
 ·simp [put_nil]
 ·rw [List.concat_eq_append, put_snoc]; split <;> simp
theorem jn_len (S : List (Ar × Nat)) : (jn S).length ≤ S.length := by
 have h : ∀ n, ∀ S : List (Ar × Nat), S.length = n → (jn S).length ≤ S.length := by
  intro n
  induction n with
  | zero => intro S hS; rw [List.eq_nil_of_length_eq_zero hS]; exact Nat.le_refl _
  | succ n ih =>
   intro S hS
   rcases List.eq_nil_or_concat S with rfl | ⟨L, x, rfl⟩
   ·cases hS
   ·rw [List.concat_eq_append] at hS ⊢
    rw [jn_snoc]
    rw [List.length_append] at hS ⊢
    have := put_len (jn L) x.1
    have := ih L (by simpa using hS)
    simp only [List.length_singleton]; omega
 exact h _ S rfl
def Joined (D r : List Ar) : Prop := ∃ S : List (Ar × Nat), S.Perm (D.zipIdx.filter fun x => !bad x) ∧ Sd (ltOf cf) Prod.snd S ∧ r = jn S
theorem flat1_len (L : List Ar) : (L.flatMap enc1).length = L.length * 3 := flat_len enc1_len L
theorem flat_set (L : List Ar) (b : Ar) (v : Int) : ((L ++ [b]).flatMap enc1).set (L.length * 3 + 2) (.int .u8 v) = (L ++ [(⟨b.f0, b.f1, v⟩ : Ar)]).flatMap enc1 := by
 rw [List.flatMap_append, List.flatMap_append, List.set_append, flat1_len, if_neg (by omega)]
 simp [enc1, show L.length * 3 + 2 - L.length * 3 = 2 by omega]
theorem flat_at3 (L : List Ar) (b : Ar) : ((L ++ [b]).flatMap enc1)[L.length * 3]? = some (.int .i64 b.f0) ∧ ((L ++ [b]).flatMap enc1)[L.length * 3 + 1]? = some (.int .i64 b.f1) ∧ ((L ++ [b]).flatMap enc1)[L.length * 3 + 2]? = some (.int .u8 b.f2) := by
 refine ⟨?_, ?_, ?_⟩ <;> rw [List.flatMap_append, List.getElem?_append_right (by rw [flat1_len]; omega), flat1_len]
 ·rw [Nat.sub_self]; rfl
 ·rw [show L.length * 3 + 1 - L.length * 3 = 1 by omega]; rfl
 ·rw [show L.length * 3 + 2 - L.length * 3 = 2 by omega]; rfl
end Go.Proofs.Ytdchnaghmmhkhaa.Cs.Au
