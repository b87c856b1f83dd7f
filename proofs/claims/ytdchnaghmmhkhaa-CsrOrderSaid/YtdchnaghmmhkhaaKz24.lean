/- Printed by shake.py. -/
import Derived.Test.YtdchnaghmmhkhaaKz22
import Derived.Test.YtdchnaghmmhkhaaKz23
set_option linter.unusedSimpArgs false
namespace Go.Proofs.Ytdchnaghmmhkhaa.Cs
open Go.Shelf Go.RowKit Go.Lib Go.Sort Go.Proofs.Ytdchnaghmmhkhaa.RowAt Go.Proofs.Ytdchnaghmmhkhaa.Stab Go.Proofs.Ytdchnaghmmhkhaa.PCsrGraphs Go.Proofs.YtdchnaghmmhkhaaW.PrintWords
set_option linter.unusedSectionVars false
set_option linter.unusedVariables false
abbrev Ar := S62
instance : Inhabited Ar := ⟨⟨0, 0, 0⟩⟩
def cmpI (a b : Int) : Int := if a < b then -1 else if a > b then 1 else 0
theorem cmpI_zero {a b : Int} : cmpI a b = 0 ↔ a = b := by unfold cmpI; split <;> (try split) <;> omega
theorem cmpI_neg {a b : Int} : cmpI a b < 0 ↔ a < b := by unfold cmpI; split <;> (try split) <;> omega
def cA (x y : Ar) : Int := if cmpI x.f0 y.f0 = 0 then cmpI x.f1 y.f1 else cmpI x.f0 y.f0
theorem cA_zero {x y : Ar} : cA x y = 0 ↔ x.f0 = y.f0 ∧ x.f1 = y.f1 := by
 unfold cA
 split
 next h => rw [cmpI_zero] at h ⊢; exact ⟨fun e => ⟨h, e⟩, fun e => e.2⟩
 next h => exact ⟨fun e => absurd e h, fun e => absurd (cmpI_zero.2 e.1) h⟩
theorem cA_neg {x y : Ar} : cA x y < 0 ↔ x.f0 < y.f0 ∨ (x.f0 = y.f0 ∧ x.f1 < y.f1) := by
 unfold cA
 split
 next h => rw [cmpI_zero] at h; rw [cmpI_neg]; omega
 next h => rw [cmpI_zero] at h; rw [cmpI_neg]; omega
def cf (x y : Ar × Nat) : Int := cA x.1 y.1
theorem ltof (x y : Ar × Nat) : ltOf cf x y = decide (x.1.f0 < y.1.f0 ∨ (x.1.f0 = y.1.f0 ∧ x.1.f1 < y.1.f1)) := by
 unfold ltOf cf
 by_cases h : cA x.1 y.1 < 0
 ·rw [decide_eq_true h, decide_eq_true (cA_neg.1 h)]
 ·rw [decide_eq_false h, decide_eq_false (fun e => h (cA_neg.2 e))]
theorem swo : SWO (ltOf cf) where
 irrefl x := by rw [ltof]; simp
 trans x y z h1 h2 := by rw [ltof] at *; simp at *; omega
 ntrans x y z h1 h2 := by rw [ltof] at *; simp at *; omega
def bad (x : Ar × Nat) : Bool := decide (x.1.f0 = x.1.f1 ∨ x.1.f2 = 0)
theorem cmp_f (a b : Int) : cmp_Compare_int.f a b = some (cmpI a b) := by
 unfold cmp_Compare_int.f cmp_isNaN_int.f cmpI
 simp only [bne_self_eq_false, Option.bind_some, Bool.false_eq_true, if_false]
 split
 ·rfl
 ·split <;> rfl
theorem compare (a b : Int) (W : World) : Calls Try.prog 34 #[.int .i64 a, .int .i64 b] W fun e w' => e = .returned (.int .i64 (cmpI a b)) ∧ Drawn0 W w' := cmp_Compare_int.calls a b _ W (cmp_f a b)
theorem or_f (a b : Int) : cmp_Or_int.f 4 [a, b] = some (if a = 0 then b else a) := by
 simp only [cmp_Or_int.f, cmp_Or_int.l0, List.length_cons, List.length_nil]
 by_cases ha : a = 0
 ·subst ha
  by_cases hb : b = 0
  ·subst hb; simp [rd, wrap64]
  ·simp [rd, wrap64, hb]
 ·simp [rd, wrap64, ha]
theorem cmpOr (ad : Addr) (c : Nat) (a b : Int) (W : World) (h0 : W.cell? (ad.add 0) = some (.int .i64 a)) (h1 : W.cell? (ad.add 1) = some (.int .i64 b)) (hc : 2 ≤ c) :
 Calls Try.prog 53 #[.slice (some ad) 2 c] W fun e w' => e = .returned (.int .i64 (if a = 0 then b else a)) ∧ Drawn0 W w' :=
 cmp_Or_int.calls 4 (some ad) c [a, b] _ W ⟨rfl, (by show (2 : Nat) ≤ _; decide), fun _ => ⟨_, rfl, fun j p hp => ⟨[.int .i64 p], rfl, rfl, fun i u hu => by
  match j, hp with
  | 0, hp => cases hp; match i, hu with | 0, hu => cases hu; exact h0
  | 1, hp => cases hp; match i, hu with | 0, hu => cases hu; exact h1⟩⟩⟩ hc (or_f a b)
def Gw (W w' : World) : Prop := ∃ q os, w' = grow (W.drewN q) os
theorem Gw.refl (W : World) : Gw W W := ⟨0, #[], by rw [grow_empty]; rfl⟩
theorem grow_drew (W : World) (os : Array Obj) (n : Nat) : (grow W os).drewN n = grow (W.drewN n) os := rfl
theorem Gw.drewN {W w' : World} (h : Gw W w') (n : Nat) : Gw W (w'.drewN n) := by
 obtain ⟨q, os, rfl⟩ := h
 exact ⟨q + n, os, by rw [grow_drew, World.drewN_drewN]⟩
theorem Gw.drew {W w' : World} (h : Gw W w') : Gw W w'.drew := h.drewN 1
theorem Gw.drawn {W w' w2 : World} (h : Gw W w') (hd : Drawn0 w' w2) : Gw W w2 := by
 obtain ⟨n, rfl⟩ := hd.out
 exact h.drewN n
theorem Gw.alloc {W w' : World} (h : Gw W w') (o : Obj) : Gw W (w'.alloc o) := by
 obtain ⟨q, os, rfl⟩ := h
 exact ⟨q, os.push o, by rw [alloc_eq_grow, grow_grow]; congr 1⟩
theorem Gw.trans {W w1 w2 : World} (h : Gw W w1) (h2 : Gw w1 w2) : Gw W w2 := by
 obtain ⟨q2, os2, rfl⟩ := h2
 have h3 := h.drewN q2
 obtain ⟨q, os, e⟩ := h3
 exact ⟨q, os ++ os2, by rw [e, grow_grow]⟩
theorem Gw.below {W w' : World} (h : Gw W w') : Below W.heap.size W w' := by
 obtain ⟨q, os, rfl⟩ := h
 exact ⟨rfl, rfl, rfl, by simp [grow, World.drewN], fun k hk => by simp [grow, World.drewN, Array.getElem?_append, hk]⟩
theorem Gw.cell {W w' : World} (h : Gw W w') {a : Addr} {v : Value} (hc : W.cell? a = some v) : w'.cell? a = some v := by
 have hb : a.block < W.heap.size := by
  unfold World.cell? at hc
  rcases Nat.lt_or_ge a.block W.heap.size with h | h
  ·exact h
  ·rw [Array.getElem?_eq_none h] at hc; cases hc
 rw [h.below.cell hb]; exact hc
end Go.Proofs.Ytdchnaghmmhkhaa.Cs
set_option linter.unusedSimpArgs false
namespace Go.Proofs.Ytdchnaghmmhkhaa.Cs.Ai
open Go.Shelf Go.RowKit Go.Lib Go.Sort Go.Proofs.Ytdchnaghmmhkhaa.RowAt Go.Proofs.Ytdchnaghmmhkhaa.Stab Go.Proofs.Ytdchnaghmmhkhaa.Stab.Ai Go.Proofs.Ytdchnaghmmhkhaa.PCsrGraphs Go.Proofs.YtdchnaghmmhkhaaW.PrintWords Go.Proofs.YtdchnaghmmhkhaaW.PrintLast
set_option linter.unusedSectionVars false
set_option linter.unusedVariables false
def enc1 (x : Ar) : List Value := [.int .i64 x.f0, .int .i64 x.f1, .int .i64 x.f2]
def enc (x : Ar × Nat) : List Value := [.int .i64 x.1.f0, .int .i64 x.1.f1, .int .i64 x.1.f2]
theorem enc_len (x : Ar × Nat) : (enc x).length = 3 := rfl
theorem enc1_len (x : Ar) : (enc1 x).length = 3 := rfl
theorem enc_one (x : Ar × Nat) : ∀ v ∈ enc x, v.oneCell' = true := by
 intro v hv
 simp only [enc, List.mem_cons, List.mem_nil_iff, or_false] at hv
 rcases hv with rfl | rfl | rfl <;> rfl
theorem enc1_one (x : Ar) : ∀ v ∈ enc1 x, v.oneCell' = true := enc_one (x, 0)
def zc : Array Value := #[.int .i64 0, .int .i64 0, .int .i64 0]
theorem arc_info : (Try.prog.info? 62).map (fun i => (i.zero, i.size, i.bytes)) = some (some (.agg #[(.int .i64 0), (.int .i64 0), (.int .i64 0)]), 3, 24) := by kernel_rfl
theorem lt : LT Try.prog 3 where
 mixed := by kernel_rfl
 t0 := Try.underlying0
 a0 := Try.isAgg0
 z0 := Try.sizeOf0
 v0 := Try.zeroValue0
 t3 := Try.underlying3
 a3 := Try.isAgg3
 z3 := Try.sizeOf3
 v3 := Try.zeroValue3
 t4 := Try.underlying4
 a4 := Try.isAgg4
 z4 := Try.sizeOf4
 v4 := Try.zeroValue4
 t22 := Try.underlying28
 a22 := Try.isAgg28
 z22 := Try.sizeOf28
 v22 := Try.zeroValue28
 t25 := Try.underlying81
 a25 := Try.isAgg81
 z25 := Try.sizeOf81
 v25 := Try.zeroValue81
 t57 := Try.underlying82
 a57 := Try.isAgg82
 z57 := Try.sizeOf82
 v57 := Try.zeroValue82
 aE := Try.isAgg62
 zE := Try.sizeOf62
theorem lu : ∃ i0, LU Try.prog 3 zc 24 i0 := by
 obtain ⟨i0, hi, h0⟩ := Option.map_eq_some_iff.1 arc_info
 simp only [Prod.mk.injEq] at h0
 refine ⟨i0, ?_⟩
 exact {
  t42 := Try.underlying65
  a42 := Try.isAgg65
  z42 := Try.sizeOf65
  v42 := Try.zeroValue65
  vE := Try.zeroValue62
  hz := rfl
  hz1 := by
   intro v hv
   simp only [zc, Array.mem_toList_iff, List.mem_toArray, List.mem_cons, List.mem_nil_iff, or_false] at hv
   rcases hv with rfl | rfl | rfl <;> rfl
  hk := by decide
  hi := hi
  hi0 := h0.1
  hi1 := h0.2.1
  hi2 := h0.2.2 }
set_option maxHeartbeats 1000000 in
set_option maxRecDepth 1000000 in
theorem joined1 : PredB Try.prog 43 #[] enc bad := by
 intro W x
 have hb : bad x = (x.1.f0 == x.1.f1 || x.1.f2 == 0) := by
  unfold bad
  by_cases h1 : x.1.f0 = x.1.f1 <;> by_cases h2 : x.1.f2 = 0 <;> simp [h1, h2]
 rw [hb]
 go_enter Try.func43, Try.ntmps43
 unfold enc
 go_wp2
 all_goals go_ret
 all_goals refine ⟨?_, (Below.refl _ W).alloc (Nat.le_refl _) _⟩
 all_goals first | rfl | (show Ending.returned (Value.bool true) = _; simp [*])
def RgSt.T : Bool × List (List Nat × List Nat) := (true, [([], []), ([0], [0]), ([], []), ([2], [2]), ([1, 3], [1, 3]), ([], []), ([5], [5]), ([], []), ([7], [7]), ([6, 8, 4], [6, 8]), ([4, 9], [4, 9]), ([10, 9], [10]), ([11, 11, 0, 1, 2, 3, 4, 5, 6, 7, 8, 9, 10, 11], [11])])
def RgSt.B : List Nat := [0, 1, 0, 4, 15, 0, 32, 0, 128, 511, 1023, 2047, 4095]
theorem RgSt.tab : rtab .any (opsOf Try.f45 1) = RgSt.T := by kernel_rfl
theorem RgSt.bits : waitsOk RgSt.T.2 RgSt.B = true := by kernel_rfl
set_option maxHeartbeats 4000000 in
set_option maxRecDepth 1000000 in
theorem stands (W : World) (x y : Ar × Nat) : Calls Try.prog 45 #[.agg (enc x).toArray, .agg (enc y).toArray] W fun e w' => e = .returned (.int .i64 (cf x y)) ∧ Gw W w' := by
 have FIN : Aside (∀ w', Gw ((W.alloc (.cells (enc x).toArray 62)).alloc (.cells (enc y).toArray 62)) w' → Gw W w') := fun w' h => (((Gw.refl W).alloc _).alloc _).trans h
 have FX0 : ∀ w', Gw ((W.alloc (.cells (enc x).toArray 62)).alloc (.cells (enc y).toArray 62)) w' → w'.cell? ⟨W.heap.size, 0, none⟩ = some (.int .i64 x.1.f0) ∧ w'.cell? ⟨W.heap.size, 1, none⟩ = some (.int .i64 x.1.f1) ∧ w'.cell? ⟨W.heap.size + 1, 0, none⟩ = some (.int .i64 y.1.f0) ∧ w'.cell? ⟨W.heap.size + 1, 1, none⟩ = some (.int .i64 y.1.f1) := fun w' h => by
  have b1 := (Blk.new W (enc x) 62).alloc (.cells (enc y).toArray 62)
  have b2 := Blk.new (W.alloc (.cells (enc x).toArray 62)) (enc y) 62
  rw [World.size_alloc] at b2
  exact ⟨h.cell ((b1.cell 0).trans rfl), h.cell ((b1.cell 1).trans rfl), h.cell ((b2.cell 0).trans rfl), h.cell ((b2.cell 1).trans rfl)⟩
 have FX := Lib.hid FX0
 have HC1 : Hid (∀ (B w : World), Gw B w → Calls Try.prog 34 #[.int .i64 x.1.f0, .int .i64 y.1.f0] w fun e w' => e = .returned (.int .i64 (cmpI x.1.f0 y.1.f0)) ∧ Gw B w') := Lib.hid fun B w h => (compare _ _ w).mono fun e w' ⟨he, hd⟩ => ⟨he, h.drawn hd⟩
 have HC2 : Hid (∀ (B w : World), Gw B w → Calls Try.prog 34 #[.int .i64 x.1.f1, .int .i64 y.1.f1] w fun e w' => e = .returned (.int .i64 (cmpI x.1.f1 y.1.f1)) ∧ Gw B w') := Lib.hid fun B w h => (compare _ _ w).mono fun e w' ⟨he, hd⟩ => ⟨he, h.drawn hd⟩
 clear FX0
 go_enter Try.func45, Try.ntmps45
 unfold enc at FX FIN ⊢
 go_wp2_with fail
 have HC3 : Hid (∀ (B w : World) (b : Nat), w.cell? ⟨b, 0, none⟩ = some (.int .i64 (cmpI x.1.f0 y.1.f0)) → w.cell? ⟨b, 1, none⟩ = some (.int .i64 (cmpI x.1.f1 y.1.f1)) → Gw B w → Calls Try.prog 53 #[.slice (some ⟨b, 0, none⟩) 2 2] w fun e w' => e = .returned (.int .i64 (cf x y)) ∧ Gw B w') := Lib.hid fun B w b h0 h1 h => (cmpOr ⟨b, 0, none⟩ 2 _ _ w h0 h1 (by decide)).mono fun e w' ⟨he, hd⟩ => ⟨by rw [he]; rfl, h.drawn hd⟩
 generalize (W.alloc (.cells #[.int .i64 x.1.f0, .int .i64 x.1.f1, .int .i64 x.1.f2] 62)).alloc (.cells #[.int .i64 y.1.f0, .int .i64 y.1.f1, .int .i64 y.1.f2] 62) = W2 at FX FIN ⊢
 refine start_ (n := 13) (S := fun w' => Gw W2 w') (ds := []) #[false, false, false, false, false, false, false, false, false, false, false, false, false] (by kernel_rfl) rfl rfl (Gw.refl W2).drew (fun hHeld => ?_)
 refine with_tabW RgSt.tab RgSt.bits (fun HT_ HW_ => ?_)
 refine pure_ (i := 0) (N := some 5) (v := ?_) (a' := ?_) #[true, false, false, false, false, false, false, false, false, false, false, false, false] rfl rfl (any_of HT_.out (by kernel_rfl)) (fun _ _ _ h => h) (Or.inl ⟨by rfl, ?_⟩) ?_ ?_
 rotate_left
 ·intro w'
  go_simp
  with_reducible rfl
 rotate_left
 ·simp only [Act.put, List.setIfInBounds_toArray, List.set_cons_zero, List.set_cons_succ, i64_w, i32_w]
  rfl
 refine take_ (i := 1) (N := some 6) (v := ?_) (a' := ?_) #[true, true, false, false, false, false, false, false, false, false, false, false, false] rfl rfl (take_ofW HT_.out HW_.out (by kernel_rfl)) (fun _ _ _ h => h) (Or.inl ⟨by rfl, ?_⟩) hHeld ?_ ?_
 rotate_left
 ·intro w' hW
  obtain ⟨s0, s1, s2, s3⟩ := FX.out w' hW
  go_simp
  with_reducible rfl
 rotate_left
 ·simp only [Act.put, List.setIfInBounds_toArray, List.set_cons_zero, List.set_cons_succ, i64_w, i32_w]
  rfl
 refine pure_ (i := 2) (N := some 7) (v := ?_) (a' := ?_) #[true, true, true, false, false, false, false, false, false, false, false, false, false] rfl rfl (any_of HT_.out (by kernel_rfl)) (fun _ _ _ h => h) (Or.inl ⟨by rfl, ?_⟩) ?_ ?_
 rotate_left
 ·intro w'
  go_simp
  with_reducible rfl
 rotate_left
 ·simp only [Act.put, List.setIfInBounds_toArray, List.set_cons_zero, List.set_cons_succ, i64_w, i32_w]
  rfl
 refine take_ (i := 3) (N := some 8) (v := ?_) (a' := ?_) #[true, true, true, true, false, false, false, false, false, false, false, false, false] rfl rfl (take_ofW HT_.out HW_.out (by kernel_rfl)) (fun _ _ _ h => h) (Or.inl ⟨by rfl, ?_⟩) hHeld ?_ ?_
 rotate_left
 ·intro w' hW
  obtain ⟨s0, s1, s2, s3⟩ := FX.out w' hW
  go_simp
  with_reducible rfl
 rotate_left
 ·simp only [Act.put, List.setIfInBounds_toArray, List.set_cons_zero, List.set_cons_succ, i64_w, i32_w]
  rfl
 refine pure_ (i := 5) (N := some 10) (v := ?_) (a' := ?_) #[true, true, true, true, false, true, false, false, false, false, false, false, false] rfl rfl (any_of HT_.out (by kernel_rfl)) (fun _ _ _ h => h) (Or.inl ⟨by rfl, ?_⟩) ?_ ?_
 rotate_left
 ·intro w'
  go_simp
  with_reducible rfl
 rotate_left
 ·simp only [Act.put, List.setIfInBounds_toArray, List.set_cons_zero, List.set_cons_succ, i64_w, i32_w]
  rfl
 refine take_ (i := 6) (N := some 11) (v := ?_) (a' := ?_) #[true, true, true, true, false, true, true, false, false, false, false, false, false] rfl rfl (take_ofW HT_.out HW_.out (by kernel_rfl)) (fun _ _ _ h => h) (Or.inl ⟨by rfl, ?_⟩) hHeld ?_ ?_
 rotate_left
 ·intro w' hW
  obtain ⟨s0, s1, s2, s3⟩ := FX.out w' hW
  go_simp
  with_reducible rfl
 rotate_left
 ·simp only [Act.put, List.setIfInBounds_toArray, List.set_cons_zero, List.set_cons_succ, i64_w, i32_w]
  rfl
 refine pure_ (i := 7) (N := some 12) (v := ?_) (a' := ?_) #[true, true, true, true, false, true, true, true, false, false, false, false, false] rfl rfl (any_of HT_.out (by kernel_rfl)) (fun _ _ _ h => h) (Or.inl ⟨by rfl, ?_⟩) ?_ ?_
 rotate_left
 ·intro w'
  go_simp
  with_reducible rfl
 rotate_left
 ·simp only [Act.put, List.setIfInBounds_toArray, List.set_cons_zero, List.set_cons_succ, i64_w, i32_w]
  rfl
 refine take_ (i := 8) (N := some 13) (v := ?_) (a' := ?_) #[true, true, true, true, false, true, true, true, true, false, false, false, false] rfl rfl (take_ofW HT_.out HW_.out (by kernel_rfl)) (fun _ _ _ h => h) (Or.inl ⟨by rfl, ?_⟩) hHeld ?_ ?_
 rotate_left
 ·intro w' hW
  obtain ⟨s0, s1, s2, s3⟩ := FX.out w' hW
  go_simp
  with_reducible rfl
 rotate_left
 ·simp only [Act.put, List.setIfInBounds_toArray, List.set_cons_zero, List.set_cons_succ, i64_w, i32_w]
  rfl
 refine one_ (i := 4) (N := some 9) #[true, true, true, true, true, true, true, true, true, false, false, false, false] rfl rfl (one_of HT_.out (by kernel_rfl)) (by decide) (fun K hK => ?_)
 refine goes_ Try.func34 (by kernel_rfl) rfl #[.int .i64 x.1.f0, .int .i64 y.1.f0] (by rfl) rfl rfl (by (try simp only [List.map_toArray, List.map_cons, List.map_nil]); first | done | rfl) ?_
 refine (HC1.out _ _ hHeld).mono ?_
 rintro e_ w_1 ⟨rfl, hH_⟩
 refine ⟨_, rfl, ?_⟩
 refine hK.out _ _ hH_ (fun hHeld => ?_)
 clear hK K hH_
 refine norm_ (a' := ?_) ?_ ?_
 rotate_left
 ·show Act.put _ (some 9) _ = _
  simp only [Act.put, List.setIfInBounds_toArray, List.set_cons_zero, List.set_cons_succ, i64_w, i32_w]
  rfl
 refine one_ (i := 9) (N := some 14) #[true, true, true, true, true, true, true, true, true, true, false, false, false] rfl rfl (one_of HT_.out (by kernel_rfl)) (by decide) (fun K hK => ?_)
 refine goes_ Try.func34 (by kernel_rfl) rfl #[.int .i64 x.1.f1, .int .i64 y.1.f1] (by rfl) rfl rfl (by (try simp only [List.map_toArray, List.map_cons, List.map_nil]); first | done | rfl) ?_
 refine (HC2.out _ _ hHeld).mono ?_
 rintro e_ w_2 ⟨rfl, hH_⟩
 refine ⟨_, rfl, ?_⟩
 refine hK.out _ _ hH_ (fun hHeld => ?_)
 clear hK K hH_
 refine norm_ (a' := ?_) ?_ ?_
 rotate_left
 ·show Act.put _ (some 14) _ = _
  simp only [Act.put, List.setIfInBounds_toArray, List.set_cons_zero, List.set_cons_succ, i64_w, i32_w]
  rfl
 refine one_ (i := 10) (N := some 15) #[true, true, true, true, true, true, true, true, true, true, true, false, false] rfl rfl (one_of HT_.out (by kernel_rfl)) (by decide) (fun K hK => ?_)
 refine value_ (v := .slice (some ⟨w_2.heap.size, 0, none⟩) 2 2) (w1 := w_2.alloc (.cells #[.int .i64 (cmpI x.1.f0 y.1.f0), .int .i64 (cmpI x.1.f1 y.1.f1)] 3)) (by rfl) rfl (by first | (go_simp; done) | (go_simp; rfl)) ?_
 have hB := Blk.new w_2 [.int .i64 (cmpI x.1.f0 y.1.f0), .int .i64 (cmpI x.1.f1 y.1.f1)] 3
 have hn_ := hHeld.alloc (.cells #[.int .i64 (cmpI x.1.f0 y.1.f0), .int .i64 (cmpI x.1.f1 y.1.f1)] 3)
 refine hK.out _ _ hn_ (fun hHeld => ?_)
 clear hK K hn_
 refine norm_ (a' := ?_) ?_ ?_
 rotate_left
 ·show Act.put _ (some 15) _ = _
  simp only [Act.put, List.setIfInBounds_toArray, List.set_cons_zero, List.set_cons_succ, i64_w, i32_w]
  rfl
 refine one_ (i := 11) (N := some 16) #[true, true, true, true, true, true, true, true, true, true, true, true, false] rfl rfl (one_of HT_.out (by kernel_rfl)) (by decide) (fun K hK => ?_)
 refine goes_ Try.func53 (by kernel_rfl) rfl #[.slice (some ⟨w_2.heap.size, 0, none⟩) 2 2] (by rfl) rfl rfl (by (try simp only [List.map_toArray, List.map_cons, List.map_nil]); first | done | rfl) ?_
 refine (HC3.out _ _ _ ((hB.cell 0).trans rfl) ((hB.cell 1).trans rfl) hHeld).mono ?_
 rintro e_ w_3 ⟨rfl, hH_⟩
 refine ⟨_, rfl, ?_⟩
 refine hK.out _ _ hH_ (fun hHeld => ?_)
 clear hK K hH_
 refine norm_ (a' := ?_) ?_ ?_
 rotate_left
 ·show Act.put _ (some 16) _ = _
  simp only [Act.put, List.setIfInBounds_toArray, List.set_cons_zero, List.set_cons_succ, i64_w, i32_w]
  rfl
 refine pure_ (i := 12) (N := some 4) (v := ?_) (a' := ?_) #[true, true, true, true, true, true, true, true, true, true, true, true, true] rfl rfl (any_of HT_.out (by kernel_rfl)) (fun _ _ _ h => h) (Or.inl ⟨by rfl, ?_⟩) ?_ ?_
 rotate_left
 ·intro w'
  go_simp
  with_reducible rfl
 rotate_left
 ·simp only [Act.put, List.setIfInBounds_toArray, List.set_cons_zero, List.set_cons_succ, i64_w, i32_w]
  rfl
 refine done_ (done_of HT_.out (by kernel_rfl)) ?_
 go_wp2
 go_ret
 exact ⟨rfl, FIN.out _ hHeld⟩
end Go.Proofs.Ytdchnaghmmhkhaa.Cs.Ai
set_option linter.unusedSimpArgs false
namespace Go.Proofs.Ytdchnaghmmhkhaa.Cs.Ai
open Go.Shelf Go.RowKit Go.Lib Go.Sort Go.Proofs.Ytdchnaghmmhkhaa.RowAt Go.Proofs.Ytdchnaghmmhkhaa.Stab Go.Proofs.Ytdchnaghmmhkhaa.Stab.Ai Go.Proofs.Ytdchnaghmmhkhaa.PCsrGraphs Go.Proofs.YtdchnaghmmhkhaaW.PrintWords
set_option linter.unusedSectionVars false
set_option linter.unusedVariables false
def At3 (w : World) (b o : Nat) (x : Ar) : Prop := w.cell? ⟨b, o, none⟩ = some (.int .i64 x.f0) ∧ w.cell? ⟨b, o + 1, none⟩ = some (.int .i64 x.f1) ∧ w.cell? ⟨b, o + 2, none⟩ = some (.int .i64 x.f2)
def Reads (w : World) (A : Option Addr) (D : List Ar) : Prop := D ≠ [] → ∃ b o, A = some ⟨b, o, none⟩ ∧ ∀ i x, D[i]? = some x → At3 w b (o + i * 3) x
theorem Reads.keep {w w' : World} {A : Option Addr} {D : List Ar} (h : Reads w A D) (hk : ∀ a v, w.cell? a = some v → w'.cell? a = some v) : Reads w' A D := fun hD => by
 obtain ⟨b, o, e, hc⟩ := h hD
 exact ⟨b, o, e, fun i x hx => ⟨hk _ _ (hc i x hx).1, hk _ _ (hc i x hx).2.1, hk _ _ (hc i x hx).2.2⟩⟩
theorem cell_lt {w : World} {a : Addr} {v : Value} (hc : w.cell? a = some v) : a.block < w.heap.size := by
 unfold World.cell? at hc
 rcases Nat.lt_or_ge a.block w.heap.size with h | h
 ·exact h
 ·rw [Array.getElem?_eq_none h] at hc; cases hc
theorem below_cell {w w' : World} (hb : Below w.heap.size w w') : ∀ a v, w.cell? a = some v → w'.cell? a = some v := fun a v hc => by
 rw [hb.cell (cell_lt hc)]; exact hc
theorem Reads.below {w w' : World} {A : Option Addr} {D : List Ar} (h : Reads w A D) (hb : Below w.heap.size w w') : Reads w' A D := h.keep (below_cell hb)
theorem Row.at3 {w : World} {g o : Nat} {D : List Ar} (h : Row enc1 3 w g o D) {i : Nat} {x : Ar} (hx : D[i]? = some x) : At3 w g (o + i * 3) x :=
 ⟨(h i x hx 0 _ rfl).1, (h i x hx 1 _ rfl).1, (h i x hx 2 _ rfl).1⟩
theorem Reads.row {w : World} {g : Nat} {D : List Ar} (h : Row enc1 3 w g 0 D) : Reads w (some ⟨g, 0, none⟩) D := fun _ => ⟨g, 0, rfl, fun i x hx => Row.at3 h hx⟩
def outB (n v : Int) : Bool := decide (v < 0) || decide (v ≥ n)
def outA (n : Int) (x : Ar) : Bool := outB n x.f0 || outB n x.f1
set_option maxHeartbeats 1000000 in
set_option maxRecDepth 1000000 in
theorem new1 (n v : Int) (p : Addr) (w : World) (hp : w.cell? p = some (.int .i64 n)) : Calls Try.prog 26 (#[.int .i64 v] ++ #[.pointer (some p)]) w fun e w' => e = .returned (.bool (outB n v)) ∧ w' = w := by
 go_enter Try.func26, Try.ntmps26
 go_wp2
 all_goals go_ret
 all_goals refine ⟨?_, rfl⟩
 all_goals first | rfl | (show Ending.returned (Value.bool true) = _; unfold outB; simp [*])
set_option maxHeartbeats 1000000 in
set_option maxRecDepth 1000000 in
theorem new2 (n : Int) (x : Ar) (p q : Addr) (w : World) (hp : w.cell? p = some (.int .i64 n)) (hq : w.cell? q = some (.func (.func 26) #[] #[.pointer (some p)])) : Calls Try.prog 28 (#[.agg (enc1 x).toArray] ++ #[.pointer (some q)]) w fun e w' => e = .returned (.bool (outA n x)) ∧ Below w.heap.size w w' := by
 have e1 : ∀ args w, (callFunc 26 args).run Try.prog w = .ok (.enter 26 args) w := enters_of Try.func26 (by kernel_rfl) rfl
 have hp' : (w.alloc (.cells (enc1 x).toArray 62)).cell? p = some (.int .i64 n) := Lib.cell?_alloc_some _ hp
 have hq' : (w.alloc (.cells (enc1 x).toArray 62)).cell? q = some (.func (.func 26) #[] #[.pointer (some p)]) := Lib.cell?_alloc_some _ hq
 have hB : Aside (Below w.heap.size w (w.alloc (.cells (enc1 x).toArray 62))) := (Below.refl _ w).alloc (Nat.le_refl _) _
 unfold enc1 at hp' hq' hB ⊢
 have HC := Lib.hid (fun v w hp => new1 n v p w hp)
 cases h1 : outB n x.f0 with
 | true =>
  have hr : outA n x = true := by unfold outA; rw [h1]; rfl
  rw [hr]
  go_enter Try.func28, Try.ntmps28
  go_wp2_with (go_at_fn 26; refine (HC.out _ _ hp').mono ?_; rintro e w' ⟨rfl, rfl⟩; rw [h1])
  go_ret
  exact ⟨rfl, hB.out⟩
 | false =>
  have hr : outA n x = outB n x.f1 := by unfold outA; rw [h1]; rfl
  rw [hr]
  go_enter Try.func28, Try.ntmps28
  go_wp2_with (go_at_fn 26; refine (HC.out _ _ hp').mono ?_; rintro e w' ⟨rfl, rfl⟩; first | rw [h1] | skip)
  go_ret
  exact ⟨rfl, hB.out⟩
set_option maxHeartbeats 1000000 in
set_option maxRecDepth 1000000 in
theorem indexFunc_w (g : Nat) (cb : Array Value) (p : Ar → Bool) (A : Option Addr) (cap : Nat) (D : List Ar) (w : World) (eg : ∀ args w, (callFunc g args).run Try.prog w = .ok (.enter g args) w)
 (hp : ∀ W, Below w.heap.size w W → ∀ x, Calls Try.prog g (#[.agg (enc1 x).toArray] ++ cb) W fun e w' => e = .returned (.bool (p x)) ∧ Below W.heap.size W w') (R : Reads w A D) (hsz : D.length < 1152921504606846976) :
 Calls Try.prog 41 #[.slice A D.length cap, .func (.func g) #[] cb] w fun e w' => (∃ i : Int, e = .returned (.int .i64 i) ∧ decide (i ≥ 0) = D.any p) ∧ Below w.heap.size w w' := by
 obtain ⟨N, hN⟩ : ∃ N, D.length = N := ⟨_, rfl⟩
 have HN := Lib.hid hN
 have HR : Aside (Reads w A D) := R
 have HP := Lib.hid hp
 rw [hN] at hsz ⊢
 clear R hp hN
 go_enter Try.func41, Try.ntmps41
 go_wp2
 go_loopg [5, 8] N (fun gg _ s8 wr => ∃ kk : Nat, s8 = .int .i64 kk ∧ kk ≤ N ∧ N - kk ≤ gg ∧ Aside (Below w.heap.size w wr) ∧ Aside (∀ y ∈ D.take kk, p y = false))
 case atStart => exact ⟨0, rfl, by omega, by omega, Below.refl _ w, fun y hy => by simp at hy⟩
 case round =>
  obtain ⟨kk, rfl, hkk, hg, BW, AA⟩ := hrel
  by_cases hlt : kk < N
  ·have hltz : (kk : Int) < (N : Int) := by omega
   have hD : D[kk]? = some (D[kk]'(by rw [HN.out]; exact hlt)) := List.getElem?_eq_getElem _
   generalize (D[kk]'(by rw [HN.out]; exact hlt)) = y at hD
   obtain ⟨b, o, rfl, hcell⟩ := HR.out (by intro e; rw [e] at hD; cases hD)
   obtain ⟨q0, q1, q2⟩ := hcell _ _ hD
   have l0 := below_cell BW.out _ _ q0
   have l1 := below_cell BW.out _ _ q1
   have l2 := below_cell BW.out _ _ q2
   clear q0 q1 q2
   have hcall := HP.out wr BW.out y
   have hsplit : D = D.take kk ++ y :: D.drop (kk + 1) := by
    obtain ⟨h1, h2⟩ := List.getElem?_eq_some_iff.1 hD
    rw [← h2, ← List.drop_eq_getElem_cons h1, List.take_append_drop]
   have HSP := Lib.hid hsplit
   clear hsplit hD hcell
   unfold enc1 at hcall
   cases hq : p y with
   | true =>
    rw [hq] at hcall
    go_wp2_with (go_at_fn g; refine hcall.mono ?_; rintro e w' ⟨rfl, hb'⟩)
    go_ret
    refine ⟨⟨kk, rfl, ?_⟩, BW.out.trans (hb'.mono BW.out.size)⟩
    rw [HSP.out, List.any_append, List.any_cons, hq, Bool.true_or, Bool.or_true]
    simp
   | false =>
    rw [hq] at hcall
    go_wp2_with (go_at_fn g; refine hcall.mono ?_; rintro e w' ⟨rfl, hb'⟩)
    go_roundg (N - (kk + 1))
    case measure => omega
    case rel =>
     refine ⟨kk + 1, by go_num, by omega, Nat.le_refl _, BW.out.trans (hb'.mono BW.out.size), (show Aside _ from fun x hx => ?_)⟩
     have h2 := HSP.out
     rw [h2, List.take_append, List.length_take, HN.out, Nat.min_eq_left (by omega), show kk + 1 - kk = 1 by omega, List.take_of_length_le (by rw [List.length_take]; omega)] at hx
     rcases List.mem_append.1 hx with hx | hx
     ·exact AA.out x hx
     ·have : x = y := by simpa using hx
      rw [this]; exact hq
  ·have hltz : ¬ (kk : Int) < (N : Int) := by omega
   have hkN : kk = N := by omega
   subst hkN
   go_wp2
   go_ret
   refine ⟨⟨-1, rfl, ?_⟩, BW.out⟩
   have h2 : D.any p = false := by
    rw [List.any_eq_false]
    intro x hx
    rw [AA.out x (by rw [List.take_of_length_le (by rw [HN.out]; exact Nat.le_refl _)]; exact hx)]
    exact Bool.false_ne_true
   rw [h2]; rfl
set_option maxHeartbeats 1000000 in
set_option maxRecDepth 1000000 in
theorem containsFunc_w (g : Nat) (cb : Array Value) (p : Ar → Bool) (A : Option Addr) (cap : Nat) (D : List Ar) (w : World) (eg : ∀ args w, (callFunc g args).run Try.prog w = .ok (.enter g args) w)
 (hp : ∀ W, Below w.heap.size w W → ∀ x, Calls Try.prog g (#[.agg (enc1 x).toArray] ++ cb) W fun e w' => e = .returned (.bool (p x)) ∧ Below W.heap.size W w') (R : Reads w A D) (hsz : D.length < 1152921504606846976) :
 Calls Try.prog 27 #[.slice A D.length cap, .func (.func g) #[] cb] w fun e w' => e = .returned (.bool (D.any p)) ∧ Below w.heap.size w w' := by
 have e1 : ∀ args w, (callFunc 41 args).run Try.prog w = .ok (.enter 41 args) w := enters_of Try.func41 (by kernel_rfl) rfl
 have HC := Lib.hid (indexFunc_w g cb p A cap D w eg hp R hsz)
 clear hp R
 generalize D.any p = r at HC ⊢
 go_enter Try.func27, Try.ntmps27
 go_wp2_with (go_at_fn 41; refine HC.out.mono ?_; rintro e w' ⟨⟨i, rfl, hi⟩, hb⟩)
 go_ret
 exact ⟨by rw [← hi]; rfl, hb⟩
end Go.Proofs.Ytdchnaghmmhkhaa.Cs.Ai
set_option linter.unusedSimpArgs false
namespace Go.Proofs.Ytdchnaghmmhkhaa.Cs.Ai
open Go.Shelf Go.RowKit Go.Lib Go.Sort Go.Proofs.Ytdchnaghmmhkhaa.RowAt Go.Proofs.Ytdchnaghmmhkhaa.Stab Go.Proofs.Ytdchnaghmmhkhaa.Stab.Ai
set_option linter.unusedSectionVars false
set_option linter.unusedVariables false
set_option maxRecDepth 1000000 in
theorem clone_nil (n c : Nat) (w : World) : Calls Try.prog 30 #[.slice none n c] w fun e w' => e = .returned (.slice none 0 0) ∧ w' = w := by
 have q22 : ∀ (w : World) (a : Option Addr) (n c n' c' : Nat), (binOp .eql 28 (.slice a n c) (.slice none n' c')).run Try.prog w = .ok (.bool a.isNone) w := fun w a n c n' c' => Lib.run_eql_slice_nil w _ _ a n c n' c' lt.t22
 go_enter Try.func30, Try.ntmps30
 go_wp2
 go_ret
 exact ⟨rfl, rfl⟩
set_option maxRecDepth 1000000 in
theorem index_nil (f : Value) (w : World) : Calls Try.prog 41 #[.slice none 0 0, f] w fun e w' => e = .returned (.int .i64 (-1)) ∧ w' = w := by
 go_enter Try.func41, Try.ntmps41
 go_wp2
 go_loopg [5, 8] 1 (fun gg _ s8 wr => s8 = .int .i64 0 ∧ wr = w)
 case atStart => exact ⟨rfl, rfl⟩
 case round =>
  obtain ⟨rfl, rfl⟩ := hrel
  go_wp2
  go_ret
  exact ⟨rfl, rfl⟩
set_option maxRecDepth 1000000 in
theorem delete_nil (f : Value) (w : World) : Calls Try.prog 42 #[.slice none 0 0, f] w fun e w' => e = .returned (.slice none 0 0) ∧ w' = w := by
 have e33 : ∀ args w, (callFunc 41 args).run Try.prog w = .ok (.enter 41 args) w := enters_of Try.func41 (by kernel_rfl) rfl
 go_enter Try.func42, Try.ntmps42
 go_wp2_with (go_at_fn 41; refine (index_nil _ _).mono ?_; rintro e w' ⟨rfl, rfl⟩)
 go_ret
 exact ⟨rfl, rfl⟩
set_option maxRecDepth 1000000 in
theorem insertion_nil (f : Value) (w : World) : Calls Try.prog 55 #[.slice none 0 0, .int .i64 0, .int .i64 0, f] w fun e w' => e = .returned (.tuple #[]) ∧ w' = w := by
 go_enter Try.func55, Try.ntmps55
 go_wp2
 go_loopg [8, 9] 1 (fun gg s8 _ wr => s8 = .int .i64 1 ∧ wr = w)
 case atStart => exact ⟨rfl, rfl⟩
 case round =>
  obtain ⟨rfl, rfl⟩ := hrel
  go_wp2
  go_end0
  exact ⟨rfl, rfl⟩
set_option maxRecDepth 1000000 in
theorem stable_nil (f : Value) (w : World) : Calls Try.prog 52 #[.slice none 0 0, .int .i64 0, f] w fun e w' => e = .returned (.tuple #[]) ∧ w' = w := by
 have e37 : ∀ args w, (callFunc 55 args).run Try.prog w = .ok (.enter 55 args) w := enters_of Try.func55 (by kernel_rfl) rfl
 go_enter Try.func52, Try.ntmps52
 go_wp2
 go_loopg [7, 8] 1 (fun gg s7 s8 wr => s7 = .int .i64 0 ∧ s8 = .int .i64 20 ∧ wr = w)
 case atStart => exact ⟨rfl, rfl, rfl⟩
 case round =>
  obtain ⟨rfl, rfl, rfl⟩ := hrel
  go_wp2_with (go_at_fn 55; refine (insertion_nil _ _).mono ?_; rintro e w' ⟨rfl, rfl⟩)
  go_loopg [6, 7, 8, 9] 1 (fun gg s6 _ _ _ wr => s6 = .int .i64 20 ∧ wr = w')
  case atStart => exact ⟨rfl, rfl⟩
  case round =>
   obtain ⟨rfl, rfl⟩ := hrel
   go_wp2
   go_end0
   exact ⟨rfl, rfl⟩
set_option maxRecDepth 1000000 in
theorem sortStable_nil (f : Value) (w : World) : Calls Try.prog 44 #[.slice none 0 0, f] w fun e w' => e = .returned (.tuple #[]) ∧ w' = w := by
 have e34 : ∀ args w, (callFunc 52 args).run Try.prog w = .ok (.enter 52 args) w := enters_of Try.func52 (by kernel_rfl) rfl
 go_enter Try.func44, Try.ntmps44
 go_wp2_with (go_at_fn 52; refine (stable_nil _ _).mono ?_; rintro e w' ⟨rfl, rfl⟩)
 go_end0
 exact ⟨rfl, rfl⟩
end Go.Proofs.Ytdchnaghmmhkhaa.Cs.Ai
