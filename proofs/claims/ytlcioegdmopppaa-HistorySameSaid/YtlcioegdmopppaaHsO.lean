/- The walk of the law HistorySame. -/
import Derived.Test.YtlcioegdmopppaaGrD
set_option linter.unusedSimpArgs false
namespace Go.Proofs.Ytlcioegdmopppaa
open Go.RowKit Go.Proofs.Ytlcioegdmopppaa.PEncodeBack Go.Proofs.YtlcioegdmopppaaW.PrintWords Go.Proofs.YtlcioegdmopppaaW.PrintLast Hs
set_option linter.unusedVariables false

theorem few_sb {h : List S42} (hf : fewP 40 100 h = true) : SB h ∧ opsN h ≤ big := by
  unfold fewP at hf
  simp only [Bool.and_eq_true, decide_eq_true_eq] at hf
  have hl := fewG_le 100 h 0 hf.2
  have ho : ∀ l : List S42, (∀ t ∈ l, t.f2.length ≤ 100) → opsN l ≤ l.length * 100 := by
    intro l
    induction l with
    | nil => intro _; exact Nat.le_refl 0
    | cons t l ih =>
      intro h
      have h1 := h t (by simp)
      have h2 := ih fun x hx => h x (by simp [hx])
      have e : opsN (t :: l) = t.f2.length + opsN l := rfl
      rw [e, List.length_cons, Nat.add_mul, Nat.one_mul]; omega
  have h3 := ho h fun t ht => (hl t ht).1
  unfold SB big
  exact ⟨⟨by omega, fun t ht => ⟨by have := (hl t ht).1; omega, fun o ho => by have := (hl t ht).2 o ho; omega⟩⟩, by omega⟩
def RgSame.T : Bool × List (List Nat × List Nat) := (true, [([], []), ([], []), ([0, 1], [0, 1]), ([], []), ([], []), ([3, 4, 2], [3, 4]), ([2, 5], [2, 5]), ([6, 5], [6]), ([7], [7]), ([8, 7, 7], [7, 8]), ([7], [7]), ([10, 9, 7], [7, 10]), ([9, 11, 7], [7, 9, 11]), ([7, 12], [7, 12]), ([13, 11], [13]), ([14, 14], [14]), ([14, 15], [14, 15]), ([16, 15, 0, 1, 2, 3, 4, 5, 6, 7, 8, 9, 10, 11, 12, 13, 14, 15, 16], [16])])
def RgSame.B : List Nat := [0, 0, 3, 0, 0, 31, 63, 127, 255, 511, 255, 2047, 4095, 8191, 16383, 32767, 65535, 131071]
theorem RgSame.tab : rtab .any (opsOf Try.f6 3) = RgSame.T := by kernel_rfl
theorem RgSame.bits : waitsOk RgSame.T.2 RgSame.B = true := by kernel_rfl
set_option maxHeartbeats 4000000 in
set_option maxRecDepth 100000 in
theorem same_main (w : World) (l m : List S42) (A B : Option Addr) (c d : Nat) (hl : Kd.C k42 w A l.length l) (hm : Kd.C k42 w B m.length m) (hc : l.length ≤ c) (hd : m.length ≤ d) (hf : fewP 40 100 l = true) (hg : fewP 40 100 m = true) :
    Calls Try.prog 6 #[.agg #[.slice A l.length c], .agg #[.slice B m.length d]] w fun e w' => e = .returned (.bool true) ∧ Below w.heap.size w w' := by
  have hsb := few_sb hf
  have HB0 : Hid (Below w.heap.size w ((w.alloc (.cells #[.slice A l.length c] 24)).alloc (.cells #[.slice B m.length d] 24))) := Lib.hid (below_alloc (below_alloc (Below.refl _ _) _) _)
  have HX : Hid (Blk ((w.alloc (.cells #[.slice A l.length c] 24)).alloc (.cells #[.slice B m.length d] 24)) w.heap.size [.slice A l.length c] 24) := Lib.hid ((Blk.new w [.slice A l.length c] 24).alloc _)
  have HY : Hid (Blk ((w.alloc (.cells #[.slice A l.length c] 24)).alloc (.cells #[.slice B m.length d] 24)) (w.heap.size + 1) [.slice B m.length d] 24) := Lib.hid (by
    have := Blk.new (w.alloc (.cells #[.slice A l.length c] 24)) [.slice B m.length d] 24
    rw [World.size_alloc] at this; exact this)
  have HF1 := Lib.hid (fun (W : World) (hW : Below w.heap.size w W) => few_c W l A c (Kd.C_below hl hW) hc)
  have HF2 := Lib.hid (fun (W : World) (hW : Below w.heap.size w W) => few_c W m B d (Kd.C_below hm hW) hd)
  rw [hf] at HF1
  rw [hg] at HF2
  have HS := Lib.hid (fun (W : World) (hW : Below w.heap.size w W) => same_c W l m A B c d (Kd.C_below hl hW) (Kd.C_below hm hW) hsb.1)
  have HRS := Lib.hid (fun (W : World) (hW : Below w.heap.size w W) => rsame_c W l m A B c d (Kd.C_below hl hW) (Kd.C_below hm hW) hc hd hsb.1)
  have HO := Lib.hid (fun (W : World) (hW : Below w.heap.size w W) => ops_c W l A c (Kd.C_below hl hW) hc hsb.1.1 hsb.2)
  have HRO := Lib.hid (fun (W : World) (hW : Below w.heap.size w W) => rops_c W l A c (Kd.C_below hl hW) hc hsb.1.1 hsb.2)
  clear hl hm hc hd hf hg hsb
  generalize eqH l m = q at *
  generalize opsN l = n at *
  go_enter Try.func6, Try.ntmps6
  go_wp2_with fail
  refine (HF1.out _ HB0.out).mono ?_
  rintro e w1 ⟨rfl, hb1⟩
  have HB1 := Lib.hid (link HB0.out hb1)
  have HX1 := Lib.hid (HX.out.below hb1 HX.out.lt)
  have HY1 := Lib.hid (HY.out.below hb1 HY.out.lt)
  have hx1 := HX1.out.cell 0
  have hy1 := HY1.out.cell 0
  simp only [List.getElem?_cons_zero] at hx1 hy1
  clear hb1
  go_wp2_with fail
  refine (HF2.out _ HB1.out).mono ?_
  rintro e w2 ⟨rfl, hb2⟩
  have HB2 := Lib.hid (link HB1.out hb2)
  have HX2 := Lib.hid (HX1.out.below hb2 HX1.out.lt)
  have HY2 := Lib.hid (HY1.out.below hb2 HY1.out.lt)
  have hx2 : w2.drew.cell? ⟨w.heap.size, 0, none⟩ = some (.slice A l.length c) := HX2.out.drew.cell 0
  have hy2 : w2.drew.cell? ⟨w.heap.size + 1, 0, none⟩ = some (.slice B m.length d) := HY2.out.drew.cell 0
  clear hb2 hx1 hy1
  have FX : Hid (∀ (W : World), Below w2.heap.size w2 W → W.cell? ⟨w.heap.size, 0, none⟩ = some (.slice A l.length c) ∧ W.cell? ⟨w.heap.size + 1, 0, none⟩ = some (.slice B m.length d)) := Lib.hid (fun (W : World) (hb : Below w2.heap.size w2 W) => ⟨(HX2.out.below hb HX2.out.lt).cell 0, (HY2.out.below hb HY2.out.lt).cell 0⟩)
  have HS3 := Lib.hid (fun (W : World) (hb : Below w2.heap.size w2 W) => (HS.out W (link HB2.out hb)).mono fun e w' ⟨h1, h2⟩ => (⟨h1, link hb h2⟩ : _ ∧ Below w2.heap.size w2 w'))
  have HRS3 := Lib.hid (fun (W : World) (hb : Below w2.heap.size w2 W) => (HRS.out W (link HB2.out hb)).mono fun e w' ⟨h1, h2⟩ => (⟨h1, link hb h2⟩ : _ ∧ Below w2.heap.size w2 w'))
  have HO3 := Lib.hid (fun (W : World) (hb : Below w2.heap.size w2 W) => (HO.out W (link HB2.out hb)).mono fun e w' ⟨h1, h2⟩ => (⟨h1, link hb h2⟩ : _ ∧ Below w2.heap.size w2 w'))
  have HRO3 := Lib.hid (fun (W : World) (hb : Below w2.heap.size w2 W) => (HRO.out W (link HB2.out hb)).mono fun e w' ⟨h1, h2⟩ => (⟨h1, link hb h2⟩ : _ ∧ Below w2.heap.size w2 w'))
  have HW3 := Lib.hid (fun (W : World) (hb : Below w2.heap.size w2 W) => (works W).mono fun e w' ⟨h1, h2⟩ => (⟨h1, link hb h2⟩ : _ ∧ Below w2.heap.size w2 w'))
  have hbD := Lib.hid ((Below.refl w2.heap.size w2).drew)
  go_wp2_with fail
  refine start_ (n := 18) (S := fun W => Below w2.heap.size w2 W) (ds := []) #[false, false, false, false, false, false, false, false, false, false, false, false, false, false, false, false, false, false] (by kernel_rfl) rfl rfl hbD.out (fun hHeld => ?_)
  refine with_tabW RgSame.tab RgSame.bits (fun HT_ HW_ => ?_)
  refine take_ (i := 0) (N := some 14) (v := ?_) (a' := ?_) #[true, false, false, false, false, false, false, false, false, false, false, false, false, false, false, false, false, false] rfl rfl (take_ofW HT_.out HW_.out (by kernel_rfl)) (fun _ _ _ h => h) (Or.inl ⟨by rfl, ?_⟩) hHeld ?_ ?_
  rotate_left
  · intro w' hW
    obtain ⟨hx_, hy_⟩ := FX.out w' hW
    go_simp
    with_reducible rfl
  rotate_left
  · simp only [Act.put, List.setIfInBounds_toArray, List.set_cons_zero, List.set_cons_succ, i64_w, i32_w]
    rfl
  refine take_ (i := 1) (N := some 15) (v := ?_) (a' := ?_) #[true, true, false, false, false, false, false, false, false, false, false, false, false, false, false, false, false, false] rfl rfl (take_ofW HT_.out HW_.out (by kernel_rfl)) (fun _ _ _ h => h) (Or.inl ⟨by rfl, ?_⟩) hHeld ?_ ?_
  rotate_left
  · intro w' hW
    obtain ⟨hx_, hy_⟩ := FX.out w' hW
    go_simp
    with_reducible rfl
  rotate_left
  · simp only [Act.put, List.setIfInBounds_toArray, List.set_cons_zero, List.set_cons_succ, i64_w, i32_w]
    rfl
  refine take_ (i := 3) (N := some 17) (v := ?_) (a' := ?_) #[true, true, false, true, false, false, false, false, false, false, false, false, false, false, false, false, false, false] rfl rfl (take_ofW HT_.out HW_.out (by kernel_rfl)) (fun _ _ _ h => h) (Or.inl ⟨by rfl, ?_⟩) hHeld ?_ ?_
  rotate_left
  · intro w' hW
    obtain ⟨hx_, hy_⟩ := FX.out w' hW
    go_simp
    with_reducible rfl
  rotate_left
  · simp only [Act.put, List.setIfInBounds_toArray, List.set_cons_zero, List.set_cons_succ, i64_w, i32_w]
    rfl
  refine take_ (i := 4) (N := some 18) (v := ?_) (a' := ?_) #[true, true, false, true, true, false, false, false, false, false, false, false, false, false, false, false, false, false] rfl rfl (take_ofW HT_.out HW_.out (by kernel_rfl)) (fun _ _ _ h => h) (Or.inl ⟨by rfl, ?_⟩) hHeld ?_ ?_
  rotate_left
  · intro w' hW
    obtain ⟨hx_, hy_⟩ := FX.out w' hW
    go_simp
    with_reducible rfl
  rotate_left
  · simp only [Act.put, List.setIfInBounds_toArray, List.set_cons_zero, List.set_cons_succ, i64_w, i32_w]
    rfl
  refine one_ (i := 2) (N := some 16) #[true, true, true, true, true, false, false, false, false, false, false, false, false, false, false, false, false, false] rfl rfl (one_of HT_.out (by kernel_rfl)) (by decide) (fun K hK => ?_)
  refine goes_ Try.func25 (by kernel_rfl) rfl #[.agg #[.slice A l.length c], .agg #[.slice B m.length d]] (by rfl) rfl rfl (by (try simp only [List.map_toArray, List.map_cons, List.map_nil]); first | done | rfl) ?_
  refine (HS3.out _ hHeld).mono ?_
  rintro e_ w_1 ⟨rfl, hH_⟩
  refine ⟨_, rfl, ?_⟩
  refine hK.out _ _ hH_ (fun hHeld => ?_)
  clear hK K hH_
  refine norm_ (a' := ?_) ?_ ?_
  rotate_left
  · show Act.put _ (some 16) _ = _
    simp only [Act.put, List.setIfInBounds_toArray, List.set_cons_zero, List.set_cons_succ, i64_w, i32_w]
    rfl
  refine one_ (i := 5) (N := some 19) #[true, true, true, true, true, true, false, false, false, false, false, false, false, false, false, false, false, false] rfl rfl (one_of HT_.out (by kernel_rfl)) (by decide) (fun K hK => ?_)
  refine goes_ Try.func22 (by kernel_rfl) rfl #[.agg #[.slice A l.length c], .agg #[.slice B m.length d]] (by rfl) rfl rfl (by (try simp only [List.map_toArray, List.map_cons, List.map_nil]); first | done | rfl) ?_
  refine (HRS3.out _ hHeld).mono ?_
  rintro e_ w_2 ⟨rfl, hH_⟩
  refine ⟨_, rfl, ?_⟩
  refine hK.out _ _ hH_ (fun hHeld => ?_)
  clear hK K hH_
  refine norm_ (a' := ?_) ?_ ?_
  rotate_left
  · show Act.put _ (some 19) _ = _
    simp only [Act.put, List.setIfInBounds_toArray, List.set_cons_zero, List.set_cons_succ, i64_w, i32_w]
    rfl
  refine pure_ (i := 6) (N := some 20) (v := ?_) (a' := ?_) #[true, true, true, true, true, true, true, false, false, false, false, false, false, false, false, false, false, false] rfl rfl (any_of HT_.out (by kernel_rfl)) (fun _ _ _ h => h) (Or.inl ⟨by rfl, ?_⟩) ?_ ?_
  rotate_left
  · intro w'
    go_simp
    with_reducible rfl
  rotate_left
  · simp only [Act.put, List.setIfInBounds_toArray, List.set_cons_zero, List.set_cons_succ, i64_w, i32_w]
    rfl
  refine pure_ (i := 7) (N := some 21) (v := ?_) (a' := ?_) #[true, true, true, true, true, true, true, true, false, false, false, false, false, false, false, false, false, false] rfl rfl (any_of HT_.out (by kernel_rfl)) (fun _ _ _ h => h) (Or.inl ⟨by rfl, ?_⟩) ?_ ?_
  rotate_left
  · intro w'
    go_simp
    with_reducible rfl
  rotate_left
  · simp only [Act.put, List.setIfInBounds_toArray, List.set_cons_zero, List.set_cons_succ, i64_w, i32_w]
    rfl
  refine take_ (i := 8) (N := some 22) (v := ?_) (a' := ?_) #[true, true, true, true, true, true, true, true, true, false, false, false, false, false, false, false, false, false] rfl rfl (take_ofW HT_.out HW_.out (by kernel_rfl)) (fun _ _ _ h => h) (Or.inl ⟨by rfl, ?_⟩) hHeld ?_ ?_
  rotate_left
  · intro w' hW
    obtain ⟨hx_, hy_⟩ := FX.out w' hW
    go_simp
    with_reducible rfl
  rotate_left
  · simp only [Act.put, List.setIfInBounds_toArray, List.set_cons_zero, List.set_cons_succ, i64_w, i32_w]
    rfl
  refine take_ (i := 10) (N := some 24) (v := ?_) (a' := ?_) #[true, true, true, true, true, true, true, true, true, false, true, false, false, false, false, false, false, false] rfl rfl (take_ofW HT_.out HW_.out (by kernel_rfl)) (fun _ _ _ h => h) (Or.inl ⟨by rfl, ?_⟩) hHeld ?_ ?_
  rotate_left
  · intro w' hW
    obtain ⟨hx_, hy_⟩ := FX.out w' hW
    go_simp
    with_reducible rfl
  rotate_left
  · simp only [Act.put, List.setIfInBounds_toArray, List.set_cons_zero, List.set_cons_succ, i64_w, i32_w]
    rfl
  refine one_ (i := 9) (N := some 23) #[true, true, true, true, true, true, true, true, true, true, true, false, false, false, false, false, false, false] rfl rfl (one_of HT_.out (by kernel_rfl)) (by decide) (fun K hK => ?_)
  refine goes_ Try.func23 (by kernel_rfl) rfl #[.agg #[.slice A l.length c]] (by rfl) rfl rfl (by (try simp only [List.map_toArray, List.map_cons, List.map_nil]); first | done | rfl) ?_
  refine (HO3.out _ hHeld).mono ?_
  rintro e_ w_3 ⟨rfl, hH_⟩
  refine ⟨_, rfl, ?_⟩
  refine hK.out _ _ hH_ (fun hHeld => ?_)
  clear hK K hH_
  refine norm_ (a' := ?_) ?_ ?_
  rotate_left
  · show Act.put _ (some 23) _ = _
    simp only [Act.put, List.setIfInBounds_toArray, List.set_cons_zero, List.set_cons_succ, i64_w, i32_w]
    rfl
  refine one_ (i := 11) (N := some 25) #[true, true, true, true, true, true, true, true, true, true, true, true, false, false, false, false, false, false] rfl rfl (one_of HT_.out (by kernel_rfl)) (by decide) (fun K hK => ?_)
  refine goes_ Try.func24 (by kernel_rfl) rfl #[.agg #[.slice A l.length c]] (by rfl) rfl rfl (by (try simp only [List.map_toArray, List.map_cons, List.map_nil]); first | done | rfl) ?_
  refine (HRO3.out _ hHeld).mono ?_
  rintro e_ w_4 ⟨rfl, hH_⟩
  refine ⟨_, rfl, ?_⟩
  refine hK.out _ _ hH_ (fun hHeld => ?_)
  clear hK K hH_
  refine norm_ (a' := ?_) ?_ ?_
  rotate_left
  · show Act.put _ (some 25) _ = _
    simp only [Act.put, List.setIfInBounds_toArray, List.set_cons_zero, List.set_cons_succ, i64_w, i32_w]
    rfl
  refine pure_ (i := 12) (N := some 26) (v := ?_) (a' := ?_) #[true, true, true, true, true, true, true, true, true, true, true, true, true, false, false, false, false, false] rfl rfl (any_of HT_.out (by kernel_rfl)) (fun _ _ _ h => h) (Or.inl ⟨by rfl, ?_⟩) ?_ ?_
  rotate_left
  · intro w'
    go_simp
    with_reducible rfl
  rotate_left
  · simp only [Act.put, List.setIfInBounds_toArray, List.set_cons_zero, List.set_cons_succ, i64_w, i32_w]
    rfl
  refine pure_ (i := 13) (N := some 27) (v := ?_) (a' := ?_) #[true, true, true, true, true, true, true, true, true, true, true, true, true, true, false, false, false, false] rfl rfl (any_of HT_.out (by kernel_rfl)) (fun _ _ _ h => h) (Or.inl ⟨by rfl, ?_⟩) ?_ ?_
  rotate_left
  · intro w'
    go_simp
    with_reducible rfl
  rotate_left
  · simp only [Act.put, List.setIfInBounds_toArray, List.set_cons_zero, List.set_cons_succ, i64_w, i32_w]
    rfl
  refine pure_ (i := 14) (N := some 28) (v := ?_) (a' := ?_) #[true, true, true, true, true, true, true, true, true, true, true, true, true, true, true, false, false, false] rfl rfl (any_of HT_.out (by kernel_rfl)) (fun _ _ _ h => h) (Or.inl ⟨by rfl, ?_⟩) ?_ ?_
  rotate_left
  · intro w'
    go_simp
    with_reducible rfl
  rotate_left
  · simp only [Act.put, List.setIfInBounds_toArray, List.set_cons_zero, List.set_cons_succ, i64_w, i32_w]
    rfl
  refine one_ (i := 15) (N := some 29) #[true, true, true, true, true, true, true, true, true, true, true, true, true, true, true, true, false, false] rfl rfl (one_of HT_.out (by kernel_rfl)) (by decide) (fun K hK => ?_)
  refine goes_ Try.func19 (by kernel_rfl) rfl #[] (by rfl) rfl rfl (by (try simp only [List.map_toArray, List.map_cons, List.map_nil]); first | done | rfl) ?_
  refine (HW3.out _ hHeld).mono ?_
  rintro e_ w_5 ⟨rfl, hH_⟩
  refine ⟨_, rfl, ?_⟩
  refine hK.out _ _ hH_ (fun hHeld => ?_)
  clear hK K hH_
  refine norm_ (a' := ?_) ?_ ?_
  rotate_left
  · show Act.put _ (some 29) _ = _
    simp only [Act.put, List.setIfInBounds_toArray, List.set_cons_zero, List.set_cons_succ, i64_w, i32_w]
    rfl
  refine pure_ (i := 16) (N := some 30) (v := ?_) (a' := ?_) #[true, true, true, true, true, true, true, true, true, true, true, true, true, true, true, true, true, false] rfl rfl (any_of HT_.out (by kernel_rfl)) (fun _ _ _ h => h) (Or.inl ⟨by rfl, ?_⟩) ?_ ?_
  rotate_left
  · intro w'
    go_simp
    with_reducible rfl
  rotate_left
  · simp only [Act.put, List.setIfInBounds_toArray, List.set_cons_zero, List.set_cons_succ, i64_w, i32_w]
    rfl
  refine pure_ (i := 17) (N := some 4) (v := ?_) (a' := ?_) #[true, true, true, true, true, true, true, true, true, true, true, true, true, true, true, true, true, true] rfl rfl (any_of HT_.out (by kernel_rfl)) (fun _ _ _ h => h) (Or.inl ⟨by rfl, ?_⟩) ?_ ?_
  rotate_left
  · intro w'
    go_simp
    with_reducible rfl
  rotate_left
  · simp only [Act.put, List.setIfInBounds_toArray, List.set_cons_zero, List.set_cons_succ, i64_w, i32_w]
    rfl
  refine done_ (done_of HT_.out (by kernel_rfl)) ?_
  go_wp2
  go_ret
  exact ⟨rfl, link HB2.out hHeld⟩
theorem opens_HistorySame_0 (W : World) : Opens Try.prog W 24 (fun (h : List S42) cs => ∃ A c, cs = [.slice A h.length c] ∧ h.length ≤ c ∧ Kd.C k42 W A h.length h) := opens_history W
theorem opens_HistorySame_1 (W : World) : Opens Try.prog W 24 (fun (h : List S42) cs => ∃ A c, cs = [.slice A h.length c] ∧ h.length ≤ c ∧ Kd.C k42 W A h.length h) := opens_history W
set_option maxHeartbeats 2000000 in
set_option maxRecDepth 100000 in
theorem walk_HistorySame (w : World) (cs : Array Value) (h : List S42) (hh : ∃ A c, cs.toList = [.slice A h.length c] ∧ h.length ≤ c ∧ Kd.C k42 w A h.length h) (ds : Array Value) (g : List S42) (gg : ∃ A c, ds.toList = [.slice A g.length c] ∧ g.length ≤ c ∧ Kd.C k42 w A g.length g) :
    Calls Try.prog 6 #[.agg cs, .agg ds] w fun e w' => e = .returned (.bool true) ∧ Below w.heap.size w w' := by
  obtain ⟨A, c, e, hc, hr⟩ := hh
  obtain ⟨cs⟩ := cs
  cases e
  obtain ⟨B, d, e, hd, hs⟩ := gg
  obtain ⟨ds⟩ := ds
  cases e
  have HB0 : Hid (Below w.heap.size w ((w.alloc (.cells #[.slice A h.length c] 24)).alloc (.cells #[.slice B g.length d] 24))) := Lib.hid (below_alloc (below_alloc (Below.refl _ _) _) _)
  have HY : Hid (Blk ((w.alloc (.cells #[.slice A h.length c] 24)).alloc (.cells #[.slice B g.length d] 24)) (w.heap.size + 1) [.slice B g.length d] 24) := Lib.hid (by
    have := Blk.new (w.alloc (.cells #[.slice A h.length c] 24)) [.slice B g.length d] 24
    rw [World.size_alloc] at this; exact this)
  have HF1 := Lib.hid (few_c _ h A c (Kd.C_below hr HB0.out) hc)
  cases hf : fewP 40 100 h with
  | false =>
    rw [hf] at HF1
    clear hf hr hc hs hd
    go_enter Try.func6, Try.ntmps6
    go_wp2_with fail
    refine HF1.out.mono ?_
    rintro e w1 ⟨rfl, hb1⟩
    have HB1 := Lib.hid (link HB0.out hb1)
    clear hb1
    go_wp2_with fail
    refine (works _).mono ?_
    rintro e w2 ⟨rfl, hb2⟩
    go_wp2
    go_ret
    exact ⟨rfl, link HB1.out hb2⟩
  | true =>
    cases hg : fewP 40 100 g with
    | true => exact same_main w h g A B c d hr hs hc hd hf hg
    | false =>
      have HF2 := Lib.hid (fun (W : World) (hW : Below w.heap.size w W) => few_c W g B d (Kd.C_below hs hW) hd)
      rw [hf] at HF1
      rw [hg] at HF2
      clear hf hg hr hc hs hd
      go_enter Try.func6, Try.ntmps6
      go_wp2_with fail
      refine HF1.out.mono ?_
      rintro e w1 ⟨rfl, hb1⟩
      have HB1 := Lib.hid (link HB0.out hb1)
      have hy1 := (HY.out.below hb1 HY.out.lt).cell 0
      simp only [List.getElem?_cons_zero] at hy1
      clear hb1
      go_wp2_with fail
      refine (HF2.out _ HB1.out).mono ?_
      rintro e w2 ⟨rfl, hb2⟩
      have HB2 := Lib.hid (link HB1.out hb2)
      clear hb2
      go_wp2_with fail
      refine (works _).mono ?_
      rintro e w3 ⟨rfl, hb3⟩
      go_wp2
      go_ret
      exact ⟨rfl, link HB2.out hb3⟩
end Go.Proofs.Ytlcioegdmopppaa
