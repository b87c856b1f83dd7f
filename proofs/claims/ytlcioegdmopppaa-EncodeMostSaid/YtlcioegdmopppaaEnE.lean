/- encode.txn and encode.text. -/
import Derived.Test.YtlcioegdmopppaaEnC
import Derived.Test.YtlcioegdmopppaaStepsB
set_option linter.unusedSimpArgs false
namespace Go.Proofs.Ytlcioegdmopppaa.En
open Go.RowKit Go.Proofs.Ytlcioegdmopppaa.PEncodeBack Go.Proofs.YtlcioegdmopppaaW.PrintWords
set_option linter.unusedVariables false

theorem headT_yes (t : S42) (h : t.f1 = true) : lineT ⟨#[116]⟩ ⟨#[32, 97, 10]⟩ [t.f0] = headT t := by unfold lineT headT; rw [if_pos h]; rfl
theorem headT_no (t : S42) (h : t.f1 = false) : lineT ⟨#[116]⟩ ⟨#[32, 99, 10]⟩ [t.f0] = headT t := by unfold lineT headT; rw [if_neg (by rw [h]; decide)]; rfl
theorem opT_yes (o : S39) (h : o.f0 = true) : lineT ⟨#[114]⟩ ⟨#[10]⟩ (o.f1 :: o.f3) = opT o := by unfold lineT opT; rw [if_pos h]; rfl
theorem opT_no (o : S39) (h : o.f0 = false) : lineT ⟨#[97]⟩ ⟨#[10]⟩ [o.f1, o.f2] = opT o := by unfold lineT opT; rw [if_neg (by rw [h]; decide)]; rfl
theorem flat_take {α β : Type} (f : α → List β) {l : List α} {k : Nat} (h : k < l.length) : (l.take (k + 1)).flatMap f = (l.take k).flatMap f ++ f l[k] := by
  rw [List.take_succ_eq_append_getElem h, List.flatMap_append]; simp
theorem flat_take_len {α β : Type} (f : α → List β) (l : List α) (k : Nat) : ((l.take k).flatMap f).length ≤ (l.flatMap f).length := by
  have h : l.flatMap f = (l.take k).flatMap f ++ (l.drop k).flatMap f := by rw [← List.flatMap_append, List.take_append_drop]
  rw [h, List.length_append]; omega
theorem C_cells {W : World} {A : Option Addr} {k : IntKind} {l : List Int} (h : Kd.C (Kd.int k) W A l.length l) : Cells W A (nums k l) := fun h0 => by
  rw [nums_len] at h0
  obtain ⟨ad, e, hc⟩ := h.2.2 h0
  refine ⟨ad, e, fun j v hv => ?_⟩
  simp only [nums, List.getElem?_map] at hv
  obtain ⟨x, hx, rfl⟩ := Option.map_eq_some_iff.1 hv
  obtain ⟨c, hl, hK, hcell⟩ := hc j x hx
  have hK : c = [.int k x] := hK
  subst hK
  have := hcell 0 _ rfl
  have e2 : j * (Kd.int k).sz + 0 = j := by show j * 1 + 0 = j; omega
  rw [e2] at this
  exact this
theorem cells_C {W : World} {A : Option Addr} {k : IntKind} {l : List Int} (h : Cells W A (nums k l)) (hl : l.length ≤ 9223372036854775807) : Kd.C (Kd.int k) W A l.length l := by
  refine ⟨rfl, hl, fun h0 => ?_⟩
  obtain ⟨ad, e, hc⟩ := h (by rw [nums_len]; exact h0)
  refine ⟨ad, e, fun j x hx => ⟨[.int k x], rfl, rfl, fun i u hu => ?_⟩⟩
  have hi : i = 0 := by have := (List.getElem?_eq_some_iff.1 hu).1; simp at this; omega
  subst hi
  simp at hu
  subst hu
  have e2 : j * (Kd.int k).sz + 0 = j := by show j * 1 + 0 = j; omega
  rw [e2]
  exact hc j _ (by simp [nums, hx])
theorem int_info : (Try.prog.info? 3).map (fun i => (i.zero, i.size, i.bytes)) = some (some (.int .i64 0), 1, 8) := by kernel_rfl
set_option maxHeartbeats 2000000 in
set_option maxRecDepth 100000 in
theorem txn_c (w : World) (t : S42) (A : Option Addr) (c : Nat) (hr : Kd.C k39 w A t.f2.length t.f2) (hok : okT t = true) (hl : t.f2.length ≤ 1000000) (hl3 : ∀ o ∈ t.f2, o.f3.length ≤ 1000000) (hbig : (txnT t).length ≤ 1000000000) :
    Calls Try.prog 43 #[.agg #[.int .i64 t.f0, .bool t.f1, .slice A t.f2.length c]] w (BOut w (txnT t)) := by
  obtain ⟨f0, f1, f2⟩ := t
  simp only at *
  have HR := Lib.hid hr
  unfold okT at hok
  simp only [Bool.and_eq_true] at hok
  have HOK := Lib.hid hok
  have HL3 := Lib.hid hl3
  have HBIG := Lib.hid hbig
  obtain ⟨N, hN⟩ : ∃ N, f2.length = N := ⟨_, rfl⟩
  have HN := Lib.hid hN
  have hNb : N ≤ 1000000 := by omega
  have HH : ∀ (W : World) (b : Bool), f1 = b → Blk W (w.heap.size + 1) [.int .i64 f0] 3 → Calls Try.prog 61 #[.string ⟨#[116]⟩, .string (if b = true then ⟨#[32, 97, 10]⟩ else ⟨#[32, 99, 10]⟩), .slice (some ⟨w.heap.size + 1, 0, none⟩) 1 1] W (BOut W (headT ⟨f0, f1, f2⟩)) := fun W b e hB => by
    have := line_c W ⟨#[116]⟩ (if b = true then ⟨#[32, 97, 10]⟩ else ⟨#[32, 99, 10]⟩) (by decide) (by split <;> decide) (some ⟨w.heap.size + 1, 0, none⟩) 1 [f0] (ints_laid (l := [f0]) hB (by simp)) (by simp [HOK.out.1]) (by simp)
    subst e
    cases f1 with
    | true => rw [← headT_yes ⟨f0, true, f2⟩ rfl]; exact this
    | false => rw [← headT_no ⟨f0, false, f2⟩ rfl]; exact this
  clear hr hok hl3 hbig hN hl
  rw [HN.out]
  cases f1 with
  | true =>
    have HX := Lib.hid (HH _ true rfl (blk_new2 w (.cells #[.int .i64 f0, .bool true, .slice A N c] 42) [.int .i64 f0] 3))
    have HZ : Hid (Blk ((w.alloc (.cells #[.int .i64 f0, .bool true, .slice A N c] 42)).alloc (.cells #[.int .i64 f0] 3)) w.heap.size [.int .i64 f0, .bool true, .slice A N c] 42) := Lib.hid ((Blk.new w [.int .i64 f0, .bool true, .slice A N c] 42).alloc _)
    have HB0 : Hid (Below w.heap.size w ((w.alloc (.cells #[.int .i64 f0, .bool true, .slice A N c] 42)).alloc (.cells #[.int .i64 f0] 3))) := Lib.hid (((Below.refl _ _).alloc (Nat.le_refl _) _).alloc (by simp) _)
    clear HH
    go_enter Try.func43, Try.ntmps43
    go_wp2_with fail
    refine HX.out.mono ?_
    rintro e w1 ⟨A1, n1, c1, rfl, hB1, hb1⟩
    have hcell := (HZ.out.below hb1 HZ.out.lt).cell 2
    simp only [List.getElem?_cons_succ, List.getElem?_cons_zero] at hcell
    have HJ : Aside (BR w1 w.heap.size (.slice A1 n1 c1) (headT ⟨f0, true, f2⟩ ++ (f2.take 0).flatMap opT) ∧ Below w.heap.size w w1) := by
      have hJ : BR w1 w.heap.size (.slice A1 n1 c1) (headT ⟨f0, true, f2⟩ ++ (f2.take 0).flatMap opT) ∧ Below w.heap.size w w1 := ⟨by rw [List.take_zero, List.flatMap_nil, List.append_nil]; exact hB1.lower (by simp; omega), link HB0.out hb1⟩
      exact hJ
    clear hB1 hb1 HX HZ HB0
    go_wp2_with fail
    have HTX : Hid (txnT ⟨f0, true, f2⟩ = headT ⟨f0, true, f2⟩ ++ f2.flatMap opT) := Lib.hid rfl
    have hbg := HBIG.out
    rw [HTX.out, List.length_append] at hbg
    have HBG := Lib.hid hbg
    clear hbg HBIG
    generalize headT ⟨f0, true, f2⟩ = hd at *
    go_loopw [4, 17] (fun v4 v17 wr => ∃ k : Nat, k ≤ N ∧ v17 = .int .i64 k ∧ Aside (BR wr w.heap.size v4 (hd ++ (f2.take k).flatMap opT) ∧ Below w.heap.size w wr)) (fun _ v17 _ => N - (intOf v17).toNat)
    case atStart => exact ⟨0, by omega, rfl, HJ⟩
    case round =>
      clear HJ hcell
      obtain ⟨k, hk, rfl, HJ⟩ := hrel
      by_cases hlt : k < N
      · have hkl : k < f2.length := by rw [HN.out]; exact hlt
        obtain ⟨hB, hbel⟩ := HJ.out
        obtain ⟨ad, A3, c3, rfl, g0, g1, g2, g3, l3, h3⟩ := at_T39 (Kd.C_below HR.out hbel) (k : Int) (by omega) (by omega)
        rw [rd39 hkl] at g0 g1 g2 g3 l3 h3
        rw [Int.toNat_natCast] at g0 g1 g2 g3
        have hlti : (k : Int) < N := by omega
        have HBR := Lib.hid hB
        have HBE := Lib.hid hbel
        have hlen : (hd ++ (f2.take k).flatMap opT ++ opT f2[k]).length ≤ 1000000000 := by
          have h1 := flat_take_len opT f2 (k + 1)
          rw [flat_take opT hkl, List.length_append] at h1
          have := HBG.out
          rw [List.length_append, List.length_append]; omega
        have HLEN := Lib.hid hlen
        have HJN : Hid (∀ (W : World) (A1 : Option Addr) (c1 : Nat), BR W w.heap.size (.slice A1 (hd ++ (f2.take k).flatMap opT ++ opT f2[k]).length c1) (hd ++ (f2.take k).flatMap opT ++ opT f2[k]) → Below w.heap.size w W → Aside (BR W w.heap.size (.slice A1 (hd ++ (f2.take k).flatMap opT ++ opT f2[k]).length c1) (hd ++ (f2.take (k + 1)).flatMap opT) ∧ Below w.heap.size w W)) := Lib.hid fun W A1 c1 h1 h2 => by
          have e : hd ++ (f2.take (k + 1)).flatMap opT = hd ++ (f2.take k).flatMap opT ++ opT f2[k] := by rw [flat_take opT hkl, List.append_assoc]
          rw [e]
          exact (⟨h1, h2⟩ : BR W w.heap.size _ _ ∧ _)
        have hoo : okOp f2[k] = true := List.all_eq_true.1 HOK.out.2 _ (List.getElem_mem hkl)
        have hl3 := HL3.out _ (List.getElem_mem hkl)
        clear hB hbel hlen HJ
        generalize f2[k] = o at *
        obtain ⟨o0, o1, o2, o3⟩ := o
        simp only at *
        generalize hd ++ (f2.take k).flatMap opT = xs at *
        cases o0 with
        | true =>
          unfold okOp at hoo
          simp only [if_true, Bool.and_eq_true] at hoo
          have HOP := Lib.hid (opT_yes ⟨true, o1, o2, o3⟩ rfl)
          have HOO := Lib.hid hoo
          have h3b := Kd.C_below h3 (((Below.refl wr.heap.size wr).alloc (Nat.le_refl _) (.cells #[.bool true, .int .i64 o1, .int .i64 o2, .slice A3 o3.length c3] 39)).alloc (by simp) (.cells #[.int .i64 o1] 3))
          have HY := Lib.hid (C_cells h3b)
          have HB2 : Hid (Below wr.heap.size wr ((wr.alloc (.cells #[.bool true, .int .i64 o1, .int .i64 o2, .slice A3 o3.length c3] 39)).alloc (.cells #[.int .i64 o1] 3))) := Lib.hid (((Below.refl _ _).alloc (Nat.le_refl _) _).alloc (by simp) _)
          have ho := World.ownsRow_lit (base := wr.heap.size) (e := 3) (size := 1) (wr.alloc (.cells #[.bool true, .int .i64 o1, .int .i64 o2, .slice A3 o3.length c3] 39)) #[.int .i64 o1] 1 (by simp) (by simp [maxLen]) (by simp)
          rw [World.size_alloc] at ho
          have HO := Lib.hid ho
          have HNM := Lib.hid (nums_len .i64 o3)
          have HONE := Lib.hid (nums_one .i64 o3)
          have HLC := Lib.hid (fun (W : World) (A : Option Addr) (c : Nat) (hC : Kd.C (Kd.int .i64) W A (o1 :: o3).length (o1 :: o3)) => line_c W ⟨#[114]⟩ ⟨#[10]⟩ (by decide) (by decide) A c (o1 :: o3) hC (by simp only [List.all_cons, Bool.and_eq_true]; exact ⟨hoo.1, hoo.2.2⟩) (by simp; omega))
          rw [HOP.out] at HLC
          have HML : Hid ((o1 :: o3).length = 1 + o3.length) := Lib.hid (by simp; omega)
          rw [HML.out] at HLC
          have HCC : Hid (∀ W A c, W.ownsRow wr.heap.size 3 1 (.slice A (1 + o3.length) c) (1 + o3.length) ([Value.int .i64 o1] ++ nums .i64 o3) → Kd.C (Kd.int .i64) W A (1 + o3.length) (o1 :: o3)) := Lib.hid fun W A c ho => by
            have := cells_C (k := .i64) (l := o1 :: o3) (Cells.of_own ho) (by simp; omega)
            rw [HML.out] at this
            exact this
          clear h3 h3b ho hoo HOO HML
          generalize hM : o3.length = M at *
          clear hM
          generalize opT ⟨true, o1, o2, o3⟩ = ys at *
          go_wp2_with (at_builtin; refine wpl_app (w0 := wr) wr.heap.size rfl (.tmp 26) (.tmp 28) 37 3 (Value.int .i64 0) 8 rfl Try.underlying37 int_info rfl (by decide) (.slice (some ⟨wr.heap.size + 1, 0, none⟩) 1 1) [.int .i64 o1] (nums .i64 o3) A3 1 M c3 rfl rfl rfl HNM.out HO.out HY.out HONE.out HB2.out HB2.out.size (by omega) ?_; intro A5 c5 w5 hown hb5 hg5 hat5 hc5)
          have HC5 := Lib.hid (HLC.out w5 A5 c5 (HCC.out _ _ _ hown))
          have HBR5 := Lib.hid (HBR.out.below hb5)
          have HBE5 := Lib.hid (HBE.out.trans (hb5.mono HBE.out.size))
          clear hown hb5 hg5 hat5 hc5 HLC HCC HO HY HB2
          go_wp2_with fail
          refine HC5.out.mono ?_
          rintro e w6 ⟨A6, n6, c6, rfl, hB6, hb6⟩
          obtain ⟨e6, _, hY6⟩ := hB6.cells
          have HE6 := Lib.hid e6
          have HY6 := Lib.hid hY6
          have HBR6 := Lib.hid (HBR5.out.below hb6)
          have HBE6 := Lib.hid (link HBE5.out hb6)
          clear hB6 hb6 e6 hY6
          go_wp2_with (at_builtin; refine wpl_bapp_row (w0 := w) w.heap.size rfl (.tmp 23) (.tmp 30) 27 5 rfl Try.underlying27 u8_info _ xs ys A6 n6 c6 rfl rfl HE6.out HBR6.out HY6.out HBE6.out HBE6.out.size (by have := HLEN.out; rw [List.length_append] at this; omega) ?_; intro A7 c7 w7 h1 h2 h3 h4; have HJ2 := HJN.out _ _ _ h1 h2; clear h1 h2 h3 h4; generalize (xs ++ ys).length = n7 at *)
          go_roundw
          case rel => exact ⟨k + 1, by omega, by go_num, HJ2⟩
          case measure => simp [intOf]; omega
        | false =>
          unfold okOp at hoo
          simp only [Bool.false_eq_true, if_false, Bool.and_eq_true] at hoo
          have HOP := Lib.hid (opT_no ⟨false, o1, o2, o3⟩ rfl)
          have HLC := Lib.hid (fun (W : World) (hB : Blk W (wr.heap.size + 1) [.int .i64 o1, .int .i64 o2] 3) => line_c W ⟨#[97]⟩ ⟨#[10]⟩ (by decide) (by decide) (some ⟨wr.heap.size + 1, 0, none⟩) 2 [o1, o2] (ints_laid (l := [o1, o2]) hB (by simp)) (by simp [hoo.1, hoo.2.1]) (by simp))
          rw [HOP.out] at HLC
          have HC5 := Lib.hid (HLC.out _ (blk_new2 wr (.cells #[.bool false, .int .i64 o1, .int .i64 o2, .slice A3 o3.length c3] 39) [.int .i64 o1, .int .i64 o2] 3))
          have hb2 : Below wr.heap.size wr ((wr.alloc (.cells #[.bool false, .int .i64 o1, .int .i64 o2, .slice A3 o3.length c3] 39)).alloc (.cells #[.int .i64 o1, .int .i64 o2] 3)) := ((Below.refl _ _).alloc (Nat.le_refl _) _).alloc (by simp) _
          have HBR5 := Lib.hid (HBR.out.below hb2)
          have HBE5 := Lib.hid (HBE.out.trans (hb2.mono HBE.out.size))
          clear h3 hoo HLC hb2
          generalize opT ⟨false, o1, o2, o3⟩ = ys at *
          go_wp2_with fail
          refine HC5.out.mono ?_
          rintro e w6 ⟨A6, n6, c6, rfl, hB6, hb6⟩
          obtain ⟨e6, _, hY6⟩ := hB6.cells
          have HE6 := Lib.hid e6
          have HY6 := Lib.hid hY6
          have HBR6 := Lib.hid (HBR5.out.below hb6)
          have HBE6 := Lib.hid (link HBE5.out hb6)
          clear hB6 hb6 e6 hY6
          go_wp2_with (at_builtin; refine wpl_bapp_row (w0 := w) w.heap.size rfl (.tmp 32) (.tmp 38) 27 5 rfl Try.underlying27 u8_info _ xs ys A6 n6 c6 rfl rfl HE6.out HBR6.out HY6.out HBE6.out HBE6.out.size (by have := HLEN.out; rw [List.length_append] at this; omega) ?_; intro A7 c7 w7 h1 h2 h3 h4; have HJ2 := HJN.out _ _ _ h1 h2; clear h1 h2 h3 h4; generalize (xs ++ ys).length = n7 at *)
          go_roundw
          case rel => exact ⟨k + 1, by omega, by go_num, HJ2⟩
          case measure => simp [intOf]; omega
      · have hlti : ¬ (k : Int) < N := by omega
        obtain ⟨hB, hbel⟩ := HJ.out
        have hkN : k = f2.length := by rw [HN.out]; omega
        rw [hkN, List.take_length] at hB
        rw [← HTX.out] at hB
        obtain ⟨A9, c9, e9, _⟩ := hB.slice
        have HFI : Hid (BOut w (txnT ⟨f0, true, f2⟩) (.returned u4) wr) := Lib.hid ⟨A9, _, c9, by rw [e9], by rw [e9] at hB; exact hB, hbel⟩
        clear hB hbel HJ hkN e9
        go_wp2
        go_ret
        exact HFI.out
  | false =>
    have HX := Lib.hid (HH _ false rfl (blk_new2 w (.cells #[.int .i64 f0, .bool false, .slice A N c] 42) [.int .i64 f0] 3))
    have HZ : Hid (Blk ((w.alloc (.cells #[.int .i64 f0, .bool false, .slice A N c] 42)).alloc (.cells #[.int .i64 f0] 3)) w.heap.size [.int .i64 f0, .bool false, .slice A N c] 42) := Lib.hid ((Blk.new w [.int .i64 f0, .bool false, .slice A N c] 42).alloc _)
    have HB0 : Hid (Below w.heap.size w ((w.alloc (.cells #[.int .i64 f0, .bool false, .slice A N c] 42)).alloc (.cells #[.int .i64 f0] 3))) := Lib.hid (((Below.refl _ _).alloc (Nat.le_refl _) _).alloc (by simp) _)
    clear HH
    go_enter Try.func43, Try.ntmps43
    go_wp2_with fail
    refine HX.out.mono ?_
    rintro e w1 ⟨A1, n1, c1, rfl, hB1, hb1⟩
    have hcell := (HZ.out.below hb1 HZ.out.lt).cell 2
    simp only [List.getElem?_cons_succ, List.getElem?_cons_zero] at hcell
    have HJ : Aside (BR w1 w.heap.size (.slice A1 n1 c1) (headT ⟨f0, false, f2⟩ ++ (f2.take 0).flatMap opT) ∧ Below w.heap.size w w1) := by
      have hJ : BR w1 w.heap.size (.slice A1 n1 c1) (headT ⟨f0, false, f2⟩ ++ (f2.take 0).flatMap opT) ∧ Below w.heap.size w w1 := ⟨by rw [List.take_zero, List.flatMap_nil, List.append_nil]; exact hB1.lower (by simp; omega), link HB0.out hb1⟩
      exact hJ
    clear hB1 hb1 HX HZ HB0
    go_wp2_with fail
    have HTX : Hid (txnT ⟨f0, false, f2⟩ = headT ⟨f0, false, f2⟩ ++ f2.flatMap opT) := Lib.hid rfl
    have hbg := HBIG.out
    rw [HTX.out, List.length_append] at hbg
    have HBG := Lib.hid hbg
    clear hbg HBIG
    generalize headT ⟨f0, false, f2⟩ = hd at *
    go_loopw [4, 17] (fun v4 v17 wr => ∃ k : Nat, k ≤ N ∧ v17 = .int .i64 k ∧ Aside (BR wr w.heap.size v4 (hd ++ (f2.take k).flatMap opT) ∧ Below w.heap.size w wr)) (fun _ v17 _ => N - (intOf v17).toNat)
    case atStart => exact ⟨0, by omega, rfl, HJ⟩
    case round =>
      clear HJ hcell
      obtain ⟨k, hk, rfl, HJ⟩ := hrel
      by_cases hlt : k < N
      · have hkl : k < f2.length := by rw [HN.out]; exact hlt
        obtain ⟨hB, hbel⟩ := HJ.out
        obtain ⟨ad, A3, c3, rfl, g0, g1, g2, g3, l3, h3⟩ := at_T39 (Kd.C_below HR.out hbel) (k : Int) (by omega) (by omega)
        rw [rd39 hkl] at g0 g1 g2 g3 l3 h3
        rw [Int.toNat_natCast] at g0 g1 g2 g3
        have hlti : (k : Int) < N := by omega
        have HBR := Lib.hid hB
        have HBE := Lib.hid hbel
        have hlen : (hd ++ (f2.take k).flatMap opT ++ opT f2[k]).length ≤ 1000000000 := by
          have h1 := flat_take_len opT f2 (k + 1)
          rw [flat_take opT hkl, List.length_append] at h1
          have := HBG.out
          rw [List.length_append, List.length_append]; omega
        have HLEN := Lib.hid hlen
        have HJN : Hid (∀ (W : World) (A1 : Option Addr) (c1 : Nat), BR W w.heap.size (.slice A1 (hd ++ (f2.take k).flatMap opT ++ opT f2[k]).length c1) (hd ++ (f2.take k).flatMap opT ++ opT f2[k]) → Below w.heap.size w W → Aside (BR W w.heap.size (.slice A1 (hd ++ (f2.take k).flatMap opT ++ opT f2[k]).length c1) (hd ++ (f2.take (k + 1)).flatMap opT) ∧ Below w.heap.size w W)) := Lib.hid fun W A1 c1 h1 h2 => by
          have e : hd ++ (f2.take (k + 1)).flatMap opT = hd ++ (f2.take k).flatMap opT ++ opT f2[k] := by rw [flat_take opT hkl, List.append_assoc]
          rw [e]
          exact (⟨h1, h2⟩ : BR W w.heap.size _ _ ∧ _)
        have hoo : okOp f2[k] = true := List.all_eq_true.1 HOK.out.2 _ (List.getElem_mem hkl)
        have hl3 := HL3.out _ (List.getElem_mem hkl)
        clear hB hbel hlen HJ
        generalize f2[k] = o at *
        obtain ⟨o0, o1, o2, o3⟩ := o
        simp only at *
        generalize hd ++ (f2.take k).flatMap opT = xs at *
        cases o0 with
        | true =>
          unfold okOp at hoo
          simp only [if_true, Bool.and_eq_true] at hoo
          have HOP := Lib.hid (opT_yes ⟨true, o1, o2, o3⟩ rfl)
          have HOO := Lib.hid hoo
          have h3b := Kd.C_below h3 (((Below.refl wr.heap.size wr).alloc (Nat.le_refl _) (.cells #[.bool true, .int .i64 o1, .int .i64 o2, .slice A3 o3.length c3] 39)).alloc (by simp) (.cells #[.int .i64 o1] 3))
          have HY := Lib.hid (C_cells h3b)
          have HB2 : Hid (Below wr.heap.size wr ((wr.alloc (.cells #[.bool true, .int .i64 o1, .int .i64 o2, .slice A3 o3.length c3] 39)).alloc (.cells #[.int .i64 o1] 3))) := Lib.hid (((Below.refl _ _).alloc (Nat.le_refl _) _).alloc (by simp) _)
          have ho := World.ownsRow_lit (base := wr.heap.size) (e := 3) (size := 1) (wr.alloc (.cells #[.bool true, .int .i64 o1, .int .i64 o2, .slice A3 o3.length c3] 39)) #[.int .i64 o1] 1 (by simp) (by simp [maxLen]) (by simp)
          rw [World.size_alloc] at ho
          have HO := Lib.hid ho
          have HNM := Lib.hid (nums_len .i64 o3)
          have HONE := Lib.hid (nums_one .i64 o3)
          have HLC := Lib.hid (fun (W : World) (A : Option Addr) (c : Nat) (hC : Kd.C (Kd.int .i64) W A (o1 :: o3).length (o1 :: o3)) => line_c W ⟨#[114]⟩ ⟨#[10]⟩ (by decide) (by decide) A c (o1 :: o3) hC (by simp only [List.all_cons, Bool.and_eq_true]; exact ⟨hoo.1, hoo.2.2⟩) (by simp; omega))
          rw [HOP.out] at HLC
          have HML : Hid ((o1 :: o3).length = 1 + o3.length) := Lib.hid (by simp; omega)
          rw [HML.out] at HLC
          have HCC : Hid (∀ W A c, W.ownsRow wr.heap.size 3 1 (.slice A (1 + o3.length) c) (1 + o3.length) ([Value.int .i64 o1] ++ nums .i64 o3) → Kd.C (Kd.int .i64) W A (1 + o3.length) (o1 :: o3)) := Lib.hid fun W A c ho => by
            have := cells_C (k := .i64) (l := o1 :: o3) (Cells.of_own ho) (by simp; omega)
            rw [HML.out] at this
            exact this
          clear h3 h3b ho hoo HOO HML
          generalize hM : o3.length = M at *
          clear hM
          generalize opT ⟨true, o1, o2, o3⟩ = ys at *
          go_wp2_with (at_builtin; refine wpl_app (w0 := wr) wr.heap.size rfl (.tmp 26) (.tmp 28) 37 3 (Value.int .i64 0) 8 rfl Try.underlying37 int_info rfl (by decide) (.slice (some ⟨wr.heap.size + 1, 0, none⟩) 1 1) [.int .i64 o1] (nums .i64 o3) A3 1 M c3 rfl rfl rfl HNM.out HO.out HY.out HONE.out HB2.out HB2.out.size (by omega) ?_; intro A5 c5 w5 hown hb5 hg5 hat5 hc5)
          have HC5 := Lib.hid (HLC.out w5 A5 c5 (HCC.out _ _ _ hown))
          have HBR5 := Lib.hid (HBR.out.below hb5)
          have HBE5 := Lib.hid (HBE.out.trans (hb5.mono HBE.out.size))
          clear hown hb5 hg5 hat5 hc5 HLC HCC HO HY HB2
          go_wp2_with fail
          refine HC5.out.mono ?_
          rintro e w6 ⟨A6, n6, c6, rfl, hB6, hb6⟩
          obtain ⟨e6, _, hY6⟩ := hB6.cells
          have HE6 := Lib.hid e6
          have HY6 := Lib.hid hY6
          have HBR6 := Lib.hid (HBR5.out.below hb6)
          have HBE6 := Lib.hid (link HBE5.out hb6)
          clear hB6 hb6 e6 hY6
          go_wp2_with (at_builtin; refine wpl_bapp_row (w0 := w) w.heap.size rfl (.tmp 23) (.tmp 30) 27 5 rfl Try.underlying27 u8_info _ xs ys A6 n6 c6 rfl rfl HE6.out HBR6.out HY6.out HBE6.out HBE6.out.size (by have := HLEN.out; rw [List.length_append] at this; omega) ?_; intro A7 c7 w7 h1 h2 h3 h4; have HJ2 := HJN.out _ _ _ h1 h2; clear h1 h2 h3 h4; generalize (xs ++ ys).length = n7 at *)
          go_roundw
          case rel => exact ⟨k + 1, by omega, by go_num, HJ2⟩
          case measure => simp [intOf]; omega
        | false =>
          unfold okOp at hoo
          simp only [Bool.false_eq_true, if_false, Bool.and_eq_true] at hoo
          have HOP := Lib.hid (opT_no ⟨false, o1, o2, o3⟩ rfl)
          have HLC := Lib.hid (fun (W : World) (hB : Blk W (wr.heap.size + 1) [.int .i64 o1, .int .i64 o2] 3) => line_c W ⟨#[97]⟩ ⟨#[10]⟩ (by decide) (by decide) (some ⟨wr.heap.size + 1, 0, none⟩) 2 [o1, o2] (ints_laid (l := [o1, o2]) hB (by simp)) (by simp [hoo.1, hoo.2.1]) (by simp))
          rw [HOP.out] at HLC
          have HC5 := Lib.hid (HLC.out _ (blk_new2 wr (.cells #[.bool false, .int .i64 o1, .int .i64 o2, .slice A3 o3.length c3] 39) [.int .i64 o1, .int .i64 o2] 3))
          have hb2 : Below wr.heap.size wr ((wr.alloc (.cells #[.bool false, .int .i64 o1, .int .i64 o2, .slice A3 o3.length c3] 39)).alloc (.cells #[.int .i64 o1, .int .i64 o2] 3)) := ((Below.refl _ _).alloc (Nat.le_refl _) _).alloc (by simp) _
          have HBR5 := Lib.hid (HBR.out.below hb2)
          have HBE5 := Lib.hid (HBE.out.trans (hb2.mono HBE.out.size))
          clear h3 hoo HLC hb2
          generalize opT ⟨false, o1, o2, o3⟩ = ys at *
          go_wp2_with fail
          refine HC5.out.mono ?_
          rintro e w6 ⟨A6, n6, c6, rfl, hB6, hb6⟩
          obtain ⟨e6, _, hY6⟩ := hB6.cells
          have HE6 := Lib.hid e6
          have HY6 := Lib.hid hY6
          have HBR6 := Lib.hid (HBR5.out.below hb6)
          have HBE6 := Lib.hid (link HBE5.out hb6)
          clear hB6 hb6 e6 hY6
          go_wp2_with (at_builtin; refine wpl_bapp_row (w0 := w) w.heap.size rfl (.tmp 32) (.tmp 38) 27 5 rfl Try.underlying27 u8_info _ xs ys A6 n6 c6 rfl rfl HE6.out HBR6.out HY6.out HBE6.out HBE6.out.size (by have := HLEN.out; rw [List.length_append] at this; omega) ?_; intro A7 c7 w7 h1 h2 h3 h4; have HJ2 := HJN.out _ _ _ h1 h2; clear h1 h2 h3 h4; generalize (xs ++ ys).length = n7 at *)
          go_roundw
          case rel => exact ⟨k + 1, by omega, by go_num, HJ2⟩
          case measure => simp [intOf]; omega
      · have hlti : ¬ (k : Int) < N := by omega
        obtain ⟨hB, hbel⟩ := HJ.out
        have hkN : k = f2.length := by rw [HN.out]; omega
        rw [hkN, List.take_length] at hB
        rw [← HTX.out] at hB
        obtain ⟨A9, c9, e9, _⟩ := hB.slice
        have HFI : Hid (BOut w (txnT ⟨f0, false, f2⟩) (.returned u4) wr) := Lib.hid ⟨A9, _, c9, by rw [e9], by rw [e9] at hB; exact hB, hbel⟩
        clear hB hbel HJ hkN e9
        go_wp2
        go_ret
        exact HFI.out
end Go.Proofs.Ytlcioegdmopppaa.En
