/- coroner's law CsrOut: its walk. -/
import Derived.Test.YtdchnaghmmhkhaaKtCsGw
import Derived.Test.YtdchnaghmmhkhaaKtF
import Derived.Test.YtdchnaghmmhkhaaKtF
set_option linter.unusedSimpArgs false
namespace Go.Proofs.Ytdchnaghmmhkhaa
open Go.Shelf Go.RowKit Go.Lib Go.Sort Go.Proofs.Ytdchnaghmmhkhaa.RowAt Go.Proofs.Ytdchnaghmmhkhaa.PCsrGraphs Go.Proofs.YtdchnaghmmhkhaaW.PrintWords Go.Proofs.YtdchnaghmmhkhaaW.PrintLast Cs Cs.Ai
set_option linter.unusedSectionVars false
set_option linter.unusedVariables false
attribute [local go_sem] Oper.semAt_some Go.Proofs.YtdchnaghmmhkhaaW.PrintMore.min2_int Go.Proofs.YtdchnaghmmhkhaaW.PrintMore.min_two

theorem opens_CsrOut_1 (W : World) : Opens Try.prog W 22 (fun (l : List S53) cs => ∃ A c, cs = [.slice A l.length c] ∧ l.length ≤ c ∧ InA W A l) := opens_arcs W
theorem results_cell_bool {fn : Func} {p : Tmp} {ty : TypeId} (h : fn.results = #[.cell p ty]) (tmps : Array Value) (P : Program) (w : World) (a : Addr) (b : Bool) (hp : tmps.getD p undef = .pointer (some a)) (hc : w.cell? a = some (.bool b)) (hu : P.underlying ty = some .bool) :
    (results fn tmps).run P w = .ok (.bool b) w := by
  have hp' : tmps[p]?.getD undef = .pointer (some a) := by simpa using hp
  have hagg : (isAgg ty).run P w = .ok false w := by
    unfold isAgg
    rw [Sem.run_bind, run_underlying hu w]
    simp
  simp only [results, h]
  simp [hp', asAddr, loadVar, hagg, hc]
theorem func_nil (w : World) (f : Fn) (a b : Array Value) : (binOp .eql 44 (.func f a b) .nilFunc).run Try.prog w = .ok (.bool false) w := by
  have h : ∀ d : Nat, (Op.equalIn (d + 1) 44 (.func f a b) .nilFunc).run Try.prog w = .ok false w := fun d => by
    simp [Op.equalIn, run_underlying Try.underlying44]
  simp only [binOp]
  simp [Op.equal, Op.maxDepth, h 9999]
def RgOu.T : Bool × List (List Nat × List Nat) := (true, [([], []), ([], []), ([], []), ([2], [2]), ([], []), ([4], [4]), ([3, 5], [3, 5]), ([1, 6], [1, 6]), ([0, 7], [0, 7]), ([8, 8, 0, 1, 2, 3, 4, 5, 6, 7, 8], [8])])
def RgOu.B : List Nat := [0, 0, 0, 4, 0, 16, 60, 126, 255, 511]
theorem RgOu.tab : rtab .any (opsOf Try.f4 17) = RgOu.T := by kernel_rfl
theorem RgOu.bits : waitsOk RgOu.T.2 RgOu.B = true := by kernel_rfl
set_option maxRecDepth 1000000 in
set_option maxHeartbeats 8000000 in
theorem out_ok (w : World) (n : Nat) (A : Option Addr) (c : Nat) (l : List S53) (hi : Hid (InA w A l)) (hc : l.length ≤ c) (v mask : Int) (most : Nat) (hmost : most ≤ 255) (hn : n ≤ 60) (hl : l.length ≤ 200) (hok : Hid (l.any (fun x => outA n (ofR x)) = false)) (hf : Hid (fewB n l 60 200 = true)) :
    CallsIn Fence.wide 0 Try.prog 4 #[.int .i64 n, .slice A l.length c, .int .i64 v, .int .i64 mask, .int .u8 (most : Int)] w fun e w' => e = .returned (.bool true) ∧ Below w.heap.size w w' := by
  have e1 : ∀ args w, (callFunc 19 args).run Try.prog w = .ok (.enter 19 args) w := enters_of Try.func19 (by kernel_rfl) rfl
  have e2 : ∀ args w, (callFunc 8 args).run Try.prog w = .ok (.enter 8 args) w := enters_of Try.func8 (by kernel_rfl) rfl
  have e3 : ∀ args w, (callFunc 10 args).run Try.prog w = .ok (.enter 10 args) w := enters_of Try.func10 (by kernel_rfl) rfl
  have e4 : ∀ args w, (callFunc 9 args).run Try.prog w = .ok (.enter 9 args) w := enters_of Try.func9 (by kernel_rfl) rfl
  have e5 : ∀ args w, (callFunc 11 args).run Try.prog w = .ok (.enter 11 args) w := enters_of Try.func11 (by kernel_rfl) rfl
  have e6 : ∀ args w, (callFunc 20 args).run Try.prog w = .ok (.enter 20 args) w := enters_of Try.func20 (by kernel_rfl) rfl
  have hen : ∀ (args : Array Value) (w : World), (callFunc 35 args).run Try.prog w = .ok (.enter 35 args) w := enters_of Try.func35 (by kernel_rfl) rfl
  have hin : ∀ x ∈ l, 0 ≤ x.f0 ∧ x.f0 < n ∧ 0 ≤ x.f1 ∧ x.f1 < n := fun x hx => by
    have h := out_in.1 (by rw [List.any_map]; exact hok.out : (l.map ofR).any (outA n) = false) (ofR x) (List.mem_map.2 ⟨x, hx, rfl⟩)
    exact ⟨h.1.1, h.1.2, h.2.1, h.2.2⟩
  have HF : Hid (∀ w1, Below w.heap.size w w1 → Calls Try.prog 19 #[.int .i64 n, .slice A l.length c, .int .i64 60, .int .i64 200] w1 fun e w' => e = .returned (.bool true) ∧ Drawn0 w1 w') := Lib.hid fun w1 hb => by
    obtain ⟨k, hk⟩ := few_f n l 60 200 (by decide)
    rw [hf.out] at hk
    exact coronerref19_Few.calls k n A c l 60 200 true w1 (Kd.C_below hi.out.each.1 hb) hc hk
  have HIN := Lib.hid hin
  have HT := Lib.hid (to_few w A c l hi.out hc hl)
  have HRN := Lib.hid (rnew_ok w n A c l hi.out hc hl hok.out (by omega))
  have HN := Lib.hid (new_few n l (by omega) hl hok.out hi.out.each.2)
  have HSQ := Lib.hid (sq_new l (sq0 n) hin (sq0_sq n))
  clear hin hi hok hf
  obtain ⟨M, hM⟩ : ∃ M, M = l.foldl upd (sq0 n) := ⟨_, rfl⟩
  rw [← hM] at HRN HSQ
  have HMM := Lib.hid hM
  clear hM
  have hne := func_nil
  refine callsIn_of_wp_marks Try.func4 rfl trivial ?_ rfl
  simp only [Try.ntmps4, List.size_toArray, List.length_cons, List.length_nil, Nat.reduceAdd, Nat.reduceSub, Array.replicate_succ, Array.replicate_zero, List.push_toArray, List.append_toArray, List.nil_append, List.cons_append]
  have hFn : ∀ f, Fence.wide.fn f = True := fun _ => rfl
  have hD : Fence.wide.depth = none := rfl
  have hb0 : Below w.heap.size w (((w.alloc (.cells #[.int .i64 v] 3)).alloc (.cells #[.int .u8 (most : Int)] 5)).alloc (.cells #[.bool false] 4)) := (((Below.refl _ w).alloc (Nat.le_refl _) _).alloc (by simp) _).alloc (by simp; omega) _
  have B7 := ((Blk.new w [.int .i64 v] 3).alloc (.cells #[.int .u8 (most : Int)] 5)).alloc (.cells #[.bool false] 4)
  have B9 := (Blk.new (w.alloc (.cells #[.int .i64 v] 3)) [.int .u8 (most : Int)] 5).alloc (.cells #[.bool false] 4)
  have B10 := Blk.new ((w.alloc (.cells #[.int .i64 v] 3)).alloc (.cells #[.int .u8 (most : Int)] 5)) [.bool false] 4
  simp only [World.size_alloc] at B9 B10
  have HB0 := Lib.hid hb0
  have H7 := Lib.hid B7
  have H9 := Lib.hid B9
  have H10 := Lib.hid B10
  clear hb0 B7 B9 B10
  gi_wp2_with (fail)
  generalize (((w.alloc (.cells #[.int .i64 v] 3)).alloc (.cells #[.int .u8 (most : Int)] 5)).alloc (.cells #[.bool false] 4)) = w0 at *
  refine (callsIn_wide.2 (HF.out w0 HB0.out)).mono ?_
  rintro e w1 ⟨rfl, hd1⟩
  have HB1 := Lib.hid (HB0.out.trans (hd1.below.mono HB0.out.size))
  have H71 := Lib.hid (H7.out.below hd1.below H7.out.lt)
  have H91 := Lib.hid (H9.out.below hd1.below H9.out.lt)
  have H101 := Lib.hid (H10.out.below hd1.below H10.out.lt)
  clear hd1 HF HB0 H7 H9 H10
  gi_wp2_with (fail)
  refine (callsIn_wide.2 (works_c w1)).mono ?_
  rintro e w2 ⟨rfl, hb2⟩
  have HB2 := Lib.hid (HB1.out.trans (hb2.mono HB1.out.size))
  have H72 := Lib.hid (H71.out.below hb2 H71.out.lt)
  have H92 := Lib.hid (H91.out.below hb2 H91.out.lt)
  have H102 := Lib.hid (H101.out.below hb2 H101.out.lt)
  clear hb2 HB1 H71 H91 H101
  gi_wp2_with (fail)
  refine (callsIn_wide.2 (HT.out w2 HB2.out)).mono ?_
  rintro e w3 ⟨A3, c3, rfl, hR3, hb3⟩
  have HR3 := Lib.hid hR3
  have HB3 := Lib.hid (HB2.out.trans (hb3.mono HB2.out.size))
  have H73 := Lib.hid (H72.out.below hb3 H72.out.lt)
  have H93 := Lib.hid (H92.out.below hb3 H92.out.lt)
  have H103 := Lib.hid (H102.out.below hb3 H102.out.lt)
  clear hR3 hb3 HB2 H72 H92 H102
  gi_wp2_with (fail)
  refine (callsIn_wide.2 (HN.out A3 c3 w3 HR3.out)).mono ?_
  rintro e w4 ⟨p, r, rfl, hg4, hd, hb4⟩
  have HG4 := Lib.hid hg4
  have HD := Lib.hid hd
  have HB4 := Lib.hid (HB3.out.trans (hb4.mono HB3.out.size))
  have H74 := Lib.hid (H73.out.below hb4 H73.out.lt)
  have H94 := Lib.hid (H93.out.below hb4 H93.out.lt)
  have H104 := Lib.hid (H103.out.below hb4 H103.out.lt)
  have hlr : r.length ≤ 200 := Nat.le_trans hd.len (by rw [List.length_map]; exact hl)
  have HMK : Hid (∀ t : Int, coronerref19_Mask.f n M v t = some (lookV n r v t)) := Lib.hid fun t => by rw [HMM.out]; exact mask_eq HIN.out hd v t
  have HOF : Hid (coronerref19_Out.f (n + 1) n M v mask = some ((flt mask (rowV n r v)).map (·.f1))) := Lib.hid (by rw [HMM.out]; exact out_f (by omega) HIN.out hd v mask)
  clear hg4 hd hb4 HN HR3 HB3 HMM HIN H73 H93 H103
  gi_wp2_with (fail)
  refine (callsIn_wide.2 (HRN.out w4 HB4.out)).mono ?_
  rintro e w5 ⟨A5, c5, rfl, hk5, hc5, hb5⟩
  have HG5 := Lib.hid (HG4.out.below hb5)
  have HK5 := Lib.hid hk5
  have HC5 := Lib.hid hc5
  obtain ⟨m, hm⟩ : ∃ m, m = M.length := ⟨_, rfl⟩
  rw [← hm]
  have HLM := Lib.hid hm
  have hb5' : Below w5.heap.size w5 (w5.alloc (.cells #[.int .i64 (n : Int), .slice A5 m c5] 32)) := (Below.refl _ w5).alloc (Nat.le_refl _) _
  have hB5 := Blk.new w5 [.int .i64 (n : Int), .slice A5 m c5] 32
  have HB5 := Lib.hid (HB4.out.trans (hb5.mono HB4.out.size))
  have H75 := Lib.hid (H74.out.below hb5 H74.out.lt)
  have H95 := Lib.hid (H94.out.below hb5 H94.out.lt)
  have H105 := Lib.hid (H104.out.below hb5 H104.out.lt)
  have HB6 := Lib.hid (HB5.out.trans (hb5'.mono HB5.out.size))
  have H76 := Lib.hid (H75.out.below hb5' H75.out.lt)
  have H96 := Lib.hid (H95.out.below hb5' H95.out.lt)
  have H106 := Lib.hid (H105.out.below hb5' H105.out.lt)
  have H136 := Lib.hid hB5
  have HG6 := Lib.hid (HG5.out.below hb5')
  have HK6 := Lib.hid (Kd.C_below HK5.out hb5')
  have hx7 : (w5.alloc (.cells #[.int .i64 (n : Int), .slice A5 m c5] 32)).cell? ⟨w.heap.size, 0, none⟩ = some (.int .i64 v) := (H76.out.cell 0).trans rfl
  clear hb5 hb5' hB5 hk5 hc5 HG4 HG5 HK5 HB4 HB5 HRN H74 H94 H104 H75 H95 H105 hm
  gi_wp2_with (fail)
  generalize (w5.alloc (.cells #[.int .i64 (n : Int), .slice A5 m c5] 32)) = w6 at *
  obtain ⟨b, ga, ca, Ag, cg, hp, hA⟩ := HG6.out.a
  obtain rfl : p = ⟨b, 0, none⟩ := by injection hp with hp; exact Option.some.inj hp
  have HA6 := Lib.hid hA
  refine (callsIn_wide.2 (out_c (some ⟨b, 0, none⟩) v mask w6)).mono ?_
  rintro e w7 ⟨rfl, rfl⟩
  have hb8 : Below w6.heap.size w6 (((w6.alloc (.cells #[.pointer (some ⟨b, 0, none⟩)] 24)).alloc (.cells #[.int .i64 v] 3)).alloc (.cells #[.int .i64 mask] 3)) := (((Below.refl _ w6).alloc (Nat.le_refl _) _).alloc (by simp) _).alloc (by simp; omega) _
  have C0 := ((Blk.new w6 [.pointer (some ⟨b, 0, none⟩)] 24).alloc (.cells #[.int .i64 v] 3)).alloc (.cells #[.int .i64 mask] 3)
  have C1 := (Blk.new (w6.alloc (.cells #[.pointer (some ⟨b, 0, none⟩)] 24)) [.int .i64 v] 3).alloc (.cells #[.int .i64 mask] 3)
  have C2 := Blk.new ((w6.alloc (.cells #[.pointer (some ⟨b, 0, none⟩)] 24)).alloc (.cells #[.int .i64 v] 3)) [.int .i64 mask] 3
  simp only [World.size_alloc] at C1 C2
  have hsz8 : (((w6.alloc (.cells #[.pointer (some ⟨b, 0, none⟩)] 24)).alloc (.cells #[.int .i64 v] 3)).alloc (.cells #[.int .i64 mask] 3)).heap.size = w6.heap.size + 3 := by simp
  have HB8 := Lib.hid (HB6.out.trans (hb8.mono HB6.out.size))
  have H78 := Lib.hid (H76.out.below hb8 H76.out.lt)
  have H98 := Lib.hid (H96.out.below hb8 H96.out.lt)
  have H108 := Lib.hid (H106.out.below hb8 H106.out.lt)
  have H138 := Lib.hid (H136.out.below hb8 H136.out.lt)
  have HA8 := Lib.hid (HA6.out.below hb8)
  have HK8 := Lib.hid (Kd.C_below HK6.out hb8)
  have HC0 := Lib.hid C0
  have HC1 := Lib.hid C1
  have HC2 := Lib.hid C2
  have HSZ8 := Lib.hid hsz8
  clear hb8 C0 C1 C2 HB6 H76 H96 H106 H136 HA6 HK6 hx7 hA hp HG6 hsz8 HT
  generalize (((w6.alloc (.cells #[.pointer (some ⟨b, 0, none⟩)] 24)).alloc (.cells #[.int .i64 v] 3)).alloc (.cells #[.int .i64 mask] 3)) = w8 at *
  gi_wp2_with (fail)
  have hris := rowV_rising (n := n) HD.out.is.1 v
  have HLK : Hid (∀ (k : Nat) (a : Ar), (flt mask (rowV n r v))[k]? = some a → lookV n r v a.f1 = a.f2) := Lib.hid fun k a hk => by
    rw [lookV_eq]
    exact look_mem hris (flt_mem.1 (List.mem_of_getElem? hk)).1
  have hrl : (rowV n r v).length ≤ 200 := by
    unfold rowV
    split
    · have h1 := rowW_len r v.toNat
      have h2 := cnt_le r (v.toNat + 1)
      omega
    · exact Nat.zero_le _
  have HFL : Hid ((flt mask (rowV n r v)).length ≤ 200) := Lib.hid (Nat.le_trans (List.length_filter_le ..) hrl)
  have HRW : Hid (∀ W, Below w8.heap.size w8 W → RowAt W (.pointer (some ⟨b, 0, none⟩)) v (if 0 ≤ v ∧ v < n then rAd Ag cg (cnt r v.toNat) else none) (rowV n r v)) := Lib.hid fun W hb => rowAt_any n r b ga ca Ag cg v W (HA8.out.below hb) (by omega) (by omega)
  have HRL : Hid ((rowV n r v).length * 24 ≤ 140737488355328) := Lib.hid (by omega)
  clear hris hrl HA8
  generalize hDD : (if 0 ≤ v ∧ v < n then rAd Ag cg (cnt r v.toNat) else none) = AD at *
  clear hDD
  generalize hF : flt mask (rowV n r v) = F at *
  have HF := Lib.hid hF
  clear hF
  have HBM : Hid (∀ W, Below w8.heap.size w8 W → Calls Try.prog 18 #[.agg #[.int .i64 (n : Int), .slice A5 m c5], .int .i64 v, .int .i64 0] W fun e w' => True ∧ Below W.heap.size W w') := Lib.hid fun W hb => by
    have H := coronerref19_Mask.calls n A5 c5 M v 0 _ W (Kd.C_below HK8.out hb) HC5.out (HMK.out 0)
    rw [← HLM.out] at H
    exact H.mono fun e w' ⟨_, hb⟩ => ⟨trivial, hb⟩
  have HMV : Hid (∀ t W, Below w8.heap.size w8 W → Calls Try.prog 18 #[.agg #[.int .i64 (n : Int), .slice A5 m c5], .int .i64 v, .int .i64 t] W fun e w' => e = .returned (.int .i64 (lookV n r v t)) ∧ Below W.heap.size W w') := Lib.hid fun t W hb => by
    have H := coronerref19_Mask.calls n A5 c5 M v t _ W (Kd.C_below HK8.out hb) HC5.out (HMK.out t)
    rw [← HLM.out] at H
    exact H.mono fun e w' ⟨he, hb⟩ => ⟨he, hb⟩
  clear HBM
  have HS9 : Hid ((w8.alloc (.cells #[.slice none 0 0] 46)).heap.size = w8.heap.size + 1) := Lib.hid (by simp)
  refine wp_range_by (fun j a => { tmps := (((a.tmps.setIfInBounds 53 (.int .i64 (F.getD j ⟨0, 0, 0⟩).f1)).setIfInBounds 54 (.int .i64 (F.getD j ⟨0, 0, 0⟩).f2)).setIfInBounds 17 (.int .i64 (F.getD j ⟨0, 0, 0⟩).f1)).setIfInBounds 18 (.int .i64 (F.getD j ⟨0, 0, 0⟩).f2), defers := [] })
    (gf := 35) (lb := #[.pointer (some ⟨w6.heap.size, 0, none⟩), .pointer (some ⟨w6.heap.size + 1, 0, none⟩), .pointer (some ⟨w6.heap.size + 2, 0, none⟩)]) rfl hen F.length (fun j => #[.int .i64 (F.getD j ⟨0, 0, 0⟩).f1, .int .i64 (F.getD j ⟨0, 0, 0⟩).f2]) (fun _ => rfl) (fun W W' => Below W.heap.size W W')
    (fun W W' i ob hs h _ => by
      have hlt : i < W.heap.size := (Array.getElem?_eq_some_iff.1 h).1
      rw [hs.block i hlt]; exact h)
    (fun k W => k ≤ most ∧ ∃ A' c', IJ w8 ((F.map (·.f1)).take k) A' c' W) (fun cc W => cc = .exit 0 ∧ most < F.length ∧ ∃ A' c', IJ w8 ((F.map (·.f1)).take most) A' c' W)
    ?put ?putx ?draw ?drawx ?start
    (fun W => W.cell? ⟨w6.heap.size, 0, none⟩ = some (.pointer (some ⟨b, 0, none⟩)) ∧ W.cell? ⟨w6.heap.size + 1, 0, none⟩ = some (.int .i64 v) ∧ W.cell? ⟨w6.heap.size + 2, 0, none⟩ = some (.int .i64 mask) ∧ RowAt W (.pointer (some ⟨b, 0, none⟩)) v AD (rowV n r v)) ?inv
    (fun rr => by have := out1_goes (w8.heap.size + 2) w6.heap.size (some ⟨b, 0, none⟩) v mask AD (rowV n r v) HRL.out (((w8.alloc (.cells #[.slice none 0 0] 46)).alloc (.deferred (some []))).alloc (.loop rr)); rw [HF.out] at this; rw [HS9.out]; exact this) ?assign ?body ?done ?stop
  case put =>
    rintro k W ob ⟨h1, A', c', h2⟩
    rw [HS9.out]
    exact ⟨h1, A', c', h2.put (by omega) (by omega)⟩
  case putx =>
    rintro cc W ob ⟨h0, h1, A', c', h2⟩
    rw [HS9.out]
    exact ⟨h0, h1, A', c', h2.put (by omega) (by omega)⟩
  case draw =>
    rintro k W W' hb ⟨h1, A', c', h2⟩
    exact ⟨h1, A', c', h2.below hb⟩
  case drawx =>
    rintro cc W W' hb ⟨h0, h1, A', c', h2⟩
    exact ⟨h0, h1, A', c', h2.below hb⟩
  case start =>
    intro rr
    exact ⟨Nat.zero_le _, none, 0, by rw [List.take_zero]; exact IJ.start w8 _ _⟩
  case inv =>
    rintro k W ⟨h1, A', c', h2⟩
    have hb := h2.1
    exact ⟨((HC0.out.below hb HC0.out.lt).cell 0).trans rfl, ((HC1.out.below hb HC1.out.lt).cell 0).trans rfl, ((HC2.out.below hb HC2.out.lt).cell 0).trans rfl, HRW.out W hb⟩
  case assign =>
    intro k W K hK
    gi_wp2
    simpa using hK
  case body =>
    rintro k W hk ⟨hkm, A', c', hJ⟩
    have hx : F[k]? = some (F[k]'hk) := List.getElem?_eq_getElem _
    have hgd : F.getD k ⟨0, 0, 0⟩ = F[k]'hk := by rw [List.getD_eq_getElem?_getD, hx]; rfl
    have htk : (F.map (·.f1)).take (k + 1) = (F.map (·.f1)).take k ++ [(F[k]'hk).f1] := by rw [List.take_add_one, List.getElem?_map, hx]; rfl
    have hmv := HMV.out (F[k]'hk).f1
    rw [HLK.out k _ hx] at hmv
    have hlen : ((F.map (·.f1)).take k).length = k := by rw [List.length_take, List.length_map]; omega
    rw [hgd]
    generalize F[k]'hk = x at *
    generalize hxs : (F.map (·.f1)).take k = xs at *
    have HTK := Lib.hid htk
    have HXS := Lib.hid hxs
    have HV := Lib.hid hmv
    clear hx hgd htk hmv hxs
    have hb := hJ.1
    have q9 := ((H98.out.below hb H98.out.lt).cell 0).trans rfl
    have q7 := ((H78.out.below hb H78.out.lt).cell 0).trans rfl
    have q13 := ((H138.out.below hb H138.out.lt).cell 0).trans rfl
    have q13b := ((H138.out.below hb H138.out.lt).cell 1).trans rfl
    have q16 := (hJ.2.2.1.cell 0).trans rfl
    have f16 := hJ.2.2.1.free 0
    have HJ := Lib.hid hJ
    have HBW := Lib.hid hb
    clear hJ hb
    subst hlen
    have hw8 : IntKind.i64.wrap (most : Int) = (most : Int) := by rw [IntKind.wrap_i64]; omega
    rw [HS9.out]
    by_cases hkm2 : xs.length = most
    · subst hkm2
      gi_wp2_with (fail)
      exact ⟨⟨rfl, hk, A', c', by rw [HXS.out]; exact HJ.out⟩, rfl, rfl⟩
    · have hkb : ((xs.length : Int) == (most : Int)) = false := by simp; omega
      gi_wp2_with (fail)
      refine (callsIn_round _ (callsIn_wide.2 (HV.out W HBW.out))).mono ?_
      rintro e W1 ⟨rfl, hb1⟩
      have hJ1 := HJ.out.below hb1
      have hq1 := (hJ1.2.2.1.cell 0).trans rfl
      have hf1 := hJ1.2.2.1.free 0
      have HJ1 := Lib.hid hJ1
      have HBX := Lib.hid hb1
      have HBS := Lib.hid hJ1.2.1
      have HOW := Lib.hid hJ1.2.2.2
      have HRD := Lib.hid (show (xs.length + 1) * 8 ≤ 140737488355328 by have := HFL.out; omega)
      clear hJ1 hb1 q7 q9 q13 q13b q16 f16 HV
      gi_wp2_with (gi_at_builtin; refine app_int W1 (w8.heap.size + 3) (.tmp 66) (.tmp 68) rfl rfl A' xs.length c' (xs.map (Value.int .i64)) x.f1 rfl rfl HOW.out HBS.out HRD.out ?_; intro A1 c1 w1 ho1 hb2; have hq2 := (hb2.cell (p := ⟨w8.heap.size, 0, none⟩) (show w8.heap.size < w8.heap.size + 3 by omega)).trans hq1; have hf2 := (hb2.frozen (p := ⟨w8.heap.size, 0, none⟩) (show w8.heap.size < w8.heap.size + 3 by omega)).trans hf1; replace ho1 := Lib.hid ho1; replace hb2 := Lib.hid hb2)
      have hset : ∀ i, i ≠ w8.heap.size → (w1.setCell ⟨w8.heap.size, 0, none⟩ (.slice A1 (xs.length + 1) c1)).heap[i]? = w1.heap[i]? := fun i hi => heap_setCell_other _ _ _ _ hi
      have hWs := HJ.out.2.1
      refine ⟨⟨by omega, A1, c1, by rw [HTK.out]; exact HJ1.out.step ho1.out hb2.out⟩, ?_, ?_⟩
      · rw [hset _ (by omega), hb2.out.block _ (by omega), HBX.out.block _ (by omega)]
      · rw [hset _ (by omega), hb2.out.block _ (by omega), HBX.out.block _ (by omega)]
  case done =>
    rintro W ⟨h1, A', c', hJ⟩ hMark
    have hgl : (F.map (·.f1)).length = F.length := List.length_map ..
    generalize F.map (·.f1) = gl at *
    rw [← hgl] at hJ
    obtain ⟨gt, hgt⟩ : ∃ gt, gt = gl.take gl.length := ⟨_, rfl⟩
    rw [← hgt] at hJ
    have hb := hJ.1
    have q7 := ((H78.out.below hb H78.out.lt).cell 0).trans rfl
    have q13 := ((H138.out.below hb H138.out.lt).cell 0).trans rfl
    have q13b := ((H138.out.below hb H138.out.lt).cell 1).trans rfl
    have HQ9 := Lib.hid (H98.out.below hb H98.out.lt)
    have HQ10 := Lib.hid (H108.out.below hb H108.out.lt)
    have HBW := Lib.hid (HB8.out.trans (hb.mono HB8.out.size))
    have HJ := Lib.hid hJ
    have HRO : Hid (Calls Try.prog 21 #[.agg #[.int .i64 (n : Int), .slice A5 m c5], .int .i64 v, .int .i64 mask] W fun e w' => ∃ A9 c9, e = .returned (.slice A9 gl.length c9) ∧ Kd.C (Kd.int .i64) w' A9 gl.length gl ∧ gl.length ≤ c9 ∧ Below W.heap.size W w') := Lib.hid (by
      have H := coronerref19_Out.calls (n + 1) n A5 c5 M v mask gl W (Kd.C_below HK8.out hb) HC5.out HOF.out
      rw [← HLM.out] at H
      refine H.mono ?_
      rintro e w' ⟨v0, rfl, h1, h2⟩
      obtain ⟨A9, c9, rfl, h4, h3⟩ := Kd.R_reads h1
      exact ⟨A9, c9, rfl, h3, h4, h2⟩)
    rw [HS9.out] at hMark ⊢
    have HM := Lib.hid hMark
    have HGL := Lib.hid hgl
    clear hJ hb hMark HMV HRW HLK HC0 HC1 HC2
    gi_wp2_with (fail)
    refine (callsIn_wide.2 HRO.out).mono ?_
    rintro e W1 ⟨A9, c9, rfl, hk9, hc9, hb9⟩
    have HJ1 := Lib.hid (HJ.out.below hb9)
    have HQ91 := Lib.hid (HQ9.out.below hb9 HQ9.out.lt)
    have HQ101 := Lib.hid (HQ10.out.below hb9 HQ10.out.lt)
    have HBW1 := Lib.hid (HBW.out.trans (hb9.mono HBW.out.size))
    have HM1 : Hid (W1.heap[w8.heap.size + 1]? = some (.deferred (some []))) := Lib.hid (by
      have hlt : w8.heap.size + 1 < W.heap.size := (Array.getElem?_eq_some_iff.1 HM.out).1
      rw [hb9.block _ hlt]; exact HM.out)
    have hgtl : gt.length = gl.length := by rw [hgt, List.length_take]; exact Nat.min_self _
    have FX : Hid (∀ W', Below W1.heap.size W1 W' → W'.cell? ⟨w8.heap.size, 0, none⟩ = some (.slice A' gl.length c') ∧ W'.cell? ⟨w.heap.size + 1, 0, none⟩ = some (.int .u8 (most : Int))) := Lib.hid fun W' hW =>
      ⟨by rw [← hgtl]; exact (((HJ1.out.below hW).2.2.1).cell 0).trans rfl, ((HQ91.out.below hW HQ91.out.lt).cell 0).trans rfl⟩
    have FX10 : Hid (∀ W', Below W1.heap.size W1 W' → W'.cell? ⟨w.heap.size + 1 + 1, 0, none⟩ = some (.bool false) ∧ W'.frozen? ⟨w.heap.size + 1 + 1, 0, none⟩ = false) := Lib.hid fun W' hW =>
      ⟨((HQ101.out.below hW HQ101.out.lt).cell 0).trans rfl, (HQ101.out.below hW HQ101.out.lt).free 0⟩
    have hXc : gl.length ≤ c9 := by rw [← hgtl, hgt, List.length_take]; omega
    obtain ⟨hsl, hre, hcl⟩ := print_take_int (P := Try.prog) (k := .i64) 46 3 Try.underlying46 (i := _) rfl rfl A9 c9 gl (gl.length : Int) (by omega) (by omega) hc9
    rw [show (((gl.length : Int) : Int)).toNat = gl.length from by omega, ← hgt] at hsl hre hcl
    have HSM : Hid (∀ W', Below W1.heap.size W1 W' → Calls Try.prog 22 #[.slice A' gl.length c', .slice A9 gl.length c9] W' fun e w' => e = .returned (.bool true) ∧ Below W1.heap.size W1 w') := Lib.hid fun W' hW => by
      have hJ2 := HJ1.out.below hW
      have hR : (Kd.int .i64).R 3 W' (w8.heap.size + 3) (fun _ => True) (.slice A' gt.length c') gt := Kd.R_of_own (by exact hJ2.2.2.2) (fun _ _ => trivial)
      obtain ⟨_, r2, r3⟩ := Kd.R_reads' hR
      have hk2 : Kd.C (Kd.int .i64) W' A9 gt.length gt := Kd.C_of_reads (d := (0 : Int)) (h1 := fun _ => rfl) (hre W' (Kd.reads_of_C (enc := Value.int .i64) (d := (0 : Int)) (h1 := fun _ => rfl) (Kd.C_below hk9 hW)))
      have hg5 : gt.length ≤ 5000000000000 := by have := HFL.out; have := HGL.out; rw [hgt, List.length_take]; omega
      rw [← hgtl]
      exact (coronerref01_Same.calls _ A' c' gt A9 c9 gt true W' r3 r2 hk2 hcl (sameI_f gt hg5)).mono fun e w' ⟨he, hd⟩ => ⟨he, hW.trans (hd.below.mono hW.size)⟩
    have HE : Hid (∀ W', Below W1.heap.size W1 W' → (W'.setCell ⟨w.heap.size + 1 + 1, 0, none⟩ (.bool true)).heap[w8.heap.size + 1]? = some (.deferred (some [])) ∧ ((W'.setCell ⟨w.heap.size + 1 + 1, 0, none⟩ (.bool true)).putObj (w8.heap.size + 1) (.deferred none)).cell? ⟨w.heap.size + 1 + 1, 0, none⟩ = some (.bool true) ∧ Below w.heap.size w ((W'.setCell ⟨w.heap.size + 1 + 1, 0, none⟩ (.bool true)).putObj (w8.heap.size + 1) (.deferred none))) := Lib.hid fun W' hW => by
      have h10 := H108.out.lt
      have hne : ∀ i, i ≠ w8.heap.size + 1 → ((W'.setCell ⟨w.heap.size + 1 + 1, 0, none⟩ (.bool true)).putObj (w8.heap.size + 1) (.deferred none)).heap[i]? = (W'.setCell ⟨w.heap.size + 1 + 1, 0, none⟩ (.bool true)).heap[i]? := fun i hi => World.putObj_heap_other hi
      have hm1 : W'.heap[w8.heap.size + 1]? = some (.deferred (some [])) := by
        have hlt : w8.heap.size + 1 < W1.heap.size := (Array.getElem?_eq_some_iff.1 HM1.out).1
        rw [hW.block _ hlt]; exact HM1.out
      have hB10 := HQ101.out.below hW HQ101.out.lt
      have hbw := HBW1.out.trans (hW.mono HBW1.out.size)
      refine ⟨(heap_setCell_other _ _ _ _ (by show w8.heap.size + 1 ≠ w.heap.size + 1 + 1; omega)).trans hm1, ?_, (bset (by omega) hbw).trans ⟨rfl, rfl, rfl, by simp, fun i hi => hne i (by omega)⟩⟩
      exact (World.cell?_of_block (w := W'.setCell ⟨w.heap.size + 1 + 1, 0, none⟩ (.bool true)) (a := ⟨w.heap.size + 1 + 1, 0, none⟩) (hne _ (by show w.heap.size + 1 + 1 ≠ w8.heap.size + 1; omega))).trans ((hB10.set 0 (.bool true)).cell 0)
    have hbD := Lib.hid ((Below.refl W1.heap.size W1).drew)
    have hw8 : IntKind.i64.wrap (most : Int) = (most : Int) := by rw [IntKind.wrap_i64]; omega
    have HLT := Lib.hid (show ¬ most < gl.length by have := HGL.out; omega)
    have HGT := Lib.hid hgt
    clear hgtl hgt hsl hgl hk9 hc9 hb9 hre hcl HJ HQ9 HQ10 HBW HM HRO q7 q13 q13b
    gi_wp2_with (fail)
    refine wpIn_wide.2 (wp_mono (Q := NoP _) ?_ NoP.out)
    have hlt : (most < gl.length) = False := eq_false HLT.out
    -- REGION A
    refine start_ (n := 10) (S := fun W => Below W1.heap.size W1 W) (ds := [9]) #[false, false, false, false, false, false, false, false, false, false] (by kernel_rfl) rfl rfl hbD.out (fun hHeld => ?_)
    refine with_tabW RgOu.tab RgOu.bits (fun HT_ HW_ => ?_)
    refine take_ (i := 0) (N := some 74) (v := ?_) (a' := ?_) #[true, false, false, false, false, false, false, false, false, false] rfl rfl (take_ofW HT_.out HW_.out (by kernel_rfl)) (fun _ _ _ h => h) (Or.inl ⟨by rfl, ?_⟩) hHeld ?_ ?_
    rotate_left
    · intro w' hW
      obtain ⟨hx_, hy_⟩ := FX.out w' hW
      go_simp
      with_reducible rfl
    rotate_left
    · simp only [Act.put, List.setIfInBounds_toArray, List.set_cons_zero, List.set_cons_succ, i64_w, i32_w]
      rfl
    refine pure_ (i := 1) (N := some 75) (v := ?_) (a' := ?_) #[true, true, false, false, false, false, false, false, false, false] rfl rfl (any_of HT_.out (by kernel_rfl)) (fun _ _ _ h => h) (Or.inl ⟨by rfl, ?_⟩) ?_ ?_
    rotate_left
    · intro w'
      go_simp
      with_reducible rfl
    rotate_left
    · simp only [Act.put, List.setIfInBounds_toArray, List.set_cons_zero, List.set_cons_succ, i64_w, i32_w]
      rfl
    refine pure_ (i := 2) (N := some 76) (v := ?_) (a' := ?_) #[true, true, true, false, false, false, false, false, false, false] rfl rfl (any_of HT_.out (by kernel_rfl)) (fun _ _ _ h => h) (Or.inl ⟨by rfl, ?_⟩) ?_ ?_
    rotate_left
    · intro w'
      go_simp
      with_reducible rfl
    rotate_left
    · simp only [Act.put, List.setIfInBounds_toArray, List.set_cons_zero, List.set_cons_succ, i64_w, i32_w]
      rfl
    refine pure_ (i := 3) (N := some 77) (v := ?_) (a' := ?_) #[true, true, true, true, false, false, false, false, false, false] rfl rfl (any_of HT_.out (by kernel_rfl)) (fun _ _ _ h => h) (Or.inl ⟨by rfl, ?_⟩) ?_ ?_
    rotate_left
    · intro w'
      go_simp
      with_reducible rfl
    rotate_left
    · simp only [Act.put, List.setIfInBounds_toArray, List.set_cons_zero, List.set_cons_succ, i64_w, i32_w]
      rfl
    refine take_ (i := 4) (N := some 78) (v := ?_) (a' := ?_) #[true, true, true, true, true, false, false, false, false, false] rfl rfl (take_ofW HT_.out HW_.out (by kernel_rfl)) (fun _ _ _ h => h) (Or.inl ⟨by rfl, ?_⟩) hHeld ?_ ?_
    rotate_left
    · intro w' hW
      obtain ⟨hx_, hy_⟩ := FX.out w' hW
      go_simp
      with_reducible rfl
    rotate_left
    · simp only [Act.put, List.setIfInBounds_toArray, List.set_cons_zero, List.set_cons_succ, i64_w, i32_w]
      rfl
    refine pure_ (i := 5) (N := some 79) (v := ?_) (a' := ?_) #[true, true, true, true, true, true, false, false, false, false] rfl rfl (any_of HT_.out (by kernel_rfl)) (fun _ _ _ h => h) (Or.inl ⟨by rfl, ?_⟩) ?_ ?_
    rotate_left
    · intro w'
      go_simp
      with_reducible rfl
    rotate_left
    · simp only [Act.put, List.setIfInBounds_toArray, List.set_cons_zero, List.set_cons_succ, i64_w, i32_w]
      rfl
    refine pure_ (i := 6) (N := some 80) (v := ?_) (a' := ?_) #[true, true, true, true, true, true, true, false, false, false] rfl rfl (any_of HT_.out (by kernel_rfl)) (fun _ _ _ h => h) (Or.inl ⟨by rfl, ?_⟩) ?_ ?_
    rotate_left
    · intro w'
      go_simp
      with_reducible rfl
    rotate_left
    · simp only [Act.put, List.setIfInBounds_toArray, List.set_cons_zero, List.set_cons_succ, i64_w, i32_w]
      rfl
    refine pure_ (i := 7) (N := some 81) (v := ?_) (a' := ?_) #[true, true, true, true, true, true, true, true, false, false] rfl rfl (any_of HT_.out (by kernel_rfl)) (fun _ _ _ h => h) (Or.inl ⟨by rfl, ?_⟩) ?_ ?_
    rotate_left
    · intro w'
      go_simp
      with_reducible rfl
    rotate_left
    · simp only [Act.put, List.setIfInBounds_toArray, List.set_cons_zero, List.set_cons_succ, i64_w, i32_w]
      rfl
    refine one_ (i := 8) (N := some 82) #[true, true, true, true, true, true, true, true, true, false] rfl rfl (one_of HT_.out (by kernel_rfl)) (by decide) (fun K hK => ?_)
    refine goes_ Try.func22 (by kernel_rfl) rfl #[.slice A' gl.length c', .slice A9 gl.length c9] (by rfl) rfl rfl (by (try simp only [List.map_toArray, List.map_cons, List.map_nil]); first | done | rfl) ?_
    refine (HSM.out _ hHeld).mono ?_
    rintro e_ w_17 ⟨rfl, hn_⟩
    refine ⟨_, rfl, ?_⟩
    refine hK.out _ _ hn_ (fun hHeld => ?_)
    clear hK K hn_
    refine norm_ (a' := ?_) ?_ ?_
    rotate_left
    · show Act.put _ (some 82) _ = _
      simp only [Act.put, List.setIfInBounds_toArray, List.set_cons_zero, List.set_cons_succ, i64_w, i32_w]
      rfl
    refine last_ (i := 9) (N := none) #[true, true, true, true, true, true, true, true, true, true] rfl rfl (one_of HT_.out (by kernel_rfl)) (by decide) (fun K hK => ?_)
    obtain ⟨q10_, f10_⟩ := FX10.out _ hHeld
    have HH17 := Lib.hid hHeld
    refine skip_ (w1 := w_17.setCell ⟨w.heap.size + 1 + 1, 0, none⟩ (.bool true)) (by rfl) rfl (by first | (go_simp; done) | (go_simp; rfl)) ?_
    refine hK.out _ _ ?_
    clear hK K
    refine done_ (done_of HT_.out (by kernel_rfl)) ?_
    obtain ⟨h1_, h2_, h3_⟩ := HE.out _ HH17.out
    show Exit.then _ (bodyPostM Fence.wide 0 Try.prog Try.f4 (fun e w' => e = .returned (.bool true) ∧ Below w.heap.size w w')) Exit.normal _ _
    gi_wp2
    refine leaves_mark (v := .bool true) h1_ (results_cell_bool rfl _ _ _ ⟨w.heap.size + 1 + 1, 0, none⟩ true rfl h2_ Try.underlying4) ⟨rfl, h3_⟩
    -- END
  case stop =>
    rintro cc W ⟨rfl, h1, A', c', hJ⟩ hMark
    have hgl : (F.map (·.f1)).length = F.length := List.length_map ..
    generalize F.map (·.f1) = gl at *
    obtain ⟨gt, hgt⟩ : ∃ gt, gt = gl.take most := ⟨_, rfl⟩
    rw [← hgt] at hJ
    have hb := hJ.1
    have q7 := ((H78.out.below hb H78.out.lt).cell 0).trans rfl
    have q13 := ((H138.out.below hb H138.out.lt).cell 0).trans rfl
    have q13b := ((H138.out.below hb H138.out.lt).cell 1).trans rfl
    have HQ9 := Lib.hid (H98.out.below hb H98.out.lt)
    have HQ10 := Lib.hid (H108.out.below hb H108.out.lt)
    have HBW := Lib.hid (HB8.out.trans (hb.mono HB8.out.size))
    have HJ := Lib.hid hJ
    have HRO : Hid (Calls Try.prog 21 #[.agg #[.int .i64 (n : Int), .slice A5 m c5], .int .i64 v, .int .i64 mask] W fun e w' => ∃ A9 c9, e = .returned (.slice A9 gl.length c9) ∧ Kd.C (Kd.int .i64) w' A9 gl.length gl ∧ gl.length ≤ c9 ∧ Below W.heap.size W w') := Lib.hid (by
      have H := coronerref19_Out.calls (n + 1) n A5 c5 M v mask gl W (Kd.C_below HK8.out hb) HC5.out HOF.out
      rw [← HLM.out] at H
      refine H.mono ?_
      rintro e w' ⟨v0, rfl, h1, h2⟩
      obtain ⟨A9, c9, rfl, h4, h3⟩ := Kd.R_reads h1
      exact ⟨A9, c9, rfl, h3, h4, h2⟩)
    rw [HS9.out] at hMark ⊢
    have HM := Lib.hid hMark
    have HGL := Lib.hid hgl
    clear hJ hb hMark HMV HRW HLK HC0 HC1 HC2
    gi_wp2_with (fail)
    refine (callsIn_wide.2 HRO.out).mono ?_
    rintro e W1 ⟨A9, c9, rfl, hk9, hc9, hb9⟩
    have HJ1 := Lib.hid (HJ.out.below hb9)
    have HQ91 := Lib.hid (HQ9.out.below hb9 HQ9.out.lt)
    have HQ101 := Lib.hid (HQ10.out.below hb9 HQ10.out.lt)
    have HBW1 := Lib.hid (HBW.out.trans (hb9.mono HBW.out.size))
    have HM1 : Hid (W1.heap[w8.heap.size + 1]? = some (.deferred (some []))) := Lib.hid (by
      have hlt : w8.heap.size + 1 < W.heap.size := (Array.getElem?_eq_some_iff.1 HM.out).1
      rw [hb9.block _ hlt]; exact HM.out)
    have hgtl : gt.length = most := by rw [hgt, List.length_take]; have := HGL.out; omega
    have FX : Hid (∀ W', Below W1.heap.size W1 W' → W'.cell? ⟨w8.heap.size, 0, none⟩ = some (.slice A' most c') ∧ W'.cell? ⟨w.heap.size + 1, 0, none⟩ = some (.int .u8 (most : Int))) := Lib.hid fun W' hW =>
      ⟨by rw [← hgtl]; exact (((HJ1.out.below hW).2.2.1).cell 0).trans rfl, ((HQ91.out.below hW HQ91.out.lt).cell 0).trans rfl⟩
    have FX10 : Hid (∀ W', Below W1.heap.size W1 W' → W'.cell? ⟨w.heap.size + 1 + 1, 0, none⟩ = some (.bool false) ∧ W'.frozen? ⟨w.heap.size + 1 + 1, 0, none⟩ = false) := Lib.hid fun W' hW =>
      ⟨((HQ101.out.below hW HQ101.out.lt).cell 0).trans rfl, (HQ101.out.below hW HQ101.out.lt).free 0⟩
    have hXc : most ≤ c9 := by rw [← hgtl, hgt, List.length_take]; omega
    obtain ⟨hsl, hre, hcl⟩ := print_take_int (P := Try.prog) (k := .i64) 46 3 Try.underlying46 (i := _) rfl rfl A9 c9 gl (most : Int) (by omega) (by omega) hc9
    rw [show (((most : Int) : Int)).toNat = most from by omega, ← hgt] at hsl hre hcl
    have HSM : Hid (∀ W', Below W1.heap.size W1 W' → Calls Try.prog 22 #[.slice A' most c', .slice A9 most c9] W' fun e w' => e = .returned (.bool true) ∧ Below W1.heap.size W1 w') := Lib.hid fun W' hW => by
      have hJ2 := HJ1.out.below hW
      have hR : (Kd.int .i64).R 3 W' (w8.heap.size + 3) (fun _ => True) (.slice A' gt.length c') gt := Kd.R_of_own (by exact hJ2.2.2.2) (fun _ _ => trivial)
      obtain ⟨_, r2, r3⟩ := Kd.R_reads' hR
      have hk2 : Kd.C (Kd.int .i64) W' A9 gt.length gt := Kd.C_of_reads (d := (0 : Int)) (h1 := fun _ => rfl) (hre W' (Kd.reads_of_C (enc := Value.int .i64) (d := (0 : Int)) (h1 := fun _ => rfl) (Kd.C_below hk9 hW)))
      have hg5 : gt.length ≤ 5000000000000 := by have := HFL.out; have := HGL.out; rw [hgt, List.length_take]; omega
      rw [← hgtl]
      exact (coronerref01_Same.calls _ A' c' gt A9 c9 gt true W' r3 r2 hk2 hcl (sameI_f gt hg5)).mono fun e w' ⟨he, hd⟩ => ⟨he, hW.trans (hd.below.mono hW.size)⟩
    have HE : Hid (∀ W', Below W1.heap.size W1 W' → (W'.setCell ⟨w.heap.size + 1 + 1, 0, none⟩ (.bool true)).heap[w8.heap.size + 1]? = some (.deferred (some [])) ∧ ((W'.setCell ⟨w.heap.size + 1 + 1, 0, none⟩ (.bool true)).putObj (w8.heap.size + 1) (.deferred none)).cell? ⟨w.heap.size + 1 + 1, 0, none⟩ = some (.bool true) ∧ Below w.heap.size w ((W'.setCell ⟨w.heap.size + 1 + 1, 0, none⟩ (.bool true)).putObj (w8.heap.size + 1) (.deferred none))) := Lib.hid fun W' hW => by
      have h10 := H108.out.lt
      have hne : ∀ i, i ≠ w8.heap.size + 1 → ((W'.setCell ⟨w.heap.size + 1 + 1, 0, none⟩ (.bool true)).putObj (w8.heap.size + 1) (.deferred none)).heap[i]? = (W'.setCell ⟨w.heap.size + 1 + 1, 0, none⟩ (.bool true)).heap[i]? := fun i hi => World.putObj_heap_other hi
      have hm1 : W'.heap[w8.heap.size + 1]? = some (.deferred (some [])) := by
        have hlt : w8.heap.size + 1 < W1.heap.size := (Array.getElem?_eq_some_iff.1 HM1.out).1
        rw [hW.block _ hlt]; exact HM1.out
      have hB10 := HQ101.out.below hW HQ101.out.lt
      have hbw := HBW1.out.trans (hW.mono HBW1.out.size)
      refine ⟨(heap_setCell_other _ _ _ _ (by show w8.heap.size + 1 ≠ w.heap.size + 1 + 1; omega)).trans hm1, ?_, (bset (by omega) hbw).trans ⟨rfl, rfl, rfl, by simp, fun i hi => hne i (by omega)⟩⟩
      exact (World.cell?_of_block (w := W'.setCell ⟨w.heap.size + 1 + 1, 0, none⟩ (.bool true)) (a := ⟨w.heap.size + 1 + 1, 0, none⟩) (hne _ (by show w.heap.size + 1 + 1 ≠ w8.heap.size + 1; omega))).trans ((hB10.set 0 (.bool true)).cell 0)
    have hbD := Lib.hid ((Below.refl W1.heap.size W1).drew)
    have hw8 : IntKind.i64.wrap (most : Int) = (most : Int) := by rw [IntKind.wrap_i64]; omega
    have hlt : (most : Int) < (gl.length : Int) := by have := HGL.out; omega
    have HGT := Lib.hid hgt
    clear hgtl hgt hsl hgl hk9 hc9 hb9 hre hcl HJ HQ9 HQ10 HBW HM HRO q7 q13 q13b
    gi_wp2_with (fail)
    refine wpIn_wide.2 (wp_mono (Q := NoP _) ?_ NoP.out)
    -- REGION B
    refine start_ (n := 10) (S := fun W => Below W1.heap.size W1 W) (ds := [9]) #[false, false, false, false, false, false, false, false, false, false] (by kernel_rfl) rfl rfl hbD.out (fun hHeld => ?_)
    refine with_tabW RgOu.tab RgOu.bits (fun HT_ HW_ => ?_)
    refine take_ (i := 0) (N := some 74) (v := ?_) (a' := ?_) #[true, false, false, false, false, false, false, false, false, false] rfl rfl (take_ofW HT_.out HW_.out (by kernel_rfl)) (fun _ _ _ h => h) (Or.inl ⟨by rfl, ?_⟩) hHeld ?_ ?_
    rotate_left
    · intro w' hW
      obtain ⟨hx_, hy_⟩ := FX.out w' hW
      go_simp
      with_reducible rfl
    rotate_left
    · simp only [Act.put, List.setIfInBounds_toArray, List.set_cons_zero, List.set_cons_succ, i64_w, i32_w]
      rfl
    refine pure_ (i := 1) (N := some 75) (v := ?_) (a' := ?_) #[true, true, false, false, false, false, false, false, false, false] rfl rfl (any_of HT_.out (by kernel_rfl)) (fun _ _ _ h => h) (Or.inl ⟨by rfl, ?_⟩) ?_ ?_
    rotate_left
    · intro w'
      go_simp
      with_reducible rfl
    rotate_left
    · simp only [Act.put, List.setIfInBounds_toArray, List.set_cons_zero, List.set_cons_succ, i64_w, i32_w]
      rfl
    refine pure_ (i := 2) (N := some 76) (v := ?_) (a' := ?_) #[true, true, true, false, false, false, false, false, false, false] rfl rfl (any_of HT_.out (by kernel_rfl)) (fun _ _ _ h => h) (Or.inl ⟨by rfl, ?_⟩) ?_ ?_
    rotate_left
    · intro w'
      go_simp
      with_reducible rfl
    rotate_left
    · simp only [Act.put, List.setIfInBounds_toArray, List.set_cons_zero, List.set_cons_succ, i64_w, i32_w]
      rfl
    refine pure_ (i := 3) (N := some 77) (v := ?_) (a' := ?_) #[true, true, true, true, false, false, false, false, false, false] rfl rfl (any_of HT_.out (by kernel_rfl)) (fun _ _ _ h => h) (Or.inl ⟨by rfl, ?_⟩) ?_ ?_
    rotate_left
    · intro w'
      go_simp
      with_reducible rfl
    rotate_left
    · simp only [Act.put, List.setIfInBounds_toArray, List.set_cons_zero, List.set_cons_succ, i64_w, i32_w]
      rfl
    refine take_ (i := 4) (N := some 78) (v := ?_) (a' := ?_) #[true, true, true, true, true, false, false, false, false, false] rfl rfl (take_ofW HT_.out HW_.out (by kernel_rfl)) (fun _ _ _ h => h) (Or.inl ⟨by rfl, ?_⟩) hHeld ?_ ?_
    rotate_left
    · intro w' hW
      obtain ⟨hx_, hy_⟩ := FX.out w' hW
      go_simp
      with_reducible rfl
    rotate_left
    · simp only [Act.put, List.setIfInBounds_toArray, List.set_cons_zero, List.set_cons_succ, i64_w, i32_w]
      rfl
    refine pure_ (i := 5) (N := some 79) (v := ?_) (a' := ?_) #[true, true, true, true, true, true, false, false, false, false] rfl rfl (any_of HT_.out (by kernel_rfl)) (fun _ _ _ h => h) (Or.inl ⟨by rfl, ?_⟩) ?_ ?_
    rotate_left
    · intro w'
      go_simp
      with_reducible rfl
    rotate_left
    · simp only [Act.put, List.setIfInBounds_toArray, List.set_cons_zero, List.set_cons_succ, i64_w, i32_w]
      rfl
    refine pure_ (i := 6) (N := some 80) (v := ?_) (a' := ?_) #[true, true, true, true, true, true, true, false, false, false] rfl rfl (any_of HT_.out (by kernel_rfl)) (fun _ _ _ h => h) (Or.inl ⟨by rfl, ?_⟩) ?_ ?_
    rotate_left
    · intro w'
      go_simp
      with_reducible rfl
    rotate_left
    · simp only [Act.put, List.setIfInBounds_toArray, List.set_cons_zero, List.set_cons_succ, i64_w, i32_w]
      rfl
    refine pure_ (i := 7) (N := some 81) (v := ?_) (a' := ?_) #[true, true, true, true, true, true, true, true, false, false] rfl rfl (any_of HT_.out (by kernel_rfl)) (fun _ _ _ h => h) (Or.inl ⟨by rfl, ?_⟩) ?_ ?_
    rotate_left
    · intro w'
      go_simp
      with_reducible rfl
    rotate_left
    · simp only [Act.put, List.setIfInBounds_toArray, List.set_cons_zero, List.set_cons_succ, i64_w, i32_w]
      rfl
    refine one_ (i := 8) (N := some 82) #[true, true, true, true, true, true, true, true, true, false] rfl rfl (one_of HT_.out (by kernel_rfl)) (by decide) (fun K hK => ?_)
    refine goes_ Try.func22 (by kernel_rfl) rfl #[.slice A' most c', .slice A9 most c9] (by rfl) rfl rfl (by (try simp only [List.map_toArray, List.map_cons, List.map_nil]); first | done | rfl) ?_
    refine (HSM.out _ hHeld).mono ?_
    rintro e_ w_17 ⟨rfl, hn_⟩
    refine ⟨_, rfl, ?_⟩
    refine hK.out _ _ hn_ (fun hHeld => ?_)
    clear hK K hn_
    refine norm_ (a' := ?_) ?_ ?_
    rotate_left
    · show Act.put _ (some 82) _ = _
      simp only [Act.put, List.setIfInBounds_toArray, List.set_cons_zero, List.set_cons_succ, i64_w, i32_w]
      rfl
    refine last_ (i := 9) (N := none) #[true, true, true, true, true, true, true, true, true, true] rfl rfl (one_of HT_.out (by kernel_rfl)) (by decide) (fun K hK => ?_)
    obtain ⟨q10_, f10_⟩ := FX10.out _ hHeld
    have HH17 := Lib.hid hHeld
    refine skip_ (w1 := w_17.setCell ⟨w.heap.size + 1 + 1, 0, none⟩ (.bool true)) (by rfl) rfl (by first | (go_simp; done) | (go_simp; rfl)) ?_
    refine hK.out _ _ ?_
    clear hK K
    refine done_ (done_of HT_.out (by kernel_rfl)) ?_
    obtain ⟨h1_, h2_, h3_⟩ := HE.out _ HH17.out
    show Exit.then _ (bodyPostM Fence.wide 0 Try.prog Try.f4 (fun e w' => e = .returned (.bool true) ∧ Below w.heap.size w w')) Exit.normal _ _
    gi_wp2
    refine leaves_mark (v := .bool true) h1_ (results_cell_bool rfl _ _ _ ⟨w.heap.size + 1 + 1, 0, none⟩ true rfl h2_ Try.underlying4) ⟨rfl, h3_⟩
    -- END
set_option maxRecDepth 1000000 in
set_option maxHeartbeats 8000000 in
theorem out_off (w : World) (n : Int) (A : Option Addr) (c : Nat) (l : List S53) (hi : Hid (InA w A l)) (hc : l.length ≤ c) (v mask : Int) (most : Int) (hf : Hid (fewB n l 60 200 = false)) :
    CallsIn Fence.wide 0 Try.prog 4 #[.int .i64 n, .slice A l.length c, .int .i64 v, .int .i64 mask, .int .u8 most] w fun e w' => e = .returned (.bool true) ∧ Below w.heap.size w w' := by
  have e1 : ∀ args w, (callFunc 19 args).run Try.prog w = .ok (.enter 19 args) w := enters_of Try.func19 (by kernel_rfl) rfl
  have e2 : ∀ args w, (callFunc 8 args).run Try.prog w = .ok (.enter 8 args) w := enters_of Try.func8 (by kernel_rfl) rfl
  have HF : Hid (∀ w1, Below w.heap.size w w1 → Calls Try.prog 19 #[.int .i64 n, .slice A l.length c, .int .i64 60, .int .i64 200] w1 fun e w' => e = .returned (.bool false) ∧ Drawn0 w1 w') := Lib.hid fun w1 hb => by
    obtain ⟨k, hk⟩ := few_f n l 60 200 (by decide)
    rw [hf.out] at hk
    exact coronerref19_Few.calls k n A c l 60 200 false w1 (Kd.C_below hi.out.each.1 hb) hc hk
  clear hi hf
  refine callsIn_of_wp_marks Try.func4 rfl trivial ?_ rfl
  simp only [Try.ntmps4, List.size_toArray, List.length_cons, List.length_nil, Nat.reduceAdd, Nat.reduceSub, Array.replicate_succ, Array.replicate_zero, List.push_toArray, List.append_toArray, List.nil_append, List.cons_append]
  have hFn : ∀ f, Fence.wide.fn f = True := fun _ => rfl
  have hD : Fence.wide.depth = none := rfl
  have hb0 : Below w.heap.size w (((w.alloc (.cells #[.int .i64 v] 3)).alloc (.cells #[.int .u8 most] 5)).alloc (.cells #[.bool false] 4)) := (((Below.refl _ w).alloc (Nat.le_refl _) _).alloc (by simp) _).alloc (by simp; omega) _
  have B10 := Blk.new ((w.alloc (.cells #[.int .i64 v] 3)).alloc (.cells #[.int .u8 most] 5)) [.bool false] 4
  simp only [World.size_alloc] at B10
  have HB0 := Lib.hid hb0
  have H10 := Lib.hid B10
  clear hb0 B10
  gi_wp2_with (fail)
  generalize (((w.alloc (.cells #[.int .i64 v] 3)).alloc (.cells #[.int .u8 most] 5)).alloc (.cells #[.bool false] 4)) = w0 at *
  refine (callsIn_wide.2 (HF.out w0 HB0.out)).mono ?_
  rintro e w1 ⟨rfl, hd1⟩
  have HB1 := Lib.hid (HB0.out.trans (hd1.below.mono HB0.out.size))
  have H101 := Lib.hid (H10.out.below hd1.below H10.out.lt)
  clear hd1 HF HB0 H10
  gi_wp2_with (fail)
  refine (callsIn_wide.2 (works_c w1)).mono ?_
  rintro e w2 ⟨rfl, hb2⟩
  have HB2 := Lib.hid (HB1.out.trans (hb2.mono HB1.out.size))
  have H102 := Lib.hid (H101.out.below hb2 H101.out.lt)
  have q10 := (H102.out.cell 0).trans rfl
  have f10 := H102.out.free 0
  clear hb2 HB1 H101
  gi_wp2_with (fail)
  refine leaves_marks [] _ (fun D hD => (by cases hD)) List.nodup_nil (results_cell_bool rfl _ _ _ ⟨w.heap.size + 1 + 1, 0, none⟩ true rfl ((H102.out.set 0 (.bool true)).cell 0) Try.underlying4) ⟨rfl, bset (by omega) HB2.out⟩
theorem walk_CsrOut (w : World) (n : Int) (_hn : (Lit.int .i64 n).wf = true) (A : Option Addr) (c : Nat) (l : List S53) (hi : InA w A l) (hc : l.length ≤ c) (v : Int) (_hv : (Lit.int .i64 v).wf = true) (mask : Int) (_hm : (Lit.int .i64 mask).wf = true) (most : Int) (hmo : (Lit.int .u8 most).wf = true) :
    Calls Try.prog 4 #[.int .i64 n, .slice A l.length c, .int .i64 v, .int .i64 mask, .int .u8 most] w fun e w' => e = .returned (.bool true) ∧ Below w.heap.size w w' := by
  cases hf : fewB n l 60 200 with
  | false => exact callsIn_wide.1 (out_off w n A c l (Lib.hid hi) hc v mask most (Lib.hid hf))
  | true =>
    obtain ⟨N, rfl, h1, h2, h3⟩ := few_ok hf
    have h' : (0 ≤ most ∧ most ≤ 255) := by simpa [Lit.wf, IntKind.min, IntKind.max, IntKind.signed, IntKind.bits] using hmo
    obtain ⟨m, rfl⟩ : ∃ m : Nat, most = (m : Int) := ⟨most.toNat, by omega⟩
    exact callsIn_wide.1 (out_ok w N A c l (Lib.hid hi) hc v mask m (by omega) (by omega) h2 (Lib.hid h3) (Lib.hid hf))
end Go.Proofs.Ytdchnaghmmhkhaa
