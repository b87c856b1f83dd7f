/- Printed by shake.py. -/
import Derived.Test.YtkoddmedhnhgiaaRg35
import Derived.Test.YtkoddmedhnhgiaaRg35
set_option linter.unusedSimpArgs false
namespace Go.Proofs.Ytkoddmedhnhgiaa
open Go.Shelf Go.RowKit Go.Lib Go.Proofs.Ytkoddmedhnhgiaa.PReportBack Go.Proofs.YtkoddmedhnhgiaaW.PrintWords Rp
set_option linter.unusedVariables false
theorem opens_ReportSame_0 (W : World) : Opens Try.prog W 25 (RpK W) := opens_report W
theorem opens_ReportSame_1 (W : World) : Opens Try.prog W 25 (RpK W) := opens_report W
theorem str_dec {lv lv' : Int} {fs fs' : List Fi} {o o' : List Int} (h : okRep lv fs o = true) (h' : okRep lv' fs' o' = true) : decide (strOfNums (repT lv fs o) = strOfNums (repT lv' fs' o')) = eqRep lv fs o lv' fs' o' := by
 rw [Bool.eq_iff_iff, decide_eq_true_eq]; exact text_iff h h'
set_option maxRecDepth 100000 in
set_option maxHeartbeats 8000000 in
theorem walk_ReportSame (w : World) (cs : Array Value) (x : Int × List Fi × List Int) (hx : RpK w x cs.toList) (cs' : Array Value) (x' : Int × List Fi × List Int) (hx' : RpK w x' cs'.toList) :
 Calls Try.prog 6 #[.agg cs, .agg cs'] w fun e w' => e = .returned (.bool true) ∧ Below w.heap.size w w' := by
 obtain ⟨A1, c1, A2, c2, e, g1, g2, h1, h2⟩ := hx
 obtain ⟨B1, d1, B2, d2, e', i1, i2, j1, j2⟩ := hx'
 obtain ⟨cs⟩ := cs
 obtain ⟨cs'⟩ := cs'
 cases e
 cases e'
 obtain ⟨lv, fs, o⟩ := x
 obtain ⟨lv', fs', o'⟩ := x'
 simp only at h1 h2 g1 g2 i1 i2 j1 j2 ⊢
 obtain ⟨W0, hW0⟩ : ∃ W0, W0 = (w.alloc (.cells #[.int .i64 lv, .slice A1 fs.length c1, .slice A2 o.length c2] 25)).alloc (.cells #[.int .i64 lv', .slice B1 fs'.length d1, .slice B2 o'.length d2] 25) := ⟨_, rfl⟩
 have HB0 : Hid (Below w.heap.size w W0) := Lib.hid (by rw [hW0]; exact ((Below.refl _ _).alloc (Nat.le_refl _) _).alloc (by simp) _)
 have a0 : Blk W0 w.heap.size [.int .i64 lv, .slice A1 fs.length c1, .slice A2 o.length c2] 25 := by rw [hW0]; exact (Blk.new w _ _).alloc _
 have b0 : Blk W0 (w.heap.size + 1) [.int .i64 lv', .slice B1 fs'.length d1, .slice B2 o'.length d2] 25 := by
  have h := Blk.new (w.alloc (.cells #[.int .i64 lv, .slice A1 fs.length c1, .slice A2 o.length c2] 25)) [.int .i64 lv', .slice B1 fs'.length d1, .slice B2 o'.length d2] 25
  rw [World.size_alloc] at h
  rw [hW0]; exact h
 have HX := Lib.hid (fun (W : World) (hW : Below W0.heap.size W0 W) => a0.below hW a0.lt)
 have HY := Lib.hid (fun (W : World) (hW : Below W0.heap.size W0 W) => b0.below hW b0.lt)
 have HC : Hid (∀ W, Below W0.heap.size W0 W → (Kd.C k44 W A1 fs.length fs ∧ (Kd.int .i64).C W A2 o.length o) ∧ Kd.C k44 W B1 fs'.length fs' ∧ (Kd.int .i64).C W B2 o'.length o') := Lib.hid (fun W hW => ⟨⟨Kd.C_below h1 (HB0.out.trans (hW.mono HB0.out.size)), Kd.C_below h2 (HB0.out.trans (hW.mono HB0.out.size))⟩, Kd.C_below j1 (HB0.out.trans (hW.mono HB0.out.size)), Kd.C_below j2 (HB0.out.trans (hW.mono HB0.out.size))⟩)
 have HF : Hid (∀ W, Below W0.heap.size W0 W → Calls Try.prog 7 #[.agg #[.int .i64 lv, .slice A1 fs.length c1, .slice A2 o.length c2]] W fun e w' => e = .returned (.bool (fewP fs o)) ∧ Below W0.heap.size W0 w') := Lib.hid (fun W hW => (few_c W (HC.out W hW).1.1 g1 (HC.out W hW).1.2 g2).mono fun e w' ⟨a, b⟩ => ⟨a, hW.trans (b.mono hW.size)⟩)
 have HG : Hid (∀ W, Below W0.heap.size W0 W → Calls Try.prog 7 #[.agg #[.int .i64 lv', .slice B1 fs'.length d1, .slice B2 o'.length d2]] W fun e w' => e = .returned (.bool (fewP fs' o')) ∧ Below W0.heap.size W0 w') := Lib.hid (fun W hW => (few_c W (HC.out W hW).2.1 i1 (HC.out W hW).2.2 i2).mono fun e w' ⟨a, b⟩ => ⟨a, hW.trans (b.mono hW.size)⟩)
 have HWK : Hid (∀ W, Below W0.heap.size W0 W → Calls Try.prog 8 #[] W fun e w' => e = .returned (.bool true) ∧ Below W0.heap.size W0 w') := Lib.hid (fun W hW => (works_c W).mono fun e w' ⟨a, b⟩ => ⟨a, hW.trans (b.mono hW.size)⟩)
 have k0 := ((HX.out W0 (Below.refl _ _)).cell 0).trans rfl
 have k1 := ((HX.out W0 (Below.refl _ _)).cell 1).trans rfl
 have k2 := ((HX.out W0 (Below.refl _ _)).cell 2).trans rfl
 have l0 := ((HY.out W0 (Below.refl _ _)).cell 0).trans rfl
 have l1 := ((HY.out W0 (Below.refl _ _)).cell 1).trans rfl
 have l2 := ((HY.out W0 (Below.refl _ _)).cell 2).trans rfl
 clear a0 b0
 have HW0 := Lib.hid hW0
 cases hf : fewP fs o with
 | false =>
  rw [hf] at HF
  clear hf h1 h2 g1 g2 i1 i2 j1 j2 HC HG
  generalize fs.length = n1 at *
  generalize o.length = n2 at *
  generalize fs'.length = n3 at *
  generalize o'.length = n4 at *
  rw [hW0] at k0 k1 k2 l0 l1 l2
  go_enter Try.func6, Try.ntmps6
  go_wp2_with fail
  rw [← hW0]
  refine (HF.out _ (Below.refl _ _)).mono ?_
  rintro r w1 ⟨rfl, hb1⟩
  have HB1 := Lib.hid hb1
  clear hW0 hb1 k0 k1 k2 l0 l1 l2
  have k0 := ((HX.out w1 HB1.out).cell 0).trans rfl
  have k1 := ((HX.out w1 HB1.out).cell 1).trans rfl
  have k2 := ((HX.out w1 HB1.out).cell 2).trans rfl
  have l0 := ((HY.out w1 HB1.out).cell 0).trans rfl
  have l1 := ((HY.out w1 HB1.out).cell 1).trans rfl
  have l2 := ((HY.out w1 HB1.out).cell 2).trans rfl
  go_wp2_with fail
  refine (HWK.out _ HB1.out).mono ?_
  rintro r w2 ⟨rfl, hb2⟩
  have HB2 := Lib.hid hb2
  clear hb2 k0 k1 k2 l0 l1 l2
  have k0 := ((HX.out w2 HB2.out).cell 0).trans rfl
  have k1 := ((HX.out w2 HB2.out).cell 1).trans rfl
  have k2 := ((HX.out w2 HB2.out).cell 2).trans rfl
  have l0 := ((HY.out w2 HB2.out).cell 0).trans rfl
  have l1 := ((HY.out w2 HB2.out).cell 1).trans rfl
  have l2 := ((HY.out w2 HB2.out).cell 2).trans rfl
  go_wp2
  go_ret
  exact ⟨rfl, HB0.out.trans (HB2.out.mono HB0.out.size)⟩
 | true =>
  rw [hf] at HF
  cases hg : fewP fs' o' with
  | false =>
   rw [hg] at HG
   clear hf hg h1 h2 g1 g2 i1 i2 j1 j2 HC
   generalize fs.length = n1 at *
   generalize o.length = n2 at *
   generalize fs'.length = n3 at *
   generalize o'.length = n4 at *
   rw [hW0] at k0 k1 k2 l0 l1 l2
   go_enter Try.func6, Try.ntmps6
   go_wp2_with fail
   rw [← hW0]
   refine (HF.out _ (Below.refl _ _)).mono ?_
   rintro r w1 ⟨rfl, hb1⟩
   have HB1 := Lib.hid hb1
   clear hW0 hb1 k0 k1 k2 l0 l1 l2
   have k0 := ((HX.out w1 HB1.out).cell 0).trans rfl
   have k1 := ((HX.out w1 HB1.out).cell 1).trans rfl
   have k2 := ((HX.out w1 HB1.out).cell 2).trans rfl
   have l0 := ((HY.out w1 HB1.out).cell 0).trans rfl
   have l1 := ((HY.out w1 HB1.out).cell 1).trans rfl
   have l2 := ((HY.out w1 HB1.out).cell 2).trans rfl
   go_wp2_with fail
   refine (HG.out _ HB1.out).mono ?_
   rintro r w2 ⟨rfl, hb2⟩
   have HB2 := Lib.hid hb2
   clear hb2 k0 k1 k2 l0 l1 l2
   have k0 := ((HX.out w2 HB2.out).cell 0).trans rfl
   have k1 := ((HX.out w2 HB2.out).cell 1).trans rfl
   have k2 := ((HX.out w2 HB2.out).cell 2).trans rfl
   have l0 := ((HY.out w2 HB2.out).cell 0).trans rfl
   have l1 := ((HY.out w2 HB2.out).cell 1).trans rfl
   have l2 := ((HY.out w2 HB2.out).cell 2).trans rfl
   go_wp2_with fail
   refine (HWK.out _ HB2.out).mono ?_
   rintro r w3 ⟨rfl, hb3⟩
   have HB3 := Lib.hid hb3
   clear hb3 k0 k1 k2 l0 l1 l2
   have k0 := ((HX.out w3 HB3.out).cell 0).trans rfl
   have k1 := ((HX.out w3 HB3.out).cell 1).trans rfl
   have k2 := ((HX.out w3 HB3.out).cell 2).trans rfl
   have l0 := ((HY.out w3 HB3.out).cell 0).trans rfl
   have l1 := ((HY.out w3 HB3.out).cell 1).trans rfl
   have l2 := ((HY.out w3 HB3.out).cell 2).trans rfl
   go_wp2
   go_ret
   exact ⟨rfl, HB0.out.trans (HB3.out.mono HB0.out.size)⟩
  | true =>
   rw [hg] at HG
   obtain ⟨f1, f2, f3⟩ := fewP_iff.1 hf
   obtain ⟨e1, e2, e3⟩ := fewP_iff.1 hg
   have f4 : ∀ f ∈ fs, f.f6.length ≤ big := fun f hm => by have := f3 f hm; unfold big; omega
   have HSA : Hid (∀ W, Below W0.heap.size W0 W → Calls Try.prog 16 #[.agg #[.int .i64 lv, .slice A1 fs.length c1, .slice A2 o.length c2], .agg #[.int .i64 lv', .slice B1 fs'.length d1, .slice B2 o'.length d2]] W fun e w' => e = .returned (.bool (eqRep lv fs o lv' fs' o')) ∧ Below W0.heap.size W0 w') := Lib.hid (fun W hW => (same_c W lv lv' fs fs' o o' A1 A2 B1 B2 c1 c2 d1 d2 (HC.out W hW).1.1 (HC.out W hW).1.2 (HC.out W hW).2.1 (HC.out W hW).2.2 g2 i2 (by unfold big; omega) f4 (by unfold big; omega)).mono fun e w' ⟨a, b⟩ => ⟨a, hW.trans (b.mono hW.size)⟩)
   have HSR : Hid (∀ W, Below W0.heap.size W0 W → Calls Try.prog 14 #[.agg #[.int .i64 lv, .slice A1 fs.length c1, .slice A2 o.length c2], .agg #[.int .i64 lv', .slice B1 fs'.length d1, .slice B2 o'.length d2]] W fun e w' => e = .returned (.bool (eqRep lv fs o lv' fs' o')) ∧ Below W0.heap.size W0 w') := Lib.hid (fun W hW => (rsame_c W lv lv' fs fs' o o' A1 A2 B1 B2 c1 c2 d1 d2 (HC.out W hW).1.1 (HC.out W hW).1.2 (HC.out W hW).2.1 (HC.out W hW).2.2 g1 i1 g2 i2 (by unfold big; omega) f4 (by unfold big; omega)).mono fun e w' ⟨a, b⟩ => ⟨a, hW.trans (b.mono hW.size)⟩)
   have HPA : Hid (∀ W, Below W0.heap.size W0 W → Calls Try.prog 9 #[.agg #[.int .i64 lv, .slice A1 fs.length c1, .slice A2 o.length c2]] W fun e w' => e = .returned (.tuple #[.string (if okRep lv fs o = true then strOfNums (repT lv fs o) else (⟨#[]⟩ : ByteArray)), .int .i64 (chk lv fs o)]) ∧ Below W0.heap.size W0 w') := Lib.hid (fun W hW => (prt_c W (HC.out W hW).1.1 (HC.out W hW).1.2 (by omega) (by omega)).mono fun e w' ⟨a, b⟩ => ⟨a, hW.trans (b.mono hW.size)⟩)
   have HPB : Hid (∀ W, Below W0.heap.size W0 W → Calls Try.prog 9 #[.agg #[.int .i64 lv', .slice B1 fs'.length d1, .slice B2 o'.length d2]] W fun e w' => e = .returned (.tuple #[.string (if okRep lv' fs' o' = true then strOfNums (repT lv' fs' o') else (⟨#[]⟩ : ByteArray)), .int .i64 (chk lv' fs' o')]) ∧ Below W0.heap.size W0 w') := Lib.hid (fun W hW => (prt_c W (HC.out W hW).2.1 (HC.out W hW).2.2 (by omega) (by omega)).mono fun e w' ⟨a, b⟩ => ⟨a, hW.trans (b.mono hW.size)⟩)
   clear f1 f2 f3 f4 e1 e2 e3 hf hg h1 h2 g1 g2 i1 i2 j1 j2 HC
   by_cases hk : okRep lv fs o = true
   ·have hck : chk lv fs o = 0 := by unfold chk; rw [if_pos hk]
    rw [if_pos hk, hck] at HPA
    by_cases hm : okRep lv' fs' o' = true
    ·have hcm : chk lv' fs' o' = 0 := by unfold chk; rw [if_pos hm]
     rw [if_pos hm, hcm] at HPB
     have hq := str_dec hk hm
     clear hk hm hck hcm
     generalize strOfNums (repT lv fs o) = s at *
     generalize strOfNums (repT lv' fs' o') = t at *
     generalize eqRep lv fs o lv' fs' o' = q at *
     generalize fs.length = n1 at *
     generalize o.length = n2 at *
     generalize fs'.length = n3 at *
     generalize o'.length = n4 at *
     have hq2 : (s.toList == t.toList) = q := by rw [← hq, Bool.eq_iff_iff, beq_iff_eq, decide_eq_true_eq, ByteArray.toList_eq, ByteArray.toList_eq]; exact ⟨fun h => ByteArray.ext (Array.toList_inj.mp h), fun h => by rw [h]⟩
     rw [hW0] at k0 k1 k2 l0 l1 l2
     go_enter Try.func6, Try.ntmps6
     go_wp2_with fail
     rw [← hW0]
     refine (HF.out _ (Below.refl _ _)).mono ?_
     rintro r w1 ⟨rfl, hb1⟩
     have HB1 := Lib.hid hb1
     clear hW0 hb1 k0 k1 k2 l0 l1 l2
     have k0 := ((HX.out w1 HB1.out).cell 0).trans rfl
     have k1 := ((HX.out w1 HB1.out).cell 1).trans rfl
     have k2 := ((HX.out w1 HB1.out).cell 2).trans rfl
     have l0 := ((HY.out w1 HB1.out).cell 0).trans rfl
     have l1 := ((HY.out w1 HB1.out).cell 1).trans rfl
     have l2 := ((HY.out w1 HB1.out).cell 2).trans rfl
     go_wp2_with fail
     refine (HG.out _ HB1.out).mono ?_
     rintro r w2 ⟨rfl, hb2⟩
     have HB2 := Lib.hid hb2
     clear hb2 k0 k1 k2 l0 l1 l2
     have k0 := ((HX.out w2 HB2.out).cell 0).trans rfl
     have k1 := ((HX.out w2 HB2.out).cell 1).trans rfl
     have k2 := ((HX.out w2 HB2.out).cell 2).trans rfl
     have l0 := ((HY.out w2 HB2.out).cell 0).trans rfl
     have l1 := ((HY.out w2 HB2.out).cell 1).trans rfl
     have l2 := ((HY.out w2 HB2.out).cell 2).trans rfl
     go_wp2_with fail
     refine (HSA.out _ HB2.out).mono ?_
     rintro r w3 ⟨rfl, hb3⟩
     have HB3 := Lib.hid hb3
     clear hb3 k0 k1 k2 l0 l1 l2
     have k0 := ((HX.out w3 HB3.out).cell 0).trans rfl
     have k1 := ((HX.out w3 HB3.out).cell 1).trans rfl
     have k2 := ((HX.out w3 HB3.out).cell 2).trans rfl
     have l0 := ((HY.out w3 HB3.out).cell 0).trans rfl
     have l1 := ((HY.out w3 HB3.out).cell 1).trans rfl
     have l2 := ((HY.out w3 HB3.out).cell 2).trans rfl
     go_wp2_with fail
     refine (HSR.out _ HB3.out).mono ?_
     rintro r w4 ⟨rfl, hb4⟩
     have HB4 := Lib.hid hb4
     clear hb4 k0 k1 k2 l0 l1 l2
     have k0 := ((HX.out w4 HB4.out).cell 0).trans rfl
     have k1 := ((HX.out w4 HB4.out).cell 1).trans rfl
     have k2 := ((HX.out w4 HB4.out).cell 2).trans rfl
     have l0 := ((HY.out w4 HB4.out).cell 0).trans rfl
     have l1 := ((HY.out w4 HB4.out).cell 1).trans rfl
     have l2 := ((HY.out w4 HB4.out).cell 2).trans rfl
     go_wp2_with fail
     refine (HPA.out _ HB4.out).mono ?_
     rintro r w5 ⟨rfl, hb5⟩
     have HB5 := Lib.hid hb5
     clear hb5 k0 k1 k2 l0 l1 l2
     have k0 := ((HX.out w5 HB5.out).cell 0).trans rfl
     have k1 := ((HX.out w5 HB5.out).cell 1).trans rfl
     have k2 := ((HX.out w5 HB5.out).cell 2).trans rfl
     have l0 := ((HY.out w5 HB5.out).cell 0).trans rfl
     have l1 := ((HY.out w5 HB5.out).cell 1).trans rfl
     have l2 := ((HY.out w5 HB5.out).cell 2).trans rfl
     go_wp2_with fail
     refine (HPB.out _ HB5.out).mono ?_
     rintro r w6 ⟨rfl, hb6⟩
     have HB6 := Lib.hid hb6
     clear hb6 k0 k1 k2 l0 l1 l2
     have k0 := ((HX.out w6 HB6.out).cell 0).trans rfl
     have k1 := ((HX.out w6 HB6.out).cell 1).trans rfl
     have k2 := ((HX.out w6 HB6.out).cell 2).trans rfl
     have l0 := ((HY.out w6 HB6.out).cell 0).trans rfl
     have l1 := ((HY.out w6 HB6.out).cell 1).trans rfl
     have l2 := ((HY.out w6 HB6.out).cell 2).trans rfl
     go_wp2_with fail
     refine (HWK.out _ HB6.out).mono ?_
     rintro r w7 ⟨rfl, hb7⟩
     have HB7 := Lib.hid hb7
     clear hb7 k0 k1 k2 l0 l1 l2
     have k0 := ((HX.out w7 HB7.out).cell 0).trans rfl
     have k1 := ((HX.out w7 HB7.out).cell 1).trans rfl
     have k2 := ((HX.out w7 HB7.out).cell 2).trans rfl
     have l0 := ((HY.out w7 HB7.out).cell 0).trans rfl
     have l1 := ((HY.out w7 HB7.out).cell 1).trans rfl
     have l2 := ((HY.out w7 HB7.out).cell 2).trans rfl
     go_wp2
     go_ret
     exact ⟨rfl, HB0.out.trans (HB7.out.mono HB0.out.size)⟩
    ·have hcm : chk lv' fs' o' = 2 := by unfold chk; rw [if_neg hm]
     rw [if_neg hm, hcm] at HPB
     clear hk hm hck hcm
     generalize strOfNums (repT lv fs o) = s at *
     generalize eqRep lv fs o lv' fs' o' = q at *
     generalize fs.length = n1 at *
     generalize o.length = n2 at *
     generalize fs'.length = n3 at *
     generalize o'.length = n4 at *
     rw [hW0] at k0 k1 k2 l0 l1 l2
     go_enter Try.func6, Try.ntmps6
     go_wp2_with fail
     rw [← hW0]
     refine (HF.out _ (Below.refl _ _)).mono ?_
     rintro r w1 ⟨rfl, hb1⟩
     have HB1 := Lib.hid hb1
     clear hW0 hb1 k0 k1 k2 l0 l1 l2
     have k0 := ((HX.out w1 HB1.out).cell 0).trans rfl
     have k1 := ((HX.out w1 HB1.out).cell 1).trans rfl
     have k2 := ((HX.out w1 HB1.out).cell 2).trans rfl
     have l0 := ((HY.out w1 HB1.out).cell 0).trans rfl
     have l1 := ((HY.out w1 HB1.out).cell 1).trans rfl
     have l2 := ((HY.out w1 HB1.out).cell 2).trans rfl
     go_wp2_with fail
     refine (HG.out _ HB1.out).mono ?_
     rintro r w2 ⟨rfl, hb2⟩
     have HB2 := Lib.hid hb2
     clear hb2 k0 k1 k2 l0 l1 l2
     have k0 := ((HX.out w2 HB2.out).cell 0).trans rfl
     have k1 := ((HX.out w2 HB2.out).cell 1).trans rfl
     have k2 := ((HX.out w2 HB2.out).cell 2).trans rfl
     have l0 := ((HY.out w2 HB2.out).cell 0).trans rfl
     have l1 := ((HY.out w2 HB2.out).cell 1).trans rfl
     have l2 := ((HY.out w2 HB2.out).cell 2).trans rfl
     go_wp2_with fail
     refine (HSA.out _ HB2.out).mono ?_
     rintro r w3 ⟨rfl, hb3⟩
     have HB3 := Lib.hid hb3
     clear hb3 k0 k1 k2 l0 l1 l2
     have k0 := ((HX.out w3 HB3.out).cell 0).trans rfl
     have k1 := ((HX.out w3 HB3.out).cell 1).trans rfl
     have k2 := ((HX.out w3 HB3.out).cell 2).trans rfl
     have l0 := ((HY.out w3 HB3.out).cell 0).trans rfl
     have l1 := ((HY.out w3 HB3.out).cell 1).trans rfl
     have l2 := ((HY.out w3 HB3.out).cell 2).trans rfl
     go_wp2_with fail
     refine (HSR.out _ HB3.out).mono ?_
     rintro r w4 ⟨rfl, hb4⟩
     have HB4 := Lib.hid hb4
     clear hb4 k0 k1 k2 l0 l1 l2
     have k0 := ((HX.out w4 HB4.out).cell 0).trans rfl
     have k1 := ((HX.out w4 HB4.out).cell 1).trans rfl
     have k2 := ((HX.out w4 HB4.out).cell 2).trans rfl
     have l0 := ((HY.out w4 HB4.out).cell 0).trans rfl
     have l1 := ((HY.out w4 HB4.out).cell 1).trans rfl
     have l2 := ((HY.out w4 HB4.out).cell 2).trans rfl
     go_wp2_with fail
     refine (HPA.out _ HB4.out).mono ?_
     rintro r w5 ⟨rfl, hb5⟩
     have HB5 := Lib.hid hb5
     clear hb5 k0 k1 k2 l0 l1 l2
     have k0 := ((HX.out w5 HB5.out).cell 0).trans rfl
     have k1 := ((HX.out w5 HB5.out).cell 1).trans rfl
     have k2 := ((HX.out w5 HB5.out).cell 2).trans rfl
     have l0 := ((HY.out w5 HB5.out).cell 0).trans rfl
     have l1 := ((HY.out w5 HB5.out).cell 1).trans rfl
     have l2 := ((HY.out w5 HB5.out).cell 2).trans rfl
     go_wp2_with fail
     refine (HPB.out _ HB5.out).mono ?_
     rintro r w6 ⟨rfl, hb6⟩
     have HB6 := Lib.hid hb6
     clear hb6 k0 k1 k2 l0 l1 l2
     have k0 := ((HX.out w6 HB6.out).cell 0).trans rfl
     have k1 := ((HX.out w6 HB6.out).cell 1).trans rfl
     have k2 := ((HX.out w6 HB6.out).cell 2).trans rfl
     have l0 := ((HY.out w6 HB6.out).cell 0).trans rfl
     have l1 := ((HY.out w6 HB6.out).cell 1).trans rfl
     have l2 := ((HY.out w6 HB6.out).cell 2).trans rfl
     go_wp2_with fail
     refine (HWK.out _ HB6.out).mono ?_
     rintro r w7 ⟨rfl, hb7⟩
     have HB7 := Lib.hid hb7
     clear hb7 k0 k1 k2 l0 l1 l2
     have k0 := ((HX.out w7 HB7.out).cell 0).trans rfl
     have k1 := ((HX.out w7 HB7.out).cell 1).trans rfl
     have k2 := ((HX.out w7 HB7.out).cell 2).trans rfl
     have l0 := ((HY.out w7 HB7.out).cell 0).trans rfl
     have l1 := ((HY.out w7 HB7.out).cell 1).trans rfl
     have l2 := ((HY.out w7 HB7.out).cell 2).trans rfl
     go_wp2
     go_ret
     exact ⟨rfl, HB0.out.trans (HB7.out.mono HB0.out.size)⟩
   ·have hck : chk lv fs o = 2 := by unfold chk; rw [if_neg hk]
    rw [if_neg hk, hck] at HPA
    clear hk hck
    generalize (if okRep lv' fs' o' = true then strOfNums (repT lv' fs' o') else (⟨#[]⟩ : ByteArray)) = t at *
    generalize chk lv' fs' o' = cm at *
    generalize eqRep lv fs o lv' fs' o' = q at *
    generalize fs.length = n1 at *
    generalize o.length = n2 at *
    generalize fs'.length = n3 at *
    generalize o'.length = n4 at *
    rw [hW0] at k0 k1 k2 l0 l1 l2
    go_enter Try.func6, Try.ntmps6
    go_wp2_with fail
    rw [← hW0]
    refine (HF.out _ (Below.refl _ _)).mono ?_
    rintro r w1 ⟨rfl, hb1⟩
    have HB1 := Lib.hid hb1
    clear hW0 hb1 k0 k1 k2 l0 l1 l2
    have k0 := ((HX.out w1 HB1.out).cell 0).trans rfl
    have k1 := ((HX.out w1 HB1.out).cell 1).trans rfl
    have k2 := ((HX.out w1 HB1.out).cell 2).trans rfl
    have l0 := ((HY.out w1 HB1.out).cell 0).trans rfl
    have l1 := ((HY.out w1 HB1.out).cell 1).trans rfl
    have l2 := ((HY.out w1 HB1.out).cell 2).trans rfl
    go_wp2_with fail
    refine (HG.out _ HB1.out).mono ?_
    rintro r w2 ⟨rfl, hb2⟩
    have HB2 := Lib.hid hb2
    clear hb2 k0 k1 k2 l0 l1 l2
    have k0 := ((HX.out w2 HB2.out).cell 0).trans rfl
    have k1 := ((HX.out w2 HB2.out).cell 1).trans rfl
    have k2 := ((HX.out w2 HB2.out).cell 2).trans rfl
    have l0 := ((HY.out w2 HB2.out).cell 0).trans rfl
    have l1 := ((HY.out w2 HB2.out).cell 1).trans rfl
    have l2 := ((HY.out w2 HB2.out).cell 2).trans rfl
    go_wp2_with fail
    refine (HSA.out _ HB2.out).mono ?_
    rintro r w3 ⟨rfl, hb3⟩
    have HB3 := Lib.hid hb3
    clear hb3 k0 k1 k2 l0 l1 l2
    have k0 := ((HX.out w3 HB3.out).cell 0).trans rfl
    have k1 := ((HX.out w3 HB3.out).cell 1).trans rfl
    have k2 := ((HX.out w3 HB3.out).cell 2).trans rfl
    have l0 := ((HY.out w3 HB3.out).cell 0).trans rfl
    have l1 := ((HY.out w3 HB3.out).cell 1).trans rfl
    have l2 := ((HY.out w3 HB3.out).cell 2).trans rfl
    go_wp2_with fail
    refine (HSR.out _ HB3.out).mono ?_
    rintro r w4 ⟨rfl, hb4⟩
    have HB4 := Lib.hid hb4
    clear hb4 k0 k1 k2 l0 l1 l2
    have k0 := ((HX.out w4 HB4.out).cell 0).trans rfl
    have k1 := ((HX.out w4 HB4.out).cell 1).trans rfl
    have k2 := ((HX.out w4 HB4.out).cell 2).trans rfl
    have l0 := ((HY.out w4 HB4.out).cell 0).trans rfl
    have l1 := ((HY.out w4 HB4.out).cell 1).trans rfl
    have l2 := ((HY.out w4 HB4.out).cell 2).trans rfl
    go_wp2_with fail
    refine (HPA.out _ HB4.out).mono ?_
    rintro r w5 ⟨rfl, hb5⟩
    have HB5 := Lib.hid hb5
    clear hb5 k0 k1 k2 l0 l1 l2
    have k0 := ((HX.out w5 HB5.out).cell 0).trans rfl
    have k1 := ((HX.out w5 HB5.out).cell 1).trans rfl
    have k2 := ((HX.out w5 HB5.out).cell 2).trans rfl
    have l0 := ((HY.out w5 HB5.out).cell 0).trans rfl
    have l1 := ((HY.out w5 HB5.out).cell 1).trans rfl
    have l2 := ((HY.out w5 HB5.out).cell 2).trans rfl
    go_wp2_with fail
    refine (HPB.out _ HB5.out).mono ?_
    rintro r w6 ⟨rfl, hb6⟩
    have HB6 := Lib.hid hb6
    clear hb6 k0 k1 k2 l0 l1 l2
    have k0 := ((HX.out w6 HB6.out).cell 0).trans rfl
    have k1 := ((HX.out w6 HB6.out).cell 1).trans rfl
    have k2 := ((HX.out w6 HB6.out).cell 2).trans rfl
    have l0 := ((HY.out w6 HB6.out).cell 0).trans rfl
    have l1 := ((HY.out w6 HB6.out).cell 1).trans rfl
    have l2 := ((HY.out w6 HB6.out).cell 2).trans rfl
    go_wp2_with fail
    refine (HWK.out _ HB6.out).mono ?_
    rintro r w7 ⟨rfl, hb7⟩
    have HB7 := Lib.hid hb7
    clear hb7 k0 k1 k2 l0 l1 l2
    have k0 := ((HX.out w7 HB7.out).cell 0).trans rfl
    have k1 := ((HX.out w7 HB7.out).cell 1).trans rfl
    have k2 := ((HX.out w7 HB7.out).cell 2).trans rfl
    have l0 := ((HY.out w7 HB7.out).cell 0).trans rfl
    have l1 := ((HY.out w7 HB7.out).cell 1).trans rfl
    have l2 := ((HY.out w7 HB7.out).cell 2).trans rfl
    go_wp2
    go_ret
    exact ⟨rfl, HB0.out.trans (HB7.out.mono HB0.out.size)⟩
end Go.Proofs.Ytkoddmedhnhgiaa
