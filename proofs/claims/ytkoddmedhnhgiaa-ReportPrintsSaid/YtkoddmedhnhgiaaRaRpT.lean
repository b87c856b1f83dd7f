/- The law ReportPrints. -/
import Derived.Test.YtkoddmedhnhgiaaRaE
set_option linter.unusedSimpArgs false
namespace Go.Proofs.Ytkoddmedhnhgiaa
open Go.Shelf Go.RowKit Go.Lib Go.Proofs.Ytkoddmedhnhgiaa.PReportBack Go.Proofs.YtkoddmedhnhgiaaW.PrintWords Rp
set_option linter.unusedVariables false

theorem opens_ReportPrints_0 (W : World) : Opens Try.prog W 25 (RpK W) := opens_report W
set_option maxRecDepth 100000 in
set_option maxHeartbeats 4000000 in
theorem walk_ReportPrints (w : World) (cs : Array Value) (x : Int × List Fi × List Int) (hx : RpK w x cs.toList) :
    Calls Try.prog 3 #[.agg cs] w fun e w' => e = .returned (.bool true) ∧ Below w.heap.size w w' := by
  obtain ⟨A1, c1, A2, c2, e, g1, g2, h1, h2⟩ := hx
  obtain ⟨cs⟩ := cs
  cases e
  obtain ⟨lv, fs, o⟩ := x
  simp only at h1 h2 g1 g2 ⊢
  obtain ⟨W0, hW0⟩ : ∃ W0, W0 = w.alloc (.cells #[.int .i64 lv, .slice A1 fs.length c1, .slice A2 o.length c2] 25) := ⟨_, rfl⟩
  have HB0 : Hid (Below w.heap.size w W0) := Lib.hid (by rw [hW0]; exact (Below.refl _ _).alloc (Nat.le_refl _) _)
  have b0 : Blk W0 w.heap.size [.int .i64 lv, .slice A1 fs.length c1, .slice A2 o.length c2] 25 := by rw [hW0]; exact Blk.new w _ _
  have HX := Lib.hid (fun (W : World) (hW : Below W0.heap.size W0 W) => b0.below hW b0.lt)
  have HC : Hid (∀ W, Below W0.heap.size W0 W → Kd.C k44 W A1 fs.length fs ∧ (Kd.int .i64).C W A2 o.length o) := Lib.hid (fun W hW => ⟨Kd.C_below h1 (HB0.out.trans (hW.mono HB0.out.size)), Kd.C_below h2 (HB0.out.trans (hW.mono HB0.out.size))⟩)
  have HF : Hid (∀ W, Below W0.heap.size W0 W → Calls Try.prog 7 #[.agg #[.int .i64 lv, .slice A1 fs.length c1, .slice A2 o.length c2]] W fun e w' => e = .returned (.bool (fewP fs o)) ∧ Below W0.heap.size W0 w') := Lib.hid (fun W hW => (few_c W (HC.out W hW).1 g1 (HC.out W hW).2 g2).mono fun e w' ⟨a, b⟩ => ⟨a, hW.trans (b.mono hW.size)⟩)
  have HWK : Hid (∀ W, Below W0.heap.size W0 W → Calls Try.prog 8 #[] W fun e w' => e = .returned (.bool true) ∧ Below W0.heap.size W0 w') := Lib.hid (fun W hW => (works_c W).mono fun e w' ⟨a, b⟩ => ⟨a, hW.trans (b.mono hW.size)⟩)
  have k0 := ((HX.out W0 (Below.refl _ _)).cell 0).trans rfl
  have k1 := ((HX.out W0 (Below.refl _ _)).cell 1).trans rfl
  have k2 := ((HX.out W0 (Below.refl _ _)).cell 2).trans rfl
  clear b0
  have HW0 := Lib.hid hW0
  cases hf : fewP fs o with
  | false =>
    rw [hf] at HF
    clear hf h1 h2 g1 g2 HC
    generalize fs.length = n1 at *
    generalize o.length = n2 at *
    rw [hW0] at k0 k1 k2
    go_enter Try.func3, Try.ntmps3
    go_wp2_with fail
    rw [← hW0]
    refine (HF.out _ (Below.refl _ _)).mono ?_
    rintro r w1 ⟨rfl, hb1⟩
    have HB1 := Lib.hid hb1
    clear hW0 hb1 k0 k1 k2
    go_wp2_with fail
    refine (HWK.out _ HB1.out).mono ?_
    rintro r w2 ⟨rfl, hb2⟩
    have HB2 := Lib.hid hb2
    clear hb2
    go_wp2
    go_ret
    exact ⟨rfl, HB0.out.trans (HB2.out.mono HB0.out.size)⟩
  | true =>
    rw [hf] at HF
    obtain ⟨f1, f2, f3⟩ := fewP_iff.1 hf
    have f4 : ∀ f ∈ fs, f.f6.length ≤ big := fun f hm => by have := f3 f hm; unfold big; omega
    have HP : Hid (∀ W, Below W0.heap.size W0 W → Calls Try.prog 9 #[.agg #[.int .i64 lv, .slice A1 fs.length c1, .slice A2 o.length c2]] W fun e w' => e = .returned (.tuple #[.string (if okRep lv fs o = true then strOfNums (repT lv fs o) else (⟨#[]⟩ : ByteArray)), .int .i64 (chk lv fs o)]) ∧ Below W0.heap.size W0 w') := Lib.hid (fun W hW => (prt_c W (HC.out W hW).1 (HC.out W hW).2 (by omega) (by omega)).mono fun e w' ⟨a, b⟩ => ⟨a, hW.trans (b.mono hW.size)⟩)
    have HR : Hid (∀ W, Below W0.heap.size W0 W → Calls Try.prog 10 #[.agg #[.int .i64 lv, .slice A1 fs.length c1, .slice A2 o.length c2]] W fun e w' => e = .returned (.tuple #[.string (if okRep lv fs o = true then strOfNums (repT lv fs o) else (⟨#[]⟩ : ByteArray)), .int .i64 (chk lv fs o)]) ∧ Below W0.heap.size W0 w') := Lib.hid (fun W hW => (rprt_c W (HC.out W hW).1 g1 (HC.out W hW).2 g2 (by unfold big; omega) (by unfold big; omega) f4).mono fun e w' ⟨a, b⟩ => ⟨a, hW.trans (b.mono hW.size)⟩)
    have HK : Hid (∀ W, Below W0.heap.size W0 W → Calls Try.prog 11 #[.agg #[.int .i64 lv, .slice A1 fs.length c1, .slice A2 o.length c2]] W fun e w' => e = .returned (.int .i64 (chk lv fs o)) ∧ Below W0.heap.size W0 w') := Lib.hid (fun W hW => (check_c lv fs o A1 c1 A2 c2 W (HC.out W hW).1 (HC.out W hW).2 (by omega) (by omega)).mono fun e w' ⟨a, b⟩ => ⟨a, hW.trans (b.mono hW.size)⟩)
    clear hf h1 h2 g1 g2 HC f1 f2 f3 f4
    generalize (if okRep lv fs o = true then strOfNums (repT lv fs o) else (⟨#[]⟩ : ByteArray)) = s at *
    generalize chk lv fs o = ck at *
    generalize fs.length = n1 at *
    generalize o.length = n2 at *
    rw [hW0] at k0 k1 k2
    go_enter Try.func3, Try.ntmps3
    go_wp2_with fail
    rw [← hW0]
    refine (HF.out _ (Below.refl _ _)).mono ?_
    rintro r w1 ⟨rfl, hb1⟩
    have HB1 := Lib.hid hb1
    clear hW0 hb1 k0 k1 k2
    have k0 := ((HX.out w1 HB1.out).cell 0).trans rfl
    have k1 := ((HX.out w1 HB1.out).cell 1).trans rfl
    have k2 := ((HX.out w1 HB1.out).cell 2).trans rfl
    go_wp2_with fail
    refine (HP.out _ HB1.out).mono ?_
    rintro r w2 ⟨rfl, hb2⟩
    have HB2 := Lib.hid hb2
    clear hb2 k0 k1 k2
    have k0 := ((HX.out w2 HB2.out).cell 0).trans rfl
    have k1 := ((HX.out w2 HB2.out).cell 1).trans rfl
    have k2 := ((HX.out w2 HB2.out).cell 2).trans rfl
    go_wp2_with fail
    refine (HR.out _ HB2.out).mono ?_
    rintro r w3 ⟨rfl, hb3⟩
    have HB3 := Lib.hid hb3
    clear hb3 k0 k1 k2
    have k0 := ((HX.out w3 HB3.out).cell 0).trans rfl
    have k1 := ((HX.out w3 HB3.out).cell 1).trans rfl
    have k2 := ((HX.out w3 HB3.out).cell 2).trans rfl
    go_wp2_with fail
    refine (HK.out _ HB3.out).mono ?_
    rintro r w4 ⟨rfl, hb4⟩
    have HB4 := Lib.hid hb4
    clear hb4 k0 k1 k2
    go_wp2_with fail
    refine (HWK.out _ HB4.out).mono ?_
    rintro r w5 ⟨rfl, hb5⟩
    have HB5 := Lib.hid hb5
    clear hb5
    go_wp2
    go_ret
    exact ⟨rfl, HB0.out.trans (HB5.out.mono HB0.out.size)⟩
end Go.Proofs.Ytkoddmedhnhgiaa
