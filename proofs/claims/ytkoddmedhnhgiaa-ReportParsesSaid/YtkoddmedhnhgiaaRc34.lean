/- Printed by shake.py. -/
import Derived.Test.YtkoddmedhnhgiaaRc33
import Derived.Test.YtkoddmedhnhgiaaRc33
set_option linter.unusedSimpArgs false
namespace Go.Proofs.Ytkoddmedhnhgiaa.Rp
open Go.Shelf Go.RowKit Go.Lib Go.Proofs.Ytkoddmedhnhgiaa.PReportBack Go.Proofs.YtkoddmedhnhgiaaW.PrintWords
set_option linter.unusedVariables false
theorem par_small (l : List Int) : (parR l).2.1.length ≤ 1024 ∧ (parR l).2.2.1.length ≤ 1024 ∧ ∀ f ∈ (parR l).2.1, f.f6.length ≤ 1024 := by
 unfold parR
 split
 ·split
  ·rename_i h
   have hk : okRep (lvN l).2 (fsN l).2 (odN l).2 = true := by
    unfold chk at h
    by_cases hh : okRep (lvN l).2 (fsN l).2 (odN l).2 = true
    ·exact hh
    ·rw [if_neg hh] at h; exact absurd h (by decide)
   obtain ⟨h1, h2, h3, h4, h5⟩ := okRep_iff.1 hk
   exact ⟨h2, h3, fun f hf => (mayF_iff.1 (h5 f hf)).2.1⟩
  ·exact ⟨by simp, by simp, fun f hf => by cases hf⟩
 ·exact ⟨by simp, by simp, fun f hf => by cases hf⟩
def Told (w : World) (q : Int × List Fi × List Int × Int × Int) (r : Ending) (w' : World) : Prop :=
 ∃ A1 c1 A2 c2, r = .returned (.tuple #[.agg #[.int .i64 q.1, .slice A1 q.2.1.length c1, .slice A2 q.2.2.1.length c2], .int .i64 q.2.2.2.1, .int .i64 q.2.2.2.2]) ∧ q.2.1.length ≤ c1 ∧ q.2.2.1.length ≤ c2 ∧ Kd.C k44 w' A1 q.2.1.length q.2.1 ∧ (Kd.int .i64).C w' A2 q.2.2.1.length q.2.2.1 ∧ Below w.heap.size w w'
theorem par_t (w : World) (A : Option Addr) (l : List Int) (c : Nat) (hC : Kd.C (Kd.int .u8) w A l.length l) (hc : l.length ≤ c) (hb : Bytes l) (hl : l.length ≤ 100000000) :
 Calls Try.prog 12 #[.slice A l.length c] w (Told w (parR l)) := by
 refine (parse_c w A l c hC hc hb hl).mono ?_
 rintro r w' ⟨vF, vO, h1, h2, h3, h4⟩
 obtain ⟨A1, c1, rfl, hc1, hr1⟩ := Kd.S_reads h2
 obtain ⟨A2, c2, rfl, hc2, hr2⟩ := Kd.R_reads h3
 exact ⟨A1, c1, A2, c2, h1, hc1, hc2, hr1, hr2, h4⟩
theorem rpar_t (w : World) (A : Option Addr) (l : List Int) (c : Nat) (hC : Kd.C (Kd.int .u8) w A l.length l) (hc : l.length ≤ c) (hl : l.length ≤ 100000000) :
 Calls Try.prog 13 #[.slice A l.length c] w (Told w (parR l)) := by
 obtain ⟨K, hK⟩ := (rpar_ev hl).rounds
 refine (coronerref31_Parse.calls K A c l _ _ _ _ _ w hC hc hK).mono ?_
 rintro r w' ⟨vF, vO, h1, h2, h3, h4⟩
 obtain ⟨A1, c1, rfl, hc1, hr1⟩ := Kd.S_reads h2
 obtain ⟨A2, c2, rfl, hc2, hr2⟩ := Kd.R_reads h3
 exact ⟨A1, c1, A2, c2, h1, hc1, hc2, hr1, hr2, h4⟩
theorem rsame_c (w : World) (lv lv' : Int) (fs fs' : List Fi) (o o' : List Int) (A1 A2 B1 B2 : Option Addr) (c1 c2 d1 d2 : Nat) (h1 : Kd.C k44 w A1 fs.length fs) (h2 : (Kd.int .i64).C w A2 o.length o) (g1 : Kd.C k44 w B1 fs'.length fs') (g2 : (Kd.int .i64).C w B2 o'.length o') (hc1 : fs.length ≤ c1) (hd1 : fs'.length ≤ d1) (hc2 : o.length ≤ c2) (hd2 : o'.length ≤ d2) (hb : fs.length ≤ big) (hbs : ∀ f ∈ fs, f.f6.length ≤ big) (hbo : o.length ≤ big) :
 Calls Try.prog 14 #[.agg #[.int .i64 lv, .slice A1 fs.length c1, .slice A2 o.length c2], .agg #[.int .i64 lv', .slice B1 fs'.length d1, .slice B2 o'.length d2]] w fun e w' => e = .returned (.bool (eqRep lv fs o lv' fs' o')) ∧ Below w.heap.size w w' := by
 obtain ⟨K, hK⟩ := (rsame_ev lv lv' fs fs' o o' hb hbs hbo).rounds
 exact coronerref31_Same.calls K lv A1 c1 fs A2 c2 o lv' B1 d1 fs' B2 d2 o' _ w h1 hc1 h2 hc2 g1 hd1 g2 hd2 hK
end Go.Proofs.Ytkoddmedhnhgiaa.Rp
namespace Go.Proofs.Ytkoddmedhnhgiaa
open Go.Shelf Go.RowKit Go.Lib Go.Proofs.Ytkoddmedhnhgiaa.PReportBack Go.Proofs.YtkoddmedhnhgiaaW.PrintWords Rp
set_option linter.unusedVariables false
theorem bytes_wf {l : List Int} (h : ∀ x ∈ l, (Lit.int .u8 x).wf = true) : Bytes l := fun x hx => by
 have h1 := h x hx
 simp only [Lit.wf, decide_eq_true_eq, Bool.and_eq_true] at h1
 have h2 : IntKind.u8.min = 0 := rfl
 have h3 : IntKind.u8.max = 255 := rfl
 rw [h2, h3] at h1
 exact h1
set_option maxRecDepth 100000 in
set_option maxHeartbeats 4000000 in
theorem walk_ReportParses (w : World) (A : Option Addr) (c : Nat) (l : List Int) (hr : Kd.C (Kd.int .u8) w A l.length l) (hc : l.length ≤ c) (hb : ∀ x ∈ l, (Lit.int .u8 x).wf = true) (hs : l.length * 1 ≤ 140737488351232) :
 Calls Try.prog 4 #[.slice A l.length c] w fun e w' => e = .returned (.bool true) ∧ Below w.heap.size w w' := by
 have hB := bytes_wf hb
 clear hb hs
 by_cases hl : 600 < l.length
 ·have hli : (l.length : Int) > 600 := by omega
  have HW := Lib.hid (works_c w)
  clear hr hc hB hl
  generalize l.length = n at *
  go_enter Try.func4, Try.ntmps4
  go_wp2_with fail
  refine HW.out.mono ?_
  rintro r w1 ⟨rfl, hb1⟩
  go_wp2
  go_ret
  exact ⟨rfl, hb1⟩
 ·have hli : ¬ (l.length : Int) > 600 := by omega
  have HP := Lib.hid (par_t w A l c hr hc hB (by omega))
  have HR := Lib.hid (fun (W : World) (hW : Below w.heap.size w W) => rpar_t W A l c (Kd.C_below hr hW) hc (by omega))
  obtain ⟨s1, s2, s3⟩ := par_small l
  have HS3 := Lib.hid s3
  clear hr hc hB hl s3
  generalize parR l = q at *
  obtain ⟨lv, fs, od, e, x⟩ := q
  unfold Told at *
  simp only at s1 s2
  have HS1 := Lib.hid s1
  have HS2 := Lib.hid s2
  clear s1 s2
  generalize l.length = n at *
  go_enter Try.func4, Try.ntmps4
  go_wp2_with fail
  refine HP.out.mono ?_
  rintro r w1 ⟨A1, c1, A2, c2, rfl, hc1, hc2, hF1, hO1, hb1⟩
  simp only at hc1 hc2 hF1 hO1
  have HF1 := Lib.hid hF1
  have HO1 := Lib.hid hO1
  have HC1 := Lib.hid hc1
  have HC2 := Lib.hid hc2
  have HB1 := Lib.hid hb1
  clear hF1 hO1 hc1 hc2 hb1 HP
  go_wp2_with fail
  have hba : Below w1.heap.size w1 (w1.alloc (.cells #[.int .i64 lv, .slice A1 fs.length c1, .slice A2 od.length c2] 25)) := (Below.refl _ _).alloc (Nat.le_refl _) _
  refine (HR.out _ (link HB1.out hba)).mono ?_
  rintro r w2 ⟨B1, d1, B2, d2, rfl, hd1, hd2, hF2, hO2, hb2⟩
  simp only at hd1 hd2 hF2 hO2
  have X1 := ((Blk.new w1 [.int .i64 lv, .slice A1 fs.length c1, .slice A2 od.length c2] 25).below hb2 (by rw [World.size_alloc]; exact Nat.lt_succ_self _)).below ((Below.refl _ w2).alloc (Nat.le_refl _) (.cells #[.int .i64 lv, .slice B1 fs.length d1, .slice B2 od.length d2] 25)) (by have := hb2.size; rw [World.size_alloc] at this; omega)
  have X2 := Blk.new w2 [.int .i64 lv, .slice B1 fs.length d1, .slice B2 od.length d2] 25
  have x0 := (X1.cell 0).trans rfl
  have x1 := (X1.cell 1).trans rfl
  have x2 := (X1.cell 2).trans rfl
  have z0 := (X2.cell 0).trans rfl
  have z1 := (X2.cell 1).trans rfl
  have z2 := (X2.cell 2).trans rfl
  have hb3 : Below w1.heap.size w1 (w2.alloc (.cells #[.int .i64 lv, .slice B1 fs.length d1, .slice B2 od.length d2] 25)) := (link hba hb2).trans (((Below.refl _ w2).alloc (Nat.le_refl _) _).mono (link hba hb2).size)
  have hb4 : Below w2.heap.size w2 (w2.alloc (.cells #[.int .i64 lv, .slice B1 fs.length d1, .slice B2 od.length d2] 25)) := (Below.refl _ w2).alloc (Nat.le_refl _) _
  have HSM := Lib.hid (rsame_c (w2.alloc (.cells #[.int .i64 lv, .slice B1 fs.length d1, .slice B2 od.length d2] 25)) lv lv fs fs od od A1 A2 B1 B2 c1 c2 d1 d2 (Kd.C_below HF1.out hb3) (Kd.C_below HO1.out hb3) (Kd.C_below hF2 hb4) (Kd.C_below hO2 hb4) HC1.out hd1 HC2.out hd2 (Nat.le_trans HS1.out (by unfold big; decide)) (fun f hf => Nat.le_trans (HS3.out f hf) (by unfold big; decide)) (Nat.le_trans HS2.out (by unfold big; decide)))
  rw [eqRep_self] at HSM
  have HB3 := Lib.hid (link HB1.out hb3)
  clear X1 X2 hb2 hb3 hb4 hF2 hO2 hba hd1 hd2
  go_wp2_with fail
  refine HSM.out.mono ?_
  rintro r w3 ⟨rfl, hb5⟩
  have HB5 := Lib.hid (link HB3.out hb5)
  clear hb5 x0 x1 x2 z0 z1 z2
  go_wp2_with fail
  refine (works_c w3).mono ?_
  rintro r w4 ⟨rfl, hb6⟩
  go_wp2
  go_ret
  exact ⟨rfl, link HB5.out hb6⟩
end Go.Proofs.Ytkoddmedhnhgiaa
