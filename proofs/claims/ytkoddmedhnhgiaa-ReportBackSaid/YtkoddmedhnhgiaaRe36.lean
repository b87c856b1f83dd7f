/- Printed by shake.py. -/
import Derived.Test.YtkoddmedhnhgiaaRe35
import Derived.Test.YtkoddmedhnhgiaaRe35
set_option linter.unusedSimpArgs false
namespace Go.Proofs.Ytkoddmedhnhgiaa.Rp
open Go.Shelf Go.RowKit Go.Lib Go.Proofs.Ytkoddmedhnhgiaa.PReportBack Go.Proofs.YtkoddmedhnhgiaaW.PrintWords
set_option linter.unusedVariables false
theorem conv_C (w : World) (e : TypeId) (T : List Int) (hT : Bytes T) (hl : T.length ≤ 100000000) : (Kd.int .u8).C (Lib.bytesWorld w e (strOfNums T)) (some ⟨w.heap.size, 0, none⟩) T.length T ∧ T.length ≤ grownCap w T.length 0 e ∧ Below w.heap.size w (Lib.bytesWorld w e (strOfNums T)) := by
 have hsz : (strOfNums T).size = T.length := str_size T
 refine ⟨⟨rfl, by omega, fun _ => ⟨_, rfl, fun j p hj => ⟨[.int .u8 p], rfl, rfl, fun i u hu => ?_⟩⟩⟩, grownCap_ge w T.length 0 e, ?_⟩
 ·obtain rfl : i = 0 := by have := (List.getElem?_eq_some_iff.1 hu).1; simp at this; omega
  cases hu
  obtain ⟨hjl, hp⟩ := List.getElem?_eq_some_iff.1 hj
  have e0 : j * (Kd.int .u8).sz + 0 = j := Nat.mul_one j
  rw [Addr.add_lit, Nat.zero_add, e0]
  have h := Lib.bytesWorld_cell w e (strOfNums T) j (by rw [hsz]; exact hjl)
  rw [h]
  have hb := hT _ (List.getElem_mem hjl)
  have e1 : ((strOfNums T).data.toList.getD j 0).toNat = T[j].toNat := by
   unfold strOfNums
   rw [List.getD_eq_getElem?_getD]
   simp [hjl]
   omega
  rw [e1, ← hp, Int.toNat_of_nonneg hb.1]
 ·refine ⟨?_, ?_, ?_, by rw [Lib.bytesWorld_size]; omega, fun k hk => Lib.bytesWorld_at_old w e _ k hk⟩
  ·unfold Lib.bytesWorld World.freeze; split <;> rfl
  ·unfold Lib.bytesWorld World.freeze; split <;> rfl
  ·unfold Lib.bytesWorld World.freeze; split <;> rfl
end Go.Proofs.Ytkoddmedhnhgiaa.Rp
namespace Go.Proofs.Ytkoddmedhnhgiaa
open Go.Shelf Go.RowKit Go.Lib Go.Proofs.Ytkoddmedhnhgiaa.PReportBack Go.Proofs.YtkoddmedhnhgiaaW.PrintWords Rp
set_option linter.unusedVariables false
theorem opens_ReportBack_0 (W : World) : Opens Try.prog W 25 (RpK W) := opens_report W
set_option maxRecDepth 100000 in
set_option maxHeartbeats 8000000 in
theorem walk_ReportBack (w : World) (cs : Array Value) (x : Int × List Fi × List Int) (hx : RpK w x cs.toList) :
 Calls Try.prog 5 #[.agg cs] w fun e w' => e = .returned (.bool true) ∧ Below w.heap.size w w' := by
 obtain ⟨A1, c1, A2, c2, e, g1, g2, h1, h2⟩ := hx
 obtain ⟨cs⟩ := cs
 cases e
 obtain ⟨lv, fs, o⟩ := x
 simp only at h1 h2 g1 g2 ⊢
 obtain ⟨W0, hW0⟩ : ∃ W0, W0 = w.alloc (.cells #[.int .i64 lv, .slice A1 fs.length c1, .slice A2 o.length c2] 25) := ⟨_, rfl⟩
 have HB0 : Hid (Below w.heap.size w W0) := Lib.hid (by rw [hW0]; exact (Below.refl _ _).alloc (Nat.le_refl _) _)
 have b0 : Blk W0 w.heap.size [.int .i64 lv, .slice A1 fs.length c1, .slice A2 o.length c2] 25 := by rw [hW0]; exact Blk.new w _ _
 have HX := Lib.hid (fun (W : World) (hW : Below W0.heap.size W0 W) => b0.below hW b0.lt)
 have HC : Hid (∀ W, Below W0.heap.size W0 W → Kd.C k44 W A1 fs.length fs ∧ (Kd.int .i64).C W A2 o.length o) := Lib.hid (fun W hW => ⟨Kd.C_below h1 (HB0.out.trans (hW.mono HB0.out.size)), Kd.C_below h2 (HB0.out.trans (hW.mono HB0.out.size))⟩)
 have HF : Hid (∀ W, Below W0.heap.size W0 W → Calls Try.prog 7 #[.agg #[.int .i64 lv, .slice A1 fs.length c1, .slice A2 o.length c2]] W fun e w' => e = .returned (.bool (fewP fs o)) ∧ Below W0.heap.size W0 w') := Lib.hid (fun W hW => (few_c W (HC.out W hW).1 g1 (HC.out W hW).2 g2).mono fun e w' ⟨a, b⟩ => ⟨a, hW.trans (b.mono hW.size)⟩)
 have HWK : Hid (∀ W, Below W0.heap.size W0 W → Calls Try.prog 8 #[] W fun e w' => e = .returned (.bool true) ∧ Below W0.heap.size W0 w') := Lib.hid (fun W hW => (works_c W).mono fun e w' ⟨a, b⟩ => ⟨a, hW.trans (b.mono hW.size)⟩)
 have k0 := ((HX.out W0 (Below.refl _ _)).cell 0).trans rfl
 have k1 := ((HX.out W0 (Below.refl _ _)).cell 1).trans rfl
 have k2 := ((HX.out W0 (Below.refl _ _)).cell 2).trans rfl
 clear b0
 have HW0 := Lib.hid hW0
 cases hf : fewP fs o with
 | false =>
  rw [hf] at HF
  clear hf h1 h2 g1 g2 HC
  generalize fs.length = n1 at *
  generalize o.length = n2 at *
  rw [hW0] at k0 k1 k2
  go_enter Try.func5, Try.ntmps5
  go_wp2_with fail
  rw [← hW0]
  refine (HF.out _ (Below.refl _ _)).mono ?_
  rintro r w1 ⟨rfl, hb1⟩
  have HB1 := Lib.hid hb1
  clear hW0 hb1 k0 k1 k2
  go_wp2_with fail
  refine (HWK.out _ HB1.out).mono ?_
  rintro r w2 ⟨rfl, hb2⟩
  have HB2 := Lib.hid hb2
  clear hb2
  go_wp2
  go_ret
  exact ⟨rfl, HB0.out.trans (HB2.out.mono HB0.out.size)⟩
 | true =>
  rw [hf] at HF
  obtain ⟨f1, f2, f3⟩ := fewP_iff.1 hf
  have f4 : ∀ f ∈ fs, f.f6.length ≤ big := fun f hm => by have := f3 f hm; unfold big; omega
  have HP : Hid (∀ W, Below W0.heap.size W0 W → Calls Try.prog 9 #[.agg #[.int .i64 lv, .slice A1 fs.length c1, .slice A2 o.length c2]] W fun e w' => e = .returned (.tuple #[.string (if okRep lv fs o = true then strOfNums (repT lv fs o) else (⟨#[]⟩ : ByteArray)), .int .i64 (chk lv fs o)]) ∧ Below W0.heap.size W0 w') := Lib.hid (fun W hW => (prt_c W (HC.out W hW).1 (HC.out W hW).2 (by omega) (by omega)).mono fun e w' ⟨a, b⟩ => ⟨a, hW.trans (b.mono hW.size)⟩)
  by_cases hok : okRep lv fs o = true
  ·have hck : chk lv fs o = 0 := by unfold chk; rw [if_pos hok]
   rw [if_pos hok, hck] at HP
   have hsm := repT_len hok
   have hpb := par_back hok
   have hby := repT_bytes lv fs o
   have HPA : Hid (∀ W, Below W0.heap.size W0 W → Calls Try.prog 12 #[.slice (some ⟨W.heap.size, 0, none⟩) (strOfNums (repT lv fs o)).size (grownCap W (strOfNums (repT lv fs o)).size 0 5)] (Lib.bytesWorld W 5 (strOfNums (repT lv fs o))) (fun r w' => ∃ B1 d1 B2 d2, r = .returned (.tuple #[.agg #[.int .i64 lv, .slice B1 fs.length d1, .slice B2 o.length d2], .int .i64 0, .int .i64 0]) ∧ fs.length ≤ d1 ∧ o.length ≤ d2 ∧ Kd.C k44 w' B1 fs.length fs ∧ (Kd.int .i64).C w' B2 o.length o ∧ Below W0.heap.size W0 w')) := Lib.hid (fun W hW => by
    obtain ⟨q1, q2, q3⟩ := conv_C W 5 (repT lv fs o) hby (by omega)
    rw [str_size]
    refine (par_t _ _ (repT lv fs o) _ q1 q2 hby (by omega)).mono ?_
    rw [hpb]
    rintro r w' ⟨B1, d1, B2, d2, z1, z2, z3, z4, z5, z6⟩
    exact ⟨B1, d1, B2, d2, z1, z2, z3, z4, z5, hW.trans ((q3.trans (z6.mono q3.size)).mono hW.size)⟩)
   have HRP : Hid (∀ W, Below W0.heap.size W0 W → Calls Try.prog 13 #[.slice (some ⟨W.heap.size, 0, none⟩) (strOfNums (repT lv fs o)).size (grownCap W (strOfNums (repT lv fs o)).size 0 5)] (Lib.bytesWorld W 5 (strOfNums (repT lv fs o))) (fun r w' => ∃ B1 d1 B2 d2, r = .returned (.tuple #[.agg #[.int .i64 lv, .slice B1 fs.length d1, .slice B2 o.length d2], .int .i64 0, .int .i64 0]) ∧ fs.length ≤ d1 ∧ o.length ≤ d2 ∧ Kd.C k44 w' B1 fs.length fs ∧ (Kd.int .i64).C w' B2 o.length o ∧ Below W.heap.size W w')) := Lib.hid (fun W hW => by
    obtain ⟨q1, q2, q3⟩ := conv_C W 5 (repT lv fs o) hby (by omega)
    rw [str_size]
    refine (rpar_t _ _ (repT lv fs o) _ q1 q2 (by omega)).mono ?_
    rw [hpb]
    rintro r w' ⟨B1, d1, B2, d2, z1, z2, z3, z4, z5, z6⟩
    exact ⟨B1, d1, B2, d2, z1, z2, z3, z4, z5, q3.trans (z6.mono q3.size)⟩)
   have HSM : Hid (∀ W, Below W0.heap.size W0 W → ∀ B1 d1 B2 d2, fs.length ≤ d1 → o.length ≤ d2 → Kd.C k44 W B1 fs.length fs → (Kd.int .i64).C W B2 o.length o → Calls Try.prog 14 #[.agg #[.int .i64 lv, .slice B1 fs.length d1, .slice B2 o.length d2], .agg #[.int .i64 lv, .slice A1 fs.length c1, .slice A2 o.length c2]] W fun e w' => e = .returned (.bool true) ∧ Below W.heap.size W w') := Lib.hid (fun W hW B1 d1 B2 d2 z1 z2 z3 z4 => by
    have h := rsame_c W lv lv fs fs o o B1 B2 A1 A2 d1 d2 c1 c2 z3 z4 (HC.out W hW).1 (HC.out W hW).2 z1 g1 z2 g2 (by unfold big; omega) f4 (by unfold big; omega)
    rw [eqRep_self] at h
    exact h)
   have kc := fun (w : World) (s : ByteArray) => Lib.run_convert_string_bytes (P := Try.prog) w 9 34 5 s Try.underlying9 Try.underlying34 Try.underlying5
   clear hf h1 h2 g1 g2 HC f1 f2 f3 f4 hok hck hsm hpb hby
   generalize strOfNums (repT lv fs o) = s at *
   rw [hW0] at k0 k1 k2
   go_enter Try.func5, Try.ntmps5
   go_wp2_with fail
   rw [← hW0]
   refine (HF.out _ (Below.refl _ _)).mono ?_
   rintro r w1 ⟨rfl, hb1⟩
   have HB1 := Lib.hid hb1
   clear hW0 hb1 k0 k1 k2
   have k0 := ((HX.out w1 HB1.out).cell 0).trans rfl
   have k1 := ((HX.out w1 HB1.out).cell 1).trans rfl
   have k2 := ((HX.out w1 HB1.out).cell 2).trans rfl
   go_wp2_with fail
   refine (HP.out _ HB1.out).mono ?_
   rintro r w2 ⟨rfl, hb2⟩
   have HB2 := Lib.hid hb2
   clear hb2 k0 k1 k2
   go_wp2_with fail
   refine (HPA.out _ HB2.out).mono ?_
   rintro r w3 ⟨B1, d1, B2, d2, rfl, hd1, hd2, hF3, hO3, hb3⟩
   have HD1 := Lib.hid hd1
   have HD2 := Lib.hid hd2
   have HF3 := Lib.hid hF3
   have HO3 := Lib.hid hO3
   have HB3 := Lib.hid hb3
   clear hd1 hd2 hF3 hO3 hb3 HPA
   go_upto_region 7 with (fail)
   obtain ⟨w4, hw4⟩ : ∃ w4, w4 = w3.alloc (.cells #[.int .i64 lv, .slice B1 fs.length d1, .slice B2 o.length d2] 25) := ⟨_, rfl⟩
   have hb4 : Below w3.heap.size w3 w4 := by rw [hw4]; exact (Below.refl _ _).alloc (Nat.le_refl _) _
   have x4 : Blk w4 w3.heap.size [.int .i64 lv, .slice B1 fs.length d1, .slice B2 o.length d2] 25 := by rw [hw4]; exact Blk.new w3 _ _
   have HB34 := Lib.hid hb4
   have HB4 := Lib.hid (HB3.out.trans (hb4.mono HB3.out.size))
   have HX4 := Lib.hid x4
   rw [← hw4]
   clear hw4 hb4 x4
   go_wp2_with fail
   refine (HRP.out _ HB4.out).mono ?_
   rintro r w5 ⟨E1, e1, E2, e2, rfl, he1, he2, hF5, hO5, hb5⟩
   have HD5 := Lib.hid he1
   have HD6 := Lib.hid he2
   have HF5 := Lib.hid hF5
   have HO5 := Lib.hid hO5
   have HB45 := Lib.hid hb5
   have HB5 := Lib.hid (HB4.out.trans (hb5.mono HB4.out.size))
   have HX5 := Lib.hid (HX4.out.below hb5 HX4.out.lt)
   clear he1 he2 hF5 hO5 hb5 HRP kc
   go_upto_region 8 with (fail)
   obtain ⟨w6, hw6⟩ : ∃ w6, w6 = w5.alloc (.cells #[.int .i64 lv, .slice E1 fs.length e1, .slice E2 o.length e2] 25) := ⟨_, rfl⟩
   have hb6 : Below w5.heap.size w5 w6 := by rw [hw6]; exact (Below.refl _ _).alloc (Nat.le_refl _) _
   have y6 : Blk w6 w5.heap.size [.int .i64 lv, .slice E1 fs.length e1, .slice E2 o.length e2] 25 := by rw [hw6]; exact Blk.new w5 _ _
   have HB56 := Lib.hid hb6
   have HB6 := Lib.hid (HB5.out.trans (hb6.mono HB5.out.size))
   have HX6 := Lib.hid (HX5.out.below hb6 HX5.out.lt)
   have HY6 := Lib.hid y6
   rw [← hw6]
   clear hw6 hb6 y6
   have k0 := ((HX.out w6 HB6.out).cell 0).trans rfl
   have k1 := ((HX.out w6 HB6.out).cell 1).trans rfl
   have k2 := ((HX.out w6 HB6.out).cell 2).trans rfl
   have x0 := (HX6.out.cell 0).trans rfl
   have x1 := (HX6.out.cell 1).trans rfl
   have x2 := (HX6.out.cell 2).trans rfl
   have HB36 := Lib.hid (link HB34.out (link HB45.out HB56.out))
   go_wp2_with fail
   refine (HSM.out _ HB6.out B1 d1 B2 d2 HD1.out HD2.out (Kd.C_below HF3.out HB36.out) (Kd.C_below HO3.out HB36.out)).mono ?_
   rintro r w7 ⟨rfl, hb7⟩
   have HB67 := Lib.hid hb7
   have HB7 := Lib.hid (HB6.out.trans (hb7.mono HB6.out.size))
   have HY7 := Lib.hid (HY6.out.below hb7 HY6.out.lt)
   clear hb7 k0 k1 k2 x0 x1 x2
   have k0 := ((HX.out w7 HB7.out).cell 0).trans rfl
   have k1 := ((HX.out w7 HB7.out).cell 1).trans rfl
   have k2 := ((HX.out w7 HB7.out).cell 2).trans rfl
   have x0 := (HY7.out.cell 0).trans rfl
   have x1 := (HY7.out.cell 1).trans rfl
   have x2 := (HY7.out.cell 2).trans rfl
   have HB57 := Lib.hid (link HB56.out HB67.out)
   go_wp2_with fail
   refine (HSM.out _ HB7.out E1 e1 E2 e2 HD5.out HD6.out (Kd.C_below HF5.out HB57.out) (Kd.C_below HO5.out HB57.out)).mono ?_
   rintro r w8 ⟨rfl, hb8⟩
   have HB8 := Lib.hid (HB7.out.trans (hb8.mono HB7.out.size))
   clear hb8 k0 k1 k2 x0 x1 x2
   go_wp2_with fail
   refine (HWK.out _ HB8.out).mono ?_
   rintro r w9 ⟨rfl, hb9⟩
   have HB9 := Lib.hid hb9
   clear hb9
   go_wp2
   go_ret
   exact ⟨rfl, HB0.out.trans (HB9.out.mono HB0.out.size)⟩
  ·have hck : chk lv fs o = 2 := by unfold chk; rw [if_neg hok]
   rw [if_neg hok, hck] at HP
   have HRC : Hid (∀ W, Below W0.heap.size W0 W → Calls Try.prog 15 #[.agg #[.int .i64 lv, .slice A1 fs.length c1, .slice A2 o.length c2]] W fun e w' => e = .returned (.int .i64 2) ∧ Below W0.heap.size W0 w') := Lib.hid (fun W hW => (rchk_c W (HC.out W hW).1 g1 (HC.out W hW).2 g2 (by unfold big; omega) (by unfold big; omega) f4).mono fun e w' ⟨a, b⟩ => ⟨by rw [a, hck], hW.trans (b.mono hW.size)⟩)
   clear hf h1 h2 g1 g2 HC f1 f2 f3 f4 hok hck
   generalize fs.length = n1 at *
   generalize o.length = n2 at *
   rw [hW0] at k0 k1 k2
   go_enter Try.func5, Try.ntmps5
   go_wp2_with fail
   rw [← hW0]
   refine (HF.out _ (Below.refl _ _)).mono ?_
   rintro r w1 ⟨rfl, hb1⟩
   have HB1 := Lib.hid hb1
   clear hW0 hb1 k0 k1 k2
   have k0 := ((HX.out w1 HB1.out).cell 0).trans rfl
   have k1 := ((HX.out w1 HB1.out).cell 1).trans rfl
   have k2 := ((HX.out w1 HB1.out).cell 2).trans rfl
   go_wp2_with fail
   refine (HP.out _ HB1.out).mono ?_
   rintro r w2 ⟨rfl, hb2⟩
   have HB2 := Lib.hid hb2
   clear hb2 k0 k1 k2
   have k0 := ((HX.out w2 HB2.out).cell 0).trans rfl
   have k1 := ((HX.out w2 HB2.out).cell 1).trans rfl
   have k2 := ((HX.out w2 HB2.out).cell 2).trans rfl
   go_wp2_with fail
   refine (HRC.out _ HB2.out).mono ?_
   rintro r w3 ⟨rfl, hb3⟩
   have HB3 := Lib.hid hb3
   clear hb3 k0 k1 k2
   go_wp2_with fail
   refine (HWK.out _ HB3.out).mono ?_
   rintro r w4 ⟨rfl, hb4⟩
   have HB4 := Lib.hid hb4
   clear hb4
   go_wp2
   go_ret
   exact ⟨rfl, HB0.out.trans (HB4.out.mono HB0.out.size)⟩
end Go.Proofs.Ytkoddmedhnhgiaa
