/- The walk of the law EncodeTexts. -/
import Derived.Test.YtlcioegdmopppaaEnL
set_option linter.unusedSimpArgs false
namespace Go.Proofs.Ytlcioegdmopppaa
open Go.RowKit Go.Proofs.Ytlcioegdmopppaa.PEncodeBack Go.Proofs.YtlcioegdmopppaaW.PrintWords En
set_option linter.unusedVariables false

set_option maxHeartbeats 4000000 in
set_option maxRecDepth 100000 in
theorem texts_main (w : World) (h : List S42) (A : Option Addr) (c : Nat) (hr : Kd.C k42 w A h.length h) (hc : h.length ≤ c) (hf : fewP 40 100 h = true) :
    Calls Try.prog 3 #[.agg #[.slice A h.length c]] w fun e w' => e = .returned (.bool true) ∧ Below w.heap.size w w' := by
  have hfit := few_fits hf
  have HR := Lib.hid hr
  have HF := Lib.hid (fun (W : World) (hC : Kd.C k42 W A h.length h) => few_c W h A c hC hc)
  rw [hf] at HF
  have HB0 : Hid (Below w.heap.size w (w.alloc (.cells #[.slice A h.length c] 24))) := Lib.hid ((Below.refl _ _).alloc (Nat.le_refl _) _)
  have HZ : Hid (Blk (w.alloc (.cells #[.slice A h.length c] 24)) w.heap.size [.slice A h.length c] 24) := Lib.hid (Blk.new w [.slice A h.length c] 24)
  have HE := Lib.hid (fun (W : World) (hC : Kd.C k42 W A h.length h) => encode_c W h A c hC hc hfit)
  have HRE := Lib.hid (fun (W : World) (hC : Kd.C k42 W A h.length h) => rencode_c W h A c hC hc hfit)
  have HC := Lib.hid (fun (W : World) (hC : Kd.C k42 W A h.length h) => check_c W h A c hC hc hfit)
  have HRC := Lib.hid (fun (W : World) (hC : Kd.C k42 W A h.length h) => rcheck_c W h A c hC hc hfit)
  have HS := Lib.hid (fun (W : World) (hC : Kd.C k42 W A h.length h) => size_c W h A c hC hc hfit)
  have HSZ : Hid ((strOfNums (encP h)).size = (encP h).length) := Lib.hid (str_len _)
  clear hr hc hf hfit
  go_enter Try.func3, Try.ntmps3
  go_wp2_with fail
  refine (HF.out _ (Kd.C_below HR.out HB0.out)).mono ?_
  rintro e w1 ⟨rfl, hb1⟩
  have HB1 := Lib.hid (link HB0.out hb1)
  have HZ1 := Lib.hid (HZ.out.below hb1 HZ.out.lt)
  have hz1 := HZ1.out.cell 0
  simp only [List.getElem?_cons_zero] at hz1
  clear hb1
  go_wp2_with fail
  refine (HE.out _ (Kd.C_below HR.out HB1.out)).mono ?_
  rintro e w2 ⟨A2, n2, c2, rfl, hB2, hb2⟩
  have HB2 := Lib.hid (link HB1.out hb2)
  have HZ2 := Lib.hid (HZ1.out.below hb2 HZ1.out.lt)
  have HBR2 := Lib.hid hB2
  have hz2 := HZ2.out.cell 0
  simp only [List.getElem?_cons_zero] at hz2
  clear hb2 hB2
  go_wp2_with fail
  refine (HRE.out _ (Kd.C_below HR.out HB2.out)).mono ?_
  rintro e w3 ⟨rfl, hb3⟩
  have HB3 := Lib.hid (link HB2.out hb3)
  have HZ3 := Lib.hid (HZ2.out.below hb3 HZ2.out.lt)
  have HBR3 := Lib.hid (HBR2.out.below hb3)
  have hz3 : w3.drew.cell? ⟨w.heap.size, 0, none⟩ = some (.slice A h.length c) := HZ3.out.drew.cell 0
  clear hb3
  have kc := br_string (w := w3.drew) (HBR3.out.below (Below.refl _ _).drew)
  have FX : Hid (∀ (W : World), Below w3.heap.size w3 W → W.cell? ⟨w.heap.size, 0, none⟩ = some (.slice A h.length c)) := Lib.hid (fun (W : World) (hb : Below w3.heap.size w3 W) => (HZ3.out.below hb HZ3.out.lt).cell 0)
  have C3 := Lib.hid (Kd.C_below HR.out HB3.out)
  have HC3 := Lib.hid (fun (W : World) (hb : Below w3.heap.size w3 W) => (HC.out W (Kd.C_below C3.out hb)).mono fun e w' ⟨h1, h2⟩ => (⟨h1, link hb h2⟩ : _ ∧ Below w3.heap.size w3 w'))
  have HRC3 := Lib.hid (fun (W : World) (hb : Below w3.heap.size w3 W) => (HRC.out W (Kd.C_below C3.out hb)).mono fun e w' ⟨h1, h2⟩ => (⟨h1, link hb h2⟩ : _ ∧ Below w3.heap.size w3 w'))
  have HS3 := Lib.hid (fun (W : World) (hb : Below w3.heap.size w3 W) => (HS.out W (Kd.C_below C3.out hb)).mono fun e w' ⟨h1, h2⟩ => (⟨h1, link hb h2⟩ : _ ∧ Below w3.heap.size w3 w'))
  have HW3 := Lib.hid (fun (W : World) (hb : Below w3.heap.size w3 W) => (works W).mono fun e w' ⟨h1, h2⟩ => (⟨h1, link hb h2⟩ : _ ∧ Below w3.heap.size w3 w'))
  have hbD := Lib.hid ((Below.refl w3.heap.size w3).drew)
  generalize checkP h = cp at *
  generalize strOfNums (encP h) = s at *
  generalize (encP h).length = ln at *
  have hsz := HSZ.out
  go_wp2_with fail
  go_region_with (first
    | (go_at_call 15; ((with_reducible refine (HC3.out _ (by repeat (first | (with_reducible assumption) | exact Below.refl _ _ | apply below_drew | apply below_alloc))).mono ?_); rintro e w5 ⟨rfl, hbA⟩; have hzA := FX.out _ hbA))
    | (go_at_call 16; ((with_reducible refine (HRC3.out _ (by repeat (first | (with_reducible assumption) | exact Below.refl _ _ | apply below_drew | apply below_alloc))).mono ?_); rintro e w6 ⟨rfl, hbB⟩; have hzB := FX.out _ hbB))
    | (go_at_call 17; ((with_reducible refine (HS3.out _ (by repeat (first | (with_reducible assumption) | exact Below.refl _ _ | apply below_drew | apply below_alloc))).mono ?_); rintro e w7 ⟨rfl, hbC⟩))
    | (go_at_call 12; ((with_reducible refine (HW3.out _ (by repeat (first | (with_reducible assumption) | exact Below.refl _ _ | apply below_drew | apply below_alloc))).mono ?_); rintro e w8 ⟨rfl, hbW⟩)))
  all_goals
    go_wp2
    go_ret
    exact ⟨rfl, link HB3.out hbW⟩

theorem opens_EncodeTexts_0 (W : World) : Opens Try.prog W 24 (fun (h : List S42) cs => ∃ A c, cs = [.slice A h.length c] ∧ h.length ≤ c ∧ Kd.C k42 W A h.length h) := opens_history W
set_option maxHeartbeats 2000000 in
set_option maxRecDepth 100000 in
theorem walk_EncodeTexts (w : World) (cs : Array Value) (h : List S42) (hh : ∃ A c, cs.toList = [.slice A h.length c] ∧ h.length ≤ c ∧ Kd.C k42 w A h.length h) :
    Calls Try.prog 3 #[.agg cs] w fun e w' => e = .returned (.bool true) ∧ Below w.heap.size w w' := by
  obtain ⟨A, c, e, hc, hr⟩ := hh
  obtain ⟨cs⟩ := cs
  cases e
  cases hf : fewP 40 100 h with
  | true => exact texts_main w h A c hr hc hf
  | false =>
    have HB0 : Hid (Below w.heap.size w (w.alloc (.cells #[.slice A h.length c] 24))) := Lib.hid ((Below.refl _ _).alloc (Nat.le_refl _) _)
    have HF := Lib.hid (few_c _ h A c (Kd.C_below hr HB0.out) hc)
    rw [hf] at HF
    clear hf hr hc
    go_enter Try.func3, Try.ntmps3
    go_wp2_with fail
    refine HF.out.mono ?_
    rintro e w1 ⟨rfl, hb1⟩
    have HB1 := Lib.hid (link HB0.out hb1)
    clear hb1
    go_wp2_with fail
    refine (works _).mono ?_
    rintro e w2 ⟨rfl, hb2⟩
    go_wp2
    go_ret
    exact ⟨rfl, link HB1.out hb2⟩
end Go.Proofs.Ytlcioegdmopppaa
