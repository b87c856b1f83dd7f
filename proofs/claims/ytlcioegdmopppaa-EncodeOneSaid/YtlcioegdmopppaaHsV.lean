/- The walk of the law EncodeOne. -/
import Derived.Test.YtlcioegdmopppaaHsU
set_option linter.unusedSimpArgs false
namespace Go.Proofs.Ytlcioegdmopppaa
open Go.RowKit Go.Proofs.Ytlcioegdmopppaa.PEncodeBack Go.Proofs.YtlcioegdmopppaaW.PrintWords Hs
open En (okN okOp okT opT headT txnT histT opsP txnsP partsP okN_iff checkP encP Fits EOut POut br_string)
set_option linter.unusedVariables false

theorem bytes_of_wf {l : List Int} (h : ∀ x ∈ l, (Lit.int .u8 x).wf = true) : Bytes l := fun x hx => by
  have h1 := h x hx
  simp only [Lit.wf, decide_eq_true_eq, Bool.and_eq_true] at h1
  have h2 : IntKind.u8.min = 0 := rfl
  have h3 : IntKind.u8.max = 255 := rfl
  rw [h2, h3] at h1
  exact h1
theorem dec_use (w : World) (A : Option Addr) (l : List Int) (c : Nat) (most : Int) (hC : Kd.C (Kd.int .u8) w A l.length l) (hc : l.length ≤ c) (hb : Bytes l) {h : List S42} {e x : Int} (hd : decP l most = (h, e, x)) :
    Calls Try.prog 20 #[.slice A l.length c, .int .i64 most] w fun r w' => ∃ B d, r = .returned (.tuple #[.agg #[.slice B h.length d], .int .i64 e, .int .i64 x]) ∧ h.length ≤ d ∧ Kd.C k42 w' B h.length h ∧ Below w.heap.size w w' := by
  refine (decode_c w A l c most hC hc hb).mono ?_
  rintro r w' ⟨v, h1, h2, h3⟩
  rw [hd] at h1 h2
  obtain ⟨B, d, rfl, hd, hr⟩ := Kd.S_reads h2
  exact ⟨B, d, h1, hd, hr, h3⟩
/-- A row of bytes that came in, as a string. -/
theorem conv_arg {W : World} {A : Option Addr} {l : List Int} (c : Nat) (hC : Kd.C (Kd.int .u8) W A l.length l) : (convert 27 9 (.slice A l.length c)).run Try.prog W = .ok (.string (strOfNums l)) W := by
  cases l with
  | nil =>
    rw [run_convert_bytes_string W 27 9 5 A _ c Try.underlying27 Try.underlying5 Try.underlying9]
    cases A with
    | none => simp [Conv.bytesToString, strOfNums]; rfl
    | some ad =>
      have hl := run_loadCells_list (P := Try.prog) W ad [] (fun j v h => by simp at h)
      simp [Conv.bytesToString, Sem.run_bind, hl, strOfNums]
      rfl
  | cons x l =>
    obtain ⟨ad, rfl, h0⟩ := Kd.at_int hC 0 (by omega) (by rw [List.length_cons]; omega)
    have hs : ad.spot = none := by
      obtain ⟨b, o, sp⟩ := ad
      cases sp with
      | none => rfl
      | some y =>
        rw [show (⟨b, o, some y⟩ : Addr).add (0 : Int).toNat = ⟨b, o, some y⟩ from rfl] at h0
        unfold World.cell? at h0
        split at h0 <;> simp at h0
    obtain ⟨b, o, sp⟩ := ad
    simp only at hs
    subst hs
    refine run_convert_bytes_arg W 27 5 Try.underlying27 Try.underlying5 b o (x :: l).length c (x :: l) rfl (fun i hi => ?_) 9 Try.underlying9
    obtain ⟨ad, e, hq⟩ := Kd.at_int hC (i : Int) (by omega) (by omega)
    injection e with e
    subst e
    rw [Int.toNat_natCast, Addr.add_lit] at hq
    rw [hq]
    unfold rd
    rw [Int.toNat_natCast]
theorem texts_ge : ∀ m : List Int, m.length ≤ (texts m).length
  | [] => Nat.le_refl _
  | x :: m => by
    have := texts_ge m
    simp only [texts, List.cons_append, List.length_cons, List.length_append]
    omega
theorem op_ge {o : S39} (h : okOp o = true) : o.f3.length ≤ (opT o).length := by
  unfold okOp at h
  unfold opT
  by_cases h0 : o.f0 = true
  · rw [if_pos h0]
    have := texts_ge (o.f1 :: o.f3)
    simp only [List.length_cons, List.length_append] at this ⊢
    omega
  · rw [if_neg h0] at h
    simp only [Bool.and_eq_true, decide_eq_true_eq] at h
    rw [h.2.2]
    simp
theorem flat_ge {α β : Type} (f : α → List β) : ∀ (l : List α), (∀ x ∈ l, 1 ≤ (f x).length) → l.length ≤ (l.flatMap f).length
  | [], _ => Nat.le_refl _
  | x :: l, h => by
    have h1 := h x (by simp)
    have h2 := flat_ge f l fun y hy => h y (by simp [hy])
    rw [List.flatMap_cons, List.length_append, List.length_cons]
    omega
theorem flat_mem {α β : Type} (f : α → List β) : ∀ (l : List α) (x : α), x ∈ l → (f x).length ≤ (l.flatMap f).length
  | y :: l, x, h => by
    rw [List.flatMap_cons, List.length_append]
    rcases List.mem_cons.1 h with rfl | h
    · omega
    · have := flat_mem f l x h; omega
theorem fits_one {h : List S42} (hp : h.all okT = true) (hl : (histT h).length ≤ 1000) (h0 : h.length ≤ 1024) : Fits h := by
  have ht : ∀ t ∈ h, (t.f2.flatMap opT).length ≤ 1000 := fun t ht => by
    have h1 := flat_mem txnT h t ht
    unfold histT at hl
    unfold txnT at h1 hl
    rw [List.length_append] at h1
    omega
  refine ⟨⟨by omega, fun t htm => ?_, fun t htm o ho => ?_⟩, fun _ => by omega⟩
  · have h1 := ht t htm
    have h2 := flat_ge opT t.f2 fun o _ => by unfold opT; simp
    omega
  · have h1 := ht t htm
    have h2 := flat_mem opT t.f2 o ho
    have h3 := List.all_eq_true.1 hp t htm
    unfold okT at h3
    simp only [Bool.and_eq_true] at h3
    have h4 := op_ge (List.all_eq_true.1 h3.2 o ho)
    omega
set_option maxHeartbeats 1000000 in
theorem one_long (w : World) (A : Option Addr) (c : Nat) (l : List Int) (hl : 600 < l.length) : Calls Try.prog 10 #[.slice A l.length c] w fun e w' => e = .returned (.bool true) ∧ Below w.heap.size w w' := by
  have h1i : (600 : Int) < l.length := by omega
  go_enter Try.func10, Try.ntmps10
  go_wp2_with fail
  refine (En.works _).mono ?_
  rintro e w2 ⟨rfl, hb2⟩
  go_wp2
  go_ret
  exact ⟨rfl, hb2⟩
set_option maxHeartbeats 1000000 in
theorem one_bad (w : World) (A : Option Addr) (c : Nat) (l : List Int) (hr : Kd.C (Kd.int .u8) w A l.length l) (hc : l.length ≤ c) (hb : Bytes l) (hl : l.length ≤ 600) {h : List S42} {e x : Int} (hd : decP l 4096 = (h, e, x)) (he : e ≠ 0) :
    Calls Try.prog 10 #[.slice A l.length c] w fun e w' => e = .returned (.bool true) ∧ Below w.heap.size w w' := by
  have HD := Lib.hid (dec_use w A l c 4096 hr hc hb hd)
  have h1i : ¬ (600 : Int) < l.length := by omega
  have hne : (e != 0) = true := by simp [he]
  clear hr hc hb hd he
  go_enter Try.func10, Try.ntmps10
  go_wp2_with fail
  refine HD.out.mono ?_
  rintro r w1 ⟨B, d, rfl, hd1, hr1, hb1⟩
  have HB := Lib.hid (below_alloc hb1 (.cells #[.slice B h.length d] 24))
  clear hd1 hr1 hb1
  go_wp2_with fail
  refine (En.works _).mono ?_
  rintro r w2 ⟨rfl, hb2⟩
  go_wp2
  go_ret
  exact ⟨rfl, link HB.out hb2⟩
set_option maxHeartbeats 2000000 in
theorem one_good (w : World) (A : Option Addr) (c : Nat) (l : List Int) (hr : Kd.C (Kd.int .u8) w A l.length l) (hc : l.length ≤ c) (hb : Bytes l) (hl : l.length ≤ 600) {h : List S42} {x : Int} (hd : decP l 4096 = (h, 0, x)) :
    Calls Try.prog 10 #[.slice A l.length c] w fun e w' => e = .returned (.bool true) ∧ Below w.heap.size w w' := by
  have HD := Lib.hid (dec_use w A l c 4096 hr hc hb hd)
  obtain ⟨t1, t2, t3, t4, t5⟩ := dec_one (by omega) hd
  have hf : Fits h := fits_one (En.parts_ok (by
    unfold checkP at t2
    split at t2
    · exact absurd t2 (by decide)
    · split at t2
      · next hp => exact absurd t2 hp
      · next hp => simpa using hp)) (by rw [t1]; omega) t4
  have HE := Lib.hid (fun (W : World) (B : Option Addr) (d : Nat) (hC : Kd.C k42 W B h.length h) (hd : h.length ≤ d) => En.encode_c W h B d hC hd hf)
  have HC := Lib.hid (fun (W : World) (B : Option Addr) (d : Nat) (hC : Kd.C k42 W B h.length h) (hd : h.length ≤ d) => En.check_c W h B d hC hd hf)
  unfold EOut at HE
  unfold POut at HC
  rw [t2, t3] at HE
  rw [t2] at HC
  have HA := Lib.hid (fun (W : World) (hW : Below w.heap.size w W) => conv_arg c (Kd.C_below hr hW))
  have h1i : ¬ (600 : Int) < l.length := by omega
  clear hr hc hb hd t1 t2 t3 t4 t5 hf
  obtain ⟨s, hs⟩ : ∃ s, strOfNums l = s := ⟨_, rfl⟩
  have HS := Lib.hid hs
  rw [hs] at HA
  clear hs
  go_enter Try.func10, Try.ntmps10
  go_wp2_with fail
  refine HD.out.mono ?_
  rintro r w1 ⟨B, d, rfl, hd1, hr1, hb1⟩
  have HB := Lib.hid (below_alloc hb1 (.cells #[.slice B h.length d] 24))
  have HH := Lib.hid (Kd.C_alloc hr1 (.cells #[.slice B h.length d] 24))
  have HZ := Lib.hid (Blk.new w1 [.slice B h.length d] 24)
  have HE1 := Lib.hid (HE.out _ B d HH.out hd1)
  have HD1 := Lib.hid hd1
  have q0 := HZ.out.cell 0
  simp only [List.getElem?_cons_zero] at q0
  clear hd1 hr1 hb1 HE
  go_wp2_with fail
  refine HE1.out.mono ?_
  rintro r w2 ⟨A2, n2, c2, rfl, hBR, hb2⟩
  have HB2 := Lib.hid (link HB.out hb2)
  have kc := br_string hBR
  rw [show strOfNums l = s from HS.out] at kc
  have ka := HA.out w2 HB2.out
  have q1 := (HZ.out.below hb2 HZ.out.lt).cell 0
  simp only [List.getElem?_cons_zero] at q1
  have HC2 := Lib.hid (HC.out w2 B d (Kd.C_below HH.out hb2) HD1.out)
  clear hBR hb2 q0 HE1 HC
  go_wp2_with fail
  refine HC2.out.mono ?_
  rintro r w3 ⟨rfl, hb3⟩
  have HB3 := Lib.hid (link HB2.out hb3)
  clear hb3 kc ka q1 HC2
  go_wp2_with fail
  refine (En.works _).mono ?_
  rintro r w4 ⟨rfl, hb4⟩
  go_wp2
  go_ret
  exact ⟨rfl, link HB3.out hb4⟩
theorem walk_EncodeOne (w : World) (A : Option Addr) (c : Nat) (l : List Int) (hr : Kd.C (Kd.int .u8) w A l.length l) (hc : l.length ≤ c) (hb : ∀ x ∈ l, (Lit.int .u8 x).wf = true) (hs : l.length * 1 ≤ 140737488351232) :
    Calls Try.prog 10 #[.slice A l.length c] w fun e w' => e = .returned (.bool true) ∧ Below w.heap.size w w' := by
  by_cases h1 : 600 < l.length
  · exact one_long w A c l h1
  · have hb' := bytes_of_wf hb
    rcases hd : decP l 4096 with ⟨h, e, x⟩
    by_cases he : e = 0
    · subst he
      exact one_good w A c l hr hc hb' (by omega) hd
    · exact one_bad w A c l hr hc hb' (by omega) hd he
end Go.Proofs.Ytlcioegdmopppaa
