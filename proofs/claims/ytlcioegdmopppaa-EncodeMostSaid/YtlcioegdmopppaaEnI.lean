/- encode.Check, Encode, Size. -/
import Derived.Test.YtlcioegdmopppaaEnH
import Derived.Test.YtlcioegdmopppaaEnX2
set_option linter.unusedSimpArgs false
namespace Go.Proofs.Ytlcioegdmopppaa.En
open Go.RowKit Go.Proofs.Ytlcioegdmopppaa.PEncodeBack Go.Proofs.YtlcioegdmopppaaW.PrintWords
set_option linter.unusedVariables false

def opsN : List S42 → Nat
  | [] => 0
  | t :: h => t.f2.length + opsN h
theorem opsN_le (n : Nat) : ∀ h : List S42, (∀ t ∈ h, t.f2.length ≤ n) → opsN h ≤ h.length * n
  | [], _ => by simp [opsN]
  | t :: h, hh => by
    have h1 := hh t (by simp)
    have h2 := opsN_le n h fun x hx => hh x (by simp [hx])
    unfold opsN
    rw [List.length_cons, Nat.add_mul, Nat.one_mul]; omega
theorem opsN_drop {h : List S42} {k : Nat} (hk : k < h.length) : opsN (h.drop k) = h[k].f2.length + opsN (h.drop (k + 1)) := by
  rw [List.drop_eq_getElem_cons hk]; rfl
theorem ops_loop (h : List S42) (hl : h.length ≤ big) : ∀ (d k : Nat) (x : Nat), k + d = h.length → x + opsN (h.drop k) ≤ big → Ev (fun r => history_Ops.l0 r (x : Int) h (h.length : Int) (k : Int)) ((x + opsN (h.drop k) : Nat) : Int)
  | 0, k, x, hk, hb => by
    rw [List.drop_eq_nil_of_le (by omega)]
    exact Ev.step (f := fun _ => some _) (fun r => by simp only [history_Ops.l0]; rw [if_neg (by omega)]; rfl) (Ev.now _)
  | d + 1, k, x, hk, hb => by
    have hlt : k < h.length := by omega
    have hd := opsN_drop hlt
    have ih := ops_loop h hl d (k + 1) (x + h[k].f2.length) (by omega) (by omega)
    have e : x + opsN (h.drop k) = x + h[k].f2.length + opsN (h.drop (k + 1)) := by omega
    rw [e]
    unfold big at *
    refine Ev.step (fun r => ?_) ih
    simp only [history_Ops.l0]
    have hw : wrap64 ((x : Int) + (h[k].f2.length : Int)) = ((x + h[k].f2.length : Nat) : Int) := by unfold wrap64; omega
    rw [if_pos (by omega), if_pos (by omega), if_pos (by omega), rd42 hlt, hw, wrapS hlt (by omega)]
theorem ops_ev (h : List S42) (hl : h.length ≤ big) (hb : opsN h ≤ big) : Ev (fun r => history_Ops.f r h) (opsN h : Int) := by
  have := ops_loop h hl h.length 0 0 (by omega) (by rw [List.drop_zero]; omega)
  simp only [Nat.zero_add, List.drop_zero] at this
  exact this

def checkP (h : List S42) : Int := if 1024 < h.length ∨ 4096 < opsN h then 3 else if partsP h ≠ 0 then partsP h else if 262144 < (histT h).length then 3 else 0
def encP (h : List S42) : List Int := if checkP h = 0 then histT h else []
theorem opsP_ok : ∀ (l : List S39) (met : List (Int × Int)), (opsP l met).1 = 0 → l.all okOp = true
  | [], _, _ => rfl
  | o :: l, met, h => by
    unfold opsP at h
    cases ho : okOp o with
    | false => rw [ho, if_pos rfl] at h; cases h
    | true =>
      rw [ho, if_neg (by decide)] at h
      rw [List.all_cons, ho, Bool.true_and]
      by_cases hr : o.f0 = true
      · rw [if_pos hr] at h; exact opsP_ok l met h
      · rw [if_neg hr] at h
        by_cases hm : (o.f1, o.f2) ∈ met
        · rw [if_pos hm] at h; cases h
        · rw [if_neg hm] at h; exact opsP_ok l _ h
theorem txnsP_ok : ∀ (h : List S42) (ids : List Int) (met : List (Int × Int)), txnsP h ids met = 0 → h.all okT = true
  | [], _, _, _ => rfl
  | t :: h, ids, met, hh => by
    unfold txnsP at hh
    cases ho : okN t.f0 with
    | false => rw [ho, if_pos rfl] at hh; cases hh
    | true =>
      rw [ho, if_neg (by decide)] at hh
      by_cases hi : t.f0 ∈ ids
      · rw [if_pos hi] at hh; cases hh
      · rw [if_neg hi] at hh
        by_cases h0 : (opsP t.f2 met).1 = 0
        · rw [if_neg (by simp [h0])] at hh
          rw [List.all_cons, txnsP_ok h _ _ hh, Bool.and_true]
          unfold okT
          rw [ho, opsP_ok _ _ h0]; rfl
        · rw [if_pos h0] at hh; exact absurd hh h0
theorem parts_ok {h : List S42} (hp : partsP h = 0) : h.all okT = true := txnsP_ok h [] [] hp
theorem opsP_val : ∀ (l : List S39) (met : List (Int × Int)), (opsP l met).1 = 0 ∨ (opsP l met).1 = 2 ∨ (opsP l met).1 = 6
  | [], _ => .inl rfl
  | o :: l, met => by
    unfold opsP
    split
    · exact .inr (.inl rfl)
    · split
      · exact opsP_val l met
      · split
        · exact .inr (.inr rfl)
        · exact opsP_val l _
theorem txnsP_val : ∀ (h : List S42) (ids : List Int) (met : List (Int × Int)), txnsP h ids met = 0 ∨ txnsP h ids met = 2 ∨ txnsP h ids met = 5 ∨ txnsP h ids met = 6
  | [], _, _ => .inl rfl
  | t :: h, ids, met => by
    unfold txnsP
    split
    · exact .inr (.inl rfl)
    · split
      · exact .inr (.inr (.inl rfl))
      · split
        · rcases opsP_val t.f2 met with h | h | h <;> simp [h]
        · exact txnsP_val h _ _
/-- What may be handed in here. -/
structure Fits (h : List S42) : Prop where
  lim : Lim h 1000000
  txt : h.all okT = true → (histT h).length ≤ 1000000000
theorem Fits.ops {h : List S42} (hf : Fits h) : opsN h ≤ 1000000000000 := by
  have h1 := opsN_le 1000000 h hf.lim.h1
  have h2 := hf.lim.h0
  have : h.length * 1000000 ≤ 1000000 * 1000000 := Nat.mul_le_mul_right _ h2
  omega
theorem ops_c (w : World) (h : List S42) (A : Option Addr) (c : Nat) (hr : Kd.C k42 w A h.length h) (hc : h.length ≤ c) (hf : Fits h) : Calls Try.prog 23 #[.agg #[.slice A h.length c]] w fun e w' => e = .returned (.int .i64 (opsN h : Nat)) ∧ Below w.heap.size w w' := by
  obtain ⟨K, hK⟩ := (ops_ev h (by have := hf.lim.h0; unfold big; omega) (by have := hf.ops; unfold big; omega)).rounds
  exact history_Ops.calls K A c h _ w hr hc hK

set_option maxHeartbeats 2000000 in
set_option maxRecDepth 100000 in
theorem check_c (w : World) (h : List S42) (A : Option Addr) (c : Nat) (hr : Kd.C k42 w A h.length h) (hc : h.length ≤ c) (hf : Fits h) :
    Calls Try.prog 15 #[.agg #[.slice A h.length c]] w (POut w (checkP h)) := by
  have HR := Lib.hid hr
  have HF := Lib.hid hf
  have HB0 : Hid (Below w.heap.size w (w.alloc (.cells #[.slice A h.length c] 24))) := Lib.hid ((Below.refl _ _).alloc (Nat.le_refl _) _)
  have HZ : Hid (Blk (w.alloc (.cells #[.slice A h.length c] 24)) w.heap.size [.slice A h.length c] 24) := Lib.hid (Blk.new w [.slice A h.length c] 24)
  have HO := Lib.hid (fun (W : World) (hC : Kd.C k42 W A h.length h) => ops_c W h A c hC hc hf)
  have HP := Lib.hid (fun (W : World) (hC : Kd.C k42 W A h.length h) => parts_c W h A c hC hf.lim)
  have HT := Lib.hid (fun (W : World) (hC : Kd.C k42 W A h.length h) (hok : h.all okT = true) => text_c W h A c hC hok hf.lim (hf.txt hok))
  have HV : Hid (checkP h = if 1024 < h.length ∨ 4096 < opsN h then 3 else if partsP h ≠ 0 then partsP h else if 262144 < (histT h).length then 3 else 0) := Lib.hid rfl
  have HOKP := Lib.hid (@parts_ok h)
  clear hr hc hf
  generalize checkP h = res at *
  by_cases h1 : 1024 < h.length
  · rw [if_pos (.inl h1)] at HV
    have h1i : (1024 : Int) < h.length := by omega
    clear h1
    go_enter Try.func15, Try.ntmps15
    go_wp2
    go_ret
    exact ⟨by rw [HV.out]; rfl, HB0.out⟩
  · have h1i : ¬ (1024 : Int) < h.length := by omega
    by_cases h2 : 4096 < opsN h
    · rw [if_pos (.inr h2)] at HV
      have h2i : (4096 : Int) < (opsN h : Nat) := by omega
      clear h1 h2
      generalize opsN h = on at *
      go_enter Try.func15, Try.ntmps15
      go_wp2_with fail
      refine (HO.out _ (Kd.C_below HR.out HB0.out)).mono ?_
      rintro e w1 ⟨rfl, hb1⟩
      have hbF := link HB0.out hb1
      clear hb1
      go_wp2
      go_ret
      exact ⟨by rw [HV.out]; rfl, hbF⟩
    · have h2i : ¬ (4096 : Int) < (opsN h : Nat) := by omega
      rw [if_neg (by omega)] at HV
      clear h1 h2
      generalize opsN h = on at *
      by_cases h3 : partsP h = 0
      · rw [if_neg (by simp [h3])] at HV
        have HOK := Lib.hid (HOKP.out h3)
        rw [h3] at HP
        clear h3
        by_cases h4 : 262144 < (histT h).length
        · rw [if_pos h4] at HV
          have H4 := Lib.hid h4
          clear h4
          go_enter Try.func15, Try.ntmps15
          go_wp2_with fail
          refine (HO.out _ (Kd.C_below HR.out HB0.out)).mono ?_
          rintro e w1 ⟨rfl, hb1⟩
          have HB1 := Lib.hid (link HB0.out hb1)
          have HZ1 := Lib.hid (HZ.out.below hb1 HZ.out.lt)
          have hz1 := HZ1.out.cell 0
          simp only [List.getElem?_cons_zero] at hz1
          clear hb1
          go_wp2_with fail
          refine (HP.out _ (Kd.C_below HR.out HB1.out)).mono ?_
          rintro e w2 ⟨rfl, hb2⟩
          have HB2 := Lib.hid (link HB1.out hb2)
          have HZ2 := Lib.hid (HZ1.out.below hb2 HZ1.out.lt)
          have hz2 := HZ2.out.cell 0
          simp only [List.getElem?_cons_zero] at hz2
          clear hb2
          go_wp2_with fail
          refine (HT.out _ (Kd.C_below HR.out HB2.out) HOK.out).mono ?_
          rintro e w3 ⟨A3, n3, c3, rfl, hB3, hb3⟩
          have hbF := link HB2.out hb3
          have hn3 := hB3.cells.1
          have hgt : (262144 : Int) < (n3 : Nat) := by have := H4.out; omega
          clear hb3 hB3 hn3
          go_wp2
          go_ret
          exact ⟨by rw [HV.out]; rfl, hbF⟩
        · rw [if_neg h4] at HV
          have H4 := Lib.hid h4
          clear h4
          go_enter Try.func15, Try.ntmps15
          go_wp2_with fail
          refine (HO.out _ (Kd.C_below HR.out HB0.out)).mono ?_
          rintro e w1 ⟨rfl, hb1⟩
          have HB1 := Lib.hid (link HB0.out hb1)
          have HZ1 := Lib.hid (HZ.out.below hb1 HZ.out.lt)
          have hz1 := HZ1.out.cell 0
          simp only [List.getElem?_cons_zero] at hz1
          clear hb1
          go_wp2_with fail
          refine (HP.out _ (Kd.C_below HR.out HB1.out)).mono ?_
          rintro e w2 ⟨rfl, hb2⟩
          have HB2 := Lib.hid (link HB1.out hb2)
          have HZ2 := Lib.hid (HZ1.out.below hb2 HZ1.out.lt)
          have hz2 := HZ2.out.cell 0
          simp only [List.getElem?_cons_zero] at hz2
          clear hb2
          go_wp2_with fail
          refine (HT.out _ (Kd.C_below HR.out HB2.out) HOK.out).mono ?_
          rintro e w3 ⟨A3, n3, c3, rfl, hB3, hb3⟩
          have hbF := link HB2.out hb3
          have hn3 := hB3.cells.1
          have hgt : ¬ (262144 : Int) < (n3 : Nat) := by have := H4.out; omega
          clear hb3 hB3 hn3
          go_wp2
          go_ret
          exact ⟨by rw [HV.out]; rfl, hbF⟩
      · rw [if_pos h3] at HV
        have hne : (partsP h != 0) = true := by simp [h3]
        clear h3
        generalize partsP h = pp at *
        go_enter Try.func15, Try.ntmps15
        go_wp2_with fail
        refine (HO.out _ (Kd.C_below HR.out HB0.out)).mono ?_
        rintro e w1 ⟨rfl, hb1⟩
        have HB1 := Lib.hid (link HB0.out hb1)
        have HZ1 := Lib.hid (HZ.out.below hb1 HZ.out.lt)
        have hz1 := HZ1.out.cell 0
        simp only [List.getElem?_cons_zero] at hz1
        clear hb1
        go_wp2_with fail
        refine (HP.out _ (Kd.C_below HR.out HB1.out)).mono ?_
        rintro e w2 ⟨rfl, hb2⟩
        have hbF := link HB1.out hb2
        clear hb2
        go_wp2
        go_ret
        exact ⟨by rw [HV.out]; rfl, hbF⟩
/-- What Encode hands back. -/
def EOut (w : World) (h : List S42) (e : Ending) (w' : World) : Prop := ∃ A n c, e = .returned (.tuple #[.slice A n c, .int .i64 (checkP h)]) ∧ BR w' w.heap.size (.slice A n c) (encP h) ∧ Below w.heap.size w w'
set_option maxHeartbeats 2000000 in
set_option maxRecDepth 100000 in
theorem encode_c (w : World) (h : List S42) (A : Option Addr) (c : Nat) (hr : Kd.C k42 w A h.length h) (hc : h.length ≤ c) (hf : Fits h) :
    Calls Try.prog 13 #[.agg #[.slice A h.length c]] w (EOut w h) := by
  have HR := Lib.hid hr
  have HB0 : Hid (Below w.heap.size w (w.alloc (.cells #[.slice A h.length c] 24))) := Lib.hid ((Below.refl _ _).alloc (Nat.le_refl _) _)
  have HZ : Hid (Blk (w.alloc (.cells #[.slice A h.length c] 24)) w.heap.size [.slice A h.length c] 24) := Lib.hid (Blk.new w [.slice A h.length c] 24)
  have HC := Lib.hid (fun (W : World) (hC : Kd.C k42 W A h.length h) => check_c W h A c hC hc hf)
  have HT := Lib.hid (fun (W : World) (hC : Kd.C k42 W A h.length h) (hok : h.all okT = true) => text_c W h A c hC hok hf.lim (hf.txt hok))
  have HOKP : Hid (checkP h = 0 → h.all okT = true) := Lib.hid fun h0 => by
    unfold checkP at h0
    split at h0
    · cases h0
    · split at h0
      · rename_i hq; exact absurd h0 hq
      · rename_i hq; exact parts_ok (by simpa using hq)
  have HFI : Hid (∀ W A n c, BR W w.heap.size (.slice A n c) (encP h) → Below w.heap.size w W → EOut w h (.returned (.tuple #[.slice A n c, .int .i64 (checkP h)])) W) := Lib.hid fun W A n c h1 h2 => ⟨A, n, c, rfl, h1, h2⟩
  have HE : Hid (encP h = if checkP h = 0 then histT h else []) := Lib.hid rfl
  clear hr hc hf
  by_cases h0 : checkP h = 0
  · have HOK := Lib.hid (HOKP.out h0)
    rw [if_pos h0] at HE
    have H0 := Lib.hid h0
    rw [h0] at HC HFI
    clear h0 HOKP
    go_enter Try.func13, Try.ntmps13
    go_wp2_with fail
    refine (HC.out _ (Kd.C_below HR.out HB0.out)).mono ?_
    rintro e w1 ⟨rfl, hb1⟩
    have HB1 := Lib.hid (link HB0.out hb1)
    have HZ1 := Lib.hid (HZ.out.below hb1 HZ.out.lt)
    have hz1 := HZ1.out.cell 0
    simp only [List.getElem?_cons_zero] at hz1
    clear hb1
    go_wp2_with fail
    refine (HT.out _ (Kd.C_below HR.out HB1.out) HOK.out).mono ?_
    rintro e w2 ⟨A2, n2, c2, rfl, hB2, hb2⟩
    have hbF := link HB1.out hb2
    have HFF := Lib.hid (HFI.out _ _ _ _ (by rw [HE.out]; exact hB2.lower HB1.out.size) hbF)
    clear hb2 hB2 hbF HFI
    go_wp2
    go_ret2
    exact HFF.out
  · rw [if_neg h0] at HE
    have hne : (checkP h != 0) = true := by simp [h0]
    clear h0 HOKP
    generalize checkP h = cp at *
    go_enter Try.func13, Try.ntmps13
    go_wp2_with fail
    refine (HC.out _ (Kd.C_below HR.out HB0.out)).mono ?_
    rintro e w1 ⟨rfl, hb1⟩
    have HFF := Lib.hid (HFI.out w1 none 0 0 (by rw [HE.out]; exact BR.nil _ _) (link HB0.out hb1))
    clear hb1 HFI
    go_wp2
    go_ret2
    exact HFF.out
set_option maxHeartbeats 2000000 in
set_option maxRecDepth 100000 in
theorem size_c (w : World) (h : List S42) (A : Option Addr) (c : Nat) (hr : Kd.C k42 w A h.length h) (hc : h.length ≤ c) (hf : Fits h) :
    Calls Try.prog 17 #[.agg #[.slice A h.length c]] w (POut w ((encP h).length : Nat)) := by
  have HB0 : Hid (Below w.heap.size w (w.alloc (.cells #[.slice A h.length c] 24))) := Lib.hid ((Below.refl _ _).alloc (Nat.le_refl _) _)
  have HC := Lib.hid (encode_c _ h A c (Kd.C_below hr HB0.out) hc hf)
  clear hr hc hf
  go_enter Try.func17, Try.ntmps17
  go_wp2_with fail
  refine HC.out.mono ?_
  rintro e w1 ⟨A1, n1, c1, rfl, hB1, hb1⟩
  have hbF := link HB0.out hb1
  have HN : Hid (n1 = (encP h).length) := Lib.hid hB1.cells.1
  clear hB1 hb1
  go_wp2
  go_ret
  exact ⟨by rw [← HN.out]; rfl, hbF⟩
end Go.Proofs.Ytlcioegdmopppaa.En
