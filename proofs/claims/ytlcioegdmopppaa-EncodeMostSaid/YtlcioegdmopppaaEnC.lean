/- encode.line: a letter, numbers, and what ends it. -/
import Derived.Test.YtlcioegdmopppaaEnB
set_option linter.unusedSimpArgs false
namespace Go.Proofs.Ytlcioegdmopppaa.En
open Go.RowKit Go.Proofs.Ytlcioegdmopppaa.PEncodeBack Go.Proofs.YtlcioegdmopppaaW.PrintWords
set_option linter.unusedVariables false

theorem u8_info : (Try.prog.info? 5).map (fun i => (i.zero, i.size, i.bytes)) = some (some (.int .u8 0), 1, 1) := by kernel_rfl
theorem bytes_str (l : List Int) (h : ∀ x ∈ l, 0 ≤ x ∧ x ≤ 255) : bytesOf (strOfNums l) = l := by
  unfold bytesOf strOfNums
  induction l with
  | nil => rfl
  | cons x l ih =>
    have hx := h x (by simp)
    have := ih fun y hy => h y (by simp [hy])
    simp only [List.map_cons] at this ⊢
    rw [List.cons.injEq]
    refine ⟨?_, this⟩
    simp
    omega
theorem numS_bytes (n : Int) : ∀ x ∈ numS n, 0 ≤ x ∧ x ≤ 255 := low_bytes _ _
theorem blank_bytes (n : Int) : bytesOf ((⟨#[32]⟩ : ByteArray) ++ strOfNums (numS n)) = 32 :: numS n := by
  have e : (⟨#[32]⟩ : ByteArray) ++ strOfNums (numS n) = strOfNums (32 :: numS n) := by
    have : (32 : Int) :: numS n = [32] ++ numS n := rfl
    rw [this, ← str_append]; rfl
  rw [e]
  exact bytes_str _ fun x hx => by
    rcases List.mem_cons.1 hx with rfl | hx
    · omega
    · exact numS_bytes n x hx
theorem texts_take {l : List Int} {k : Nat} (h : k < l.length) : texts (l.take (k + 1)) = texts (l.take k) ++ 32 :: numS l[k] := by
  rw [List.take_succ_eq_append_getElem h, texts_append, texts_one]
theorem texts_ok_len (l : List Int) (h : l.all okN = true) : (texts l).length ≤ 11 * l.length := texts_len l fun x hx => okN_iff.1 (List.all_eq_true.1 h x hx)
/-- What hands a row of bytes of its own back. -/
def BOut (w : World) (xs : List Int) (e : Ending) (w' : World) : Prop := ∃ A n c, e = .returned (.slice A n c) ∧ BR w' w.heap.size (.slice A n c) xs ∧ Below w.heap.size w w'
def lineT (s t : ByteArray) (l : List Int) : List Int := bytesOf s ++ texts l ++ bytesOf t
set_option maxHeartbeats 2000000 in
set_option maxRecDepth 100000 in
theorem line_c (w : World) (s t : ByteArray) (hs : s.size ≤ 10) (ht : t.size ≤ 10) (A : Option Addr) (c : Nat) (l : List Int) (hr : Kd.C (Kd.int .i64) w A l.length l) (hok : l.all okN = true) (hl : l.length ≤ 1000000000) :
    Calls Try.prog 61 #[.string s, .string t, .slice A l.length c] w (BOut w (lineT s t l)) := by
  have HR := Lib.hid hr
  have HOK := Lib.hid hok
  have HTL := Lib.hid (texts_ok_len l hok)
  have kc := fun (W : World) => Lib.run_convert_string_bytes (P := Try.prog) W 9 27 5 s Try.underlying9 Try.underlying27 Try.underlying5
  have hcv := br_conv w 5 s (by omega)
  have HCV := Lib.hid hcv
  have hsl := bytesOf_len s
  have htl := bytesOf_len t
  have HSL := Lib.hid hsl
  have HTS := Lib.hid htl
  obtain ⟨N, hN⟩ : ∃ N, l.length = N := ⟨_, rfl⟩
  have HN := Lib.hid hN
  have hNb : N ≤ 1000000000 := by omega
  clear hr hok hcv hsl htl hN hl
  rw [HN.out]
  go_enter Try.func61, Try.ntmps61
  go_wp2
  have hJ0 : Aside (BR (Lib.bytesWorld w 5 s) w.heap.size (.slice (some ⟨w.heap.size, 0, none⟩) s.size (grownCap w s.size 0 5)) (bytesOf s ++ texts (l.take 0)) ∧ Below w.heap.size w (Lib.bytesWorld w 5 s)) := by
    have hJ : BR (Lib.bytesWorld w 5 s) w.heap.size (.slice (some ⟨w.heap.size, 0, none⟩) s.size (grownCap w s.size 0 5)) (bytesOf s ++ texts (l.take 0)) ∧ Below w.heap.size w (Lib.bytesWorld w 5 s) := by
      rw [List.take_zero]
      show BR _ _ _ (bytesOf s ++ []) ∧ _
      rw [List.append_nil]
      exact HCV.out
    exact hJ
  clear kc
  go_loopw [7, 16] (fun v7 v16 wr => ∃ k : Nat, k ≤ N ∧ v16 = .int .i64 k ∧ Aside (BR wr w.heap.size v7 (bytesOf s ++ texts (l.take k)) ∧ Below w.heap.size w wr)) (fun _ v16 _ => N - (intOf v16).toNat)
  case atStart => exact ⟨0, by omega, rfl, hJ0⟩
  case round =>
    clear hJ0 HCV
    obtain ⟨k, hk, rfl, HJ⟩ := hrel
    by_cases hlt : k < N
    · have hkl : k < l.length := by rw [HN.out]; exact hlt
      obtain ⟨hB, hbel⟩ := HJ.out
      have hr := HR.out
      obtain ⟨ad, rfl, hc⟩ := Kd.at_int (Kd.C_below hr hbel) (k : Int) (by omega) (by omega)
      rw [rdI hkl, Int.toNat_natCast] at hc
      have hxo := okN_iff.1 (List.all_eq_true.1 HOK.out _ (List.getElem_mem hkl))
      have HT := Lib.hid (texts_take hkl)
      have HNL := Lib.hid (numS_len (List.all_eq_true.1 HOK.out _ (List.getElem_mem hkl)))
      have HBB := Lib.hid (blank_bytes l[k])
      have hlti : (k : Int) < N := by omega
      have hlen : (bytesOf s ++ texts (l.take k)).length ≤ 20000000000 := by
        have h1 := texts_ok_len (l.take k) (List.all_eq_true.2 fun x hx => List.all_eq_true.1 HOK.out x (List.mem_of_mem_take hx))
        have h2 := List.length_take_le k l
        have := HSL.out
        rw [List.length_append]; omega
      have HLEN := Lib.hid hlen
      have HJN : Hid (∀ (W : World) (A1 : Option Addr) (c1 : Nat), BR W w.heap.size (.slice A1 (bytesOf s ++ texts (l.take k) ++ bytesOf ((⟨#[32]⟩ : ByteArray) ++ strOfNums (numS l[k]))).length c1) (bytesOf s ++ texts (l.take k) ++ bytesOf ((⟨#[32]⟩ : ByteArray) ++ strOfNums (numS l[k]))) → Below w.heap.size w W → Aside (BR W w.heap.size (.slice A1 (bytesOf s ++ texts (l.take k) ++ bytesOf ((⟨#[32]⟩ : ByteArray) ++ strOfNums (numS l[k]))).length c1) (bytesOf s ++ texts (l.take (k + 1))) ∧ Below w.heap.size w W)) := Lib.hid fun W A1 c1 h1 h2 => by
        refine ⟨?_, h2⟩
        have e : bytesOf s ++ texts (l.take k) ++ bytesOf ((⟨#[32]⟩ : ByteArray) ++ strOfNums (numS l[k])) = bytesOf s ++ texts (l.take (k + 1)) := by rw [HT.out, HBB.out, List.append_assoc]
        rw [e] at h1 ⊢
        exact h1
      have HX := Lib.hid hxo
      have HBR := Lib.hid hB
      have HBEL := Lib.hid hbel
      clear hB hbel hxo HJ HT hr hlen
      generalize l[k] = x at *
      obtain ⟨n, rfl⟩ := Int.eq_ofNat_of_zero_le HX.out.1
      have HP := Lib.hid (fun W => print_yes n (by have := HX.out.2; omega) W)
      have hsz : (strOfNums (numS (n : Int))).size ≤ 10 := by rw [str_len]; exact HNL.out.2
      have hnum : numS (n : Int) = low (wd n) n := by unfold numS; rw [Int.toNat_natCast]
      rw [← hnum] at HP
      clear hnum HX HNL HBB
      generalize strOfNums (numS (n : Int)) = sx at *
      have hsz2 : ((⟨#[32]⟩ : ByteArray) ++ sx).size ≤ 11 := by rw [ByteArray.size_append]; show 1 + sx.size ≤ 11; omega
      have HSZ := Lib.hid hsz2
      clear hsz2
      generalize bytesOf s ++ texts (l.take k) = xs at *
      go_wp2_with (first
        | (go_at_call 72; ((with_reducible refine (HP.out _).mono ?_); rintro e w1 ⟨rfl, hb1⟩; have HBR1 := Lib.hid (HBR.out.below hb1); have HB1 := Lib.hid (link HBEL.out hb1)))
        | (at_builtin; refine wpl_bapp_str (w0 := w) w.heap.size rfl (.tmp 25) (.tmp 27) 27 9 5 rfl Try.underlying27 Try.underlying9 u8_info _ xs ((⟨#[32]⟩ : ByteArray) ++ sx) rfl rfl HBR1.out HB1.out HB1.out.size (by have := HSZ.out; have := HLEN.out; omega) ?_; intro A1 c1 w2 h1 h2 h3 h4; have HJ2 := HJN.out _ _ _ h1 h2; clear h1 h2 h3 h4; generalize (xs ++ bytesOf ((⟨#[32]⟩ : ByteArray) ++ sx)).length = n1 at *))
      go_roundw
      case rel => exact ⟨k + 1, by omega, by go_num, HJ2⟩
      case measure => simp [intOf]; omega
    · have hlti : ¬ (k : Int) < N := by omega
      obtain ⟨hB, hbel⟩ := HJ.out
      have hkN : k = l.length := by rw [HN.out]; omega
      rw [hkN, List.take_length] at hB
      have HBR := Lib.hid hB
      have HBEL := Lib.hid hbel
      clear hB hbel HJ hkN
      have hlen : (bytesOf s ++ texts l).length ≤ 20000000000 := by
        have h1 := HTL.out
        have := HSL.out
        have := HN.out
        rw [List.length_append]; omega
      have HFI : Hid (∀ W A1 c1, BR W w.heap.size (.slice A1 (bytesOf s ++ texts l ++ bytesOf t).length c1) (bytesOf s ++ texts l ++ bytesOf t) → Below w.heap.size w W → BOut w (lineT s t l) (.returned (.slice A1 (bytesOf s ++ texts l ++ bytesOf t).length c1)) W) := Lib.hid fun W A1 c1 h1 h2 => ⟨A1, _, c1, rfl, h1, h2⟩
      generalize bytesOf s ++ texts l = xs at *
      go_wp2_with (at_builtin; refine wpl_bapp_str (w0 := w) w.heap.size rfl (.tmp 30) (.tmp 31) 27 9 5 rfl Try.underlying27 Try.underlying9 u8_info _ xs t rfl rfl HBR.out HBEL.out HBEL.out.size (by omega) ?_; intro A1 c1 w2 h1 h2 h3 h4; have HJ2 := HFI.out _ _ _ h1 h2; clear h1 h2 h3 h4 HFI; generalize (xs ++ bytesOf t).length = n1 at *)
      go_ret
      exact HJ2
end Go.Proofs.Ytlcioegdmopppaa.En
