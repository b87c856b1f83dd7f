/- encode.text. -/
import Derived.Test.YtlcioegdmopppaaEnE
set_option linter.unusedSimpArgs false
namespace Go.Proofs.Ytlcioegdmopppaa.En
open Go.RowKit Go.Proofs.Ytlcioegdmopppaa.PEncodeBack Go.Proofs.YtlcioegdmopppaaW.PrintWords
set_option linter.unusedVariables false

/-- A history's rows, of no more than so many. -/
structure Lim (h : List S42) (n : Nat) : Prop where
  h0 : h.length ≤ n
  h1 : ∀ t ∈ h, t.f2.length ≤ n
  h2 : ∀ t ∈ h, ∀ o ∈ t.f2, o.f3.length ≤ n
theorem txn_le {h : List S42} {t : S42} (ht : t ∈ h) : (txnT t).length ≤ (histT h).length := by
  obtain ⟨i, hi, rfl⟩ := List.getElem_of_mem ht
  have h1 := flat_take_len txnT h (i + 1)
  rw [flat_take txnT hi, List.length_append] at h1
  unfold histT; omega
set_option maxHeartbeats 2000000 in
set_option maxRecDepth 100000 in
theorem text_c (w : World) (h : List S42) (A : Option Addr) (c : Nat) (hr : Kd.C k42 w A h.length h) (hok : h.all okT = true) (hl : Lim h 1000000) (hbig : (histT h).length ≤ 1000000000) :
    Calls Try.prog 26 #[.agg #[.slice A h.length c]] w (BOut w (histT h)) := by
  have HR := Lib.hid hr
  have HOK := Lib.hid hok
  have HL := Lib.hid hl
  have HBIG := Lib.hid hbig
  obtain ⟨N, hN⟩ : ∃ N, h.length = N := ⟨_, rfl⟩
  have HN := Lib.hid hN
  have hNb : N ≤ 1000000 := by rw [← hN]; exact hl.h0
  have HJ : Aside (BR (w.alloc (.cells #[.slice A N c] 24)) w.heap.size (.slice none 0 0) ((h.take 0).flatMap txnT) ∧ Below w.heap.size w (w.alloc (.cells #[.slice A N c] 24))) := by
    have hJ : BR (w.alloc (.cells #[.slice A N c] 24)) w.heap.size (.slice none 0 0) ((h.take 0).flatMap txnT) ∧ Below w.heap.size w (w.alloc (.cells #[.slice A N c] 24)) := ⟨BR.nil _ _, (Below.refl _ _).alloc (Nat.le_refl _) _⟩
    exact hJ
  clear hr hok hbig hN hl
  rw [HN.out]
  go_enter Try.func26, Try.ntmps26
  go_wp2_with fail
  go_loopw [3, 9] (fun v3 v9 wr => ∃ k : Nat, k ≤ N ∧ v9 = .int .i64 k ∧ Aside (BR wr w.heap.size v3 ((h.take k).flatMap txnT) ∧ Below w.heap.size w wr)) (fun _ v9 _ => N - (intOf v9).toNat)
  case atStart => exact ⟨0, by omega, rfl, HJ⟩
  case round =>
    clear HJ
    obtain ⟨k, hk, rfl, HJ⟩ := hrel
    by_cases hlt : k < N
    · have hkl : k < h.length := by rw [HN.out]; exact hlt
      obtain ⟨hB, hbel⟩ := HJ.out
      obtain ⟨ad, A2, c2, rfl, g0, g1, g2, l2, h2⟩ := at_T42 (Kd.C_below HR.out hbel) (k : Int) (by omega) (by omega)
      rw [rd42 hkl] at g0 g1 g2 l2 h2
      rw [Int.toNat_natCast] at g0 g1 g2
      have hlti : (k : Int) < N := by omega
      have HBR := Lib.hid hB
      have HBE := Lib.hid hbel
      have hmem := List.getElem_mem hkl
      have htx := txn_le hmem
      have hlen : ((h.take k).flatMap txnT ++ txnT h[k]).length ≤ 1000000000 := by
        have h1 := flat_take_len txnT h (k + 1)
        rw [flat_take txnT hkl] at h1
        have := HBIG.out
        unfold histT at this; omega
      have HLEN := Lib.hid hlen
      have HJN : Hid (∀ (W : World) (A1 : Option Addr) (c1 : Nat), BR W w.heap.size (.slice A1 ((h.take k).flatMap txnT ++ txnT h[k]).length c1) ((h.take k).flatMap txnT ++ txnT h[k]) → Below w.heap.size w W → Aside (BR W w.heap.size (.slice A1 ((h.take k).flatMap txnT ++ txnT h[k]).length c1) ((h.take (k + 1)).flatMap txnT) ∧ Below w.heap.size w W)) := Lib.hid fun W A1 c1 h1 h2 => by
        rw [flat_take txnT hkl]
        exact (⟨h1, h2⟩ : BR W w.heap.size _ _ ∧ _)
      have hoo : okT h[k] = true := List.all_eq_true.1 HOK.out _ hmem
      have HTX := Lib.hid (fun (W : World) (hb : Below wr.heap.size wr W) => txn_c W h[k] A2 c2 (Kd.C_below h2 hb) hoo (HL.out.h1 _ hmem) (HL.out.h2 _ hmem) (by have := HBIG.out; omega))
      clear hB hbel hlen HJ hoo h2 l2 hmem htx
      generalize txnT h[k] = ys at *
      generalize h[k] = t at *
      obtain ⟨t0, t1, t2⟩ := t
      simp only at *
      generalize t2.length = M at *
      generalize (h.take k).flatMap txnT = xs at *
      go_wp2_with fail
      have hb5 : Below wr.heap.size wr (wr.alloc (.cells #[.int .i64 t0, .bool t1, .slice A2 M c2] 42)) := (Below.refl _ _).alloc (Nat.le_refl _) _
      have HBR5 := Lib.hid (HBR.out.below hb5)
      have HBE5 := Lib.hid (HBE.out.trans (hb5.mono HBE.out.size))
      refine (HTX.out _ hb5).mono ?_
      rintro e w6 ⟨A6, n6, c6, rfl, hB6, hb6⟩
      obtain ⟨e6, _, hY6⟩ := hB6.cells
      have HE6 := Lib.hid e6
      have HY6 := Lib.hid hY6
      have HBR6 := Lib.hid (HBR5.out.below hb6)
      have HBE6 := Lib.hid (link HBE5.out hb6)
      clear hB6 hb6 e6 hY6 hb5 HTX
      go_wp2_with (at_builtin; refine wpl_bapp_row (w0 := w) w.heap.size rfl (.tmp 13) (.tmp 15) 27 5 rfl Try.underlying27 u8_info _ xs ys A6 n6 c6 rfl rfl HE6.out HBR6.out HY6.out HBE6.out HBE6.out.size (by have := HLEN.out; rw [List.length_append] at this; omega) ?_; intro A7 c7 w7 h1 h2 h3 h4; have HJ2 := HJN.out _ _ _ h1 h2; clear h1 h2 h3 h4; generalize (xs ++ ys).length = n7 at *)
      go_roundw
      case rel => exact ⟨k + 1, by omega, by go_num, HJ2⟩
      case measure => simp [intOf]; omega
    · have hlti : ¬ (k : Int) < N := by omega
      obtain ⟨hB, hbel⟩ := HJ.out
      have hkN : k = h.length := by rw [HN.out]; omega
      rw [hkN, List.take_length] at hB
      obtain ⟨A9, c9, e9, _⟩ := hB.slice
      have HFI : Hid (BOut w (histT h) (.returned u3) wr) := Lib.hid ⟨A9, _, c9, by rw [e9], by rw [e9] at hB; exact hB, hbel⟩
      clear hB hbel HJ hkN e9
      go_wp2
      go_ret
      exact HFI.out
end Go.Proofs.Ytlcioegdmopppaa.En
