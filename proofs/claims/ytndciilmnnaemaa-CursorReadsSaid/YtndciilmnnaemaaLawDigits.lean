/- The walks of the laws of layer 1, out of the contracts. -/
import Derived.Test.YtndciilmnnaemaaDigCalls
set_option linter.unusedVariables false
set_option linter.unusedSimpArgs false
namespace Go.Proofs.Ytndciilmnnaemaa
open Go.RowKit Go.Proofs.YtndciilmnnaemaaW.PrintWords

theorem bytes_of_wf {l : List Int} (h : ∀ x ∈ l, (Lit.int .u8 x).wf = true) : Bytes l := fun x hx => by
  have h1 := h x hx
  simp only [Lit.wf, decide_eq_true_eq, Bool.and_eq_true] at h1
  have h2 : IntKind.u8.min = 0 := rfl
  have h3 : IntKind.u8.max = 255 := rfl
  rw [h2, h3] at h1
  exact h1

set_option maxHeartbeats 400000 in
theorem walk_DigitsParses (w : World) (A : Option Addr) (c : Nat) (l : List Int) (hr : Kd.C (Kd.int .u8) w A l.length l) (hc : l.length ≤ c) (hb : ∀ x ∈ l, (Lit.int .u8 x).wf = true) (hs : l.length * 1 ≤ 140737488351232) (a : Int) (_ha : (Lit.int .i64 a).wf = true) :
    Calls Try.prog 3 #[.slice A l.length c, .int .i64 a] w fun e w' => e = .returned (.bool true) ∧ Below w.heap.size w w' := by
  have HB := Lib.hid (bytes_of_wf hb); clear hb
  by_cases h : (l.length : Int) ≤ 300
  · go_enter Try.func3, Try.ntmps3
    go_wp2_with fail
    refine (parse_calls l a A c _ hr hc HB.out (by omega)).mono ?_
    rintro e w1 ⟨rfl, hd⟩
    replace hd := hd.below
    go_wp2_with fail
    refine (refparse_calls l a A c _ (Kd.C_below hr hd) hc (by omega)).mono ?_
    rintro e w2 ⟨rfl, hd2⟩
    replace hd := hd.trans (hd2.below.mono hd.size); clear hd2
    go_wp2_with fail
    refine (works01 _).mono ?_
    rintro e w3 ⟨rfl, hd3⟩
    replace hd := hd.trans (hd3.mono hd.size); clear hd3
    go_wp2
    go_ret
    exact ⟨rfl, hd⟩
  · go_enter Try.func3, Try.ntmps3
    go_wp2_with fail
    refine (works01 _).mono ?_
    rintro e w3 ⟨rfl, hd⟩
    go_wp2
    go_ret
    exact ⟨rfl, hd⟩

set_option maxHeartbeats 400000 in
theorem walk_DigitsLists (w : World) (A : Option Addr) (c : Nat) (l : List Int) (hr : Kd.C (Kd.int .u8) w A l.length l) (hc : l.length ≤ c) (hb : ∀ x ∈ l, (Lit.int .u8 x).wf = true) (hs : l.length * 1 ≤ 140737488351232) (a : Int) (_ha : (Lit.int .i64 a).wf = true) :
    Calls Try.prog 4 #[.slice A l.length c, .int .i64 a] w fun e w' => e = .returned (.bool true) ∧ Below w.heap.size w w' := by
  have HB := Lib.hid (bytes_of_wf hb); clear hb
  by_cases h : (l.length : Int) ≤ 300
  · go_enter Try.func4, Try.ntmps4
    go_wp2_with fail
    refine (list_calls l a A c _ hr hc HB.out (by omega)).mono ?_
    rintro e w1 ⟨A1, c1, rfl, hc1, hC1, hd⟩
    go_wp2_with fail
    refine (reflist_calls l a A c _ (Kd.C_below hr hd) hc (by omega)).mono ?_
    rintro e w2 ⟨A2, c2, rfl, hc2, hC2, hd2⟩
    replace hC1 := Kd.C_below hC1 hd2
    replace hd := hd.trans (hd2.mono hd.size); clear hd2
    have hll : ((list l a).1.length : Int) ≤ 9223372036854775806 := list_len l a (by omega)
    generalize hgl : (list l a).1 = m at *
    go_wp2_with fail
    refine (same_calls m m A1 c1 A2 c2 _ hC1 hc1 hC2 hc2 hll).mono ?_
    rintro e w2 ⟨rfl, hd2⟩
    rw [decide_eq_true rfl]
    replace hd := hd.trans (hd2.below.mono hd.size); clear hd2
    go_wp2_with fail
    refine (works01 _).mono ?_
    rintro e w3 ⟨rfl, hd3⟩
    replace hd := hd.trans (hd3.mono hd.size); clear hd3
    go_wp2
    go_ret
    exact ⟨rfl, hd⟩
  · go_enter Try.func4, Try.ntmps4
    go_wp2_with fail
    refine (works01 _).mono ?_
    rintro e w3 ⟨rfl, hd⟩
    go_wp2
    go_ret
    exact ⟨rfl, hd⟩

set_option maxHeartbeats 400000 in
theorem walk_DigitsPrints (w : World) (n : Int) (_ha : (Lit.int .i64 n).wf = true) :
    Calls Try.prog 5 #[.int .i64 n] w fun e w' => e = .returned (.bool true) ∧ Below w.heap.size w w' := by
  by_cases h : 0 ≤ n ∧ n ≤ 2147483647
  · obtain ⟨m, rfl⟩ := Int.eq_ofNat_of_zero_le h.1
    have hm : m ≤ 2147483647 := by omega
    clear h
    have hsz := Lib.hid (str_size (low (wd m) m))
    rw [low_length] at hsz
    go_enter Try.func5, Try.ntmps5
    go_wp2_with fail
    refine (print_yes m hm _).mono ?_
    rintro e w1 ⟨rfl, hd⟩
    go_wp2_with fail
    refine (refprint_calls m hm _).mono ?_
    rintro e w2 ⟨rfl, hd2⟩
    replace hd := hd.trans (hd2.mono hd.size); clear hd2
    generalize strOfNums (low (wd m) m) = s at *
    go_wp2_with fail
    refine (width_yes m hm _).mono ?_
    rintro e w2 ⟨rfl, hd2⟩
    replace hd := hd.trans (hd2.mono hd.size); clear hd2
    replace hsz := hsz.out
    rw [← hsz]
    clear hsz
    go_wp2_with fail
    refine (works01 _).mono ?_
    rintro e w3 ⟨rfl, hd3⟩
    replace hd := hd.trans (hd3.mono hd.size); clear hd3
    go_wp2
    go_ret
    exact ⟨rfl, hd⟩
  · have h' : n < 0 ∨ 2147483647 < n := by omega
    clear h
    go_enter Try.func5, Try.ntmps5
    go_wp2_with fail
    refine (print_no n h' _).mono ?_
    rintro e w1 ⟨rfl, hd⟩
    go_wp2_with fail
    refine (refprint_no n h' _).mono ?_
    rintro e w2 ⟨rfl, hd2⟩
    replace hd := hd.trans (hd2.mono hd.size); clear hd2
    go_wp2_with fail
    refine (width_no n h' _).mono ?_
    rintro e w2 ⟨rfl, hd2⟩
    replace hd := hd.trans (hd2.mono hd.size); clear hd2
    go_wp2_with fail
    refine (works01 _).mono ?_
    rintro e w3 ⟨rfl, hd3⟩
    replace hd := hd.trans (hd3.mono hd.size); clear hd3
    go_wp2
    go_ret
    exact ⟨rfl, hd⟩

end Go.Proofs.Ytndciilmnnaemaa
