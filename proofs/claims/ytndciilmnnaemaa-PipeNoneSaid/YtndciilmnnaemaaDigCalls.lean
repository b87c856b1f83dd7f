/- The contracts of digits and of its reference, in the plain words of DigPlain. -/
import Derived.Test.YtndciilmnnaemaaDigLinkList
import Derived.Test.YtndciilmnnaemaaDigPrint
import Derived.Test.YtndciilmnnaemaaSame
import Derived.Lib.SlBytesConst
set_option linter.unusedVariables false
set_option linter.unusedSimpArgs false
namespace Go.Proofs.Ytndciilmnnaemaa
open Go.RowKit Go.Proofs.YtndciilmnnaemaaW.PrintWords Go.Proofs.Ytndciilmnnaemaa.PDigitsLists

theorem parse_calls (l : List Int) (a : Int) (A : Option Addr) (c : Nat) (w : World) (hr : Kd.C (Kd.int .u8) w A l.length l) (hc : l.length ≤ c) (hb : Bytes l) (hl : (l.length : Int) ≤ 140737488351232) :
    Calls Try.prog 20 #[.slice A l.length c, .int .i64 a] w fun e w' => e = .returned (.tuple #[.int .i64 (parse l a).1, .int .i64 (parse l a).2.1, .bool (parse l a).2.2]) ∧ Drawn0 w w' :=
  digits_Parse.calls _ A c l a _ _ _ w hr hc (parse_f l hb hl a _ (Nat.le_refl _))
theorem refparse_calls (l : List Int) (a : Int) (A : Option Addr) (c : Nat) (w : World) (hr : Kd.C (Kd.int .u8) w A l.length l) (hc : l.length ≤ c) (hl : (l.length : Int) ≤ 140737488351232) :
    Calls Try.prog 21 #[.slice A l.length c, .int .i64 a] w fun e w' => e = .returned (.tuple #[.int .i64 (parse l a).1, .int .i64 (parse l a).2.1, .bool (parse l a).2.2]) ∧ Drawn0 w w' :=
  coronerref01_Parse.calls _ A c l a _ _ _ w hr hc (parse_ref l hl a _ (Nat.le_refl _))
theorem list_calls (l : List Int) (a : Int) (A : Option Addr) (c : Nat) (w : World) (hr : Kd.C (Kd.int .u8) w A l.length l) (hc : l.length ≤ c) (hb : Bytes l) (hl : (l.length : Int) ≤ 17592186044416) :
    Calls Try.prog 22 #[.slice A l.length c, .int .i64 a] w fun e w' => ∃ A' c', e = .returned (.tuple #[.slice A' (list l a).1.length c', .int .i64 (list l a).2.1, .bool (list l a).2.2]) ∧ (list l a).1.length ≤ c' ∧
      Kd.C (Kd.int .i64) w' A' (list l a).1.length (list l a).1 ∧ Below w.heap.size w w' :=
  (digits_List.calls _ A c l a _ _ _ w hr hc (list_f l hb hl a _ (Nat.le_refl _))).mono fun e w' ⟨v, h1, h2, h3⟩ => by
    obtain ⟨A', c', rfl, hc', hC⟩ := Kd.R_reads h2
    exact ⟨A', c', h1, hc', hC, h3⟩
theorem reflist_calls (l : List Int) (a : Int) (A : Option Addr) (c : Nat) (w : World) (hr : Kd.C (Kd.int .u8) w A l.length l) (hc : l.length ≤ c) (hl : (l.length : Int) ≤ 17592186044416) :
    Calls Try.prog 23 #[.slice A l.length c, .int .i64 a] w fun e w' => ∃ A' c', e = .returned (.tuple #[.slice A' (list l a).1.length c', .int .i64 (list l a).2.1, .bool (list l a).2.2]) ∧ (list l a).1.length ≤ c' ∧
      Kd.C (Kd.int .i64) w' A' (list l a).1.length (list l a).1 ∧ Below w.heap.size w w' :=
  (coronerref01_List.calls _ A c l a _ _ _ w hr hc (list_ref l hl a _ (Nat.le_refl _))).mono fun e w' ⟨v, h1, h2, h3⟩ => by
    obtain ⟨A', c', rfl, hc', hC⟩ := Kd.R_reads h2
    exact ⟨A', c', h1, hc', hC, h3⟩
theorem digit_calls (c : Int) (w : World) : Calls Try.prog 28 #[.int .u8 c] w fun e w' => e = .returned (.bool (decide (48 ≤ c ∧ c ≤ 57))) ∧ Drawn0 w w' :=
  coronerref01_Digit.calls c _ w (digit_ref c)

set_option maxHeartbeats 1000000 in
set_option maxRecDepth 100000 in
theorem works01 (w : World) : Calls Try.prog 19 #[] w fun e w' => e = .returned (.bool true) ∧ Below w.heap.size w w' := by
  have kc := fun (w : World) (C : Array Value) (n c : Nat) => Lib.run_convert_bytes_const (P := Try.prog) w 22 5 C n c Try.underlying22 Try.underlying5
  go_enter Try.func19, Try.ntmps19
  go_wp2_with fail
  refine (parse_calls [120, 55, 48, 32] 1 _ _ _ (C_laid (t := 5) _ (by decide) (alloc_at _ _)) (by decide) (by unfold Bytes; decide) (by decide)).mono ?_
  rintro e w1 ⟨rfl, hd⟩
  rw [show parse [120, 55, 48, 32] 1 = (70, 3, true) from by decide]
  have hb1 := ((Below.refl w.heap.size w).alloc (Nat.le_refl _) _).trans (hd.below.mono (by simp))
  clear hd
  go_wp2_with fail
  refine (parse_calls [48, 48, 55] 0 _ _ _ (C_laid (t := 5) _ (by decide) (alloc_at _ _)) (by decide) (by unfold Bytes; decide) (by decide)).mono ?_
  rintro e w2 ⟨rfl, hd⟩
  rw [show parse [48, 48, 55] 0 = (0, 1, false) from by decide]
  have hb2 := (hb1.alloc hb1.size _).trans (hd.below.mono (by simp; have := hb1.size; omega))
  clear hd hb1
  go_wp2_with fail
  refine (print_yes 70 (by decide) _).mono ?_
  rintro e w3 ⟨rfl, hd⟩
  rw [show wd 70 = 2 from by decide +kernel, show strOfNums (low 2 70) = ⟨#[55, 48]⟩ from rfl]
  have hb3 := hb2.trans (hd.mono (by have := hb2.size; omega))
  clear hd hb2
  go_wp2_with fail
  refine (list_calls [32, 53, 32, 55, 48] 0 _ _ _ (C_laid (t := 5) _ (by decide) (alloc_at _ _)) (by decide) (by unfold Bytes; decide) (by decide)).mono ?_
  rintro e w4 ⟨A, c, rfl, hc, hC, hd⟩
  rw [show list [32, 53, 32, 55, 48] 0 = ([5, 70], 5, true) from by decide] at hc hC ⊢
  have hb4 := (hb3.alloc hb3.size _).trans (hd.mono (by simp; have := hb3.size; omega))
  clear hd hb3
  go_wp2_with fail
  refine (width_yes 70 (by decide) _).mono ?_
  rintro e w5 ⟨rfl, hd⟩
  rw [show wd 70 = 2 from by decide +kernel]
  replace hC := Kd.C_below hC hd
  have hb5 := hb4.trans (hd.mono (by have := hb4.size; omega))
  clear hd hb4
  go_wp2_with fail
  refine (same_calls [5, 70] [5, 70] A c _ _ _ (Kd.C_below hC ((Below.refl _ _).alloc (Nat.le_refl _) _)) hc (C_laid (t := 3) _ (by decide) (alloc_at _ _)) (by decide) (by decide)).mono ?_
  rintro e w6 ⟨rfl, hd⟩
  have hb6 := (hb5.alloc hb5.size _).trans (hd.below.mono (by simp; have := hb5.size; omega))
  clear hd hb5
  go_wp2
  go_ret
  exact ⟨rfl, hb6⟩

end Go.Proofs.Ytndciilmnnaemaa
