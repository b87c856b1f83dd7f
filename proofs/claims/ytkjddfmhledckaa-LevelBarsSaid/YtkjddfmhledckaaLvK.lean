/- The walks of the laws LevelBars and LevelOf. -/
import Derived.Test.YtkjddfmhledckaaLvJ
import Derived.Test.YtkjddfmhledckaaLvG
set_option linter.unusedSimpArgs false
namespace Go.Proofs.Ytkjddfmhledckaa
open Go.RowKit Go.Lib Go.Proofs.Ytkjddfmhledckaa.PLevelOf Go.Proofs.YtkjddfmhledckaaW.PrintWords Lv
set_option linter.unusedVariables false

set_option maxHeartbeats 1000000 in
set_option maxRecDepth 100000 in
theorem walk_LevelBars (w : World) (n : Int) (_hn : (Lit.int .i64 n).wf = true) (x : Int) (_hx : (Lit.int .i64 x).wf = true) :
    Calls Try.prog 3 #[.int .i64 n, .int .i64 x] w fun e w' => e = .returned (.bool true) ∧ Below w.heap.size w w' := by
  have HB := Lib.hid (bars_c n x)
  have HR := Lib.hid (rbars_c n x)
  obtain ⟨s, hn1, hn2⟩ := name_c n
  obtain ⟨t, hp1, hp2⟩ := phen_c x
  have HN1 := Lib.hid hn1
  have HN2 := Lib.hid hn2
  have HP1 := Lib.hid hp1
  have HP2 := Lib.hid hp2
  clear hn1 hn2 hp1 hp2 _hn _hx
  generalize barsP n x = b at *
  go_enter Try.func3, Try.ntmps3
  go_wp2_with fail
  refine (HB.out _).mono ?_
  rintro e w1 ⟨rfl, hb1⟩
  go_wp2_with fail
  refine (HR.out _).mono ?_
  rintro e w2 ⟨rfl, hb2⟩
  go_wp2_with fail
  refine (HN1.out _).mono ?_
  rintro e w3 ⟨rfl, hb3⟩
  go_wp2_with fail
  refine (HN2.out _).mono ?_
  rintro e w4 ⟨rfl, hb4⟩
  go_wp2_with fail
  refine (HP1.out _).mono ?_
  rintro e w5 ⟨rfl, hb5⟩
  go_wp2_with fail
  refine (HP2.out _).mono ?_
  rintro e w6 ⟨rfl, hb6⟩
  go_wp2_with fail
  refine (works _).mono ?_
  rintro e w7 ⟨rfl, hb7⟩
  go_wp2
  go_ret
  exact ⟨rfl, link (link (link (link (link (link hb1 hb2) hb3) hb4) hb5) hb6) hb7⟩

theorem opens_LevelOf_0 (W : World) : Opens Try.prog W 25 (fun (l : List S32) cs => ∃ A c, cs = [.slice A l.length c] ∧ l.length ≤ c ∧ Kd.C k32 W A l.length l) := opens_findings W

set_option maxHeartbeats 1000000 in
set_option maxRecDepth 100000 in
theorem walk_LevelOf (w : World) (A : Option Addr) (c : Nat) (l : List S32) (hr : Kd.C k32 w A l.length l) (hc : l.length ≤ c) :
    Calls Try.prog 4 #[.slice A l.length c] w fun e w' => e = .returned (.bool true) ∧ Below w.heap.size w w' := by
  have HR := Lib.hid hr
  have HC := Lib.hid hc
  have HF := Lib.hid (few_c (W := w) hr hc)
  cases hf : fewP l with
  | false =>
    rw [hf] at HF
    clear hf hr hc
    go_enter Try.func4, Try.ntmps4
    go_wp2_with fail
    refine HF.out.mono ?_
    rintro e w1 ⟨rfl, hb1⟩
    go_wp2_with fail
    refine (works _).mono ?_
    rintro e w2 ⟨rfl, hb2⟩
    go_wp2
    go_ret
    exact ⟨rfl, link hb1 hb2⟩
  | true =>
    have HE := Lib.hid (fewP_true hf)
    rw [hf] at HF
    have HO := Lib.hid (ofP_sort l)
    have HSL := Lib.hid (sortP_le l)
    have HM : Hid (∀ p ∈ sortP l, p.f6.length ≤ 140737488355328) := Lib.hid fun p hp => by have := HE.out.2 p (mem_sortP hp); omega
    have HL : l.length ≤ 60 := HE.out.1
    have HRS := Lib.hid (fun (W : World) (hC : Kd.C k32 W A l.length l) => rsort_c hC hc (by omega))
    clear hf hr hc
    go_enter Try.func4, Try.ntmps4
    go_wp2_with fail
    refine HF.out.mono ?_
    rintro e w1 ⟨rfl, hb1⟩
    have C1 := Lib.hid (Kd.C_below HR.out hb1)
    go_wp2_with fail
    refine (sort_calls A c l _ C1.out (by omega)).mono ?_
    rintro e w2 ⟨A', c', rfl, hc', hC', _, hb2⟩
    have HC' := Lib.hid hc'
    have M2 := Lib.hid hC'
    have C2 := Lib.hid (Kd.C_below C1.out hb2)
    clear hc' hC'
    generalize sortP l = m at *
    go_wp2_with fail
    refine (of_c C2.out HC.out (by omega)).mono ?_
    rintro e w3 ⟨rfl, hb3⟩
    go_wp2_with fail
    refine (rof_c (Kd.C_below C2.out hb3) HC.out (by omega)).mono ?_
    rintro e w4 ⟨rfl, hb4⟩
    have C4 := Lib.hid (Kd.C_below (Kd.C_below C2.out hb3) hb4)
    go_wp2_with fail
    refine (HRS.out _ C4.out).mono ?_
    rintro e w5 ⟨A5, c5, rfl, hc5, hC5, hb5⟩
    have HC5 := Lib.hid hc5
    have N5 := Lib.hid hC5
    have M5 := Lib.hid (Kd.C_below (Kd.C_below (Kd.C_below M2.out hb3) hb4) hb5)
    have C5 := Lib.hid (Kd.C_below C4.out hb5)
    have HLm : m.length ≤ 140737488355328 := Nat.le_trans HSL.out (by decide)
    clear hc5 hC5
    go_wp2_with fail
    refine (same_c M5.out HC'.out N5.out HC5.out HLm HM.out).mono ?_
    rintro e w6 ⟨rfl, hb6⟩
    go_wp2_with fail
    have HO6 := of_c (c := c') (Kd.C_below M5.out hb6) HC'.out HLm
    rw [HO.out] at HO6
    refine HO6.mono ?_
    rintro e w7 ⟨rfl, hb7⟩
    have C7 := Lib.hid (Kd.C_below (Kd.C_below C5.out hb6) hb7)
    clear HO6
    go_wp2_with fail
    refine (rof_c C7.out HC.out (by omega)).mono ?_
    rintro e w8 ⟨rfl, hb8⟩
    go_wp2_with fail
    refine (works _).mono ?_
    rintro e w9 ⟨rfl, hb9⟩
    go_wp2
    go_ret
    exact ⟨rfl, link (link (link (link (link (link (link (link hb1 hb2) hb3) hb4) hb5) hb6) hb7) hb8) hb9⟩
end Go.Proofs.Ytkjddfmhledckaa
