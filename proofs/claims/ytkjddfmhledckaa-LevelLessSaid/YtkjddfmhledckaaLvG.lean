/- coronerlaw30.works. -/
import Derived.Test.YtkjddfmhledckaaLvF
set_option linter.unusedSimpArgs false
namespace Go.Proofs.Ytkjddfmhledckaa.Lv
open Go.Shelf Go.RowKit Go.Lib Go.Sort Go.Proofs.Ytkjddfmhledckaa.RowAt Go.Proofs.Ytkjddfmhledckaa.Stab Go.Proofs.Ytkjddfmhledckaa.PLevelOf Go.Proofs.YtkjddfmhledckaaW.PrintWords
set_option linter.unusedSectionVars false
set_option linter.unusedVariables false

def p11 : S32 := ⟨11, 0, 0, 0, 0, 0, []⟩
def p7 : S32 := ⟨7, 0, 0, 0, 0, 0, []⟩
theorem sort_two : sortP [p11, p7] = [p7, p11] := by kernel_rfl
theorem of_two : level_Of.f 5 [p11, p7] = some 1 := by kernel_rfl
theorem of_nil : level_Of.f 5 [] = some 4 := by kernel_rfl
theorem bars1 : level_Bars.f 5 2 9 = some true := by kernel_rfl
theorem bars2 : level_Bars.f 5 1 9 = some false := by kernel_rfl
theorem name3 : level_Name.f 3 = some ⟨#[80, 76, 45, 50, 43]⟩ := by kernel_rfl
theorem phen10 : level_Phenomenon.f 10 = some ⟨#[71, 45, 115, 105, 110, 103, 108, 101]⟩ := by kernel_rfl

theorem two_laid (w : World) : Kd.C k32 (w.alloc (.cells #[.int .i64 11, .int .i64 0, .int .i64 0, .int .i64 0, .int .i64 0, .int .i64 0, .slice none 0 0, .int .i64 7, .int .i64 0, .int .i64 0, .int .i64 0, .int .i64 0, .int .i64 0, .slice none 0 0] 32)) (some ⟨w.heap.size, 0, none⟩) 2 [p11, p7] := by
  have h0 : ∀ W, Kd.C k56 W none 0 [] := fun W => ⟨rfl, by decide, fun h => absurd h (by decide)⟩
  have hb := fun j => cell_of_row (w.alloc (.cells #[.int .i64 11, .int .i64 0, .int .i64 0, .int .i64 0, .int .i64 0, .int .i64 0, .slice none 0 0, .int .i64 7, .int .i64 0, .int .i64 0, .int .i64 0, .int .i64 0, .int .i64 0, .slice none 0 0] 32)) w.heap.size j _ _ _ Array.getElem?_push_size
  refine ⟨rfl, by decide, fun _ => ⟨_, rfl, fun j p hp => ?_⟩⟩
  have hj : j < 2 := (List.getElem?_eq_some_iff.1 hp).1
  match j, hj with
  | 0, _ =>
    cases hp
    refine ⟨_, rfl, k32_mk _ p11 (Nat.zero_le 0) (h0 _), fun i u hu => ?_⟩
    have hi : i < 7 := (List.getElem?_eq_some_iff.1 hu).1
    rw [Addr.add_lit, hb]
    match i, hi with
    | 0, _ => exact hu
    | 1, _ => exact hu
    | 2, _ => exact hu
    | 3, _ => exact hu
    | 4, _ => exact hu
    | 5, _ => exact hu
    | 6, _ => exact hu
  | 1, _ =>
    cases hp
    refine ⟨_, rfl, k32_mk _ p7 (Nat.zero_le 0) (h0 _), fun i u hu => ?_⟩
    have hi : i < 7 := (List.getElem?_eq_some_iff.1 hu).1
    rw [Addr.add_lit, hb]
    match i, hi with
    | 0, _ => exact hu
    | 1, _ => exact hu
    | 2, _ => exact hu
    | 3, _ => exact hu
    | 4, _ => exact hu
    | 5, _ => exact hu
    | 6, _ => exact hu
theorem sort_two_calls (w : World) {W : World} (h : Kd.C k32 W (some ⟨w.heap.size, 0, none⟩) 2 [p11, p7]) :
    Calls Try.prog 14 #[.slice (some ⟨w.heap.size, 0, none⟩) 2 2] W fun e w' => ∃ g c', e = .returned (.slice (some ⟨g, 0, none⟩) 2 c') ∧ w'.cell? ⟨g, 0, none⟩ = some (.int .i64 7) ∧ Below W.heap.size W w' := by
  refine (sort_calls _ 2 [p11, p7] W h (by decide)).mono ?_
  rw [sort_two]
  rintro e w' ⟨A', c', rfl, _, hC, hA, hb⟩
  obtain ⟨ad, rfl, hc⟩ := hC.2.2 (by decide)
  obtain ⟨g, rfl⟩ := hA ad rfl
  refine ⟨g, c', rfl, ?_, hb⟩
  obtain ⟨c, hl, hK, hcell⟩ := hc 0 p7 rfl
  obtain ⟨A6, c6, rfl, l6, g6⟩ := k32_open hK
  have := hcell 0 _ rfl
  rw [Addr.add_lit] at this
  exact this

theorem nil_laid {W : World} : Kd.C k32 W none 0 [] := ⟨rfl, by decide, fun h => absurd h (by decide)⟩
theorem chain {w a b : World} (h : Below w.heap.size w a) (k : Below a.heap.size a b) : Below w.heap.size w b := h.trans (k.mono h.size)
theorem kept {a b : World} {p : Addr} {v : Value} (h : a.cell? p = some v) (k : Below a.heap.size a b) : b.cell? p = some v := by
  rw [k.cell (block_lt_of_cell h)]; exact h
theorem kept4 {a b c d e : World} {p : Addr} {v : Value} (h : a.cell? p = some v) (k1 : Below a.heap.size a b) (k2 : Below b.heap.size b c) (k3 : Below c.heap.size c d) (k4 : Below d.heap.size d e) : e.cell? p = some v := kept (kept (kept (kept h k1) k2) k3) k4
theorem drawn_below {a b : World} (h : Drawn0 a b) : Below a.heap.size a b := by
  obtain ⟨n, rfl⟩ := h
  exact ⟨rfl, rfl, rfl, Nat.le_refl _, fun _ _ => rfl⟩

theorem of1 {W : World} {A : Option Addr} (h : Kd.C k32 W A 2 [p11, p7]) : Calls Try.prog 15 #[.slice A 2 2] W fun e w' => e = .returned (.int .i64 1) ∧ Below W.heap.size W w' := level_Of.calls 5 A 2 [p11, p7] 1 W h (Nat.le_refl 2) of_two
theorem of2 (W : World) : Calls Try.prog 15 #[.slice none 0 0] W fun e w' => e = .returned (.int .i64 4) ∧ Below W.heap.size W w' := level_Of.calls 5 none 0 [] 4 W nil_laid (Nat.le_refl 0) of_nil
theorem bars1c (W : World) : Calls Try.prog 6 #[.int .i64 2, .int .i64 9] W fun e w' => e = .returned (.bool true) ∧ Below W.heap.size W w' := (level_Bars.calls 5 2 9 true W bars1).mono fun _ _ ⟨h, k⟩ => ⟨h, k.below⟩
theorem bars2c (W : World) : Calls Try.prog 6 #[.int .i64 1, .int .i64 9] W fun e w' => e = .returned (.bool false) ∧ Below W.heap.size W w' := (level_Bars.calls 5 1 9 false W bars2).mono fun _ _ ⟨h, k⟩ => ⟨h, k.below⟩
theorem name3c (W : World) : Calls Try.prog 8 #[.int .i64 3] W fun e w' => e = .returned (.string ⟨#[80, 76, 45, 50, 43]⟩) ∧ Below W.heap.size W w' := level_Name.calls 3 _ W name3
theorem phen10c (W : World) : Calls Try.prog 10 #[.int .i64 10] W fun e w' => e = .returned (.string ⟨#[71, 45, 115, 105, 110, 103, 108, 101]⟩) ∧ Below W.heap.size W w' := level_Phenomenon.calls 10 _ W phen10

set_option maxHeartbeats 1000000 in
set_option maxRecDepth 1000000 in
theorem works (w : World) : Calls Try.prog 12 #[] w fun e w' => e = .returned (.bool true) ∧ Below w.heap.size w w' := by
  have e14 : ∀ args w, (callFunc 14 args).run Try.prog w = .ok (.enter 14 args) w := enters_of Try.func14 (by kernel_rfl) rfl
  have e15 : ∀ args w, (callFunc 15 args).run Try.prog w = .ok (.enter 15 args) w := enters_of Try.func15 (by kernel_rfl) rfl
  have e6 : ∀ args w, (callFunc 6 args).run Try.prog w = .ok (.enter 6 args) w := enters_of Try.func6 (by kernel_rfl) rfl
  have e8 : ∀ args w, (callFunc 8 args).run Try.prog w = .ok (.enter 8 args) w := enters_of Try.func8 (by kernel_rfl) rfl
  have e10 : ∀ args w, (callFunc 10 args).run Try.prog w = .ok (.enter 10 args) w := enters_of Try.func10 (by kernel_rfl) rfl
  go_enter Try.func12, Try.ntmps12
  go_wp2_with (first
    | (go_at_fn 14; ((with_reducible refine (sort_two_calls w (two_laid w)).mono ?_); rintro e w2 ⟨g, c', rfl, hcell, hb2⟩; have HL := Lib.hid (Kd.C_below (two_laid w) hb2)))
    | (go_at_fn 15; ((with_reducible refine (of1 HL.out).mono ?_); rintro e w3 ⟨rfl, hb3⟩))
    | (go_at_fn 15; ((with_reducible refine (of2 _).mono ?_); rintro e w4 ⟨rfl, hb4⟩))
    | (go_at_fn 6; ((with_reducible refine (bars1c _).mono ?_); rintro e w5 ⟨rfl, hb5⟩))
    | (go_at_fn 6; ((with_reducible refine (bars2c _).mono ?_); rintro e w6 ⟨rfl, hb6⟩; have hcell6 := kept4 hcell hb3 hb4 hb5 hb6))
    | (go_at_fn 8; ((with_reducible refine (name3c _).mono ?_); rintro e w7 ⟨rfl, hb7⟩))
    | (go_at_fn 10; ((with_reducible refine (phen10c _).mono ?_); rintro e w8 ⟨rfl, hb8⟩))
    )
  go_ret
  refine ⟨rfl, ?_⟩
  have h1 := (Below.refl w.heap.size w).alloc (Nat.le_refl _) (.cells #[.int .i64 11, .int .i64 0, .int .i64 0, .int .i64 0, .int .i64 0, .int .i64 0, .slice none 0 0, .int .i64 7, .int .i64 0, .int .i64 0, .int .i64 0, .int .i64 0, .int .i64 0, .slice none 0 0] 32)
  exact chain (chain (chain (chain (chain (chain (chain h1 hb2) hb3) hb4) hb5) hb6) hb7) hb8
end Go.Proofs.Ytkjddfmhledckaa.Lv
