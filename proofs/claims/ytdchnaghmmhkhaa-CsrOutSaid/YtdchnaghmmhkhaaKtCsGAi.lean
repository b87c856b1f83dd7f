/- csr at Arc[int]: the mask of an arc (a binary search in a row). -/
import Derived.Test.YtdchnaghmmhkhaaKtCsFAi
set_option linter.unusedSimpArgs false
namespace Go.Proofs.Ytdchnaghmmhkhaa.Cs.Ai
open Go.Shelf Go.RowKit Go.Lib Go.Sort Go.Proofs.Ytdchnaghmmhkhaa.RowAt Go.Proofs.Ytdchnaghmmhkhaa.Stab Go.Proofs.Ytdchnaghmmhkhaa.Stab.Ai Go.Proofs.Ytdchnaghmmhkhaa.PCsrGraphs Go.Proofs.YtdchnaghmmhkhaaW.PrintWords
set_option linter.unusedSectionVars false
set_option linter.unusedVariables false

set_option maxHeartbeats 1000000 in
set_option maxRecDepth 1000000 in
theorem mask1 (x : Ar) (t : Int) (w : World) : Calls Try.prog 33 (#[.agg (enc1 x).toArray, .int .i64 t] ++ #[]) w fun e w' => e = .returned (.int .i64 (cmpI x.f1 t)) ∧ Below w.heap.size w w' := by
  have e1 : ∀ args w, (callFunc 34 args).run Try.prog w = .ok (.enter 34 args) w := enters_of Try.func34 (by kernel_rfl) rfl
  have HC := Lib.hid (compare x.f1 t)
  rw [Array.append_empty]
  have hB : Aside (Below w.heap.size w (w.alloc (.cells (enc1 x).toArray 62))) := (Below.refl _ w).alloc (Nat.le_refl _) _
  unfold enc1 at hB ⊢
  go_enter Try.func33, Try.ntmps33
  go_wp2_with (go_at_fn 34; refine (HC.out _).mono ?_; rintro e w' ⟨rfl, hd⟩; replace hd := Lib.hid hd)
  go_ret
  exact ⟨rfl, hB.out.trans (hd.out.below.mono hB.out.size)⟩

/-- How many of a row lead to a vertex ahead of t. -/
def lows (D : List Ar) (t : Int) : Nat := (D.filter fun a => decide (a.f1 < t)).length
def Rising (D : List Ar) : Prop := ∀ (i j : Nat) (a b : Ar), i < j → D[i]? = some a → D[j]? = some b → a.f1 < b.f1
theorem lows_eq {D : List Ar} {t : Int} {k : Nat} (h1 : ∀ i a, i < k → D[i]? = some a → a.f1 < t) (h2 : ∀ i a, k ≤ i → D[i]? = some a → t ≤ a.f1) (hk : k ≤ D.length) : lows D t = k := by
  unfold lows
  rw [← List.take_append_drop k D, List.filter_append, List.length_append]
  have e1 : (D.take k).filter (fun a => decide (a.f1 < t)) = D.take k := List.filter_eq_self.2 fun a ha => by
    obtain ⟨i, hi, rfl⟩ := List.getElem_of_mem ha
    rw [List.length_take] at hi
    exact decide_eq_true (h1 i _ (by omega) (by rw [List.getElem_take, List.getElem?_eq_getElem]))
  have e2 : (D.drop k).filter (fun a => decide (a.f1 < t)) = [] := List.filter_eq_nil_iff.2 fun a ha => by
    obtain ⟨i, hi, rfl⟩ := List.getElem_of_mem ha
    rw [List.length_drop] at hi
    have := h2 (k + i) _ (by omega) (by rw [List.getElem?_eq_getElem (by omega)])
    rw [List.getElem_drop]
    simp; exact this
  rw [e1, e2, List.length_take, List.length_nil]; omega

theorem half {i j : Nat} (h : i < j) : ∃ m : Nat, ((i : Int) + (j : Int)) / 2 = (m : Int) ∧ i ≤ m ∧ m < j := ⟨(i + j) / 2, by omega, by omega, by omega⟩
theorem up1 {m N : Nat} (h : m < N) (hN : N ≤ 6000000000000) : wrap64 ((m : Int) + 1) = ((m + 1 : Nat) : Int) := by unfold wrap64; omega

def SOut (w : World) (D : List Ar) (t : Int) (e : Ending) (w' : World) : Prop := ∃ k : Nat, ∃ f : Bool, e = .returned (.tuple #[.int .i64 (k : Int), .bool f]) ∧ k ≤ D.length ∧ (f = true ↔ ∃ a, D[k]? = some a ∧ a.f1 = t) ∧ (f = false → ∀ a ∈ D, a.f1 ≠ t) ∧ Below w.heap.size w w'
set_option maxHeartbeats 2000000 in
set_option maxRecDepth 1000000 in
theorem search_c (A : Option Addr) (c : Nat) (D : List Ar) (t : Int) (w : World) (R : Reads w A D) (hD : Rising D) (hr : D.length * 24 ≤ 140737488355328) :
    Calls Try.prog 32 #[.slice A D.length c, .int .i64 t, .func (.func 33) #[] #[]] w (SOut w D t) := by
  have e1 : ∀ args w, (callFunc 33 args).run Try.prog w = .ok (.enter 33 args) w := enters_of Try.func33 (by kernel_rfl) rfl
  obtain ⟨N, hN⟩ : ∃ N, D.length = N := ⟨_, rfl⟩
  have HN := Lib.hid hN
  have HR := Lib.hid R
  have HD := Lib.hid hD
  have HM := Lib.hid mask1
  have hNs : N ≤ 6000000000000 := by omega
  rw [hN]
  clear R hD hr hN
  go_enter Try.func32, Try.ntmps32
  go_wp2
  go_loopg [9, 10, 11] N (fun kx v9 v10 _ wr => ∃ i j : Nat, v9 = .int .i64 i ∧ v10 = .int .i64 j ∧ i ≤ j ∧ j ≤ N ∧ j - i ≤ kx ∧ Aside (∀ q a, q < i → D[q]? = some a → a.f1 < t) ∧ Aside (∀ q a, j ≤ q → D[q]? = some a → t ≤ a.f1) ∧ Aside (Below w.heap.size w wr))
  case atStart => exact ⟨0, N, rfl, rfl, by omega, by omega, by omega, fun q a h => by omega, fun q a h h2 => by have := (List.getElem?_eq_some_iff.1 h2).1; rw [HN.out] at this; omega, Below.refl _ _⟩
  case round =>
    obtain ⟨i, j, rfl, rfl, hij, hj, hkx, HL, HH, HB⟩ := hrel
    by_cases hlt : i < j
    · have hlti : (i : Int) < (j : Int) := by omega
      obtain ⟨m, hq, hh1, hh2⟩ := half hlt
      have hmN : m < N := by omega
      have hmi : (m : Int) < (N : Int) := by omega
      have hup := up1 hmN hNs
      have hx : D[m]? = some (D[m]'(by rw [HN.out]; exact hmN)) := List.getElem?_eq_getElem _
      generalize (D[m]'(by rw [HN.out]; exact hmN)) = x at hx
      obtain ⟨b, o, rfl, hcell⟩ := HR.out (by intro e; rw [e] at hx; cases hx)
      obtain ⟨q0, q1, q2⟩ := hcell m x hx
      have l0 := below_cell HB.out _ _ q0
      have l1 := below_cell HB.out _ _ q1
      have l2 := below_cell HB.out _ _ q2
      have HX := Lib.hid hx
      have hcall := HM.out x t wr
      rw [Array.append_empty] at hcall
      unfold enc1 at hcall
      clear q0 q1 q2 hcell hx
      by_cases hc : x.f1 < t
      · have hcd : decide (cmpI x.f1 t < 0) = true := decide_eq_true (cmpI_neg.2 hc)
        have hcd2 : cmpI x.f1 t < 0 := cmpI_neg.2 hc
        generalize cmpI x.f1 t = z at hcall hcd hcd2
        go_wp2_with (go_at_fn 33; refine hcall.mono ?_; rintro e w' ⟨rfl, hb⟩; replace hb := Lib.hid hb)
        go_roundg (j - (m + 1))
        case measure => omega
        case rel => exact ⟨m + 1, j, by first | rfl | rw [hup], rfl, hh2, hj, Nat.le_refl _, (show Aside _ from fun q a h1 h2 => by
          rcases Nat.lt_or_ge q m with h | h
          · have := HD.out q m a x h h2 HX.out; omega
          · have e : q = m := by omega
            subst e
            rw [HX.out] at h2; cases h2; exact hc), HH, HB.out.trans (hb.out.mono HB.out.size)⟩
      · have hcd : decide (cmpI x.f1 t < 0) = false := decide_eq_false (fun h => hc (cmpI_neg.1 h))
        have hcd2 : ¬ cmpI x.f1 t < 0 := fun h => hc (cmpI_neg.1 h)
        generalize cmpI x.f1 t = z at hcall hcd hcd2
        go_wp2_with (go_at_fn 33; refine hcall.mono ?_; rintro e w' ⟨rfl, hb⟩; replace hb := Lib.hid hb)
        go_roundg (m - i)
        case measure => omega
        case rel => exact ⟨i, m, rfl, rfl, hh1, by omega, Nat.le_refl _, HL, (show Aside _ from fun q a h1 h2 => by
          rcases Nat.lt_or_ge m q with h | h
          · have := HD.out m q x a h HX.out h2; omega
          · have e : q = m := by omega
            subst e
            rw [HX.out] at h2; cases h2; omega), HB.out.trans (hb.out.mono HB.out.size)⟩
    · have hji : j = i := by omega
      subst hji
      have hlti : ¬ (j : Int) < (j : Int) := by omega
      by_cases hjN : j < N
      · have hji : (j : Int) < (N : Int) := by omega
        have hx : D[j]? = some (D[j]'(by rw [HN.out]; exact hjN)) := List.getElem?_eq_getElem _
        generalize (D[j]'(by rw [HN.out]; exact hjN)) = x at hx
        obtain ⟨b, o, rfl, hcell⟩ := HR.out (by intro e; rw [e] at hx; cases hx)
        obtain ⟨q0, q1, q2⟩ := hcell j x hx
        have l0 := below_cell HB.out _ _ q0
        have l1 := below_cell HB.out _ _ q1
        have l2 := below_cell HB.out _ _ q2
        have HX := Lib.hid hx
        have hcall := HM.out x t wr
        rw [Array.append_empty] at hcall
        unfold enc1 at hcall
        have HZ : Hid ((cmpI x.f1 t == 0) = true ↔ x.f1 = t) := Lib.hid (by rw [beq_iff_eq]; exact cmpI_zero)
        clear q0 q1 q2 hcell hx
        generalize cmpI x.f1 t = z at hcall HZ
        go_wp2_with (go_at_fn 33; refine hcall.mono ?_; rintro e w' ⟨rfl, hb⟩; replace hb := Lib.hid hb)
        refine bodyPost_ret (results_tmp2 (t := 6) (u := 7) rfl _ _ _) rfl ?_
        unfold SOut
        rw [HN.out]
        refine ⟨j, (z == 0), rfl, hj, ⟨fun h => ⟨x, HX.out, HZ.out.1 h⟩, fun ⟨a, h1, h2⟩ => ?_⟩, fun h a ha e => ?_, HB.out.trans (hb.out.mono HB.out.size)⟩
        · rw [HX.out] at h1; cases h1; exact HZ.out.2 h2
        · obtain ⟨q, hq, rfl⟩ := List.getElem_of_mem ha
          have hq2 := List.getElem?_eq_getElem hq
          rcases Nat.lt_trichotomy q j with h1 | h1 | h1
          · have := HL.out q _ h1 hq2; omega
          · subst h1
            rw [HX.out] at hq2
            have := Option.some.inj hq2
            rw [← this] at e
            rw [HZ.out.2 e] at h; cases h
          · have h3 := HD.out j q x _ h1 HX.out hq2
            have h4 := HH.out j x (Nat.le_refl _) HX.out
            omega
      · have hjn : j = N := by omega
        have hji : ¬ (j : Int) < (N : Int) := by omega
        go_wp2
        refine bodyPost_ret (results_tmp2 (t := 6) (u := 7) rfl _ _ _) rfl ?_
        unfold SOut
        rw [HN.out]
        refine ⟨j, false, by rw [hjn]; rfl, hj, ⟨fun h => (by cases h), fun ⟨a, h1, h2⟩ => ?_⟩, fun _ a ha e => ?_, HB.out⟩
        · have := (List.getElem?_eq_some_iff.1 h1).1
          rw [HN.out] at this; omega
        · obtain ⟨q, hq, rfl⟩ := List.getElem_of_mem ha
          have := HL.out q _ (by rw [hjn, ← HN.out]; exact hq) (List.getElem?_eq_getElem hq)
          omega
end Go.Proofs.Ytdchnaghmmhkhaa.Cs.Ai
