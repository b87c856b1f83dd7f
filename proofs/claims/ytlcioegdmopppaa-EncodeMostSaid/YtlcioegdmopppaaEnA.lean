/- encode.may and encode.mayOp: which numbers and operations may be. -/
import Derived.Test.YtlcioegdmopppaaEnP
import Derived.Test.YtlcioegdmopppaaRowAt
set_option linter.unusedSimpArgs false
namespace Go.Proofs.Ytlcioegdmopppaa.En
open Go.RowKit Go.Lib Go.Proofs.Ytlcioegdmopppaa.PEncodeBack Go.Proofs.YtlcioegdmopppaaW.PrintWords
set_option linter.unusedVariables false

theorem link {w a b : World} (h : Below w.heap.size w a) (k : Below a.heap.size a b) : Below w.heap.size w b := h.trans (k.mono h.size)
theorem drawn_bel {a b : World} (h : Drawn0 a b) : Below a.heap.size a b := by
  obtain ⟨n, rfl⟩ := h
  exact ⟨rfl, rfl, rfl, Nat.le_refl _, fun _ _ => rfl⟩
def badN (n : Int) : Bool := !okN n
set_option maxHeartbeats 1000000 in
theorem may1_calls (n : Int) (w : World) : Calls Try.prog 63 #[.int .i64 n] w fun e w' => e = .returned (.bool (badN n)) ∧ w' = w := by
  by_cases h : n < 0
  · have e : badN n = true := by unfold badN okN; simp; omega
    rw [e]
    go_enter Try.func63, Try.ntmps63
    go_wp2
    go_ret
    exact ⟨rfl, rfl⟩
  · by_cases h2 : n > 2147483647
    · have e : badN n = true := by unfold badN okN; simp; omega
      rw [e]
      go_enter Try.func63, Try.ntmps63
      go_wp2
      go_ret
      exact ⟨rfl, rfl⟩
    · have e : badN n = false := by unfold badN okN; simp; omega
      rw [e]
      go_enter Try.func63, Try.ntmps63
      go_wp2
      go_ret
      exact ⟨rfl, rfl⟩
/-- Is any of them bad? -/
theorem any_take {p : Int → Bool} {l : List Int} {k : Nat} (hk : k < l.length) (h : ∀ j (hj : j < l.length), j < k → p l[j] = false) (hp : p l[k] = true) : l.any p = true := List.any_eq_true.2 ⟨_, List.getElem_mem hk, hp⟩
set_option maxHeartbeats 1000000 in
set_option maxRecDepth 100000 in
theorem indexFunc_may (w : World) (A : Option Addr) (c : Nat) (l : List Int) (hr : Kd.C (Kd.int .i64) w A l.length l) (hl : l.length ≤ big) :
    Calls Try.prog 73 #[.slice A l.length c, .func (.func 63) #[] #[]] w fun e w' => (∃ i : Int, e = .returned (.int .i64 i) ∧ (decide (i ≥ 0) = l.any badN)) ∧ w' = w := by
  have e63 : ∀ args w, (callFunc 63 args).run Try.prog w = .ok (.enter 63 args) w := enters_of Try.func63 (by kernel_rfl) rfl
  have HR := Lib.hid hr
  obtain ⟨N, hN⟩ : ∃ N, l.length = N := ⟨_, rfl⟩
  have hNb : N ≤ 1152921504606846976 := by rw [← hN]; exact hl
  have HN := Lib.hid hN
  rw [hN] at HR
  clear hr hl hN
  rw [HN.out]
  go_enter Try.func73, Try.ntmps73
  go_wp2
  go_loop [5, 8] (fun _ v8 => ∃ k : Nat, k ≤ N ∧ v8 = .int .i64 k ∧ Aside (∀ j (hj : j < l.length), j < k → badN l[j] = false)) (fun _ v8 => N - (intOf v8).toNat)
  case atStart => exact ⟨0, by omega, rfl, fun j _ h => absurd h (by omega)⟩
  case round =>
    obtain ⟨k, hk, rfl, HA⟩ := hrel
    by_cases hlt : k < N
    · have hkl : k < l.length := by rw [HN.out]; exact hlt
      obtain ⟨ad, rfl, hc⟩ := Kd.at_int HR.out (k : Int) (by omega) (by omega)
      rw [rdI hkl, Int.toNat_natCast] at hc
      have HX := Lib.hid (rfl : l[k] = l[k])
      have HB := Lib.hid (may1_calls l[k])
      have hlti : (k : Int) < N := by omega
      cases hb : badN l[k] with
      | true =>
        have HF : Hid (l.any badN = true) := Lib.hid (any_take hkl HA.out hb)
        rw [hb] at HB
        clear hb HX
        generalize l[k] = x at *
        go_wp2_with (go_at_fn 63; refine (HB.out _).mono ?_; rintro e w' ⟨rfl, rfl⟩)
        go_ret
        refine ⟨⟨_, rfl, ?_⟩, rfl⟩
        rw [HF.out]; simp
      | false =>
        have HF : Aside (∀ j (hj : j < l.length), j < k + 1 → badN l[j] = false) := fun j hj hjk => by
          rcases Nat.lt_or_ge j k with h | h
          · exact HA.out j hj h
          · have : j = k := by omega
            subst this; exact hb
        rw [hb] at HB
        clear hb HX HA
        generalize l[k] = x at *
        go_wp2_with (go_at_fn 63; refine (HB.out _).mono ?_; rintro e w' ⟨rfl, rfl⟩)
        go_round
        case rel => exact ⟨k + 1, by omega, by go_num, HF⟩
        case measure => simp [intOf]; omega
    · have hlti : ¬ (k : Int) < N := by omega
      have HF : Hid (l.any badN = false) := Lib.hid (by
        rw [List.any_eq_false]
        intro x hx
        obtain ⟨j, hj, rfl⟩ := List.getElem_of_mem hx
        rw [HA.out j hj (by rw [HN.out] at hj; omega)]; decide)
      go_wp2
      go_ret
      refine ⟨⟨_, rfl, ?_⟩, rfl⟩
      rw [HF.out]; decide
theorem all_ok (l : List Int) : l.any badN = !l.all okN := by
  induction l with
  | nil => rfl
  | cons x l ih => rw [List.any_cons, List.all_cons, ih]; unfold badN; cases okN x <;> cases l.all okN <;> rfl
set_option maxHeartbeats 1000000 in
theorem containsFunc_may (w : World) (A : Option Addr) (c : Nat) (l : List Int) (hr : Kd.C (Kd.int .i64) w A l.length l) (hl : l.length ≤ big) :
    Calls Try.prog 62 #[.slice A l.length c, .func (.func 63) #[] #[]] w fun e w' => e = .returned (.bool (!l.all okN)) ∧ w' = w := by
  have HI := Lib.hid (indexFunc_may w A c l hr hl)
  have HA := Lib.hid (all_ok l)
  rw [HA.out] at HI
  clear hr
  generalize l.all okN = b at *
  generalize l.length = N at *
  go_enter Try.func62, Try.ntmps62
  go_wp2_with fail
  refine HI.out.mono ?_
  rintro e w' ⟨⟨i, rfl, hi⟩, rfl⟩
  have HI2 := Lib.hid hi
  clear hi
  go_wp2
  go_ret
  exact ⟨by first | rfl | (rw [HI2.out]; rfl), rfl⟩
set_option maxHeartbeats 1000000 in
theorem may_c (w : World) (A : Option Addr) (c : Nat) (l : List Int) (hr : Kd.C (Kd.int .i64) w A l.length l) (hl : l.length ≤ big) :
    Calls Try.prog 44 #[.slice A l.length c] w fun e w' => e = .returned (.bool (l.all okN)) ∧ w' = w := by
  have HI := Lib.hid (containsFunc_may w A c l hr hl)
  clear hr
  generalize l.all okN = b at *
  generalize l.length = N at *
  go_enter Try.func44, Try.ntmps44
  go_wp2_with fail
  refine HI.out.mono ?_
  rintro e w' ⟨rfl, rfl⟩
  go_wp2
  go_ret
  exact ⟨by cases b <;> rfl, rfl⟩
end Go.Proofs.Ytlcioegdmopppaa.En
