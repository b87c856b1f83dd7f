/- encode.mayOp, and encode.line: a letter, numbers, and what ends it. -/
import Derived.Test.YtlcioegdmopppaaEnA
import Derived.Test.YtlcioegdmopppaaBRow
set_option linter.unusedSimpArgs false
namespace Go.Proofs.Ytlcioegdmopppaa.En
open Go.RowKit Go.Lib Go.Proofs.Ytlcioegdmopppaa.PEncodeBack Go.Proofs.YtlcioegdmopppaaW.PrintWords
set_option linter.unusedVariables false

theorem ints_laid {W : World} {g : Nat} {l : List Int} {t : TypeId} {fr : Nat × Nat} (hg : W.heap[g]? = some (.cells (nums .i64 l).toArray t fr)) (hl : l.length ≤ 1000) : Kd.C (Kd.int .i64) W (some ⟨g, 0, none⟩) l.length l := by
  refine ⟨rfl, by omega, fun _ => ⟨_, rfl, fun j q hq => ⟨[.int .i64 q], rfl, rfl, fun i u hu => ?_⟩⟩⟩
  have hi : i = 0 := by have := (List.getElem?_eq_some_iff.1 hu).1; simp at this; omega
  subst hi
  simp at hu
  subst hu
  show W.cell? ((⟨g, 0, none⟩ : Addr).add (j * 1 + 0)) = _
  rw [Addr.add_lit, cell_of_row _ _ _ _ _ _ hg]
  simp [nums, hq]
set_option maxHeartbeats 1000000 in
set_option maxRecDepth 100000 in
theorem mayOp_c (w : World) (o : S39) (A : Option Addr) (c : Nat) (hr : Kd.C (Kd.int .i64) w A o.f3.length o.f3) (hl : o.f3.length ≤ big) :
    Calls Try.prog 45 #[.agg #[.bool o.f0, .int .i64 o.f1, .int .i64 o.f2, .slice A o.f3.length c]] w fun e w' => e = .returned (.bool (okOp o)) ∧ Below w.heap.size w w' := by
  obtain ⟨f0, f1, f2, f3⟩ := o
  simp only at *
  have HL := Lib.hid (fun (W : World) (hC : Kd.C (Kd.int .i64) W A f3.length f3) => may_c W A c f3 hC hl)
  have H1 : Hid (∀ (W : World) (g : Nat), Blk W g [.int .i64 f1] 3 → Calls Try.prog 44 #[.slice (some ⟨g, 0, none⟩) 1 1] W fun e w' => e = .returned (.bool (okN f1)) ∧ w' = W) := Lib.hid fun W g hg => by
    have := may_c W (some ⟨g, 0, none⟩) 1 [f1] (ints_laid (l := [f1]) hg (by simp)) (by unfold big; simp)
    simpa using this
  have H2 : Hid (∀ (W : World) (g : Nat), Blk W g [.int .i64 f1, .int .i64 f2] 3 → Calls Try.prog 44 #[.slice (some ⟨g, 0, none⟩) 2 2] W fun e w' => e = .returned (.bool (okN f1 && okN f2)) ∧ w' = W) := Lib.hid fun W g hg => by
    have := may_c W (some ⟨g, 0, none⟩) 2 [f1, f2] (ints_laid (l := [f1, f2]) hg (by simp)) (by unfold big; simp)
    simpa using this
  have HR := Lib.hid hr
  have hb1 : Below w.heap.size w ((w.alloc (.cells #[.bool f0, .int .i64 f1, .int .i64 f2, .slice A f3.length c] 39)).alloc (.cells #[.int .i64 f1] 3)) := ((Below.refl _ _).alloc (Nat.le_refl _) _).alloc (by simp) _
  have HE : Hid (decide (f3 = []) = ((f3.length : Int) == 0)) := Lib.hid (by cases f3 <;> simp; omega)
  clear hr hl
  cases f0 with
  | true =>
    have hfin : okOp ⟨true, f1, f2, f3⟩ = (okN f1 && (decide (f2 = 0) && f3.all okN)) := rfl
    have HFIN := Lib.hid hfin
    have HB1 := Lib.hid (hb1.mono (Nat.le_refl _))
    clear hfin hb1
    generalize f3.all okN = b3 at *
    generalize f3.length = N at *
    generalize hb0 : okN f1 = b0 at *
    clear hb0
    cases b0 with
    | false =>
      go_enter Try.func45, Try.ntmps45
      go_wp2_with (go_at_call 44; ((with_reducible refine (H1.out _ _ (blk_new2 w _ [.int .i64 f1] 3)).mono ?_); rintro e w' ⟨rfl, rfl⟩))
      go_ret
      exact ⟨by rw [HFIN.out]; rfl, HB1.out⟩
    | true =>
      by_cases h2 : f2 = 0
      · subst h2
        have HC := Lib.hid (HL.out _ (Kd.C_below HR.out HB1.out))
        go_enter Try.func45, Try.ntmps45
        go_wp2_with (first
          | (go_at_call 44; ((with_reducible refine (H1.out _ _ (blk_new2 w _ [.int .i64 f1] 3)).mono ?_); rintro e w' ⟨rfl, rfl⟩))
          | (go_at_call 44; ((with_reducible refine HC.out.mono ?_); rintro e w' ⟨rfl, rfl⟩)))
        go_ret
        exact ⟨by rw [HFIN.out]; cases b3 <;> rfl, HB1.out⟩
      · have hd : (f2 == 0) = false := by simp [h2]
        have HD : Hid (decide (f2 = 0) = false) := Lib.hid (decide_eq_false h2)
        clear h2
        go_enter Try.func45, Try.ntmps45
        go_wp2_with (go_at_call 44; ((with_reducible refine (H1.out _ _ (blk_new2 w _ [.int .i64 f1] 3)).mono ?_); rintro e w' ⟨rfl, rfl⟩))
        go_ret
        exact ⟨by rw [HFIN.out, HD.out]; rfl, HB1.out⟩
  | false =>
    have hfin : okOp ⟨false, f1, f2, f3⟩ = (okN f1 && (okN f2 && decide (f3 = []))) := rfl
    rw [HE.out] at hfin
    have HFIN := Lib.hid hfin
    have HB2 : Hid (Below w.heap.size w ((w.alloc (.cells #[.bool false, .int .i64 f1, .int .i64 f2, .slice A f3.length c] 39)).alloc (.cells #[.int .i64 f1, .int .i64 f2] 3))) := Lib.hid (((Below.refl _ _).alloc (Nat.le_refl _) _).alloc (by simp) _)
    clear hfin hb1 HE HL HR H1
    generalize f3.length = N at *
    generalize hb0 : okN f1 = b0 at *
    generalize hb2 : okN f2 = b2 at *
    clear hb0 hb2
    have HD : Hid ((b0 && (b2 && ((N : Int) == 0))) = ((b0 && b2) && ((N : Int) == 0))) := Lib.hid (by cases b0 <;> cases b2 <;> rfl)
    rw [HD.out] at HFIN
    clear HD
    generalize (b0 && b2) = b at *
    cases b with
    | false =>
      go_enter Try.func45, Try.ntmps45
      go_wp2_with (go_at_call 44; ((with_reducible refine (H2.out _ _ (blk_new2 w _ [.int .i64 f1, .int .i64 f2] 3)).mono ?_); rintro e w' ⟨rfl, rfl⟩))
      go_ret
      exact ⟨by rw [HFIN.out]; rfl, HB2.out⟩
    | true =>
      go_enter Try.func45, Try.ntmps45
      go_wp2_with (go_at_call 44; ((with_reducible refine (H2.out _ _ (blk_new2 w _ [.int .i64 f1, .int .i64 f2] 3)).mono ?_); rintro e w' ⟨rfl, rfl⟩))
      go_ret
      exact ⟨by rw [HFIN.out]; first | rfl | (simp; done), HB2.out⟩
end Go.Proofs.Ytlcioegdmopppaa.En
