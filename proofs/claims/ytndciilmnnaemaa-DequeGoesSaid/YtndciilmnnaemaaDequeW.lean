/- Law 07's works. -/
import Derived.Test.YtndciilmnnaemaaDequeIntF
import Derived.Test.YtndciilmnnaemaaDequeRef
import Derived.Test.YtndciilmnnaemaaSame
set_option linter.unusedVariables false
set_option linter.unusedSimpArgs false
namespace Go.Proofs.Ytndciilmnnaemaa.DqI
open Go.RowKit Go.Shelf Go.Proofs.YtndciilmnnaemaaW.PrintWords

theorem C_own {w : World} {base n c : Nat} {e : TypeId} {A : Option Addr} {l : List Int} (h : w.ownsRow base e 1 (.slice A n c) n (l.map enc)) : Kd.C (Kd.int .i64) w A n l :=
  Kd.C_of_reads (enc := Value.int .i64) (d := (0 : Int)) (h1 := fun _ => rfl) (own_reads_of' h)

/-- List, whose value is written out. -/
theorem list_at (b o t base : Nat) (w : World) (cs : List Value) (L : List Int) (h : Is w base b o t cs L) (hL : L.length ≤ 1000000000) :
    Calls Try.prog 36 #[.pointer (some ⟨b, o, none⟩)] w fun e w' => ∃ A c, e = .returned (.slice A L.length c) ∧ L.length ≤ c ∧ w'.ownsRow w.heap.size 3 1 (.slice A L.length c) L.length (L.map enc) ∧ Below w.heap.size w w' :=
  (list_calls b o t base w cs L h hL).mono fun e w' ⟨v, he, ho, hb⟩ => by
    obtain ⟨A, c, rfl, hc⟩ := own_form ho
    exact ⟨A, c, he, hc, ho, hb⟩

set_option maxRecDepth 100000 in
set_option maxHeartbeats 4000000 in
theorem works07 (w : World) : Calls Try.prog 29 #[] w fun e w' => e = .returned (.bool true) ∧ Below w.heap.size w w' := by
  go_enter Try.func29, Try.ntmps29
  go_wp2_with fail
  have h0 := is_new w w.heap.size 43 (Nat.le_refl _)
  have b0 := (Below.refl w.heap.size w).alloc (Nat.le_refl _) (.cells #[.slice none 0 0, .int .i64 0, .int .i64 0] 43)
  refine (push_calls w.heap.size 0 _ w.heap.size _ _ [] 1 h0 (by decide) (by simp)).mono ?_
  rintro e w1 ⟨rfl, cs1, h1, s1⟩
  have b1 := b0.trans (s1.below h0 (by simp))
  clear s1 h0 b0
  go_wp2_with fail
  refine (push_calls w.heap.size 0 _ w.heap.size _ _ _ 2 h1 (by decide) b1.size).mono ?_
  rintro e w2 ⟨rfl, cs2, h2, s2⟩
  have b2 := b1.trans (s2.below h1 b1.size)
  clear s2 h1 b1
  go_wp2_with fail
  refine (push_calls w.heap.size 0 _ w.heap.size _ _ _ 3 h2 (by decide) b2.size).mono ?_
  rintro e w3 ⟨rfl, cs3, h3, s3⟩
  have b3 := b2.trans (s3.below h2 b2.size)
  clear s3 h2 b2
  go_wp2_with fail
  refine (steal_calls w.heap.size 0 _ w.heap.size _ _ [2, 3] 1 h3 (by decide)).mono ?_
  rintro e w4 ⟨rfl, cs4, h4, s4⟩
  have b4 := b3.trans (s4.below h3 b3.size)
  clear s4 h3 b3
  go_wp2_with fail
  refine (pop_calls w.heap.size 0 _ w.heap.size _ _ [2] 3 h4 (by decide)).mono ?_
  rintro e w5 ⟨rfl, cs5, h5, s5⟩
  have b5 := b4.trans (s5.below h4 b4.size)
  clear s5 h4 b4
  unfold enc
  go_wp2_with fail
  refine (len_calls w.heap.size 0 _ _ _ _ _ h5).mono ?_
  rintro e w' ⟨rfl, rfl⟩
  go_wp2_with fail
  refine (list_at w.heap.size 0 _ _ _ _ _ h5 (by decide)).mono ?_
  rintro e w6 ⟨A, c, rfl, hc, ho, b6⟩
  have h6 := h5.below b6
  have c6 := C_own ho
  go_wp2_with fail
  refine (same_calls [2] [2] _ _ _ _ _ (Kd.C_below c6 ((Below.refl _ w6).alloc (Nat.le_refl _) _)) hc (C_laid (t := 3) _ (by decide) (alloc_at _ _)) (by decide) (by decide)).mono ?_
  rintro e w7 ⟨rfl, hd⟩
  have b7 := ((Below.refl w6.heap.size w6).alloc (Nat.le_refl _) _).trans (hd.below.mono (by simp))
  clear hd c6 ho
  have h7 := h6.below b7
  have bb : Below w.heap.size w w7 := (b5.trans (b6.mono b5.size)).trans (b7.mono (Nat.le_trans b5.size b6.size))
  rw [show decide (([2] : List Int) = [2]) = true from by decide]
  go_wp2_with fail
  refine (all_calls w.heap.size 0 _ _ _ _ _ h7 (by decide)).mono ?_
  rintro e w8 ⟨g, A8, c8, rfl, _, _, _, _, _, b8⟩
  have hne := fun (w : World) => run_neq_func_nil (P := Try.prog) w 62 (.func 86) #[] #[.pointer (some ⟨g, 0, none⟩)] Try.underlying62
  go_wp2
  go_ret
  exact ⟨rfl, bb.trans (b8.mono bb.size)⟩
end Go.Proofs.Ytndciilmnnaemaa.DqI
