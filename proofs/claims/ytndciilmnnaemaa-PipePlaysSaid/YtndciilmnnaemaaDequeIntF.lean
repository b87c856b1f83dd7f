/- Deque, at rows of int: a new one, one that is not there, and what a step leaves of the rest. -/
import Derived.Test.YtndciilmnnaemaaDequeIntD
set_option linter.unusedVariables false
set_option linter.unusedSimpArgs false
namespace Go.Proofs.Ytndciilmnnaemaa.DqI
open Go.RowKit Go.Shelf Go.Proofs.YtndciilmnnaemaaW.PrintWords
attribute [local go_sem] Oper.semAt_some

theorem is_new (w : World) (base t : Nat) (h : base ≤ w.heap.size) : Is (w.alloc (.cells #[.slice none 0 0, .int .i64 0, .int .i64 0] t)) base w.heap.size 0 t [.slice none 0 0, .int .i64 0, .int .i64 0] [] :=
  ⟨Blk.new _ _ _, h, .slice none 0 0, 0, [], rfl, rfl, rfl, ring_empty, by simp, .inl ⟨rfl, rfl⟩⟩
theorem set_ge {w : World} {base b o t : Nat} {cs : List Value} {l : List Int} (h : Is w base b o t cs l) : ∀ k, set cs b o k → base ≤ k := by
  obtain ⟨hb, h1, rv, top, ring, c0, c1, c2, hr, hm, hring⟩ := h
  intro k hk
  rcases hk with rfl | hk
  · exact h1
  · rw [List.getD_eq_getElem?_getD, c0, Option.getD_some] at hk
    rcases hring with ⟨rfl, _⟩ | ⟨g, rfl, h2, _, _⟩
    · simp [Value.ownBlock] at hk
    · simp [Value.ownBlock] at hk; subst hk; exact h2
theorem Step.below {w w' : World} {base b o t : Nat} {cs cs' : List Value} {l : List Int} (h : Step w w' base b o t cs cs') (hi : Is w base b o t cs l) (hb : base ≤ w.heap.size) : Below base w w' :=
  h.2.2.1.below hb (set_ge hi)
/-- A row of one's own that is apart from the deque stays, and stays apart. -/
theorem Step.own {w w' : World} {base b o t : Nat} {cs cs' : List Value} {n size : Nat} {e : TypeId} {v : Value} {xs : List Value} {base' : Nat} (h : Step w w' base b o t cs cs') (ho : w.ownsRow base' e size v n xs) (ha : ∀ k, v.ownBlock = some k → ¬ set cs b o k) :
    w'.ownsRow base' e size v n xs ∧ ∀ k, v.ownBlock = some k → ¬ set cs' b o k :=
  ⟨own_move ho (fun k hk => h.2.2.1.block k (own_lt ho k hk) (ha k hk)), fun k hk hs => by
    rcases h.2.2.2 k hs with h1 | h1
    · exact ha k hk h1
    · have := own_lt ho k hk; omega⟩

set_option maxHeartbeats 400000 in
theorem push_none (w : World) (x : Int) : Calls Try.prog 34 #[.pointer none, enc x] w fun e w' => e = .returned (.tuple #[]) ∧ w' = w := by
  unfold enc
  go_enter Try.func34, Try.ntmps34
  go_wp2
  refine bodyPost_ret (results_none rfl _ _ _) rfl ?_
  exact ⟨rfl, rfl⟩
set_option maxHeartbeats 400000 in
theorem pop_none (w : World) : Calls Try.prog 30 #[.pointer none] w fun e w' => e = .returned (.tuple #[Value.int .i64 0, .bool false]) ∧ w' = w := by
  go_enter Try.func30, Try.ntmps30
  go_wp2_with (go_at_call 35; refine (len_none _).mono ?_; rintro e w' ⟨rfl, rfl⟩)
  go_ret2
  exact ⟨rfl, rfl⟩
set_option maxHeartbeats 400000 in
theorem steal_none (w : World) : Calls Try.prog 32 #[.pointer none] w fun e w' => e = .returned (.tuple #[Value.int .i64 0, .bool false]) ∧ w' = w := by
  go_enter Try.func32, Try.ntmps32
  go_wp2_with (go_at_call 35; refine (len_none _).mono ?_; rintro e w' ⟨rfl, rfl⟩)
  go_ret2
  exact ⟨rfl, rfl⟩
end Go.Proofs.Ytndciilmnnaemaa.DqI
