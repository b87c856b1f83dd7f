/- A deque that is played with while a copy of it is gone through. -/
import Derived.Test.YtndciilmnnaemaaDequeW
set_option linter.unusedVariables false
set_option linter.unusedSimpArgs false
namespace Go.Proofs.Ytndciilmnnaemaa.DqI
open Go.RowKit Go.Shelf Go.Proofs.YtndciilmnnaemaaW.PrintWords

theorem pop_any (b o t base : Nat) (w : World) (cs : List Value) (L : List Int) (h : Is w base b o t cs L) (hL : L.length ≤ 1000000000) :
    Calls Try.prog 30 #[.pointer (some ⟨b, o, none⟩)] w fun e w' => ∃ v, e = .returned v ∧ ∃ cs' L', Is w' base b o t cs' L' ∧ Step w w' base b o t cs cs' ∧ L'.length = L.length - 1 := by
  rcases List.eq_nil_or_concat L with rfl | ⟨L, x, rfl⟩
  · refine (pop_empty b o t base w cs h).mono ?_
    rintro e w' ⟨rfl, rfl⟩
    exact ⟨_, rfl, cs, [], h, ⟨rfl, fun _ _ _ _ => rfl, Chg.refl _ _, fun k hk => .inl hk⟩, rfl⟩
  · rw [List.concat_eq_append] at *
    refine (pop_calls b o t base w cs L x h (by simp at hL; omega)).mono ?_
    rintro e w' ⟨rfl, cs', h1, h2⟩
    exact ⟨_, rfl, cs', L, h1, h2, by simp⟩
theorem steal_any (b o t base : Nat) (w : World) (cs : List Value) (L : List Int) (h : Is w base b o t cs L) (hL : L.length ≤ 1000000000) :
    Calls Try.prog 32 #[.pointer (some ⟨b, o, none⟩)] w fun e w' => ∃ v, e = .returned v ∧ ∃ cs', Is w' base b o t cs' (L.drop 1) ∧ Step w w' base b o t cs cs' := by
  rcases L with _ | ⟨x, L⟩
  · refine (steal_empty b o t base w cs h).mono ?_
    rintro e w' ⟨rfl, rfl⟩
    exact ⟨_, rfl, cs, h, ⟨rfl, fun _ _ _ _ => rfl, Chg.refl _ _, fun k hk => .inl hk⟩⟩
  · refine (steal_calls b o t base w cs L x h (by simp at hL; omega)).mono ?_
    rintro e w' ⟨rfl, cs', h1, h2⟩
    exact ⟨_, rfl, cs', h1, h2⟩

/-- Since W0 only the deque and the block G have turned; the two blocks behind W0's stay. -/
def GJ (W0 W : World) (base D G : Nat) (cs0 : List Value) (m : Nat) : Prop :=
  ∃ cs L, Is W base D 0 43 cs L ∧ L.length ≤ m ∧ (∀ q, set cs D 0 q → set cs0 D 0 q ∨ W0.heap.size + 2 ≤ q) ∧ Chg (fun q => set cs0 D 0 q ∨ q = G) W0 W ∧ W0.heap.size + 2 ≤ W.heap.size
/-- What stays in a step of the deque. -/
def Kept (W0 W W' : World) (G : Nat) : Prop := W'.heap[G]? = W.heap[G]? ∧ W'.heap[W0.heap.size]? = W.heap[W0.heap.size]? ∧ W'.heap[W0.heap.size + 1]? = W.heap[W0.heap.size + 1]?
theorem Kept.trans {W0 W W1 W2 : World} {G : Nat} (h : Kept W0 W W1 G) (k : Kept W0 W1 W2 G) : Kept W0 W W2 G := ⟨k.1.trans h.1, k.2.1.trans h.2.1, k.2.2.trans h.2.2⟩
theorem Kept.rfl {W0 W : World} {G : Nat} : Kept W0 W W G := ⟨Eq.refl _, Eq.refl _, Eq.refl _⟩
theorem GJ.step {W0 W W1 : World} {base D G : Nat} {cs0 cs cs1 : List Value} {L1 : List Int} {m : Nat} (h0 : ∀ q, set cs0 D 0 q → q < W0.heap.size) (hG : ¬ set cs0 D 0 G) (hGl : G < W0.heap.size)
    (hset : ∀ q, set cs D 0 q → set cs0 D 0 q ∨ W0.heap.size + 2 ≤ q) (hchg : Chg (fun q => set cs0 D 0 q ∨ q = G) W0 W) (hsz : W0.heap.size + 2 ≤ W.heap.size)
    (hI : Is W1 base D 0 43 cs1 L1) (hS : Step W W1 base D 0 43 cs cs1) (hl : L1.length ≤ m) : GJ W0 W1 base D G cs0 m ∧ Kept W0 W W1 G := by
  refine ⟨⟨cs1, L1, hI, hl, fun q hq => ?_, hchg.then hS.2.2.1 (fun q hq => ?_), Nat.le_trans hsz hS.2.2.1.size⟩, hS.2.2.1.block G (by omega) (fun hs => ?_), hS.2.2.1.block _ (by omega) (fun hs => ?_), hS.2.2.1.block _ (by omega) (fun hs => ?_)⟩
  · rcases hS.2.2.2 q hq with h | h
    · exact hset q h
    · exact .inr (by omega)
  · rcases hset q hq with h | h
    · exact .inl (.inl h)
    · exact .inr (by omega)
  · rcases hset G hs with h | h
    · exact hG h
    · omega
  · rcases hset _ hs with h | h
    · have := h0 _ h; omega
    · omega
  · rcases hset _ hs with h | h
    · have := h0 _ h; omega
    · omega
section
variable {W0 W : World} {base D G : Nat} {cs0 : List Value} {m : Nat} (h0 : ∀ q, set cs0 D 0 q → q < W0.heap.size) (hG : ¬ set cs0 D 0 G) (hGl : G < W0.heap.size)
include h0 hG hGl
theorem pop_gj (h : GJ W0 W base D G cs0 m) (hm : m ≤ 1000) : Calls Try.prog 30 #[.pointer (some ⟨D, 0, none⟩)] W fun e W1 => ∃ v, e = .returned v ∧ GJ W0 W1 base D G cs0 (m - 1) ∧ Kept W0 W W1 G := by
  obtain ⟨cs, L, hI, hl, hset, hchg, hsz⟩ := h
  refine (pop_any D 0 _ base W cs L hI (by omega)).mono ?_
  rintro e W1 ⟨v, rfl, cs1, L1, hI1, hS, hl1⟩
  exact ⟨v, rfl, GJ.step h0 hG hGl hset hchg hsz hI1 hS (by omega)⟩
theorem steal_gj (h : GJ W0 W base D G cs0 m) (hm : m ≤ 1000) : Calls Try.prog 32 #[.pointer (some ⟨D, 0, none⟩)] W fun e W1 => ∃ v, e = .returned v ∧ GJ W0 W1 base D G cs0 (m - 1) ∧ Kept W0 W W1 G := by
  obtain ⟨cs, L, hI, hl, hset, hchg, hsz⟩ := h
  refine (steal_any D 0 _ base W cs L hI (by omega)).mono ?_
  rintro e W1 ⟨v, rfl, cs1, hI1, hS⟩
  exact ⟨v, rfl, GJ.step h0 hG hGl hset hchg hsz hI1 hS (by simp; omega)⟩
theorem push_gj (h : GJ W0 W base D G cs0 m) (hm : m ≤ 1000) (hb : base ≤ W0.heap.size) (x : Int) : Calls Try.prog 34 #[.pointer (some ⟨D, 0, none⟩), enc x] W fun e W1 => e = .returned (.tuple #[]) ∧ GJ W0 W1 base D G cs0 (m + 1) ∧ Kept W0 W W1 G := by
  obtain ⟨cs, L, hI, hl, hset, hchg, hsz⟩ := h
  refine (push_calls D 0 _ base W cs L x hI (by omega) (by omega)).mono ?_
  rintro e W1 ⟨rfl, cs1, hI1, hS⟩
  exact ⟨rfl, GJ.step h0 hG hGl hset hchg hsz hI1 hS (by simp; omega)⟩
end
theorem GJ.mono {W0 W : World} {base D G : Nat} {cs0 : List Value} {m m' : Nat} (h : GJ W0 W base D G cs0 m) (hm : m ≤ m') : GJ W0 W base D G cs0 m' := by
  obtain ⟨cs, L, hI, hl, r⟩ := h
  exact ⟨cs, L, hI, by omega, r⟩
theorem GJ.chg {W0 W : World} {base D G : Nat} {cs0 : List Value} {m : Nat} (h : GJ W0 W base D G cs0 m) : Chg (fun q => set cs0 D 0 q ∨ q = G) W0 W := by
  obtain ⟨cs, L, _, _, _, r, _⟩ := h
  exact r
end Go.Proofs.Ytndciilmnnaemaa.DqI
