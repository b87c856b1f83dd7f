/- The contracts of deque, at rows of int. -/
import Derived.Test.YtndciilmnnaemaaChg
import Derived.Test.YtndciilmnnaemaaRingPlain
import Derived.Test.YtndciilmnnaemaaRange
import Derived.Deep.RegionWith
import Derived.Stop.RegionWithIn
import Derived.LoopIn
import Derived.TacticsInMore
import Derived.OwnWalkIn
import Derived.WalkKit
import Derived.Test.YtndciilmnnaemaaWMore
set_option linter.unusedVariables false
set_option linter.unusedSimpArgs false
namespace Go.Proofs.Ytndciilmnnaemaa.DqI
open Go.RowKit Go.Shelf Go.Proofs.YtndciilmnnaemaaW.PrintWords

def enc (x : Int) : Value := .int .i64 x
/-- A deque lies at the cells o, o + 1, o + 2 of the block b. -/
def Is (w : World) (base b o t : Nat) (cs : List Value) (l : List Int) : Prop :=
  Blk w b cs t ∧ base ≤ b ∧ ∃ (rv : Value) (top : Nat) (ring : List Int), cs[o]? = some rv ∧ cs[o + 1]? = some (.int .i64 top) ∧ cs[o + 2]? = some (.int .i64 l.length) ∧ RingOk ring top l ∧ ring.length ≤ 4294967296 ∧
    ((rv = .slice none 0 0 ∧ ring = []) ∨ ∃ g, rv = .slice (some ⟨g, 0, none⟩) ring.length ring.length ∧ base ≤ g ∧ g ≠ b ∧ Blk w g (ring.map enc) 3)
/-- The blocks of a deque: its own, and its ring's. -/
def set (cs : List Value) (b o : Nat) (k : Nat) : Prop := k = b ∨ (cs.getD o undef).ownBlock = some k

set_option maxHeartbeats 400000 in
theorem len_calls (b o t : Nat) (w : World) (base : Nat) (cs : List Value) (l : List Int) (h : Is w base b o t cs l) :
    Calls Try.prog 35 #[.pointer (some ⟨b, o, none⟩)] w fun e w' => e = .returned (.int .i64 l.length) ∧ w = w' := by
  obtain ⟨hb, _, rv, top, ring, c0, c1, c2, _⟩ := h
  have h2 := hb.cell (o + 2)
  rw [c2] at h2
  clear hb c0 c1 c2
  go_enter Try.func35, Try.ntmps35
  go_wp2
  go_ret
  exact ⟨rfl, rfl⟩
set_option maxHeartbeats 400000 in
theorem len_none (w : World) : Calls Try.prog 35 #[.pointer none] w fun e w' => e = .returned (.int .i64 0) ∧ w = w' := by
  go_enter Try.func35, Try.ntmps35
  go_wp2
  go_ret
  exact ⟨rfl, rfl⟩

set_option maxHeartbeats 400000 in
theorem at_calls (b o : Nat) (w : World) (a : Option Addr) (m c top : Nat) (k : Int) (i : Nat) (h0 : w.cell? ⟨b, o, none⟩ = some (.slice a m c)) (h1 : w.cell? ⟨b, o + 1, none⟩ = some (.int .i64 top))
    (ht : top < m) (hm : m ≤ 4294967296) (hk : 0 ≤ k) (hk2 : k ≤ 4294967296) (hi : Hid ((top + k.toNat) % m = i)) :
    Calls Try.prog 80 #[.pointer (some ⟨b, o, none⟩), .int .i64 k] w fun e w' => e = .returned (.int .i64 i) ∧ ∃ n, w' = w.drewN n := by
  have e1 : IntKind.i64.wrap (top + k) = top + k := IntWalk.i64_in _ (by omega)
  have hm0 : 0 < (m : Int) := by omega
  go_enter Try.func80, Try.ntmps80
  go_wp2
  go_quiet (fail)
  go_wp2
  go_ret
  refine ⟨?_, _, rfl⟩
  rw [← hi.out]
  have : ((top : Int) + k) % (m : Int) = (((top + k.toNat) % m : Nat) : Int) := by
    obtain ⟨j, rfl⟩ := Int.eq_ofNat_of_zero_le hk
    simp
  rw [← this]
  rfl

theorem Is.drewN {w : World} {base b o t : Nat} {cs : List Value} {l : List Int} (h : Is w base b o t cs l) (n : Nat) : Is (w.drewN n) base b o t cs l := h

attribute [local go_sem] Oper.semAt_some
set_option maxRecDepth 100000 in
set_option maxHeartbeats 1000000 in
/-- 'each' goes through a row, from its top on. -/
theorem each1_goes (l B b o t base : Nat) (cs : List Value) (L : List Int) (hL : L.length ≤ 1000000000) (W : World) :
    Goes Try.prog 98 #[.pointer (some ⟨B, 0, none⟩)] L.length (fun k => #[enc (L.getD k 0)]) (fun W W' => ∃ n, W' = W.drewN n)
      (fun W => W.cell? ⟨B, 0, none⟩ = some (.pointer (some ⟨b, o, none⟩)) ∧ Is W base b o t cs L) l W := by
  intro Y Yx h0 hInv hSt hStx hY
  refine callsIn_of_wp Try.func98 rfl trivial ?_ rfl
  simp only [Try.ntmps98, List.size_toArray, List.length_cons, List.length_nil, Nat.reduceAdd, Nat.reduceSub, Array.replicate_succ, Array.replicate_zero, List.push_toArray, List.append_toArray, List.nil_append, List.cons_append]
  gi_wp2
  gi_loopw [3] (fun v3 wr => ∃ k : Nat, k ≤ L.length ∧ v3 = .int .i64 k ∧ Y k wr) (fun v3 _ => L.length - (intOf v3).toNat)
  case atStart => exact ⟨0, Nat.zero_le _, rfl, h0⟩
  case round =>
    obtain ⟨k, hk, rfl, hYk⟩ := hrel
    obtain ⟨hB, hIs⟩ := hInv k wr hYk
    have HIs := Lib.hid hIs
    by_cases hlt : k < L.length
    · obtain ⟨hb, hbb, rv, top, ring, c0, c1, c2, hr, hm, hring⟩ := hIs
      have hm0 := hr.pos (by omega)
      have htop := hr.top_lt hm0
      rcases hring with ⟨_, h⟩ | ⟨g, rfl, hgb, hne, hbg⟩
      · rw [h] at hm0; simp at hm0
      · have q0 := hb.cell o
        have q1 := hb.cell (o + 1)
        rw [c0] at q0
        rw [c1] at q1
        have him : ((top + k) % ring.length) < ring.length := ring_lt hm0
        have hx := hbg.cell ((top + k) % ring.length)
        rw [List.getElem?_map, hr.2.2 k hlt, List.getElem?_eq_getElem hlt, Option.map_some] at hx
        obtain ⟨fn, tmps, assign, body, hRy⟩ := hY k hlt
        have hy0 : ∀ q, Y k (wr.drewN q) := fun q => hSt k wr _ ⟨q, rfl⟩ hYk
        have hRy := fun q => hRy _ (hy0 q)
        have hgd : L.getD k 0 = L[k] := by rw [List.getD_eq_getElem?_getD, List.getElem?_eq_getElem hlt]; rfl
        rw [hgd] at hRy
        generalize L[k] = x at *
        have hyr := fun q => (hRy q).1
        have hyR := fun q => Lib.hid (hRy q).2
        have Hi : Hid ((top + (k : Int).toNat) % ring.length = (top + k) % ring.length) := by rw [Int.toNat_natCast]; rfl
        generalize hi : (top + k) % ring.length = i at *
        have Hi2 := Lib.hid hi
        have him' : (i : Int) < (ring.length : Int) := by omega
        have hdec : decide (k < L.length) = true := decide_eq_true hlt
        generalize ring.length = m at *
        clear hi hgd hRy hy0 hr c0 c1 c2 hb hbg hYk
        unfold enc at *
        have hF : ∀ f, Fence.wide.fn f = True := fun _ => rfl
        have hD : Fence.wide.depth = none := rfl
        gi_wp2
        gi_region_with (first | (gi_at_call 35; refine (callsIn_wide.2 (len_calls b o t _ base cs L (by exact HIs.out))).mono ?_; rintro e w' ⟨rfl, rfl⟩) | (gi_at_call 80; refine (callsIn_wide.2 (at_calls b o _ _ m m top k i (by exact q0) (by exact q1) htop hm (by omega) (by omega) Hi)).mono ?_; rintro e w' ⟨rfl, q, rfl⟩) | (refine RoundIn.mono (hyR _).out ?_; rintro e w' ⟨bv, rfl, hy1, hy2⟩))
        all_goals
          cases bv
          · gi_wp2
            go_end0
            exact ⟨⟨_, rfl⟩, .inr (hy2 (by first | rfl | trivial))⟩
          · gi_wp2
            go_roundw
            case rel => exact ⟨k + 1, by omega, by go_num, hy1 (by first | rfl | trivial)⟩
            case measure => simp [intOf]; omega
    · have hkk : k = L.length := by omega
      have hdec : decide (k < L.length) = false := decide_eq_false hlt
      have hF : ∀ f, Fence.wide.fn f = True := fun _ => rfl
      have hD : Fence.wide.depth = none := rfl
      have Hkk := Lib.hid hkk
      have Hk := Lib.hid hk
      clear hkk hIs hlt hk
      gi_wp2
      refine wpIn_wide.2 ?_
      go_quiet ((go_at_call 35; exact Calls.quiet_of_same ((len_calls b o t _ base cs L (by exact HIs.out)).mono fun _ _ h => ⟨h.1, h.2.symm⟩)))
      gi_wp2
      go_end0
      refine ⟨⟨_, rfl⟩, .inl ?_⟩
      rw [← Hkk.out]
      exact hSt k wr _ ⟨_, rfl⟩ hYk
end Go.Proofs.Ytndciilmnnaemaa.DqI
