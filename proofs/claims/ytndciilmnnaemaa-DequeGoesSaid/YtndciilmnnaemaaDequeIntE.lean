/- The contract of deque.All, at rows of int: it goes through a copy of the row. -/
import Derived.Test.YtndciilmnnaemaaDequeIntD
set_option linter.unusedVariables false
set_option linter.unusedSimpArgs false
namespace Go.Proofs.Ytndciilmnnaemaa.DqI
open Go.RowKit Go.Shelf Go.Proofs.YtndciilmnnaemaaW.PrintWords
attribute [local go_sem] Oper.semAt_some

set_option maxHeartbeats 1000000 in
theorem all_calls (b o t base : Nat) (w : World) (cs : List Value) (L : List Int) (h : Is w base b o t cs L) (hL : L.length ≤ 1000000000) :
    Calls Try.prog 41 #[.pointer (some ⟨b, o, none⟩)] w fun e w' => ∃ g A c, e = .returned (.func (.func 86) #[] #[.pointer (some ⟨g, 0, none⟩)]) ∧
      Blk w' g [.slice A L.length c] 27 ∧ w'.ownsRow w.heap.size 3 1 (.slice A L.length c) L.length (L.map enc) ∧ L.length ≤ c ∧ w.heap.size ≤ g ∧ (∀ q, (Value.slice A L.length c).ownBlock = some q → q < g) ∧ Below w.heap.size w w' := by
  have hl := list_calls b o t base w cs L h hL
  have HL := Lib.hid hl
  clear hl h
  go_enter Try.func41, Try.ntmps41
  go_wp2_with fail
  refine HL.out.mono ?_
  rintro e w1 ⟨v, rfl, ho, hb⟩
  obtain ⟨A, c, rfl, hc⟩ := own_form ho
  go_wp2
  go_ret
  refine ⟨w1.heap.size, A, c, rfl, Blk.new _ [.slice A L.length c] _, ho.alloc _, hc, hb.size, fun q hq => own_lt ho q hq, hb.alloc hb.size _⟩

set_option maxRecDepth 100000 in
set_option maxHeartbeats 1000000 in
/-- It hands on number and thing, from the first on. -/
theorem all1_goes (l g : Nat) (A : Option Addr) (c : Nat) (L : List Int) (hL : L.length ≤ 1000000000) (W : World) :
    Goes Try.prog 86 #[.pointer (some ⟨g, 0, none⟩)] L.length (fun k => #[.int .i64 k, enc (L.getD k 0)]) (fun W W' => ∃ n, W' = W.drewN n)
      (fun W => W.cell? ⟨g, 0, none⟩ = some (.slice A L.length c) ∧ (0 < L.length → ∃ ad, A = some ad ∧ ∀ k, k < L.length → W.cell? (ad.add k) = some (enc (L.getD k 0)))) l W := by
  intro Y Yx h0 hInv hSt hStx hY
  refine callsIn_of_wp Try.func86 rfl trivial ?_ rfl
  simp only [Try.ntmps86, List.size_toArray, List.length_cons, List.length_nil, Nat.reduceAdd, Nat.reduceSub, Array.replicate_succ, Array.replicate_zero, List.push_toArray, List.append_toArray, List.nil_append, List.cons_append]
  have hF : ∀ f, Fence.wide.fn f = True := fun _ => rfl
  have hD : Fence.wide.depth = none := rfl
  have hc0 := (hInv 0 W h0).1
  gi_wp2
  gi_loopw [7] (fun v7 wr => ∃ k : Nat, k ≤ L.length ∧ v7 = .int .i64 k ∧ Y k wr) (fun v7 _ => L.length - (intOf v7).toNat)
  case atStart => exact ⟨0, Nat.zero_le _, rfl, h0⟩
  case round =>
    obtain ⟨k, hk, rfl, hYk⟩ := hrel
    by_cases hlt : k < L.length
    · obtain ⟨_, hcells⟩ := hInv k wr hYk
      obtain ⟨ad, rfl, hcell⟩ := hcells (by omega)
      have hx := hcell k hlt
      obtain ⟨fn, tmps, assign, body, hRy⟩ := hY k hlt
      obtain ⟨hyr, hyR⟩ := hRy _ hYk
      have HyR := Lib.hid hyR
      generalize L.getD k 0 = x at *
      clear hcell hcells hRy hyR
      unfold enc at *
      gi_wp2
      refine RoundIn.mono HyR.out ?_
      rintro e w' ⟨bv, rfl, hy1, hy2⟩
      cases bv
      · gi_wp2
        refine bodyPost_ret (results_none rfl _ _ _) rfl ?_
        exact ⟨⟨_, rfl⟩, .inr (hy2 (by first | rfl | trivial))⟩
      · gi_wp2
        go_roundw
        case rel => exact ⟨k + 1, by omega, by go_num, hy1 (by first | rfl | trivial)⟩
        case measure => simp [intOf]; omega
    · have hkk : k = L.length := by omega
      have Hkk := Lib.hid hkk
      clear hkk
      gi_wp2
      go_end0
      refine ⟨⟨_, rfl⟩, .inl ?_⟩
      rw [← Hkk.out]
      exact hYk
end Go.Proofs.Ytndciilmnnaemaa.DqI
