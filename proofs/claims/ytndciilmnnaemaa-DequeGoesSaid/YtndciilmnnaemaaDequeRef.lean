/- The reference of deque: Pop and Steal of a row that is read. -/
import Derived.Test.YtndciilmnnaemaaSteps
import Derived.Test.YtndciilmnnaemaaDequeIntE
set_option linter.unusedVariables false
set_option linter.unusedSimpArgs false
namespace Go.Proofs.Ytndciilmnnaemaa.DqI
open Go.RowKit Go.Shelf Go.Proofs.YtndciilmnnaemaaW.PrintWords

theorem enc_one {l : List Int} : ∀ u ∈ l.map enc, u.oneCell' = true := by
  intro u hu
  obtain ⟨x, _, rfl⟩ := List.mem_map.1 hu
  rfl
theorem getD_enc (l : List Int) (j : Nat) : (l.map enc)[j]? = (l[j]?).map enc := by simp

set_option maxHeartbeats 400000 in
theorem ref_pop_empty (w : World) (A : Option Addr) (c : Nat) : Calls Try.prog 31 #[.slice A 0 c] w fun e w' => e = .returned (.tuple #[.slice A 0 c, .int .i64 0, .bool false]) ∧ w = w' := by
  go_enter Try.func31, Try.ntmps31
  go_wp2
  go_ret3
  exact ⟨rfl, rfl⟩
set_option maxHeartbeats 400000 in
theorem ref_steal_empty (w : World) (A : Option Addr) (c : Nat) : Calls Try.prog 33 #[.slice A 0 c] w fun e w' => e = .returned (.tuple #[.slice A 0 c, .int .i64 0, .bool false]) ∧ w = w' := by
  go_enter Try.func33, Try.ntmps33
  go_wp2
  go_ret3
  exact ⟨rfl, rfl⟩

set_option maxHeartbeats 1000000 in
theorem ref_pop (w : World) (ad : Addr) (c : Nat) (L : List Int) (x : Int) (hr : Cells w (some ad) ((L ++ [x]).map enc)) (hL : L.length ≤ 1000000000) (hc : L.length + 1 ≤ c) :
    Calls Try.prog 31 #[.slice (some ad) (L.length + 1) c] w fun e w' => ∃ v, e = .returned (.tuple #[v, enc x, .bool true]) ∧ w'.ownsRow w.heap.size 3 1 v L.length (L.map enc) ∧ Below w.heap.size w w' := by
  have hx : w.cell? (ad.add L.length) = some (enc x) := by
    obtain ⟨ad', e, h⟩ := hr (by simp)
    injection e with e; subst e
    exact h _ _ (by simp)
  have hR : Cells w (some ad) (L.map enc) := by
    have := hr.take L.length
    simpa [List.take_append_of_le_length] using this
  have HR := Lib.hid hR
  have hE := Lib.hid (@enc_one L)
  have hN : Hid ((L.map enc).length = L.length) := Lib.hid (List.length_map _)
  clear hr hR
  generalize L.map enc = ys at *
  generalize L.length = n at *
  unfold enc at *
  go_enter Try.func31, Try.ntmps31
  go_wp2
  have hb0 : Below w.heap.size w (w.alloc (.cells #[] 3)).drew := ((Below.refl w.heap.size w).alloc (Nat.le_refl _) _).drew
  have hx0 : w.drew.cell? (ad.add n) = some (Value.int IntKind.i64 x) := hx
  have hx1 := pw_cell_below hb0 hx
  have ho1 : (w.alloc (.cells #[] 3)).drew.ownsRow w.heap.size 3 1 (.slice (some ⟨w.heap.size, 0, none⟩) 0 0) 0 [] := World.ownsRow_lit (base := w.heap.size) (e := 3) (size := 1) w #[] 0 (by simp) (by simp [maxLen]) (by simp)
  have HO1 := Lib.hid ho1; clear ho1
  have HB0 := Lib.hid hb0; clear hb0
  have hnc : n ≤ c := by omega
  have hlt : (n : Int) < n + 1 := by omega
  have hx3 := pw_cell_below ((Below.refl w.heap.size w).alloc (Nat.le_refl _) (.cells #[] 3)) hx
  go_region_law (refine step_app (w0 := w) w.heap.size rfl (.tmp 13) (.tmp 16) 27 3 (Value.int .i64 0) 8 rfl Try.underlying27 elem_info rfl (by decide) (.slice (some ⟨w.heap.size, 0, none⟩) 0 0) [] ys (some ad) 0 n c rfl rfl rfl hN.out HO1.out (HR.out.below HB0.out) hE.out HB0.out (by simp) (by omega) ?_; intro A1 c1 w1 hown hb hg hat hc1; have hx2 := pw_cell_below hb hx)
  all_goals
    go_wp2
    go_ret3
    refine ⟨.slice A1 n c1, rfl, ?_, hb⟩
    simpa using hown
set_option maxHeartbeats 1000000 in
theorem ref_steal (w : World) (ad : Addr) (c : Nat) (L : List Int) (x : Int) (hr : Cells w (some ad) ((x :: L).map enc)) (hL : L.length ≤ 1000000000) (hc : L.length + 1 ≤ c) :
    Calls Try.prog 33 #[.slice (some ad) (L.length + 1) c] w fun e w' => ∃ v, e = .returned (.tuple #[v, enc x, .bool true]) ∧ w'.ownsRow w.heap.size 3 1 v L.length (L.map enc) ∧ Below w.heap.size w w' := by
  have hx : w.cell? ad = some (enc x) := by
    obtain ⟨ad', e, h⟩ := hr (by simp)
    injection e with e; subst e
    have := h 0 _ rfl
    simpa [Addr.add] using this
  have hR : Cells w (if c = 1 then some ad else some { block := ad.block, off := ad.off + 1 }) (L.map enc) := by
    by_cases h1 : c = 1
    · rw [if_pos h1]
      intro h0
      simp at h0
      omega
    · rw [if_neg h1]
      have := hr.drop 1
      simpa [Addr.add] using this
  have HR := Lib.hid hR
  have hE := Lib.hid (@enc_one L)
  have hN : Hid ((L.map enc).length = L.length) := Lib.hid (List.length_map _)
  clear hr hR
  generalize L.map enc = ys at *
  generalize L.length = n at *
  unfold enc at *
  go_enter Try.func33, Try.ntmps33
  go_wp2
  have hb0 : Below w.heap.size w (w.alloc (.cells #[] 3)).drew := ((Below.refl w.heap.size w).alloc (Nat.le_refl _) _).drew
  have hx0 : w.drew.cell? ad = some (Value.int IntKind.i64 x) := hx
  have hx1 := pw_cell_below hb0 hx
  have ho1 : (w.alloc (.cells #[] 3)).drew.ownsRow w.heap.size 3 1 (.slice (some ⟨w.heap.size, 0, none⟩) 0 0) 0 [] := World.ownsRow_lit (base := w.heap.size) (e := 3) (size := 1) w #[] 0 (by simp) (by simp [maxLen]) (by simp)
  have HO1 := Lib.hid ho1; clear ho1
  have HB0 := Lib.hid hb0; clear hb0
  have hnc : n ≤ c := by omega
  have hlt : (0 : Int) < n + 1 := by omega
  have hle : (1 : Int) ≤ n + 1 := by omega
  have hnc1 : n + 1 ≤ c := by omega
  have hx3 := pw_cell_below ((Below.refl w.heap.size w).alloc (Nat.le_refl _) (.cells #[] 3)) hx
  go_region_law (refine step_app (w0 := w) w.heap.size rfl (.tmp 9) (.tmp 11) 27 3 (Value.int .i64 0) 8 rfl Try.underlying27 elem_info rfl (by decide) (.slice (some ⟨w.heap.size, 0, none⟩) 0 0) [] ys (if c = 1 then some ad else some { block := ad.block, off := ad.off + 1 }) 0 n (c - 1) rfl rfl rfl hN.out HO1.out (HR.out.below HB0.out) hE.out HB0.out (by simp) (by omega) ?_; intro A1 c1 w1 hown hb hg hat hc1; have hx2 := pw_cell_below hb hx)
  all_goals
    go_wp2
    all_goals
      go_ret3
      refine ⟨.slice A1 n c1, rfl, ?_, hb⟩
      simpa using hown
end Go.Proofs.Ytndciilmnnaemaa.DqI
