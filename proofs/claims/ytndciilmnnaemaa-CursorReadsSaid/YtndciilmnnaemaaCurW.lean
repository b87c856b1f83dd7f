/- Law 02: what an act does, in plain words; works. -/
import Derived.Test.YtndciilmnnaemaaCurRefD
set_option linter.unusedVariables false
set_option linter.unusedSimpArgs false
namespace Go.Proofs.Ytndciilmnnaemaa
open Go.RowKit Go.Proofs.YtndciilmnnaemaaW.PrintWords
namespace Cur

theorem listGo_to (l : List Int) : ∀ (d : Nat) (a : Int) (out : List Int), 0 ≤ a → a ≤ l.length → a ≤ (listGo l d a out).2.1 ∧ (listGo l d a out).2.1 ≤ l.length := by
  intro d
  induction d with
  | zero => intro a out h0 h1; simp [listGo]; omega
  | succ d ih =>
    intro a out h0 h1
    rw [listGo]
    split
    · rename_i hc
      have ht := parse_to l (a + 1) (by omega) (by omega)
      dsimp only
      split
      · have := ih (parse l (a + 1)).2.1 (out ++ [(parse l (a + 1)).1]) (by omega) (by omega)
        omega
      · dsimp only; omega
    · dsimp only; omega
theorem list_to (l : List Int) (a : Int) (h0 : 0 ≤ a) (h1 : a ≤ l.length) : a ≤ (list l a).2.1 ∧ (list l a).2.1 ≤ l.length := by
  unfold list
  rw [if_neg (by omega)]
  exact listGo_to l _ a [] h0 h1

/-- A cursor's place lies in its bytes. -/
def Ok (l : List Int) (s : Cr) : Prop := 0 ≤ s.p ∧ s.p ≤ l.length
theorem ok_fail {l : List Int} {s : Cr} (h : Ok l s) (e a : Int) : Ok l (fail s e a) := by
  unfold fail; split <;> exact h
theorem ok_byte {l : List Int} {s : Cr} (h : Ok l s) (y : Int) : Ok l (byte l s y) := by
  unfold byte
  split
  · rename_i hh
    have hp : s.p < l.length := by
      have := hh.1
      unfold peek at this
      split at this
      · rename_i h2; exact h2.2
      · simp at this
    exact ⟨by have := h.1; simp only; omega, by simp only; omega⟩
  · exact ok_fail h _ _
theorem ok_number {l : List Int} {s : Cr} (h : Ok l s) : Ok l (number l s).1 := by
  have := parse_to l s.p h.1 h.2
  unfold number
  split
  · split
    · exact ⟨by have := h.1; simp only; omega, by simp only; omega⟩
    · exact ok_fail h _ _
  · exact h
theorem ok_nums {l : List Int} {s : Cr} (h : Ok l s) : Ok l (nums_ l s).1 := by
  have := list_to l s.p h.1 h.2
  unfold nums_
  split
  · split
    · exact ⟨by have := h.1; simp only; omega, by simp only; omega⟩
    · exact ok_fail h _ _
  · exact h

set_option maxHeartbeats 400000 in
theorem new_calls (w : World) (A : Option Addr) (n c : Nat) : Calls Try.prog 43 #[.slice A n c] w fun r w' => r = .returned (.pointer (some ⟨w.heap.size, 0, none⟩)) ∧ At w' w.heap.size A n c ⟨0, 0, 0⟩ ∧ Below w.heap.size w w' := by
  go_enter Try.func43, Try.ntmps43
  go_wp2
  go_ret
  exact ⟨rfl, Blk.new w (cells true A n c 0 0 0) _, (Below.refl w.heap.size w).alloc (Nat.le_refl _) _⟩

set_option maxRecDepth 100000 in
set_option maxHeartbeats 2000000 in
theorem works02 (w : World) : Calls Try.prog 42 #[] w fun e w' => e = .returned (.bool true) ∧ Below w.heap.size w w' := by
  have kc := fun (w : World) (C : Array Value) (n c : Nat) => Lib.run_convert_bytes_const (P := Try.prog) w 22 5 C n c Try.underlying22 Try.underlying5
  go_enter Try.func42, Try.ntmps42
  go_wp2_with fail
  refine (new_calls _ _ _ _).mono ?_
  rintro r w1 ⟨rfl, h1, hb1⟩
  have hC : Kd.C (Kd.int .u8) (w.alloc (.cells #[.int .u8 116, .int .u8 32, .int .u8 55, .int .u8 120] 5 (4, 5))) (some ⟨w.heap.size, 0, none⟩) 4 [116, 32, 55, 120] := C_laid (t := 5) (fz := (4, 5)) [116, 32, 55, 120] (by decide) (alloc_at _ _)
  have hbA := (Below.refl w.heap.size w).alloc (Nat.le_refl _) (.cells #[.int .u8 116, .int .u8 32, .int .u8 55, .int .u8 120] 5 (4, 5))
  generalize (w.alloc (.cells #[.int .u8 116, .int .u8 32, .int .u8 55, .int .u8 120] 5 (4, 5))) = wA at *
  have hB : Bytes [116, 32, 55, 120] := by unfold Bytes; decide
  have step : ∀ {wi wj : World}, Below wA.heap.size wA wi → Chg (fun k => k = wA.heap.size) wi wj → Below wA.heap.size wA wj := fun h hc => h.trans (hc.below h.size (fun i hi => by rw [hi]; exact Nat.le_refl _))
  clear kc
  go_wp2_with fail
  refine (byte_calls w1 _ _ [116, 32, 55, 120] _ _ h1 (Kd.C_below hC hb1) (by decide) (by decide) 116).mono ?_
  rintro r w2 ⟨rfl, h2, hc2⟩
  rw [show byte [116, 32, 55, 120] ⟨0, 0, 0⟩ 116 = ⟨1, 0, 0⟩ from rfl] at h2
  have hb2 := step hb1 hc2
  clear h1 hb1 hc2
  go_wp2_with fail
  refine (byte_calls w2 _ _ [116, 32, 55, 120] _ _ h2 (Kd.C_below hC hb2) (by decide) (by decide) 32).mono ?_
  rintro r w3 ⟨rfl, h3, hc3⟩
  rw [show byte [116, 32, 55, 120] ⟨1, 0, 0⟩ 32 = ⟨2, 0, 0⟩ from rfl] at h3
  have hb3 := step hb2 hc3
  clear h2 hb2 hc3
  go_wp2_with fail
  refine (number_calls w3 _ _ [116, 32, 55, 120] _ _ h3 (Kd.C_below hC hb3) (by decide) hB (by decide)).mono ?_
  rintro r w4 ⟨rfl, h4, hc4⟩
  rw [show number [116, 32, 55, 120] ⟨2, 0, 0⟩ = (⟨3, 0, 0⟩, 7) from rfl] at h4 ⊢
  have hb4 := step hb3 hc4
  clear h3 hb3 hc4
  go_wp2_with fail
  refine (peek_calls w4 _ _ [116, 32, 55, 120] _ _ h4 (Kd.C_below hC hb4) (by decide)).mono ?_
  rintro r w5 ⟨rfl, q, rfl⟩
  rw [show peek [116, 32, 55, 120] ⟨3, 0, 0⟩ = (120, true) from rfl]
  replace h4 := At.drewN h4 q
  have hb5 := pw_below_drewN hb4 q
  clear hb4
  generalize w4.drewN q = w5 at *
  go_wp2_with fail
  refine (byte_calls w5 _ _ [116, 32, 55, 120] _ _ h4 (Kd.C_below hC hb5) (by decide) (by decide) 121).mono ?_
  rintro r w6 ⟨rfl, h6, hc6⟩
  rw [show byte [116, 32, 55, 120] ⟨3, 0, 0⟩ 121 = ⟨3, 4, 3⟩ from rfl] at h6
  have hb6 := step hb5 hc6
  clear h4 hb5 hc6
  go_wp2_with fail
  refine (err_calls w6 _ _ _ _ _ _ _ h6).mono ?_
  rintro r w7 ⟨rfl, q2, rfl⟩
  replace h6 := At.drewN h6 q2
  have hb7 := pw_below_drewN hb6 q2
  clear hb6
  generalize w6.drewN q2 = w7 at *
  go_wp2_with fail
  refine (at_calls w7 _ _ _ _ _ _ _ h6).mono ?_
  rintro r w8 ⟨rfl, rfl⟩
  go_wp2
  go_ret
  exact ⟨rfl, hbA.trans (hb7.mono hbA.size)⟩
end Cur
end Go.Proofs.Ytndciilmnnaemaa
