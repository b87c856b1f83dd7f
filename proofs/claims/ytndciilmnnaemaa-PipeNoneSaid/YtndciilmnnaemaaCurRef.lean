/- The contracts of cursor's reference. -/
import Derived.Test.YtndciilmnnaemaaCurB
set_option linter.unusedVariables false
set_option linter.unusedSimpArgs false
namespace Go.Proofs.Ytndciilmnnaemaa
open Go.RowKit Go.Proofs.YtndciilmnnaemaaW.PrintWords
namespace Cur

def rc (A : Option Addr) (n c : Nat) (s : Cr) : Value := .agg #[.slice A n c, .int .i64 s.p, .int .i64 s.e, .int .i64 s.x]
theorem rc_info (n : Nat) (cs : Array Value) (h : cs.size = 4) : (Try.prog.info? 69).map (·.size) = some cs.size := by
  rw [h]; kernel_rfl

set_option maxHeartbeats 1000000 in
theorem rpeek_calls (w : World) (A : Option Addr) (l : List Int) (c : Nat) (s : Cr) (hr : Kd.C (Kd.int .u8) w A l.length l) (h0 : 0 ≤ s.p) :
    Calls Try.prog 91 #[rc A l.length c s] w fun r w' => r = .returned (.tuple #[.int .u8 (peek l s).1, .bool (peek l s).2]) ∧ Below w.heap.size w w' := by
  unfold rc
  rcases s with ⟨p, e, x⟩
  simp only at *
  by_cases he : e = 0
  · subst he
    by_cases h1 : p < l.length
    · unfold peek
      rw [if_pos ⟨rfl, h1⟩]
      obtain ⟨ad, rfl, hx⟩ := Kd.at_int hr p h0 h1
      obtain ⟨k, rfl⟩ := Int.eq_ofNat_of_zero_le h0
      rw [Int.toNat_natCast] at hx
      clear hr
      have hx1 := pw_cell_below ((Below.refl w.heap.size w).alloc (Nat.le_refl _) (.cells #[.slice (some ad) l.length c, .int .i64 k, .int .i64 0, .int .i64 x] 69)) hx
      have hb := ((Below.refl w.heap.size w).alloc (Nat.le_refl _) (.cells #[.slice (some ad) l.length c, .int .i64 k, .int .i64 0, .int .i64 x] 69))
      simp only
      generalize rd l k = y at *
      generalize l.length = n at *
      have hd : decide (n ≤ k) = false := decide_eq_false (by omega)
      have hk : (k : Int) < n := h1
      go_enter Try.func91, Try.ntmps91
      go_wp2
      go_ret2
      exact ⟨rfl, hb⟩
    · unfold peek
      rw [if_neg (fun hh => h1 hh.2)]
      clear hr
      have hb := ((Below.refl w.heap.size w).alloc (Nat.le_refl _) (.cells #[.slice A l.length c, .int .i64 p, .int .i64 0, .int .i64 x] 69))
      generalize l.length = n at *
      have hd : decide ((n : Int) ≤ p) = true := decide_eq_true (by omega)
      go_enter Try.func91, Try.ntmps91
      go_wp2
      go_ret2
      exact ⟨rfl, hb⟩
  · unfold peek
    rw [if_neg (fun hh => he hh.1)]
    clear hr
    have hb := ((Below.refl w.heap.size w).alloc (Nat.le_refl _) (.cells #[.slice A l.length c, .int .i64 p, .int .i64 e, .int .i64 x] 69))
    generalize l.length = n at *
    have hd : (e != 0) = true := by simp [he]
    go_enter Try.func91, Try.ntmps91
    go_wp2
    go_ret2
    exact ⟨rfl, hb⟩
/-- Two cells' blocks were made. -/
theorem below2 (w : World) (a b : Obj) : Below w.heap.size w ((w.alloc a).alloc b) := ((Below.refl w.heap.size w).alloc (Nat.le_refl _) a).alloc (by simp) b
set_option maxHeartbeats 1000000 in
theorem rfail_calls (w : World) (A : Option Addr) (n c : Nat) (s : Cr) (e a : Int) :
    Calls Try.prog 90 #[rc A n c s, .int .i64 e, .int .i64 a] w fun r w' => r = .returned (rc A n c (fail s e a)) ∧ Below w.heap.size w w' := by
  unfold rc fail
  rcases s with ⟨p, e0, x⟩
  simp only
  by_cases h0 : e0 = 0
  · subst h0
    by_cases he : e = 0
    · subst he
      rw [if_neg (fun hh => hh.2 rfl)]
      go_enter Try.func90, Try.ntmps90
      go_wp2
      exact bodyPost_ret (results_cell_row rfl _ _ (w.heap.size + 1) _ _ (0, 0) _ rfl (heap_alloc2_new w _ _) Try.underlying69 rfl (rc_info 0 _ rfl)) rfl ⟨rfl, below2 _ _ _⟩
    · rw [if_pos ⟨rfl, he⟩]
      have hne : (e != 0) = true := by simp [he]
      clear he
      go_enter Try.func90, Try.ntmps90
      go_wp2
      exact bodyPost_ret (results_cell_row rfl _ _ (w.heap.size + 1) _ _ (0, 0) _ rfl (heap_alloc2_new w _ _) Try.underlying69 rfl (rc_info 0 _ rfl)) rfl ⟨rfl, below2 _ _ _⟩
  · rw [if_neg (fun hh => h0 hh.1)]
    have hne : (e0 == 0) = false := by simp [h0]
    go_enter Try.func90, Try.ntmps90
    go_wp2
    exact bodyPost_ret (results_cell_row rfl _ _ (w.heap.size + 1) _ _ (0, 0) _ rfl (heap_alloc2_new w _ _) Try.underlying69 rfl (rc_info 0 _ rfl)) rfl ⟨rfl, below2 _ _ _⟩
end Cur
end Go.Proofs.Ytndciilmnnaemaa
