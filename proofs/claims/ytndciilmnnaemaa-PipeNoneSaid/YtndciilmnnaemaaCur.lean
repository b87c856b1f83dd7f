/- The contracts of cursor. -/
import Derived.Test.YtndciilmnnaemaaChg
import Derived.Test.YtndciilmnnaemaaDigCalls
set_option linter.unusedVariables false
set_option linter.unusedSimpArgs false
namespace Go.Proofs.Ytndciilmnnaemaa
open Go.RowKit Go.Proofs.YtndciilmnnaemaaW.PrintWords
namespace Cur

/-- A cursor's cells. -/
def cells (m : Bool) (A : Option Addr) (n c : Nat) (p e x : Int) : List Value := [.bool m, .slice A n c, .int .i64 p, .int .i64 e, .int .i64 x]
abbrev Is (w : World) (b : Nat) (m : Bool) (A : Option Addr) (n c : Nat) (p e x : Int) : Prop := Blk w b (cells m A n c p e x) 88

set_option maxHeartbeats 400000 in
theorem is_calls (w : World) (b : Nat) (m : Bool) (A : Option Addr) (n c : Nat) (p e x : Int) (h : Is w b m A n c p e x) :
    Calls Try.prog 92 #[.pointer (some ⟨b, 0, none⟩)] w fun r w' => r = .returned (.bool m) ∧ w = w' := by
  have q0 := Blk.cell h 0
  simp only [cells, List.getElem?_cons_zero] at q0
  clear h
  go_enter Try.func92, Try.ntmps92
  go_wp2
  go_ret
  exact ⟨rfl, rfl⟩
set_option maxHeartbeats 400000 in
theorem is_nil (w : World) : Calls Try.prog 92 #[.pointer none] w fun r w' => r = .returned (.bool false) ∧ w = w' := by
  go_enter Try.func92, Try.ntmps92
  go_wp2
  go_ret
  exact ⟨rfl, rfl⟩
set_option maxHeartbeats 400000 in
theorem goes_calls (w : World) (b : Nat) (A : Option Addr) (n c : Nat) (p e x : Int) (h : Is w b true A n c p e x) :
    Calls Try.prog 93 #[.pointer (some ⟨b, 0, none⟩)] w fun r w' => r = .returned (.bool (e == 0)) ∧ w = w' := by
  have q3 := Blk.cell h 3
  simp only [cells, List.getElem?_cons_zero, List.getElem?_cons_succ] at q3
  have HI := Lib.hid (is_calls w b true A n c p e x h)
  clear h
  go_enter Try.func93, Try.ntmps93
  go_wp2_with (go_at_call 92; refine HI.out.mono ?_; rintro r w' ⟨rfl, rfl⟩)
  go_ret
  exact ⟨rfl, rfl⟩
set_option maxHeartbeats 400000 in
theorem goes_not (w : World) (v : Value) (hi : Calls Try.prog 92 #[v] w fun r w' => r = .returned (.bool false) ∧ w = w') :
    Calls Try.prog 93 #[v] w fun r w' => r = .returned (.bool false) ∧ w = w' := by
  have HI := Lib.hid hi; clear hi
  go_enter Try.func93, Try.ntmps93
  go_wp2_with (go_at_call 92; refine HI.out.mono ?_; rintro r w' ⟨rfl, rfl⟩)
  go_ret
  exact ⟨rfl, rfl⟩
set_option maxHeartbeats 400000 in
theorem at_calls (w : World) (b : Nat) (A : Option Addr) (n c : Nat) (p e x : Int) (h : Is w b true A n c p e x) :
    Calls Try.prog 46 #[.pointer (some ⟨b, 0, none⟩)] w fun r w' => r = .returned (.int .i64 p) ∧ w = w' := by
  have q2 := Blk.cell h 2
  simp only [cells, List.getElem?_cons_zero, List.getElem?_cons_succ] at q2
  have HI := Lib.hid (is_calls w b true A n c p e x h)
  clear h
  go_enter Try.func46, Try.ntmps46
  go_wp2_with (go_at_call 92; refine HI.out.mono ?_; rintro r w' ⟨rfl, rfl⟩)
  go_ret
  exact ⟨rfl, rfl⟩
set_option maxHeartbeats 400000 in
theorem err_calls (w : World) (b : Nat) (A : Option Addr) (n c : Nat) (p e x : Int) (h : Is w b true A n c p e x) :
    Calls Try.prog 45 #[.pointer (some ⟨b, 0, none⟩)] w fun r w' => r = .returned (.tuple #[.int .i64 e, .int .i64 x]) ∧ ∃ q, w' = w.drewN q := by
  have q3 := Blk.cell h 3
  have q4 := Blk.cell h 4
  simp only [cells, List.getElem?_cons_zero, List.getElem?_cons_succ] at q3 q4
  have HI := Lib.hid (is_calls w b true A n c p e x h)
  clear h
  go_enter Try.func45, Try.ntmps45
  go_wp2_with (go_at_call 92; refine HI.out.mono ?_; rintro r w' ⟨rfl, rfl⟩)
  go_quiet (fail)
  go_wp2
  go_ret2
  exact ⟨rfl, _, rfl⟩

/-! ### In plain words -/
structure Cr where
  p : Int
  e : Int
  x : Int
def peek (l : List Int) (s : Cr) : Int × Bool := if s.e = 0 ∧ s.p < l.length then (rd l s.p, true) else (0, false)
def fail (s : Cr) (e a : Int) : Cr := if s.e = 0 ∧ e ≠ 0 then { s with e := e, x := a } else s
def byte (l : List Int) (s : Cr) (y : Int) : Cr := if (peek l s).2 = true ∧ y = (peek l s).1 then { s with p := s.p + 1 } else fail s 4 s.p
def number (l : List Int) (s : Cr) : Cr × Int := if s.e = 0 then (if (parse l s.p).2.2 = true then ({ s with p := (parse l s.p).2.1 }, (parse l s.p).1) else (fail s 4 (parse l s.p).2.1, 0)) else (s, 0)
def nums_ (l : List Int) (s : Cr) : Cr × List Int := if s.e = 0 then (if (list l s.p).2.2 = true then ({ s with p := (list l s.p).2.1 }, (list l s.p).1) else (fail s 4 (list l s.p).2.1, [])) else (s, [])
/-- A cursor that was made over the bytes l stands so. -/
abbrev At (w : World) (b : Nat) (A : Option Addr) (n c : Nat) (s : Cr) : Prop := Is w b true A n c s.p s.e s.x

set_option maxHeartbeats 400000 in
theorem next_yes (w : World) (b : Nat) (A : Option Addr) (l : List Int) (c : Nat) (p e x : Int) (h : Is w b true A l.length c p e x) (hr : Kd.C (Kd.int .u8) w A l.length l) (h0 : 0 ≤ p) (h1 : p < l.length) :
    Calls Try.prog 94 #[.pointer (some ⟨b, 1, none⟩)] w fun r w' => r = .returned (.tuple #[.int .u8 (rd l p), .bool true]) ∧ ∃ q, w' = w.drewN q := by
  have q1 := Blk.cell h 1
  have q2 := Blk.cell h 2
  simp only [cells, List.getElem?_cons_zero, List.getElem?_cons_succ] at q1 q2
  obtain ⟨ad, rfl, hx⟩ := Kd.at_int hr p h0 h1
  obtain ⟨k, rfl⟩ := Int.eq_ofNat_of_zero_le h0
  rw [Int.toNat_natCast] at hx
  clear h hr
  generalize rd l k = y at *
  generalize l.length = n at *
  have hd : decide (n ≤ k) = false := decide_eq_false (by omega)
  have hk : (k : Int) < n := h1
  go_enter Try.func94, Try.ntmps94
  go_wp2
  go_quiet (fail)
  go_wp2
  go_quiet (fail)
  go_wp2
  go_ret2
  exact ⟨rfl, _, by rw [World.drewN_drewN]⟩
set_option maxHeartbeats 400000 in
theorem next_no (w : World) (b : Nat) (A : Option Addr) (n c : Nat) (p e x : Int) (h : Is w b true A n c p e x) (h1 : ¬ p < n) :
    Calls Try.prog 94 #[.pointer (some ⟨b, 1, none⟩)] w fun r w' => r = .returned (.tuple #[.int .u8 0, .bool false]) ∧ ∃ q, w' = w.drewN q := by
  have q1 := Blk.cell h 1
  have q2 := Blk.cell h 2
  simp only [cells, List.getElem?_cons_zero, List.getElem?_cons_succ] at q1 q2
  clear h
  have hd : decide ((n : Int) ≤ p) = true := decide_eq_true (by omega)
  go_enter Try.func94, Try.ntmps94
  go_wp2
  go_quiet (fail)
  go_wp2
  go_ret2
  exact ⟨rfl, _, rfl⟩
set_option maxHeartbeats 400000 in
theorem peek_calls (w : World) (b : Nat) (A : Option Addr) (l : List Int) (c : Nat) (s : Cr) (h : At w b A l.length c s) (hr : Kd.C (Kd.int .u8) w A l.length l) (h0 : 0 ≤ s.p) :
    Calls Try.prog 48 #[.pointer (some ⟨b, 0, none⟩)] w fun r w' => r = .returned (.tuple #[.int .u8 (peek l s).1, .bool (peek l s).2]) ∧ ∃ q, w' = w.drewN q := by
  have HI := Lib.hid (goes_calls w b A l.length c s.p s.e s.x h)
  by_cases he : s.e = 0
  · have hb : (s.e == 0) = true := by simp [he]
    rw [hb] at HI
    by_cases h1 : s.p < l.length
    · have HN := Lib.hid (next_yes w b A l c s.p s.e s.x h hr h0 h1)
      unfold peek
      rw [if_pos ⟨he, h1⟩]
      clear h hr h0 h1 he hb
      go_enter Try.func48, Try.ntmps48
      go_wp2_with (go_at_call 93; refine HI.out.mono ?_; rintro r w' ⟨rfl, rfl⟩)
      refine HN.out.mono ?_
      rintro r w' ⟨rfl, q, rfl⟩
      go_wp2
      go_ret2
      exact ⟨rfl, _, rfl⟩
    · have HN := Lib.hid (next_no w b A l.length c s.p s.e s.x h h1)
      unfold peek
      rw [if_neg (fun hh => h1 hh.2)]
      clear h hr h0 h1 he hb
      go_enter Try.func48, Try.ntmps48
      go_wp2_with (go_at_call 93; refine HI.out.mono ?_; rintro r w' ⟨rfl, rfl⟩)
      refine HN.out.mono ?_
      rintro r w' ⟨rfl, q, rfl⟩
      go_wp2
      go_ret2
      exact ⟨rfl, _, rfl⟩
  · have hb : (s.e == 0) = false := by simp [he]
    rw [hb] at HI
    unfold peek
    rw [if_neg (fun hh => he hh.1)]
    clear h hr h0 he hb
    go_enter Try.func48, Try.ntmps48
    go_wp2_with (go_at_call 93; refine HI.out.mono ?_; rintro r w' ⟨rfl, rfl⟩)
    go_ret2
    exact ⟨rfl, 0, rfl⟩
end Cur
end Go.Proofs.Ytndciilmnnaemaa
