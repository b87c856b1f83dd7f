/- The plain law of HistoryMost: so many reads, so many transactions. -/
import Derived.Test.YtlcioegdmopppaaHsQ
set_option linter.unusedSimpArgs false
namespace Go.Proofs.Ytlcioegdmopppaa.Hs
open Go.RowKit Go.Maps Go.Proofs.Ytlcioegdmopppaa.PEncodeBack Go.Proofs.YtlcioegdmopppaaW.PrintWords
open Cur (Cr At peek fail byte number nums_ Ok)
set_option linter.unusedVariables false
set_option linter.unusedSectionVars false

/-! An error stays, to the letter. -/
section
variable {l : List Int}
theorem stick_fail {c : Cr} (h : c.e ≠ 0) (e x : Int) : fail c e x = c := by unfold fail; rw [if_neg (fun hh => h hh.1)]
theorem stick_byte {c : Cr} (h : c.e ≠ 0) (y : Int) : byte l c y = c := by
  unfold byte
  rw [if_neg (fun hh => h (peek_yes hh.1).1), stick_fail h]
theorem stick_number {c : Cr} (h : c.e ≠ 0) : number l c = (c, 0) := by unfold number; rw [if_neg h]
theorem stick_nums {c : Cr} (h : c.e ≠ 0) : nums_ l c = (c, []) := by unfold nums_; rw [if_neg h]
theorem stick_peek {c : Cr} (h : c.e ≠ 0) : peek l c = (0, false) := by unfold peek; rw [if_neg (fun hh => h hh.1)]
end
theorem byte3 (l : List Int) (p x y : Int) : byte l ⟨p, 3, x⟩ y = ⟨p, 3, x⟩ := stick_byte (by simp) y
/-! What stands at a place. -/
theorem rd_at (pre post : List Int) (y : Int) : rd (pre ++ y :: post) pre.length = y := by
  unfold rd
  rw [Int.toNat_natCast, List.getD_eq_getElem?_getD, List.getElem?_append_right (Nat.le_refl _), Nat.sub_self]; rfl
theorem peek_at (pre post : List Int) (y : Int) : peek (pre ++ y :: post) ⟨(pre.length : Int), 0, 0⟩ = (y, true) := by
  unfold peek
  rw [if_pos ⟨rfl, by simp; omega⟩, rd_at]
theorem byte_at (pre post : List Int) (y : Int) : byte (pre ++ y :: post) ⟨(pre.length : Int), 0, 0⟩ y = ⟨((pre.length + 1 : Nat) : Int), 0, 0⟩ := by
  unfold byte
  rw [peek_at, if_pos ⟨rfl, rfl⟩]; rfl
theorem peek_end (l : List Int) : peek l ⟨(l.length : Int), 0, 0⟩ = (0, false) := by
  unfold peek
  rw [if_neg (fun h => by have := h.2; simp at this)]
theorem number_at (pre post : List Int) (m : Nat) (hm : m ≤ 2147483647) (hs : Stops post) : number (pre ++ (low (wd m) m ++ post)) ⟨(pre.length : Int), 0, 0⟩ = (⟨((pre.length + wd m : Nat) : Int), 0, 0⟩, (m : Int)) := by
  have h := parse_back pre post m hm hs
  rw [List.append_assoc] at h
  unfold number
  rw [if_pos rfl]
  simp only [h]
  simp
theorem nums_none (pre post : List Int) : nums_ (pre ++ 10 :: post) ⟨(pre.length : Int), 0, 0⟩ = (⟨(pre.length : Int), 0, 0⟩, []) := by
  have h : list (pre ++ 10 :: post) (pre.length : Int) = ([], (pre.length : Int), true) := by
    unfold list
    rw [if_neg (by simp; omega)]
    unfold listGo
    rw [if_neg (fun h => by
      have := h.2
      rw [Int.toNat_natCast, List.getD_eq_getElem?_getD, List.getElem?_append_right (Nat.le_refl _), Nat.sub_self] at this
      simp at this)]
  unfold nums_
  rw [if_pos rfl]
  simp only [h]
  rfl
theorem low5 : low (wd 5) 5 = [53] := by rw [wd_small (by decide)]; rfl
theorem low0 : low (wd 0) 0 = [48] := by rw [wd_small (by decide)]; rfl
theorem stops_of {y : Int} {post : List Int} (h : ¬ (48 ≤ y ∧ y ≤ 57)) : Stops (y :: post) := by
  unfold Stops
  right
  simpa using h

/-! A line 'r 5'. -/
section
variable (pre post : List Int) (most : Int) (s : RS)
def r5 : List Int := [114, 32, 53, 10]
theorem line_r5 (hc : s.c = ⟨(pre.length : Int), 0, 0⟩) (h0 : s.h ≠ []) (hm : (opsN s.h : Int) < most) :
    line (pre ++ (r5 ++ post)) most s = ⟨⟨((pre.length + 4 : Nat) : Int), 0, 0⟩, addOp s.h ⟨true, 5, 0, []⟩, s.ids, s.met⟩ := by
  have p1 : pre ++ (r5 ++ post) = pre ++ 114 :: (32 :: 53 :: 10 :: post) := by simp [r5]
  have p2 : pre ++ (r5 ++ post) = (pre ++ [114]) ++ 32 :: (53 :: 10 :: post) := by simp [r5]
  have p3 : pre ++ (r5 ++ post) = (pre ++ [114, 32]) ++ (low (wd 5) 5 ++ 10 :: post) := by rw [low5]; simp [r5]
  have p4 : pre ++ (r5 ++ post) = (pre ++ [114, 32, 53]) ++ 10 :: post := by simp [r5]
  have e1 : byte (pre ++ (r5 ++ post)) ⟨(pre.length : Int), 0, 0⟩ 114 = ⟨((pre ++ [114]).length : Int), 0, 0⟩ := by rw [p1, byte_at]; first | (simp; done) | (simp; omega)
  have e2 : byte (pre ++ (r5 ++ post)) ⟨((pre ++ [114]).length : Int), 0, 0⟩ 32 = ⟨((pre ++ [114, 32]).length : Int), 0, 0⟩ := by rw [p2, byte_at]; first | (simp; done) | (simp; omega)
  have e3 : number (pre ++ (r5 ++ post)) ⟨((pre ++ [114, 32]).length : Int), 0, 0⟩ = (⟨((pre ++ [114, 32, 53]).length : Int), 0, 0⟩, 5) := by
    rw [p3, number_at _ _ 5 (by decide) (stops_of (by decide)), wd_small (by decide)]; first | (simp; done) | (simp; omega)
  have e4 : nums_ (pre ++ (r5 ++ post)) ⟨((pre ++ [114, 32, 53]).length : Int), 0, 0⟩ = (⟨((pre ++ [114, 32, 53]).length : Int), 0, 0⟩, []) := by rw [p4, nums_none]
  have e5 : byte (pre ++ (r5 ++ post)) ⟨((pre ++ [114, 32, 53]).length : Int), 0, 0⟩ 10 = ⟨((pre.length + 4 : Nat) : Int), 0, 0⟩ := by rw [p4, byte_at]; first | (simp; done) | (simp; omega)
  have o0 : op0 (pre ++ (r5 ++ post)) most 114 s = ⟨((pre ++ [114, 32]).length : Int), 0, 0⟩ := by
    unfold op0
    rw [if_neg h0, if_neg (by omega), hc, e1, e2]
  have o1 : op1 (pre ++ (r5 ++ post)) most 114 s = ⟨((pre ++ [114, 32, 53]).length : Int), 0, 0⟩ := by unfold op1; rw [o0, e3]
  have ok : opKey (pre ++ (r5 ++ post)) most 114 s = 5 := by unfold opKey; rw [o0, e3]
  have hp : peek (pre ++ (r5 ++ post)) s.c = (114, true) := by rw [hc, p1, peek_at]
  unfold line
  rw [hp, if_neg (by decide), if_pos rfl]
  unfold reads
  rw [o1, ok, e4, e5]
  unfold fin
  rw [if_pos rfl]
theorem line_r5_over (hc : s.c = ⟨(pre.length : Int), 0, 0⟩) (h0 : s.h ≠ []) (hm : most ≤ (opsN s.h : Int)) :
    (line (pre ++ (r5 ++ post)) most s).c = ⟨(pre.length : Int), 3, (pre.length : Int)⟩ := by
  have p1 : pre ++ (r5 ++ post) = pre ++ 114 :: (32 :: 53 :: 10 :: post) := by simp [r5]
  have hp : peek (pre ++ (r5 ++ post)) s.c = (114, true) := by rw [hc, p1, peek_at]
  have hf : fail s.c 3 s.c.p = ⟨(pre.length : Int), 3, (pre.length : Int)⟩ := by rw [hc]; unfold fail; rw [if_pos ⟨rfl, by decide⟩]
  have o0 : op0 (pre ++ (r5 ++ post)) most 114 s = ⟨(pre.length : Int), 3, (pre.length : Int)⟩ := by
    unfold op0
    rw [if_neg h0, if_pos hm, hf, byte3, byte3]
  unfold line
  rw [hp, if_neg (by decide), if_pos rfl]
  unfold reads fin op1
  simp only
  rw [o0, stick_number (by simp), stick_nums (by simp), stick_byte (by simp)]
/-- So many of them. -/
def r5s : Nat → List Int
  | 0 => []
  | j + 1 => r5 ++ r5s j
theorem r5s_len : ∀ j, (r5s j).length = 4 * j
  | 0 => rfl
  | j + 1 => by rw [r5s, List.length_append, r5s_len j]; simp [r5]; omega
theorem add_ne {h : List S42} (o : S39) (h0 : h ≠ []) : addOp h o ≠ [] := by
  intro e
  have := add_len h o
  rw [e] at this
  exact h0 (List.length_eq_zero_iff.1 this.symm)
end
theorem run_r5 (most : Nat) : ∀ (j fuel : Nat) (pre : List Int) (s : RS), j < fuel → s.c = ⟨(pre.length : Int), 0, 0⟩ → s.h ≠ [] → opsN s.h ≤ most →
    (opsN s.h + j ≤ most → (lines (pre ++ r5s j) most fuel s).c.e = 0 ∧ opsN (lines (pre ++ r5s j) most fuel s).h = opsN s.h + j) ∧
    (most < opsN s.h + j → (lines (pre ++ r5s j) most fuel s).c.e = 3 ∧ (lines (pre ++ r5s j) most fuel s).c.x = (pre.length + 4 * (most - opsN s.h) : Nat))
  | 0, fuel, pre, s, hf, hc, h0, hm => by
    have hp : (peek (pre ++ r5s 0) s.c).2 = false := by rw [hc]; simp only [r5s, List.append_nil]; rw [peek_end]
    rw [peek_no hp]
    exact ⟨fun _ => ⟨by rw [hc], rfl⟩, fun h => by omega⟩
  | j + 1, 0, pre, s, hf, hc, h0, hm => by omega
  | j + 1, fuel + 1, pre, s, hf, hc, h0, hm => by
    have e : pre ++ r5s (j + 1) = pre ++ (r5 ++ r5s j) := rfl
    have p1 : pre ++ (r5 ++ r5s j) = pre ++ 114 :: (32 :: 53 :: 10 :: r5s j) := by simp [r5]
    have hp : (peek (pre ++ (r5 ++ r5s j)) s.c).2 = true := by rw [hc, p1, peek_at]
    have hl : lines (pre ++ (r5 ++ r5s j)) most (fuel + 1) s = lines (pre ++ (r5 ++ r5s j)) most fuel (line (pre ++ (r5 ++ r5s j)) most s) := by conv => lhs; unfold lines; rw [if_pos hp]
    rw [e, hl]
    by_cases hlt : opsN s.h < most
    · rw [line_r5 pre (r5s j) most s hc h0 (by omega)]
      have hadd := opsN_add s.h ⟨true, 5, 0, []⟩ h0
      have ih := run_r5 most j fuel (pre ++ r5) ⟨⟨((pre.length + 4 : Nat) : Int), 0, 0⟩, addOp s.h ⟨true, 5, 0, []⟩, s.ids, s.met⟩ (by omega) (by simp [r5]) (add_ne _ h0) (by rw [hadd]; omega)
      rw [List.append_assoc] at ih
      simp only [hadd] at ih
      refine ⟨fun h => ?_, fun h => ?_⟩
      · have := ih.1 (by omega)
        exact ⟨this.1, by rw [this.2]; omega⟩
      · have := ih.2 (by omega)
        refine ⟨this.1, ?_⟩
        rw [this.2]
        simp [r5]
        omega
    · have hc2 := line_r5_over pre (r5s j) most s hc h0 (by omega)
      have hp2 : (peek (pre ++ (r5 ++ r5s j)) (line (pre ++ (r5 ++ r5s j)) most s).c).2 = false := by rw [hc2, stick_peek (by simp)]
      rw [peek_no hp2, hc2]
      exact ⟨fun h => by omega, fun _ => ⟨rfl, by simp; omega⟩⟩

/-! A line 't m x'. -/
def tl (m : Nat) (x : Int) : List Int := [116, 32] ++ (low (wd m) m ++ [32, x, 10])
section
variable (pre post : List Int) (most : Int) (s : RS) (m : Nat) (x : Int)
theorem line_tl (hm : m ≤ 2147483647) (hx : x = 97 ∨ x = 99) (hc : s.c = ⟨(pre.length : Int), 0, 0⟩) (hh : s.h.length < 1024) (hi : (m : Int) ∉ s.ids) :
    line (pre ++ (tl m x ++ post)) most s = ⟨⟨((pre.length + wd m + 5 : Nat) : Int), 0, 0⟩, s.h ++ [⟨(m : Int), decide (x = 97), []⟩], (m : Int) :: s.ids, s.met⟩ := by
  generalize hl : pre ++ (tl m x ++ post) = l
  have p1 : l = pre ++ 116 :: (32 :: (low (wd m) m ++ (32 :: x :: 10 :: post))) := by rw [← hl]; simp [tl]
  have p2 : l = (pre ++ [116]) ++ 32 :: (low (wd m) m ++ (32 :: x :: 10 :: post)) := by rw [← hl]; simp [tl]
  have p3 : l = (pre ++ [116, 32]) ++ (low (wd m) m ++ (32 :: x :: 10 :: post)) := by rw [← hl]; simp [tl]
  have p4 : l = (pre ++ [116, 32] ++ low (wd m) m) ++ 32 :: (x :: 10 :: post) := by rw [← hl]; simp [tl]
  have p5 : l = (pre ++ [116, 32] ++ low (wd m) m ++ [32]) ++ x :: (10 :: post) := by rw [← hl]; simp [tl]
  have p6 : l = (pre ++ [116, 32] ++ low (wd m) m ++ [32, x]) ++ 10 :: post := by rw [← hl]; simp [tl]
  have e1 : byte l ⟨(pre.length : Int), 0, 0⟩ 116 = ⟨((pre ++ [116]).length : Int), 0, 0⟩ := by rw [p1, byte_at]; first | (simp; done) | (simp; omega)
  have e2 : byte l ⟨((pre ++ [116]).length : Int), 0, 0⟩ 32 = ⟨((pre ++ [116, 32]).length : Int), 0, 0⟩ := by rw [p2, byte_at]; first | (simp; done) | (simp; omega)
  have e3 : number l ⟨((pre ++ [116, 32]).length : Int), 0, 0⟩ = (⟨((pre ++ [116, 32] ++ low (wd m) m).length : Int), 0, 0⟩, (m : Int)) := by
    rw [p3, number_at _ _ m hm (stops_of (by decide))]; simp [low_length]; omega
  have e4 : byte l ⟨((pre ++ [116, 32] ++ low (wd m) m).length : Int), 0, 0⟩ 32 = ⟨((pre ++ [116, 32] ++ low (wd m) m ++ [32]).length : Int), 0, 0⟩ := by
    conv => lhs; rw [p4]
    rw [byte_at]; first | (simp [low_length]; done) | (simp [low_length]; omega)
  have e5 : peek l ⟨((pre ++ [116, 32] ++ low (wd m) m ++ [32]).length : Int), 0, 0⟩ = (x, true) := by
    conv => lhs; rw [p5]
    rw [peek_at]
  have e6 : byte l ⟨((pre ++ [116, 32] ++ low (wd m) m ++ [32]).length : Int), 0, 0⟩ x = ⟨((pre ++ [116, 32] ++ low (wd m) m ++ [32, x]).length : Int), 0, 0⟩ := by
    conv => lhs; rw [p5]
    rw [byte_at]; first | (simp [low_length]; done) | (simp [low_length]; omega)
  have e7 : byte l ⟨((pre ++ [116, 32] ++ low (wd m) m ++ [32, x]).length : Int), 0, 0⟩ 10 = ⟨((pre.length + wd m + 5 : Nat) : Int), 0, 0⟩ := by
    conv => lhs; rw [p6]
    rw [byte_at]; first | (simp [low_length]; done) | (simp [low_length]; omega)
  have hp : peek l s.c = (116, true) := by rw [hc, p1, peek_at]
  unfold line
  rw [hp, if_neg (by decide), if_neg (by decide), if_pos rfl]
  unfold txn
  rw [if_neg (by omega)]
  unfold txnFrom
  rw [hc, e1, e2]
  unfold txnNum
  rw [e3, if_neg (fun h => hi h.1)]
  unfold txnEnd
  rw [e4, e5]
  have hxx : (if x = 97 then (97 : Int) else 99) = x := by rcases hx with rfl | rfl <;> rfl
  simp only [hxx]
  rw [e6, e7]
  rfl
theorem line_tl_over (hc : s.c = ⟨(pre.length : Int), 0, 0⟩) (hh : 1024 ≤ s.h.length) :
    (line (pre ++ (tl m x ++ post)) most s).c = ⟨(pre.length : Int), 3, (pre.length : Int)⟩ := by
  generalize hl : pre ++ (tl m x ++ post) = l
  have p1 : l = pre ++ 116 :: (32 :: (low (wd m) m ++ (32 :: x :: 10 :: post))) := by rw [← hl]; simp [tl]
  have hp : peek l s.c = (116, true) := by rw [hc, p1, peek_at]
  have hf : fail s.c 3 s.c.p = ⟨(pre.length : Int), 3, (pre.length : Int)⟩ := by rw [hc]; unfold fail; rw [if_pos ⟨rfl, by decide⟩]
  unfold line
  rw [hp, if_neg (by decide), if_neg (by decide), if_pos rfl]
  unfold txn
  rw [if_pos hh, hf]
  unfold txnFrom
  rw [byte3, byte3]
  unfold txnNum
  rw [stick_number (by simp), if_neg (fun h => by simp at h)]
  unfold txnEnd push
  simp only
  rw [byte3, byte3, byte3]
end
/-- So many transactions, from number k on. -/
def tls : Nat → Nat → List Int
  | _, 0 => []
  | k, j + 1 => tl (1000 + k) 99 ++ tls (k + 1) j
theorem run_tl (most : Int) : ∀ (j fuel k : Nat) (pre : List Int) (s : RS), k + j ≤ 9000 → j < fuel → s.c = ⟨(pre.length : Int), 0, 0⟩ → s.h.length = k → k ≤ 1024 → (∀ i ∈ s.ids, i < 1000 + (k : Int)) →
    (k + j ≤ 1024 → (lines (pre ++ tls k j) most fuel s).c.e = 0 ∧ (lines (pre ++ tls k j) most fuel s).h.length = k + j) ∧
    (1024 < k + j → (lines (pre ++ tls k j) most fuel s).c.e = 3 ∧ (lines (pre ++ tls k j) most fuel s).c.x = (pre.length + 9 * (1024 - k) : Nat))
  | 0, fuel, k, pre, s, hj, hf, hc, hk, hm, hi => by
    have hp : (peek (pre ++ tls k 0) s.c).2 = false := by rw [hc]; simp only [tls, List.append_nil]; rw [peek_end]
    rw [peek_no hp]
    exact ⟨fun _ => ⟨by rw [hc], by omega⟩, fun h => by omega⟩
  | j + 1, 0, k, pre, s, hj, hf, hc, hk, hm, hi => by omega
  | j + 1, fuel + 1, k, pre, s, hj, hf, hc, hk, hm, hi => by
    have e : pre ++ tls k (j + 1) = pre ++ (tl (1000 + k) 99 ++ tls (k + 1) j) := rfl
    have p1 : pre ++ (tl (1000 + k) 99 ++ tls (k + 1) j) = pre ++ 116 :: (32 :: (low (wd (1000 + k)) (1000 + k) ++ (32 :: 99 :: 10 :: tls (k + 1) j))) := by simp [tl]
    have hp : (peek (pre ++ (tl (1000 + k) 99 ++ tls (k + 1) j)) s.c).2 = true := by rw [hc, p1, peek_at]
    have hl : lines (pre ++ (tl (1000 + k) 99 ++ tls (k + 1) j)) most (fuel + 1) s = lines (pre ++ (tl (1000 + k) 99 ++ tls (k + 1) j)) most fuel (line (pre ++ (tl (1000 + k) 99 ++ tls (k + 1) j)) most s) := by conv => lhs; unfold lines; rw [if_pos hp]
    have hw : wd (1000 + k) = 4 := by
      rw [wd_big (by omega), wd_big (by omega), wd_big (by omega), wd_small (by omega)]
    have hlen : (tl (1000 + k) 99).length = 9 := by simp [tl, low_length, hw]
    rw [e, hl]
    by_cases hlt : k < 1024
    · rw [line_tl pre (tls (k + 1) j) most s (1000 + k) 99 (by omega) (.inr rfl) hc (by omega) (fun h => by have := hi _ h; omega)]
      have ih := run_tl most j fuel (k + 1) (pre ++ tl (1000 + k) 99) ⟨⟨((pre.length + wd (1000 + k) + 5 : Nat) : Int), 0, 0⟩, s.h ++ [⟨((1000 + k : Nat) : Int), decide ((99 : Int) = 97), []⟩], ((1000 + k : Nat) : Int) :: s.ids, s.met⟩ (by omega) (by omega) (by first | (simp [hlen, hw]; done) | (simp [hlen, hw]; omega)) (by simp [hk]) (by omega) (fun i hi2 => by
        rcases List.mem_cons.1 hi2 with rfl | hi2
        · omega
        · have := hi i hi2; omega)
      rw [List.append_assoc] at ih
      refine ⟨fun h => ?_, fun h => ?_⟩
      · have := ih.1 (by omega)
        exact ⟨this.1, by rw [this.2]; omega⟩
      · have := ih.2 (by omega)
        refine ⟨this.1, ?_⟩
        rw [this.2, List.length_append, hlen]
        omega
    · have hc2 := line_tl_over pre (tls (k + 1) j) most s (1000 + k) 99 hc (by omega)
      have hp2 : (peek (pre ++ (tl (1000 + k) 99 ++ tls (k + 1) j)) (line (pre ++ (tl (1000 + k) 99 ++ tls (k + 1) j)) most s).c).2 = false := by rw [hc2, stick_peek (by simp)]
      rw [peek_no hp2, hc2]
      exact ⟨fun h => by omega, fun _ => ⟨rfl, by simp; omega⟩⟩
theorem r5s_snoc : ∀ k, r5s (k + 1) = r5s k ++ r5
  | 0 => by simp [r5s]
  | k + 1 => by
    have h := r5s_snoc k
    calc r5s (k + 1 + 1) = r5 ++ r5s (k + 1) := rfl
      _ = r5 ++ (r5s k ++ r5) := by rw [h]
      _ = (r5 ++ r5s k) ++ r5 := (List.append_assoc _ _ _).symm
      _ = r5s (k + 1) ++ r5 := rfl
theorem tls_snoc : ∀ (j k : Nat), tls k (j + 1) = tls k j ++ tl (1000 + (k + j)) 99
  | 0, k => by simp [tls]
  | j + 1, k => by
    have := tls_snoc j (k + 1)
    rw [tls, this]
    conv => rhs; rw [tls]
    rw [List.append_assoc]
    congr 3
    omega
theorem tl_bytes (m : Nat) (x : Int) (hx : x = 97 ∨ x = 99) : Bytes (tl m x) := fun y hy => by
  simp only [tl, List.mem_append, List.mem_cons, List.not_mem_nil, or_false] at hy
  rcases hy with (rfl | rfl) | h | rfl | rfl | rfl
  · decide
  · decide
  · exact low_bytes _ _ y h
  · decide
  · omega
  · decide
theorem r5s_bytes : ∀ j, Bytes (r5s j)
  | 0 => fun y hy => by simp [r5s] at hy
  | j + 1 => fun y hy => by
    rw [r5s] at hy
    rcases List.mem_append.1 hy with h | h
    · simp only [r5, List.mem_cons, List.not_mem_nil, or_false] at h
      rcases h with rfl | rfl | rfl | rfl <;> decide
    · exact r5s_bytes j y h
theorem tls_bytes : ∀ j k, Bytes (tls k j)
  | 0, k => fun y hy => by simp [tls] at hy
  | j + 1, k => fun y hy => by
    rw [tls] at hy
    rcases List.mem_append.1 hy with h | h
    · exact tl_bytes _ _ (.inr rfl) y h
    · exact tls_bytes j _ y h
theorem tl_four {k : Nat} (hk : k < 9000) : tl (1000 + k) 99 = [116, 32, ((49 + k / 1000 : Nat) : Int), ((48 + k / 100 % 10 : Nat) : Int), ((48 + k / 10 % 10 : Nat) : Int), ((48 + k % 10 : Nat) : Int), 32, 99, 10] := by
  have hw : wd (1000 + k) = 4 := by rw [wd_big (by omega), wd_big (by omega), wd_big (by omega), wd_small (by omega)]
  unfold tl
  rw [hw]
  simp only [low, List.cons_append, List.nil_append]
  congr 3
  · omega
  · congr 1
    · omega
    · congr 1
      · omega
      · congr 1
        omega
theorem tls_len : ∀ j k, k + j ≤ 9000 → (tls k j).length = 9 * j
  | 0, k, h => rfl
  | j + 1, k, h => by
    rw [tls, List.length_append, tls_len j (k + 1) (by omega), tl_four (by omega)]
    simp
    omega
/-- So many reads. -/
def rds (n : Nat) : List Int := tl 0 97 ++ r5s n
theorem tl0 : tl 0 97 = [116, 32, 48, 32, 97, 10] := by unfold tl; rw [low0]; rfl
theorem rds_len (n : Nat) : (rds n).length = 6 + 4 * n := by rw [rds, List.length_append, r5s_len, tl0]; rfl
theorem last_rds (n most : Nat) : ∃ fuel, n < fuel ∧ last (rds n) most = lines (rds n) most fuel ⟨⟨6, 0, 0⟩, [⟨0, true, []⟩], [0], []⟩ := by
  have hp : (peek (rds n) start.c).2 = true := by
    have := peek_at [] (32 :: (low (wd 0) 0 ++ [32, 97, 10]) ++ r5s n) 116
    have e : rds n = [] ++ 116 :: (32 :: (low (wd 0) 0 ++ [32, 97, 10]) ++ r5s n) := by simp [rds, tl]
    rw [e, show start.c = (⟨(([] : List Int).length : Int), 0, 0⟩ : Cr) from rfl, this]
  refine ⟨(rds n).length, by rw [rds_len]; omega, ?_⟩
  have hl : last (rds n) most = lines (rds n) most (rds n).length (line (rds n) most start) := by unfold last; conv => lhs; unfold lines; rw [if_pos hp]
  rw [hl]
  have h1 := line_tl [] (r5s n) most start 0 97 (by decide) (.inl rfl) rfl (by decide) (by simp [start])
  rw [List.nil_append] at h1
  unfold rds
  rw [h1, wd_small (by decide)]
  rfl
theorem dec_rds (n most : Nat) (hn : n ≤ 5000) (hm : most ≤ 4096) : (n ≤ most → ∃ h, decP (rds n) most = (h, 0, 0) ∧ opsN h = n) ∧ (most < n → decP (rds n) most = ([], 3, ((6 + 4 * most : Nat) : Int))) := by
  obtain ⟨fuel, hf, hl⟩ := last_rds n most
  have hr := run_r5 most n fuel (tl 0 97) ⟨⟨6, 0, 0⟩, [⟨0, true, []⟩], [0], []⟩ hf (by rw [tl0]; rfl) (by simp) (by simp [opsN])
  rw [show tl 0 97 ++ r5s n = rds n from rfl, ← hl] at hr
  have h6 : (tl 0 97).length = 6 := by rw [tl0]; rfl
  have h0 : opsN [(⟨0, true, []⟩ : S42)] = 0 := rfl
  simp only [h0, h6, Nat.zero_add, Nat.sub_zero] at hr
  have hlen := rds_len n
  unfold decP
  rw [if_neg (by omega), if_neg (by omega)]
  refine ⟨fun h => ?_, fun h => ?_⟩
  · have := hr.1 h
    exact ⟨_, by rw [if_pos this.1], this.2⟩
  · have := hr.2 h
    rw [if_neg (by omega), this.1, this.2]
theorem dec_tls (n most : Nat) (hn : n ≤ 5000) (hm : most ≤ 4096) : (n ≤ 1024 → ∃ h, decP (tls 0 n) most = (h, 0, 0) ∧ h.length = n) ∧ (1024 < n → decP (tls 0 n) most = ([], 3, 9216)) := by
  have hlen := tls_len n 0 (by omega)
  have hr := run_tl most n ((tls 0 n).length + 1) 0 [] start (by omega) (by omega) rfl rfl (by decide) (by simp [start])
  rw [List.nil_append] at hr
  unfold decP last
  rw [if_neg (by omega), if_neg (by omega)]
  refine ⟨fun h => ?_, fun h => ?_⟩
  · have := hr.1 (by omega)
    exact ⟨_, by rw [if_pos this.1], by rw [this.2]; omega⟩
  · have := hr.2 (by omega)
    rw [if_neg (by omega), this.1, this.2]
    rfl
end Go.Proofs.Ytlcioegdmopppaa.Hs
