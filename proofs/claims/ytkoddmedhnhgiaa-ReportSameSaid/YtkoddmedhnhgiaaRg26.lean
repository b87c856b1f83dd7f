/- Printed by shake.py. -/
import Derived.Test.YtkoddmedhnhgiaaProg
import Derived.WalkKit
import Derived.WalkSpells
import Derived.WalkLawsBesides
import Derived.Lib.Hide
import Derived.IntWalk
import Derived.Deep.QuietTactic
import Derived.BigQuiet
import Derived.Deep.LoopGhost
import Derived.Deep.DeepCutAuto
import Derived.Laws.Rows
import Derived.Test.YtkoddmedhnhgiaaRg20
import Derived.Shelf.SlSortCmp.KitK
import Derived.Lib.LazyBuf
import Derived.Lib.SliceRun
import Derived.Test.YtkoddmedhnhgiaaRg22
import Derived.Test.YtkoddmedhnhgiaaRg23
import Derived.Test.YtkoddmedhnhgiaaRg25
import Derived.Lib.SlBytesConst
import Derived.Deep.AppendLies
import Derived.Deep.Slices
import Derived.Deep.RegionLaw
import Derived.Deep.RegionHeldLaw
import Derived.ChangeArms
import Derived.RowKit
import Derived.Test.YtkoddmedhnhgiaaRg00
set_option linter.unusedVariables false
set_option linter.unusedSimpArgs false
namespace Go.Proofs.Ytkoddmedhnhgiaa
open Go.RowKit
def Blk (w : World) (b : Nat) (cs : List Value) (t : TypeId) : Prop := w.heap[b]? = some (.cells cs.toArray t (0, 0))
theorem Blk.lt {w : World} {b : Nat} {cs : List Value} {t : TypeId} (h : Blk w b cs t) : b < w.heap.size := by
 rcases Nat.lt_or_ge b w.heap.size with h' | h'
 ·exact h'
 ·unfold Blk at h; simp [Array.getElem?_eq_none h'] at h
theorem Blk.cell {w : World} {b : Nat} {cs : List Value} {t : TypeId} (h : Blk w b cs t) (j : Nat) : w.cell? ⟨b, j, none⟩ = cs[j]? := by
 rw [cell_of_row w b j cs.toArray t (0, 0) h]; simp
theorem Blk.free {w : World} {b : Nat} {cs : List Value} {t : TypeId} (h : Blk w b cs t) (j : Nat) : w.frozen? ⟨b, j, none⟩ = false := frozen_of_row w b j cs.toArray t h
theorem Blk.set {w : World} {b : Nat} {cs : List Value} {t : TypeId} (h : Blk w b cs t) (j : Nat) (v : Value) : Blk (w.setCell ⟨b, j, none⟩ v) b (cs.set j v) t := by
 unfold Blk at *
 rw [heap_setCell_same w b j cs.toArray t v h]
 simp
theorem Blk.other {w : World} {b : Nat} {cs : List Value} {t : TypeId} (h : Blk w b cs t) {a : Addr} (ha : b ≠ a.block) (v : Value) : Blk (w.setCell a v) b cs t := by
 unfold Blk at *
 rw [heap_setCell_other w a b v ha]; exact h
theorem Blk.alloc {w : World} {b : Nat} {cs : List Value} {t : TypeId} (h : Blk w b cs t) (o : Obj) : Blk (w.alloc o) b cs t := by
 have hl := h.lt
 unfold Blk at *
 rw [Below.heap_alloc w o b hl]; exact h
theorem Blk.new (w : World) (cs : List Value) (t : TypeId) : Blk (w.alloc (.cells cs.toArray t)) w.heap.size cs t := heap_alloc_new w _
theorem Blk.drew {w : World} {b : Nat} {cs : List Value} {t : TypeId} (h : Blk w b cs t) : Blk w.drew b cs t := h
theorem Blk.below {B : Nat} {w w' : World} {b : Nat} {cs : List Value} {t : TypeId} (h : Blk w b cs t) (k : Below B w w') (hb : b < B) : Blk w' b cs t := by
 unfold Blk at *; rw [k.block b hb]; exact h
theorem bset {B : Nat} {a w : World} {b j : Nat} {u : Value} (hb : B ≤ b) (h : Below B a w) : Below B a (w.setCell ⟨b, j, none⟩ u) := h.setCell (p := ⟨b, j, none⟩) hb u
end Go.Proofs.Ytkoddmedhnhgiaa
set_option linter.unusedVariables false
set_option linter.unusedSimpArgs false
namespace Go.Proofs.Ytkoddmedhnhgiaa
def wd (n : Nat) : Nat := if n < 10 then 1 else wd (n / 10) + 1
termination_by n
decreasing_by omega
theorem wd_small {n : Nat} (h : n < 10) : wd n = 1 := by rw [wd, if_pos h]
theorem wd_big {n : Nat} (h : 10 ≤ n) : wd n = wd (n / 10) + 1 := by rw [wd, if_neg (by omega)]
theorem wd_pos (n : Nat) : 1 ≤ wd n := by rw [wd]; split <;> omega
theorem lt_wd (k : Nat) : ∀ n, k < wd n ↔ k = 0 ∨ 0 < n / 10 ^ k := by
  induction k with
  | zero => intro n; have := wd_pos n; simp; omega
  | succ k ih =>
    intro n
    have e : n / 10 ^ (k + 1) = n / 10 / 10 ^ k := by rw [Nat.pow_succ, Nat.mul_comm, Nat.div_div_eq_div_mul]
    rw [e]
    by_cases h : n < 10
    · rw [wd_small h, show n / 10 = 0 from by omega]; simp
    · rw [wd_big (by omega)]
      have := ih (n / 10)
      constructor
      · intro hk; right
        rcases this.1 (by omega) with rfl | h'
        · simp; omega
        · exact h'
      · intro hk
        have := this.2 (by rcases hk with hk | hk; · omega
                           · exact .inr hk)
        omega
theorem wd_le {n : Nat} (h : n ≤ 2147483647) : wd n ≤ 10 := by
 rcases Nat.lt_or_ge 10 (wd n) with h' | h'
 ·rcases (lt_wd 10 n).1 h' with h'' | h''
  ·omega
  ·rw [Nat.div_eq_of_lt (by omega)] at h''; omega
 ·exact h'
def low : Nat → Nat → List Int
 | 0, _ => []
 | k + 1, n => ((n / 10 ^ k) % 10 + 48 : Nat) :: low k n
theorem low_length (k n : Nat) : (low k n).length = k := by induction k <;> simp [low, *]
def arr (k n : Nat) : List Int := List.replicate (10 - k) 0 ++ low k n
theorem arr_length (k n : Nat) (h : k ≤ 10) : (arr k n).length = 10 := by simp [arr, low_length]; omega
theorem arr_zero (n : Nat) : arr 0 n = List.replicate 10 0 := by simp [arr, low]
theorem arr_succ (k n : Nat) (h : k < 10) : (arr k n).set (10 - (k + 1)) ((n / 10 ^ k % 10 + 48 : Nat) : Int) = arr (k + 1) n := by
 unfold arr
 rw [List.set_append, if_pos (by simp; omega)]
 have e : List.replicate (10 - k) (0 : Int) = List.replicate (10 - (k + 1)) 0 ++ [0] := by
  rw [show 10 - k = (10 - (k + 1)) + 1 from by omega, List.replicate_succ']
 rw [e, List.set_append, if_neg (by simp)]
 simp [low]
theorem div_pow (n k : Nat) : n / 10 ^ k / 10 = n / 10 ^ (k + 1) := by rw [Nat.div_div_eq_div_mul, Nat.pow_succ]
theorem done_eq (n k : Nat) (hk : k ≤ wd n) (h0 : k ≠ 0) (h : n / 10 ^ k = 0) : k = wd n := by
 rcases Nat.lt_or_ge k (wd n) with h' | h'
 ·rcases (lt_wd k n).1 h' with h'' | h'' <;> omega
 ·omega
end Go.Proofs.Ytkoddmedhnhgiaa
set_option linter.unusedVariables false
set_option linter.unusedSimpArgs false
namespace Go.Proofs.Ytkoddmedhnhgiaa
open Go.RowKit
def bys (l : List Int) : List Value := l.map fun x => .int .u8 x
theorem bys_set (l : List Int) (i : Nat) (x : Int) : (bys l).set i (.int .u8 x) = bys (l.set i x) := by simp [bys, List.map_set]
theorem bys_length (l : List Int) : (bys l).length = l.length := by simp [bys]
theorem arr_succ' (k n : Nat) (h : k < 10) : (arr k n).set (9 - k) (48 + ((n / 10 ^ k : Nat) : Int) % 10) = arr (k + 1) n := by
 rw [← arr_succ k n h, show 10 - (k + 1) = 9 - k from by omega]
 congr 1
 omega
theorem blk_new2 (w : World) (o : Obj) (cs : List Value) (t : TypeId) : Blk ((w.alloc o).alloc (.cells cs.toArray t)) (w.heap.size + 1) cs t := by
 have := Blk.new (w.alloc o) cs t
 simpa using this
theorem ten (l : List Int) (h : l.length = 10) : ∃ a0 a1 a2 a3 a4 a5 a6 a7 a8 a9, l = [a0, a1, a2, a3, a4, a5, a6, a7, a8, a9] := by
 match l, h with
 | [a0, a1, a2, a3, a4, a5, a6, a7, a8, a9], _ => exact ⟨a0, a1, a2, a3, a4, a5, a6, a7, a8, a9, rfl⟩
set_option maxHeartbeats 1000000 in
theorem text_calls (n : Nat) (hn : n ≤ 2147483647) (w : World) :
 Calls Try.prog 63 #[.int .i64 n] w fun e w' => e = .returned (.tuple #[.agg (bys (arr (wd n) n)).toArray, .int .i64 (wd n)]) ∧ Below w.heap.size w w' := by
 go_enter Try.func63, Try.ntmps63
 go_wp2
 go_loopw [0, 5] (fun v0 v5 wr => ∃ k : Nat, k ≤ 10 ∧ k ≤ wd n ∧ v0 = .int .i64 (n / 10 ^ k : Nat) ∧ v5 = .int .i64 k ∧ Blk wr (w.heap.size + 1) (bys (arr k n)) 102 ∧ Blk wr w.heap.size (bys (arr 0 n)) 102 ∧ Below w.heap.size w wr)
  (fun _ v5 _ => 10 - (intOf v5).toNat)
 case atStart => exact ⟨0, by omega, by omega, by simp, rfl, by rw [arr_zero]; exact blk_new2 _ _ _ _, by rw [arr_zero]; exact (Blk.new w (bys (List.replicate 10 0)) 102).alloc _, ((Below.refl _ _).alloc (Nat.le_refl _) _).alloc (by simp) _⟩
 case round =>
  obtain ⟨k, hk, hkw, rfl, rfl, hB, hA, hbel⟩ := hrel
  by_cases hmore : k = 0 ∨ 0 < n / 10 ^ k
  ·have hlt : k < wd n := (lt_wd k n).2 hmore
   have hk10 : k < 10 := by have := wd_le hn; omega
   have hm : n / 10 ^ k ≤ 2147483647 := Nat.le_trans (Nat.div_le_self _ _) hn
   have hdiv := Lib.hid (div_pow n k)
   have hBs := hB.set (9 - k) (.int .u8 (48 + ((n / 10 ^ k : Nat) : Int) % 10))
   rw [bys_set, arr_succ' k n hk10] at hBs
   have hAs := hA.other (a := ⟨w.heap.size + 1, 9 - k, none⟩) (by simp) (.int .u8 (48 + ((n / 10 ^ k : Nat) : Int) % 10))
   generalize n / 10 ^ k = m at *
   have hc := hB.cell (9 - k)
   rw [List.getElem?_eq_getElem (by rw [bys_length, arr_length _ _ hk]; omega)] at hc
   have hf := hB.free (9 - k)
   generalize (bys (arr k n))[9 - k]'_ = old at hc
   have hend : (k + 1 ≤ 10 ∧ k + 1 ≤ wd n ∧ Value.int .i64 ((m : Int) / 10) = .int .i64 ((n / 10 ^ (k + 1) : Nat) : Int) ∧ Value.int .i64 ((k : Int) + 1) = .int .i64 (k + 1 : Nat) ∧
    Blk (wr.setCell ⟨w.heap.size + 1, 9 - k, none⟩ (.int .u8 (48 + (m : Int) % 10))) (w.heap.size + 1) (bys (arr (k + 1) n)) 102 ∧
    Blk (wr.setCell ⟨w.heap.size + 1, 9 - k, none⟩ (.int .u8 (48 + (m : Int) % 10))) w.heap.size (bys (arr 0 n)) 102 ∧
    Below w.heap.size w (wr.setCell ⟨w.heap.size + 1, 9 - k, none⟩ (.int .u8 (48 + (m : Int) % 10)))) :=
    ⟨by omega, by omega, by rw [← hdiv.out]; simp, by simp, hBs, hAs, hbel.setCell (by simp) _⟩
   have Hend := Lib.hid hend
   clear hend hdiv hBs hAs
   rcases hmore with rfl | hmore
   ·go_wp2
    go_roundw
    case rel => exact ⟨1, Hend.out⟩
    case measure => simp [intOf]
   ·by_cases hk0 : k = 0
    ·subst hk0
     go_wp2
     go_roundw
     case rel => exact ⟨1, Hend.out⟩
     case measure => simp [intOf]
    ·have hk1 : ((k : Int) == 0) = false := by simpa using hk0
     have hk2 : 0 < k := by omega
     clear hk0
     go_wp2
     go_roundw
     case rel => exact ⟨k + 1, Hend.out⟩
     case measure => simp [intOf]; omega
  ·have hk0 : k ≠ 0 := fun h => hmore (.inl h)
   have hz : n / 10 ^ k = 0 := Nat.eq_zero_of_not_pos fun h => hmore (.inr h)
   have hkk : k = wd n := done_eq n k hkw hk0 hz
   have hk1 : ((k : Int) == 0) = false := by simpa using hk0
   rw [hz]
   clear hmore hz hk0
   subst hkk
   obtain ⟨a0, a1, a2, a3, a4, a5, a6, a7, a8, a9, e⟩ := ten _ (arr_length (wd n) n hk)
   have E := Lib.hid e
   rw [e] at hB
   obtain ⟨c0, c1, c2, c3, c4, c5, c6, c7, c8, c9, e2⟩ := ten _ (arr_length 0 n (by omega))
   rw [e2] at hA
   clear e e2
   have p0 := hB.cell 0; have p1 := hB.cell 1; have p2 := hB.cell 2; have p3 := hB.cell 3; have p4 := hB.cell 4; have p5 := hB.cell 5; have p6 := hB.cell 6; have p7 := hB.cell 7; have p8 := hB.cell 8; have p9 := hB.cell 9
   have q0 := hA.cell 0; have q1 := hA.cell 1; have q2 := hA.cell 2; have q3 := hA.cell 3; have q4 := hA.cell 4; have q5 := hA.cell 5; have q6 := hA.cell 6; have q7 := hA.cell 7; have q8 := hA.cell 8; have q9 := hA.cell 9
   have f0 := hA.free 0; have f1 := hA.free 1; have f2 := hA.free 2; have f3 := hA.free 3; have f4 := hA.free 4; have f5 := hA.free 5; have f6 := hA.free 6; have f7 := hA.free 7; have f8 := hA.free 8; have f9 := hA.free 9
   simp only [bys, List.map_cons, List.map_nil, List.getElem?_cons_zero, List.getElem?_cons_succ] at p0 p1 p2 p3 p4 p5 p6 p7 p8 p9 q0 q1 q2 q3 q4 q5 q6 q7 q8 q9
   clear hA hB
   go_wp2
   refine bodyPost_ret (v := .tuple #[.agg #[.int .u8 a0, .int .u8 a1, .int .u8 a2, .int .u8 a3, .int .u8 a4, .int .u8 a5, .int .u8 a6, .int .u8 a7, .int .u8 a8, .int .u8 a9], .int .i64 (wd n)]) (by simp [results, Try.results63, go_sem, q0, q1, q2, q3, q4, q5, q6, q7, q8, q9]) rfl ⟨?_, ?_⟩
   ·rw [E.out]; simp [bys]
   ·iterate 10 refine bset (Nat.le_refl _) ?_
    exact hbel
end Go.Proofs.Ytkoddmedhnhgiaa
set_option linter.unusedVariables false
set_option linter.unusedSimpArgs false
namespace Go.Proofs.Ytkoddmedhnhgiaa
open Go.RowKit Go.Proofs.YtkoddmedhnhgiaaW.PrintWords
theorem str_size (l : List Int) : (strOfNums l).size = l.length := by simp [strOfNums, ByteArray.size]
theorem str_digit (m : Nat) (hm : m < 10) (l : List Int) : (⟨#[48, 49, 50, 51, 52, 53, 54, 55, 56, 57]⟩ : ByteArray).extract m (m + 1) ++ strOfNums l = strOfNums (((m + 48 : Nat) : Int) :: l) := by
 have h : (⟨#[48, 49, 50, 51, 52, 53, 54, 55, 56, 57]⟩ : ByteArray).extract m (m + 1) = ⟨#[UInt8.ofNat (m + 48)]⟩ := by
  have hc : m = 0 ∨ m = 1 ∨ m = 2 ∨ m = 3 ∨ m = 4 ∨ m = 5 ∨ m = 6 ∨ m = 7 ∨ m = 8 ∨ m = 9 := by omega
  rcases hc with rfl | rfl | rfl | rfl | rfl | rfl | rfl | rfl | rfl | rfl <;> rfl
 rw [h]
 apply ByteArray.ext
 rw [ByteArray.data_append]
 have e : (((m + 48 : Nat) : Int)).toNat = m + 48 := by omega
 simp only [strOfNums, List.map_cons, e]
 simp
set_option maxHeartbeats 400000 in
theorem refprint_calls (n : Nat) (hn : n ≤ 2147483647) (w : World) :
 Calls Try.prog 46 #[.int .i64 n] w fun e w' => e = .returned (.tuple #[.string (strOfNums (low (wd n) n)), .int .i64 0]) ∧ Below w.heap.size w w' := by
 go_enter Try.func46, Try.ntmps46
 go_wp2
 go_loopw [0, 4] (fun v0 v4 wr => ∃ k : Nat, k < wd n ∧ v0 = .int .i64 (n / 10 ^ k : Nat) ∧ v4 = .string (strOfNums (low k n)) ∧ Below w.heap.size w wr)
  (fun v0 _ _ => (intOf v0).toNat)
 case atStart => exact ⟨0, wd_pos n, by simp, rfl, Below.refl _ _⟩
 case round =>
  obtain ⟨k, hk, rfl, rfl, hbel⟩ := hrel
  have hm : n / 10 ^ k ≤ 2147483647 := Nat.le_trans (Nat.div_le_self _ _) hn
  have hs : (strOfNums (low k n)).size ≤ 10 := by rw [str_size, low_length]; have := wd_le hn; omega
  have hdiv := Lib.hid (div_pow n k)
  have hmore := Lib.hid (lt_wd (k + 1) n)
  have hlow : Hid (low (k + 1) n = ((n / 10 ^ k % 10 + 48 : Nat) : Int) :: low k n) := by simp [Hid, low]
  have hdig := Lib.hid (str_digit (n / 10 ^ k % 10) (Nat.mod_lt _ (by omega)) (low k n))
  generalize n / 10 ^ k = m at *
  generalize hls : strOfNums (low k n) = s at *
  clear hls
  by_cases h9 : 9 < m
  ·go_wp2
   go_roundw
   case rel => exact ⟨k + 1, hmore.out.2 (.inr (by rw [← hdiv.out]; omega)), by rw [← hdiv.out]; simp, by rw [hlow.out, hdig.out], hbel⟩
   case measure => simp [intOf]; omega
  ·have hkk : k + 1 = wd n := by
    rcases Nat.lt_or_ge (k + 1) (wd n) with h | h
    ·rcases hmore.out.1 h with h | h
     ·omega
     ·rw [← hdiv.out] at h; omega
    ·omega
   have Hkk := Lib.hid hkk
   have hmm : m % 10 = m := by omega
   have Hmm := Lib.hid hmm
   clear hkk hmm
   go_wp2
   go_ret2
   rw [Hmm.out] at hdig hlow
   exact ⟨by rw [← Hkk.out, hlow.out, hdig.out]; rfl, hbel⟩
set_option maxHeartbeats 400000 in
theorem may_calls (n : Int) (w : World) :
 Calls Try.prog 62 #[.int .i64 n] w fun e w' => e = .returned (.bool (decide (0 ≤ n) && decide (n ≤ 2147483647))) ∧ w = w' := by
 by_cases h : 0 ≤ n
 ·go_enter Try.func62, Try.ntmps62
  go_wp2
  go_ret
  exact ⟨by simp [h], rfl⟩
 ·go_enter Try.func62, Try.ntmps62
  go_wp2
  go_ret
  exact ⟨by rw [show decide (0 ≤ n) = false from decide_eq_false (by omega)]; rfl, rfl⟩
theorem may_yes (n : Int) (h0 : 0 ≤ n) (h1 : n ≤ 2147483647) (w : World) : Calls Try.prog 62 #[.int .i64 n] w fun e w' => e = .returned (.bool true) ∧ w = w' :=
 (may_calls n w).mono fun _ _ ⟨h, k⟩ => ⟨by rw [h]; simp [h0, h1], k⟩
theorem may_no (n : Int) (h : n < 0 ∨ 2147483647 < n) (w : World) : Calls Try.prog 62 #[.int .i64 n] w fun e w' => e = .returned (.bool false) ∧ w = w' :=
 (may_calls n w).mono fun _ _ ⟨h', k⟩ => ⟨by rw [h']; congr 2; by_cases h0 : 0 ≤ n <;> simp [h0]; omega, k⟩
set_option maxHeartbeats 400000 in
theorem print_no (n : Int) (h : n < 0 ∨ 2147483647 < n) (w : World) :
 Calls Try.prog 45 #[.int .i64 n] w fun e w' => e = .returned (.tuple #[.string ⟨#[]⟩, .int .i64 2]) ∧ Below w.heap.size w w' := by
 go_enter Try.func45, Try.ntmps45
 go_wp2_with (go_at_call 62; refine (may_no _ h _).mono ?_; rintro e w' ⟨rfl, rfl⟩)
 go_ret2
 exact ⟨rfl, Below.refl _ _⟩
set_option maxRecDepth 100000 in
theorem slice_ten (b k : Nat) (h1 : 1 ≤ k) (h2 : k ≤ 10) (W : World) :
 (Instr.sliceAt 102 (.pointer (some ⟨b, 0, none⟩)) (some (.int .i64 (10 - (k : Int)))) none none).run Try.prog W = .ok (.slice (some ⟨b, 10 - k, none⟩) k k) W := by
 have hu : Try.prog.underlying 102 = some (.array (Try.prog.arrayLen 102) (Try.prog.elem 102)) := by kernel_rfl
 have hl : Try.prog.arrayLen 102 = 10 := by kernel_rfl
 have hs : (sizeOf (Try.prog.elem 102)).run Try.prog W = .ok 1 W := by kernel_rfl
 rw [run_sliceAt_array_l W 102 ⟨b, 0, none⟩ hu .i64 (10 - (k : Int)) (by omega) (by rw [hl]; omega), hs, hl]
 simp only [Result.andThen, slicedAt]
 have e : (10 - (k : Int)).toNat = 10 - k := by omega
 rw [e, if_neg (by omega)]
 congr 2
 ·unfold Addr.add
  split
  ·rw [show 10 - k = 0 from by omega]
  ·simp
 ·omega
 ·omega
set_option maxRecDepth 100000 in
theorem conv_ten (b k n t : Nat) (_h1 : 1 ≤ k) (h2 : k ≤ 10) (W : World) (hB : Blk W b (bys (arr k n)) t) :
 (convert 34 9 (.slice (some ⟨b, 10 - k, none⟩) k k)).run Try.prog W = .ok (.string (strOfNums (low k n))) W := by
 refine string_of_reads (e := 5) (by kernel_rfl) (by kernel_rfl) (by kernel_rfl) ⟨low_length k n, by omega, fun _ => ⟨_, rfl, fun j hj => ?_⟩⟩
 have e : (⟨b, 10 - k, none⟩ : Addr).add j = ⟨b, 10 - k + j, none⟩ := by
  unfold Addr.add
  split
  ·next h => rw [h]; rfl
  ·rfl
 have hl : j < (low k n).length := by rw [low_length]; exact hj
 rw [e, hB.cell]
 unfold bys arr
 rw [List.getElem?_map, List.getElem?_append_right (by simp), List.length_replicate, show 10 - k + j - (10 - k) = j from by omega]
 rw [List.getD_eq_getElem?_getD, List.getElem?_eq_getElem hl]
 rfl
set_option maxHeartbeats 1000000 in
set_option maxRecDepth 100000 in
theorem print_yes (n : Nat) (hn : n ≤ 2147483647) (w : World) :
 Calls Try.prog 45 #[.int .i64 n] w fun e w' => e = .returned (.tuple #[.string (strOfNums (low (wd n) n)), .int .i64 0]) ∧ Below w.heap.size w w' := by
 have hw := wd_le hn
 have hw1 := wd_pos n
 go_enter Try.func45, Try.ntmps45
 go_wp2_with (go_at_call 62; refine (may_yes _ (by omega) (by omega) _).mono ?_; rintro e w' ⟨rfl, rfl⟩)
 refine (text_calls n hn _).mono ?_
 rintro e w1 ⟨rfl, hb⟩
 have hB := Lib.hid (Blk.new w1 (bys (arr (wd n) n)) 102)
 have hc := fun W h => conv_ten w1.heap.size (wd n) n 102 hw1 hw W h
 have hs := slice_ten w1.heap.size (wd n) hw1 hw
 obtain ⟨a0, a1, a2, a3, a4, a5, a6, a7, a8, a9, e⟩ := ten _ (arr_length (wd n) n hw)
 rw [e] at hB hc ⊢
 clear e
 simp only [bys, List.map_cons, List.map_nil] at hB hc ⊢
 have hc := hc _ hB.out
 go_wp2
 go_ret2
 exact ⟨rfl, hb.alloc hb.size _⟩
end Go.Proofs.Ytkoddmedhnhgiaa
set_option linter.unusedVariables false
set_option linter.unusedSimpArgs false
namespace Go.Proofs.Ytkoddmedhnhgiaa
def scan : List Int → Bool → Int → Int → Int × Int × Bool
 | [], first, n, k => if first then (0, k, false) else (n, k, true)
 | c :: cs, first, n, k =>
  if 48 ≤ c ∧ c ≤ 57 then
   if (first = false ∧ n = 0) ∨ (2147483647 - (c - 48)) / 10 < n then (0, k, false) else scan cs false (n * 10 + (c - 48)) (k + 1)
  else if first then (0, k, false) else (n, k, true)
def parse (l : List Int) (a : Int) : Int × Int × Bool :=
 if a < 0 ∨ (l.length : Int) < a then (0, 0, false) else scan (l.drop a.toNat) true 0 a
theorem scan_to (cs : List Int) : ∀ first n k, k ≤ (scan cs first n k).2.1 ∧ (scan cs first n k).2.1 ≤ k + cs.length := by
 induction cs with
 | nil => intro first n k; simp only [scan]; split <;> simp
 | cons c cs ih =>
  intro first n k
  simp only [scan]
  have := ih false (n * 10 + (c - 48)) (k + 1)
  split
  ·split
   ·simp only [List.length_cons]; omega
   ·simp only [List.length_cons]; omega
  ·split <;> simp only [List.length_cons] <;> omega
theorem parse_to (l : List Int) (a : Int) (h0 : 0 ≤ a) (h1 : a ≤ l.length) : a ≤ (parse l a).2.1 ∧ (parse l a).2.1 ≤ l.length := by
 unfold parse
 rw [if_neg (by omega)]
 have := scan_to (l.drop a.toNat) true 0 a
 rw [List.length_drop] at this
 omega
theorem parse_eq (l : List Int) (a : Int) (h0 : 0 ≤ a) (h1 : a ≤ l.length) : parse l a = scan (l.drop a.toNat) true 0 a := by unfold parse; rw [if_neg (by omega)]
theorem scan_stop (rest : List Int) (n k : Int) (hr : rest = [] ∨ ¬ (48 ≤ rest.getD 0 0 ∧ rest.getD 0 0 ≤ 57)) : scan rest false n k = (n, k, true) := by
 cases rest with
 | nil => simp [scan]
 | cons c cs =>
  rcases hr with hr | hr
  ·cases hr
  ·simp only [scan]
   rw [if_neg (by simpa using hr)]
   simp
theorem scan_low (n : Nat) (hn : n ≤ 2147483647) (rest : List Int) : ∀ (j : Nat) (k : Int), n / 10 ^ j ≠ 0 →
 scan (low j n ++ rest) false ((n / 10 ^ j : Nat) : Int) k = scan rest false n (k + j) := by
 intro j
 induction j with
 | zero => intro k _; simp [low]
 | succ j ih =>
  intro k hz
  simp only [low, List.cons_append, scan]
  have e := div_pow n j
  have hle : n / 10 ^ j ≤ n := Nat.div_le_self _ _
  generalize hm : n / 10 ^ j = m at *
  rw [← e] at hz ⊢
  rw [if_pos (by omega), if_neg (by omega)]
  rw [show (((m / 10 : Nat) : Int) * 10 + (((m % 10 + 48 : Nat) : Int) - 48)) = (m : Int) from by omega]
  rw [ih (k + 1) (by omega)]
  congr 1
  omega
theorem scan_text (n : Nat) (hn : n ≤ 2147483647) (rest : List Int) (k : Int) (hr : rest = [] ∨ ¬ (48 ≤ rest.getD 0 0 ∧ rest.getD 0 0 ≤ 57)) :
 scan (low (wd n) n ++ rest) true 0 k = ((n : Int), k + wd n, true) := by
 obtain ⟨j, hj⟩ : ∃ j, wd n = j + 1 := ⟨wd n - 1, by have := wd_pos n; omega⟩
 have hz : n / 10 ^ (j + 1) = 0 := by
  rcases Nat.eq_zero_or_pos (n / 10 ^ (j + 1)) with h | h
  ·exact h
  ·have := (lt_wd (j + 1) n).2 (.inr h); omega
 rw [hj]
 simp only [low, List.cons_append, scan]
 have e := div_pow n j
 have hle : n / 10 ^ j ≤ n := Nat.div_le_self _ _
 by_cases h0 : j = 0
 ·subst h0
  simp only [low, Nat.pow_zero, Nat.div_one, List.nil_append] at *
  rw [if_pos (by omega), if_neg (by simp; omega), scan_stop rest _ _ hr]
  simp only [Prod.mk.injEq, and_true, true_and]
  omega
 ·have hz' : n / 10 ^ j ≠ 0 := by
   have := (lt_wd j n).1 (by omega)
   omega
  have hlow := scan_low n hn rest j (k + 1) hz'
  rw [if_pos (by omega), if_neg (by simp; omega)]
  rw [show ((0 : Int) * 10 + (((n / 10 ^ j % 10 + 48 : Nat) : Int) - 48)) = ((n / 10 ^ j : Nat) : Int) from by omega]
  rw [hlow, scan_stop rest _ _ hr]
  simp only [Prod.mk.injEq, and_true, true_and]
  omega
def Stops (rest : List Int) : Prop := rest = [] ∨ ¬ (48 ≤ rest.getD 0 0 ∧ rest.getD 0 0 ≤ 57)
theorem parse_back (ahead behind : List Int) (n : Nat) (hn : n ≤ 2147483647) (hr : Stops behind) :
 parse (ahead ++ low (wd n) n ++ behind) ahead.length = ((n : Int), (ahead.length : Int) + wd n, true) := by
 rw [parse_eq _ _ (by omega) (by simp; omega), List.append_assoc, Int.toNat_natCast, List.drop_left, scan_text n hn behind _ hr]
theorem low_bytes (k n : Nat) : ∀ x ∈ low k n, 0 ≤ x ∧ x ≤ 255 := by
 induction k with
 | zero => intro x hx; cases hx
 | succ k ih =>
  intro x hx
  simp only [low, List.mem_cons] at hx
  rcases hx with rfl | hx
  ·omega
  ·exact ih x hx
end Go.Proofs.Ytkoddmedhnhgiaa
set_option linter.unusedVariables false
set_option linter.unusedSimpArgs false
namespace Go.Proofs.Ytkoddmedhnhgiaa.RowAt
open Go.Shelf Go.RowKit Go.Lib Go.Sort
set_option linter.unusedSectionVars false
variable {α : Type} [Inhabited α] {enc : α → List Value} {k : Nat} {W : World} {blk off : Nat} {D : List α}
def Row (enc : α → List Value) (k : Nat) (w : World) (blk off : Nat) (D : List α) : Prop :=
 ∀ i x, D[i]? = some x → ∀ c v, (enc x)[c]? = some v → w.cell? ⟨blk, off + i * k + c, none⟩ = some v ∧ w.frozen? ⟨blk, off + i * k + c, none⟩ = false
theorem Row.at (h : Row enc k W blk off D) (hk : ∀ x, (enc x).length = k) {i c : Nat} (hi : i < D.length) (hc : c < k) :
 (W.cell? ⟨blk, off + i * k + c, none⟩).isSome = true ∧ W.frozen? ⟨blk, off + i * k + c, none⟩ = false := by
 have hl : c < (enc D[i]).length := by rw [hk]; exact hc
 have := h i D[i] (List.getElem?_eq_getElem hi) c (enc D[i])[c] (List.getElem?_eq_getElem hl)
 exact ⟨by rw [this.1]; rfl, this.2⟩
theorem Row.put (h : Row enc k W blk off D) (hk : ∀ x, (enc x).length = k) {i : Nat} (hi : i < D.length) (y : α) :
 Row enc k (W.setCells blk (off + i * k) (enc y)) blk off (D.set i y) := by
 intro j x hj c v hc
 have hck : c < k := by have := (List.getElem?_eq_some_iff.1 hc).1; rw [hk] at this; exact this
 rw [World.frozen?_setCells]
 by_cases e : j = i
 ·subst e
  rw [List.getElem?_set_self hi] at hj
  cases hj
  have hl := (List.getElem?_eq_some_iff.1 hc).1
  refine ⟨?_, (h.at hk hi hck).2⟩
  rw [World.cell?_setCells_in blk _ _ _ (fun c hc => (h.at hk hi (by rw [hk] at hc; exact hc)).1) c hl, ← hc, List.getElem?_eq_getElem hl]
 ·rw [List.getElem?_set_ne (Ne.symm e)] at hj
  have := h j x hj c v hc
  refine ⟨?_, this.2⟩
  rw [World.cell?_setCells_out blk _ _ _ _ (fun _ _ => ?_)]
  ·exact this.1
  ·rw [hk]
   show off + j * k + c < off + i * k ∨ off + i * k + k ≤ off + j * k + c
   rcases Nat.lt_or_gt_of_ne e with hlt | hgt
   ·left
    have : (j + 1) * k ≤ i * k := Nat.mul_le_mul_right k hlt
    rw [Nat.add_mul, Nat.one_mul] at this
    omega
   ·right
    have : (i + 1) * k ≤ j * k := Nat.mul_le_mul_right k hgt
    rw [Nat.add_mul, Nat.one_mul] at this
    omega
theorem Row.take (h : Row enc k W blk off D) (n : Nat) : Row enc k W blk off (D.take n) := fun i x hi c v hc =>
 h i x (by rw [List.getElem?_take] at hi; split at hi <;> simp_all) c v hc
theorem Row.holds (h : Row enc k W blk off D) (hk : ∀ x, (enc x).length = k) : HoldsK enc k W blk off D.toArray := by
 intro t ht
 rw [size_flatK, List.size_toArray] at ht
 have hkp : 0 < k := Nat.pos_of_ne_zero fun e => by rw [e, Nat.mul_zero] at ht; omega
 have hi : t / k < D.length := Nat.div_lt_of_lt_mul (by rw [Nat.mul_comm]; exact ht)
 have hc : t % k < k := Nat.mod_lt _ hkp
 have e : off + t = off + (t / k) * k + t % k := by have := Nat.div_add_mod t k; rw [Nat.mul_comm (t / k) k]; omega
 have hl : t % k < (enc D[t / k]).length := by rw [hk]; exact hc
 have := h (t / k) D[t / k] (List.getElem?_eq_getElem hi) (t % k) (enc D[t / k])[t % k] (List.getElem?_eq_getElem hl)
 rw [e, get_flatK _ _ _ _ (by rw [List.size_toArray]; exact ht)]
 have e2 : D.toArray[t / k]! = D[t / k] := by rw [getElem!_pos _ _ (by simpa using hi)]; simp
 rw [e2, getElem!_pos (enc D[t / k]) (t % k) (by rw [hk]; exact hc)]
 exact this
end Go.Proofs.Ytkoddmedhnhgiaa.RowAt
set_option linter.unusedVariables false
set_option linter.unusedSimpArgs false
namespace Go.Proofs.Ytkoddmedhnhgiaa
open Go.RowKit
structure Chg (S : Nat → Prop) (w w' : World) : Prop where
 os : w'.os = w.os
 tape : w'.tape = w.tape
 output : w'.output = w.output
 size : w.heap.size ≤ w'.heap.size
 block : ∀ k, k < w.heap.size → ¬ S k → w'.heap[k]? = w.heap[k]?
theorem Chg.refl (S : Nat → Prop) (w : World) : Chg S w w := ⟨rfl, rfl, rfl, Nat.le_refl _, fun _ _ _ => rfl⟩
theorem Chg.trans {S : Nat → Prop} {a b c : World} (h : Chg S a b) (k : Chg S b c) : Chg S a c :=
 ⟨k.os.trans h.os, k.tape.trans h.tape, k.output.trans h.output, Nat.le_trans h.size k.size, fun i hi hs => (k.block i (Nat.lt_of_lt_of_le hi h.size) hs).trans (h.block i hi hs)⟩
theorem Chg.then {S S' : Nat → Prop} {a b c : World} (h : Chg S a b) (k : Chg S' b c) (hs : ∀ i, S' i → S i ∨ a.heap.size ≤ i) : Chg S a c :=
 ⟨k.os.trans h.os, k.tape.trans h.tape, k.output.trans h.output, Nat.le_trans h.size k.size, fun i hi hn => (k.block i (Nat.lt_of_lt_of_le hi h.size) (fun hc => by
  rcases hs i hc with h1 | h1
  ·exact hn h1
  ·omega)).trans (h.block i hi hn)⟩
theorem Chg.mono {S S' : Nat → Prop} {w w' : World} (h : Chg S w w') (hs : ∀ i, S i → S' i) : Chg S' w w' := ⟨h.os, h.tape, h.output, h.size, fun k hk hn => h.block k hk (fun hc => hn (hs k hc))⟩
theorem Chg.below {S : Nat → Prop} {B : Nat} {w w' : World} (h : Chg S w w') (hB : B ≤ w.heap.size) (hs : ∀ i, S i → B ≤ i) : Below B w w' :=
 ⟨h.os, h.tape, h.output, h.size, fun k hk => h.block k (Nat.lt_of_lt_of_le hk hB) (fun hc => by have := hs k hc; omega)⟩
theorem Chg.drew {S : Nat → Prop} {a w : World} (h : Chg S a w) : Chg S a w.drew := ⟨h.os, h.tape, h.output, h.size, h.block⟩
theorem Chg.drewN {S : Nat → Prop} {a w : World} (h : Chg S a w) (n : Nat) : Chg S a (w.drewN n) := ⟨h.os, h.tape, h.output, h.size, h.block⟩
theorem Chg.alloc {S : Nat → Prop} {a w : World} (h : Chg S a w) (o : Obj) : Chg S a (w.alloc o) :=
 h.then (S' := fun _ => False) ⟨rfl, rfl, rfl, by simp, fun k hk _ => Below.heap_alloc _ _ _ hk⟩ (fun _ h => h.elim)
theorem Chg.set {S : Nat → Prop} {a w : World} (h : Chg S a w) {b : Nat} (j : Nat) (hb : S b ∨ a.heap.size ≤ b) (u : Value) : Chg S a (w.setCell ⟨b, j, none⟩ u) :=
 h.then (S' := fun i => i = b) ⟨rfl, rfl, rfl, by simp [World.setCell], fun k hk hn => Below.heap_setCell _ _ _ _ (by simpa using hn)⟩ (fun i hi => by subst hi; exact hb)
theorem Chg.cell {S : Nat → Prop} {w w' : World} (h : Chg S w w') {a : Addr} {v : Value} (hc : w.cell? a = some v) (hs : ¬ S a.block) : w'.cell? a = some v :=
 (World.cell?_of_block (w := w) (h.block a.block (World.block_lt_of_cell? w a hc) hs)).trans hc
theorem Blk.chg {S : Nat → Prop} {w w' : World} {b : Nat} {cs : List Value} {t : TypeId} (h : Blk w b cs t) (k : Chg S w w') (hb : ¬ S b) : Blk w' b cs t := by
 have hl := h.lt
 unfold Blk at *; rw [k.block b hl hb]; exact h
end Go.Proofs.Ytkoddmedhnhgiaa
set_option linter.unusedVariables false
set_option linter.unusedSimpArgs false
namespace Go.Proofs.Ytkoddmedhnhgiaa
open Go.RowKit Go.Proofs.Ytkoddmedhnhgiaa.PReportBack Go.Proofs.YtkoddmedhnhgiaaW.PrintWords
def Bytes (l : List Int) : Prop := ∀ x ∈ l, 0 ≤ x ∧ x ≤ 255
theorem Bytes.at {l : List Int} (h : Bytes l) (i : Nat) : 0 ≤ l.getD i 0 ∧ l.getD i 0 ≤ 255 := by
 rw [List.getD_eq_getElem?_getD]
 rcases Nat.lt_or_ge i l.length with hi | hi
 ·rw [List.getElem?_eq_getElem hi]; exact h _ (List.getElem_mem hi)
 ·rw [List.getElem?_eq_none hi]; simp
theorem drop_cons {l : List Int} {a : Int} {c : Int} {cs : List Int} (_h0 : 0 ≤ a) (h : l.drop a.toNat = c :: cs) : a < l.length ∧ rd l a = c ∧ l.drop (a + 1).toNat = cs ∧ a + 1 ≤ l.length := by
 have hl : a.toNat < l.length := by
  rcases Nat.lt_or_ge a.toNat l.length with h' | h'
  ·exact h'
  ·rw [List.drop_eq_nil_of_le h'] at h; cases h
 rw [List.drop_eq_getElem_cons hl] at h
 injection h with h1 h2
 refine ⟨by omega, ?_, ?_, by omega⟩
 ·unfold rd; rw [List.getD_eq_getElem?_getD, List.getElem?_eq_getElem hl]; exact h1
 ·rw [show (a + 1).toNat = a.toNat + 1 from by omega]; exact h2
theorem drop_nil {l : List Int} {a : Int} (h0 : 0 ≤ a) (h1 : a ≤ l.length) (h : l.drop a.toNat = []) : a = l.length := by
 have := List.drop_eq_nil_iff.1 h
 omega
theorem digit_f (c : Int) (h : 0 ≤ c ∧ c ≤ 255) : digits_digit.f (wrap32 c) = some (if 48 ≤ c ∧ c ≤ 57 then c - 48 else -1) := by
 have e : wrap32 c = c := by unfold wrap32; omega
 unfold digits_digit.f
 rw [e]
 by_cases h1 : c < 48
 ·rw [if_pos h1, if_neg (by omega)]
 ·rw [if_neg h1]
  by_cases h2 : c > 57
  ·rw [if_pos h2, if_neg (by omega)]
  ·rw [if_neg h2, if_pos (by omega)]
   unfold wrap64 wrap32; congr 1; omega
theorem tdiv10 (d : Int) (h : 0 ≤ d ∧ d ≤ 9) : wrap64 (Int.tdiv (wrap64 (2147483647 - d)) 10) = (2147483647 - d) / 10 := by
 rw [IntWalk.wrap64_in (2147483647 - d) (by omega), Int.tdiv_eq_ediv_of_nonneg (by omega), IntWalk.wrap64_in _ (by omega)]
theorem parse_l0 (l : List Int) (hb : Bytes l) (hl : (l.length : Int) ≤ 140737488351232) (a : Int) : ∀ (cs : List Int) (K : Nat) (n k : Int), 0 ≤ a → a ≤ k → k ≤ l.length → l.drop k.toNat = cs → cs.length < K →
 0 ≤ n → n ≤ 2147483647 → (k = a → n = 0) → digits_Parse.l0 K l a n k = some (scan cs (decide (k = a)) n k) := by
 intro cs
 induction cs with
 | nil =>
  intro K n k h0 h1 h2 hd hK hn0 hn1 hf
  obtain ⟨K, rfl⟩ : ∃ m, K = m + 1 := ⟨K - 1, by simp at hK; omega⟩
  have e := drop_nil (by omega) h2 hd
  simp only [digits_Parse.l0, scan]
  rw [if_neg (by omega)]
  by_cases hka : k = a
  ·subst hka; simp
  ·simp [hka]
 | cons c cs ih =>
  intro K n k h0 h1 h2 hd hK hn0 hn1 hf
  obtain ⟨K, rfl⟩ : ∃ m, K = m + 1 := ⟨K - 1, by simp at hK; omega⟩
  obtain ⟨hlt, hc, hd', hle⟩ := drop_cons (by omega) hd
  have hcb : 0 ≤ c ∧ c ≤ 255 := by have := hb.at k.toNat; unfold rd at hc; rwa [hc] at this
  simp only [digits_Parse.l0, scan]
  rw [if_pos hlt, if_pos (by omega), hc, digit_f c hcb]
  simp only [Option.bind_some]
  by_cases hdg : 48 ≤ c ∧ c ≤ 57
  ·rw [if_pos hdg, if_pos hdg, if_neg (by omega)]
   rw [tdiv10 (c - 48) (by omega), IntWalk.wrap64_in (n * 10) (by omega), IntWalk.wrap64_in (k + 1) (by omega)]
   by_cases hka : k = a
   ·rw [if_neg (by omega), if_neg (by omega)]
    have hn := hf hka
    subst hn
    rw [if_neg (by simp [hka]; omega)]
    rw [IntWalk.wrap64_in _ (by omega)]
    rw [ih K _ (k + 1) h0 (by omega) hle hd' (by simp at hK; omega) (by omega) (by omega) (by omega)]
    simp only [show (k + 1 = a) = False from by simp; omega, decide_false]
   ·rw [if_pos (by omega)]
    by_cases hz : n = 0
    ·rw [if_pos hz, if_pos (by simp [hz, hka])]
    ·rw [if_neg hz]
     by_cases hg : (2147483647 - (c - 48)) / 10 < n
     ·rw [if_pos hg, if_pos (.inr hg)]
     ·rw [if_neg hg, if_neg (by simp [hz]; omega)]
      rw [IntWalk.wrap64_in _ (by omega)]
      rw [ih K _ (k + 1) h0 (by omega) hle hd' (by simp at hK; omega) (by omega) (by omega) (by omega)]
      simp only [show (k + 1 = a) = False from by simp; omega, decide_false]
  ·rw [if_neg hdg, if_neg hdg, if_pos (by omega)]
   by_cases hka : k = a
   ·subst hka; simp
   ·simp [hka]
theorem parse_f (l : List Int) (hb : Bytes l) (hl : (l.length : Int) ≤ 140737488351232) (a : Int) (K : Nat) (hK : l.length + 2 ≤ K) : digits_Parse.f K l a = some (parse l a) := by
 obtain ⟨K, rfl⟩ : ∃ m, K = m + 1 := ⟨K - 1, by omega⟩
 unfold digits_Parse.f parse
 by_cases h0 : a < 0
 ·rw [if_pos h0, if_pos (.inl h0)]; simp [digits_Parse.j0]
 ·rw [if_neg h0]
  by_cases h1 : a > l.length
  ·rw [if_pos (.inr h1)]; simp [digits_Parse.j0, h1]
  ·rw [if_neg (by omega)]
   simp only [digits_Parse.j0, h1, decide_false]
   rw [if_neg (by simp), parse_l0 l hb hl a (l.drop a.toNat) K 0 a (by omega) (by omega) (by omega) rfl (by simp; omega) (by omega) (by omega) (by simp)]
   simp
end Go.Proofs.Ytkoddmedhnhgiaa
set_option linter.unusedVariables false
set_option linter.unusedSimpArgs false
namespace Go.Proofs.Ytkoddmedhnhgiaa
open Go.RowKit Go.Proofs.Ytkoddmedhnhgiaa.PReportBack Go.Proofs.YtkoddmedhnhgiaaW.PrintWords
end Go.Proofs.Ytkoddmedhnhgiaa
set_option linter.unusedVariables false
set_option linter.unusedSimpArgs false
namespace Go.Proofs.Ytkoddmedhnhgiaa
open Go.RowKit Go.Proofs.Ytkoddmedhnhgiaa.PReportBack Go.Proofs.YtkoddmedhnhgiaaW.PrintWords
theorem C_laid {w : World} {b : Nat} {k : IntKind} {t : TypeId} {fz : Nat × Nat} (l : List Int) (hl : l.length ≤ 9223372036854775807) (h : w.heap[b]? = some (.cells (l.map fun x => .int k x).toArray t fz)) :
 Kd.C (Kd.int k) w (some ⟨b, 0, none⟩) l.length l := by
 refine Kd.C_of_reads (enc := Value.int k) (d := (0 : Int)) (h1 := fun _ => rfl) ⟨rfl, hl, fun _ => ⟨_, rfl, fun j hj => ?_⟩⟩
 rw [add_plain, cell_of_row w b j _ t fz h, List.getElem?_toArray, List.getElem?_map, List.getD_eq_getElem?_getD, List.getElem?_eq_getElem hj]
 rfl
theorem alloc_at (w : World) (o : Obj) : (w.alloc o).heap[w.heap.size]? = some o := heap_alloc_new w o
end Go.Proofs.Ytkoddmedhnhgiaa
set_option linter.unusedVariables false
set_option linter.unusedSimpArgs false
namespace Go.Proofs.Ytkoddmedhnhgiaa
open Go.RowKit Go.Proofs.YtkoddmedhnhgiaaW.PrintWords Go.Proofs.Ytkoddmedhnhgiaa.PReportBack
theorem parse_calls (l : List Int) (a : Int) (A : Option Addr) (c : Nat) (w : World) (hr : Kd.C (Kd.int .u8) w A l.length l) (hc : l.length ≤ c) (hb : Bytes l) (hl : (l.length : Int) ≤ 140737488351232) :
 Calls Try.prog 67 #[.slice A l.length c, .int .i64 a] w fun e w' => e = .returned (.tuple #[.int .i64 (parse l a).1, .int .i64 (parse l a).2.1, .bool (parse l a).2.2]) ∧ Drawn0 w w' :=
 digits_Parse.calls _ A c l a _ _ _ w hr hc (parse_f l hb hl a _ (Nat.le_refl _))
end Go.Proofs.Ytkoddmedhnhgiaa
set_option linter.unusedVariables false
set_option linter.unusedSimpArgs false
namespace Go.Proofs.Ytkoddmedhnhgiaa
open Go.RowKit Go.Proofs.YtkoddmedhnhgiaaW.PrintWords
namespace Cur
def cells (m : Bool) (A : Option Addr) (n c : Nat) (p e x : Int) : List Value := [.bool m, .slice A n c, .int .i64 p, .int .i64 e, .int .i64 x]
abbrev Is (w : World) (b : Nat) (m : Bool) (A : Option Addr) (n c : Nat) (p e x : Int) : Prop := Blk w b (cells m A n c p e x) 95
set_option maxHeartbeats 400000 in
theorem is_calls (w : World) (b : Nat) (m : Bool) (A : Option Addr) (n c : Nat) (p e x : Int) (h : Is w b m A n c p e x) :
 Calls Try.prog 57 #[.pointer (some ⟨b, 0, none⟩)] w fun r w' => r = .returned (.bool m) ∧ w = w' := by
 have q0 := Blk.cell h 0
 simp only [cells, List.getElem?_cons_zero] at q0
 clear h
 go_enter Try.func57, Try.ntmps57
 go_wp2
 go_ret
 exact ⟨rfl, rfl⟩
set_option maxHeartbeats 400000 in
theorem goes_calls (w : World) (b : Nat) (A : Option Addr) (n c : Nat) (p e x : Int) (h : Is w b true A n c p e x) :
 Calls Try.prog 58 #[.pointer (some ⟨b, 0, none⟩)] w fun r w' => r = .returned (.bool (e == 0)) ∧ w = w' := by
 have q3 := Blk.cell h 3
 simp only [cells, List.getElem?_cons_zero, List.getElem?_cons_succ] at q3
 have HI := Lib.hid (is_calls w b true A n c p e x h)
 clear h
 go_enter Try.func58, Try.ntmps58
 go_wp2_with (go_at_call 57; refine HI.out.mono ?_; rintro r w' ⟨rfl, rfl⟩)
 go_ret
 exact ⟨rfl, rfl⟩
set_option maxHeartbeats 400000 in
theorem at_calls (w : World) (b : Nat) (A : Option Addr) (n c : Nat) (p e x : Int) (h : Is w b true A n c p e x) :
 Calls Try.prog 34 #[.pointer (some ⟨b, 0, none⟩)] w fun r w' => r = .returned (.int .i64 p) ∧ w = w' := by
 have q2 := Blk.cell h 2
 simp only [cells, List.getElem?_cons_zero, List.getElem?_cons_succ] at q2
 have HI := Lib.hid (is_calls w b true A n c p e x h)
 clear h
 go_enter Try.func34, Try.ntmps34
 go_wp2_with (go_at_call 57; refine HI.out.mono ?_; rintro r w' ⟨rfl, rfl⟩)
 go_ret
 exact ⟨rfl, rfl⟩
set_option maxHeartbeats 400000 in
theorem err_calls (w : World) (b : Nat) (A : Option Addr) (n c : Nat) (p e x : Int) (h : Is w b true A n c p e x) :
 Calls Try.prog 36 #[.pointer (some ⟨b, 0, none⟩)] w fun r w' => r = .returned (.tuple #[.int .i64 e, .int .i64 x]) ∧ ∃ q, w' = w.drewN q := by
 have q3 := Blk.cell h 3
 have q4 := Blk.cell h 4
 simp only [cells, List.getElem?_cons_zero, List.getElem?_cons_succ] at q3 q4
 have HI := Lib.hid (is_calls w b true A n c p e x h)
 clear h
 go_enter Try.func36, Try.ntmps36
 go_wp2_with (go_at_call 57; refine HI.out.mono ?_; rintro r w' ⟨rfl, rfl⟩)
 go_quiet (fail)
 go_wp2
 go_ret2
 exact ⟨rfl, _, rfl⟩
structure Cr where
 p : Int
 e : Int
 x : Int
def peek (l : List Int) (s : Cr) : Int × Bool := if s.e = 0 ∧ s.p < l.length then (rd l s.p, true) else (0, false)
def fail (s : Cr) (e a : Int) : Cr := if s.e = 0 ∧ e ≠ 0 then { s with e := e, x := a } else s
def byte (l : List Int) (s : Cr) (y : Int) : Cr := if (peek l s).2 = true ∧ y = (peek l s).1 then { s with p := s.p + 1 } else fail s 4 s.p
def number (l : List Int) (s : Cr) : Cr × Int := if s.e = 0 then (if (parse l s.p).2.2 = true then ({ s with p := (parse l s.p).2.1 }, (parse l s.p).1) else (fail s 4 (parse l s.p).2.1, 0)) else (s, 0)
abbrev At (w : World) (b : Nat) (A : Option Addr) (n c : Nat) (s : Cr) : Prop := Is w b true A n c s.p s.e s.x
set_option maxHeartbeats 400000 in
theorem next_yes (w : World) (b : Nat) (A : Option Addr) (l : List Int) (c : Nat) (p e x : Int) (h : Is w b true A l.length c p e x) (hr : Kd.C (Kd.int .u8) w A l.length l) (h0 : 0 ≤ p) (h1 : p < l.length) :
 Calls Try.prog 66 #[.pointer (some ⟨b, 1, none⟩)] w fun r w' => r = .returned (.tuple #[.int .u8 (rd l p), .bool true]) ∧ ∃ q, w' = w.drewN q := by
 have q1 := Blk.cell h 1
 have q2 := Blk.cell h 2
 simp only [cells, List.getElem?_cons_zero, List.getElem?_cons_succ] at q1 q2
 obtain ⟨ad, rfl, hx⟩ := Kd.at_int hr p h0 h1
 obtain ⟨k, rfl⟩ := Int.eq_ofNat_of_zero_le h0
 rw [Int.toNat_natCast] at hx
 clear h hr
 generalize rd l k = y at *
 generalize l.length = n at *
 have hd : decide (n ≤ k) = false := decide_eq_false (by omega)
 have hk : (k : Int) < n := h1
 go_enter Try.func66, Try.ntmps66
 go_wp2
 go_quiet (fail)
 go_wp2
 go_quiet (fail)
 go_wp2
 go_ret2
 exact ⟨rfl, _, by rw [World.drewN_drewN]⟩
set_option maxHeartbeats 400000 in
theorem next_no (w : World) (b : Nat) (A : Option Addr) (n c : Nat) (p e x : Int) (h : Is w b true A n c p e x) (h1 : ¬ p < n) :
 Calls Try.prog 66 #[.pointer (some ⟨b, 1, none⟩)] w fun r w' => r = .returned (.tuple #[.int .u8 0, .bool false]) ∧ ∃ q, w' = w.drewN q := by
 have q1 := Blk.cell h 1
 have q2 := Blk.cell h 2
 simp only [cells, List.getElem?_cons_zero, List.getElem?_cons_succ] at q1 q2
 clear h
 have hd : decide ((n : Int) ≤ p) = true := decide_eq_true (by omega)
 go_enter Try.func66, Try.ntmps66
 go_wp2
 go_quiet (fail)
 go_wp2
 go_ret2
 exact ⟨rfl, _, rfl⟩
set_option maxHeartbeats 400000 in
theorem peek_calls (w : World) (b : Nat) (A : Option Addr) (l : List Int) (c : Nat) (s : Cr) (h : At w b A l.length c s) (hr : Kd.C (Kd.int .u8) w A l.length l) (h0 : 0 ≤ s.p) :
 Calls Try.prog 54 #[.pointer (some ⟨b, 0, none⟩)] w fun r w' => r = .returned (.tuple #[.int .u8 (peek l s).1, .bool (peek l s).2]) ∧ ∃ q, w' = w.drewN q := by
 have HI := Lib.hid (goes_calls w b A l.length c s.p s.e s.x h)
 by_cases he : s.e = 0
 ·have hb : (s.e == 0) = true := by simp [he]
  rw [hb] at HI
  by_cases h1 : s.p < l.length
  ·have HN := Lib.hid (next_yes w b A l c s.p s.e s.x h hr h0 h1)
   unfold peek
   rw [if_pos ⟨he, h1⟩]
   clear h hr h0 h1 he hb
   go_enter Try.func54, Try.ntmps54
   go_wp2_with (go_at_call 58; refine HI.out.mono ?_; rintro r w' ⟨rfl, rfl⟩)
   refine HN.out.mono ?_
   rintro r w' ⟨rfl, q, rfl⟩
   go_wp2
   go_ret2
   exact ⟨rfl, _, rfl⟩
  ·have HN := Lib.hid (next_no w b A l.length c s.p s.e s.x h h1)
   unfold peek
   rw [if_neg (fun hh => h1 hh.2)]
   clear h hr h0 h1 he hb
   go_enter Try.func54, Try.ntmps54
   go_wp2_with (go_at_call 58; refine HI.out.mono ?_; rintro r w' ⟨rfl, rfl⟩)
   refine HN.out.mono ?_
   rintro r w' ⟨rfl, q, rfl⟩
   go_wp2
   go_ret2
   exact ⟨rfl, _, rfl⟩
 ·have hb : (s.e == 0) = false := by simp [he]
  rw [hb] at HI
  unfold peek
  rw [if_neg (fun hh => he hh.1)]
  clear h hr h0 he hb
  go_enter Try.func54, Try.ntmps54
  go_wp2_with (go_at_call 58; refine HI.out.mono ?_; rintro r w' ⟨rfl, rfl⟩)
  go_ret2
  exact ⟨rfl, 0, rfl⟩
end Cur
end Go.Proofs.Ytkoddmedhnhgiaa
set_option linter.unusedVariables false
set_option linter.unusedSimpArgs false
namespace Go.Proofs.Ytkoddmedhnhgiaa
open Go.RowKit Go.Proofs.YtkoddmedhnhgiaaW.PrintWords
namespace Cur
set_option maxHeartbeats 1000000 in
theorem fail_calls (w : World) (b : Nat) (A : Option Addr) (n c : Nat) (s : Cr) (h : At w b A n c s) (e a : Int) :
 Calls Try.prog 35 #[.pointer (some ⟨b, 0, none⟩), .int .i64 e, .int .i64 a] w fun r w' => r = .returned (.tuple #[]) ∧ At w' b A n c (fail s e a) ∧ Chg (fun k => k = b) w w' := by
 have HI := Lib.hid (goes_calls w b A n c s.p s.e s.x h)
 by_cases he : s.e = 0 ∧ e ≠ 0
 ·have hb : (s.e == 0) = true := by simp [he.1]
  have hne : (e != 0) = true := by simp [he.2]
  rw [hb] at HI
  have q3 := Blk.cell h 3
  have q4 := Blk.cell h 4
  have f3 := Blk.free h 3
  have f4 := Blk.free h 4
  simp only [cells, List.getElem?_cons_zero, List.getElem?_cons_succ] at q3 q4
  have hfin : At ((w.setCell ⟨b, 3, none⟩ (.int .i64 e)).setCell ⟨b, 4, none⟩ (.int .i64 a)) b A n c (fail s e a) ∧ Chg (fun k => k = b) w ((w.setCell ⟨b, 3, none⟩ (.int .i64 e)).setCell ⟨b, 4, none⟩ (.int .i64 a)) := by
   unfold fail
   rw [if_pos he]
   exact ⟨(Blk.set h 3 _).set 4 _, Chg.set (S := fun k => k = b) (Chg.set (S := fun k => k = b) (Chg.refl _ w) 3 (.inl rfl) _) 4 (.inl rfl) _⟩
  have HF := Lib.hid hfin
  clear h he hb hfin
  go_enter Try.func35, Try.ntmps35
  go_wp2_with (go_at_call 58; refine HI.out.mono ?_; rintro r w' ⟨rfl, rfl⟩)
  go_end0
  exact ⟨rfl, HF.out⟩
 ·unfold fail
  rw [if_neg he]
  by_cases h0 : s.e = 0
  ·have h1 : e = 0 := Classical.byContradiction fun h1 => he ⟨h0, h1⟩
   subst h1
   have hb : (s.e == 0) = true := by simp [h0]
   rw [hb] at HI
   have H := Lib.hid h
   clear h he h0 hb
   go_enter Try.func35, Try.ntmps35
   go_wp2_with (go_at_call 58; refine HI.out.mono ?_; rintro r w' ⟨rfl, rfl⟩)
   go_end0
   exact ⟨rfl, H.out, Chg.refl _ _⟩
  ·have hb : (s.e == 0) = false := by simp [h0]
   rw [hb] at HI
   have H := Lib.hid h
   clear h he h0 hb
   go_enter Try.func35, Try.ntmps35
   go_wp2_with (go_at_call 58; refine HI.out.mono ?_; rintro r w' ⟨rfl, rfl⟩)
   go_end0
   exact ⟨rfl, H.out, Chg.refl _ _⟩
theorem At.drewN {w : World} {b : Nat} {A : Option Addr} {n c : Nat} {s : Cr} (h : At w b A n c s) (q : Nat) : At (w.drewN q) b A n c s := h
theorem chgN {w w' : World} {S : Nat → Prop} {q : Nat} (h : Chg S (w.drewN q) w') : Chg S w w' := ⟨h.os, h.tape, h.output, h.size, h.block⟩
set_option maxHeartbeats 1000000 in
theorem byte_calls (w : World) (b : Nat) (A : Option Addr) (l : List Int) (c : Nat) (s : Cr) (h : At w b A l.length c s) (hr : Kd.C (Kd.int .u8) w A l.length l) (h0 : 0 ≤ s.p) (hl : (l.length : Int) ≤ 140737488351232) (y : Int) :
 Calls Try.prog 29 #[.pointer (some ⟨b, 0, none⟩), .int .u8 y] w fun r w' => r = .returned (.tuple #[]) ∧ At w' b A l.length c (byte l s y) ∧ Chg (fun k => k = b) w w' := by
 have HP := Lib.hid (peek_calls w b A l c s h hr h0)
 unfold byte
 by_cases hp : (peek l s).2 = true
 ·have hlt : s.p < l.length := by
   unfold peek at hp
   split at hp
   ·rename_i hh; exact hh.2
   ·simp at hp
  by_cases hy : y = (peek l s).1
  ·rw [if_pos ⟨hp, hy⟩]
   rw [hp] at HP
   generalize (peek l s).1 = z at *
   subst hy
   have q2 := fun q => Blk.cell (At.drewN h q) 2
   have f2 := fun q => Blk.free (At.drewN h q) 2
   simp only [cells, List.getElem?_cons_zero, List.getElem?_cons_succ] at q2
   have hfin : ∀ q, At ((w.drewN q).setCell ⟨b, 2, none⟩ (.int .i64 (s.p + 1))) b A l.length c { s with p := s.p + 1 } ∧ Chg (fun k => k = b) w ((w.drewN q).setCell ⟨b, 2, none⟩ (.int .i64 (s.p + 1))) := fun q =>
    ⟨Blk.set (At.drewN h q) 2 _, Chg.set (S := fun k => k = b) ((Chg.refl _ w).drewN q) 2 (.inl rfl) _⟩
   have HF := Lib.hid hfin
   generalize s.p = p at *
   generalize l.length = n at *
   clear h hr hfin hp
   go_enter Try.func29, Try.ntmps29
   go_wp2_with fail
   refine HP.out.mono ?_
   rintro r w' ⟨rfl, q, rfl⟩
   replace q2 := q2 q
   replace f2 := f2 q
   go_wp2
   refine bodyPost_ret (results_none rfl _ _ _) rfl ⟨rfl, ?_⟩
   exact HF.out q
  ·rw [if_neg (fun hh => hy hh.2)]
   rw [hp] at HP
   have hyb : (y == (peek l s).1) = false := by simp [hy]
   have HA := Lib.hid (fun q => at_calls (w.drewN q) b A l.length c s.p s.e s.x (At.drewN h q))
   have HF := Lib.hid (fun q => fail_calls (w.drewN q) b A l.length c s (At.drewN h q) 4 s.p)
   generalize (peek l s).1 = z at *
   generalize fail s 4 s.p = s' at *
   generalize l.length = n at *
   clear h hr hp hy hlt h0
   go_enter Try.func29, Try.ntmps29
   go_wp2_with fail
   refine HP.out.mono ?_
   rintro r w' ⟨rfl, q, rfl⟩
   have HA := Lib.hid (HA.out q)
   have HF := Lib.hid (HF.out q)
   go_wp2_with fail
   refine HA.out.mono ?_
   rintro r w' ⟨rfl, rfl⟩
   go_wp2_with fail
   refine HF.out.mono ?_
   rintro r w' ⟨rfl, h1, h2⟩
   go_wp2
   go_end0
   exact ⟨rfl, h1, chgN h2⟩
 ·rw [if_neg (fun hh => hp hh.1)]
  have hpf : (peek l s).2 = false := by simpa using hp
  rw [hpf] at HP
  have HA := Lib.hid (fun q => at_calls (w.drewN q) b A l.length c s.p s.e s.x (At.drewN h q))
  have HF := Lib.hid (fun q => fail_calls (w.drewN q) b A l.length c s (At.drewN h q) 4 s.p)
  generalize (peek l s).1 = z at *
  generalize fail s 4 s.p = s' at *
  generalize l.length = n at *
  clear h hr hp h0 hpf
  go_enter Try.func29, Try.ntmps29
  go_wp2_with fail
  refine HP.out.mono ?_
  rintro r w' ⟨rfl, q, rfl⟩
  have HA := Lib.hid (HA.out q)
  have HF := Lib.hid (HF.out q)
  go_wp2_with fail
  refine HA.out.mono ?_
  rintro r w' ⟨rfl, rfl⟩
  go_wp2_with fail
  refine HF.out.mono ?_
  rintro r w' ⟨rfl, h1, h2⟩
  go_wp2
  go_end0
  exact ⟨rfl, h1, chgN h2⟩
set_option maxHeartbeats 1000000 in
theorem number_calls (w : World) (b : Nat) (A : Option Addr) (l : List Int) (c : Nat) (s : Cr) (h : At w b A l.length c s) (hr : Kd.C (Kd.int .u8) w A l.length l) (hc : l.length ≤ c) (hb : Bytes l) (hl : (l.length : Int) ≤ 140737488351232) :
 Calls Try.prog 55 #[.pointer (some ⟨b, 0, none⟩)] w fun r w' => r = .returned (.int .i64 (number l s).2) ∧ At w' b A l.length c (number l s).1 ∧ Chg (fun k => k = b) w w' := by
 have HI := Lib.hid (goes_calls w b A l.length c s.p s.e s.x h)
 unfold number
 by_cases he : s.e = 0
 ·have hbe : (s.e == 0) = true := by simp [he]
  rw [hbe] at HI
  rw [if_pos he]
  have HP := Lib.hid (fun q => parse_calls l s.p A c (w.drewN q) (Kd.C_below hr (pw_below_drewN (Below.refl w.heap.size w) q)) hc hb hl)
  have q1 := Blk.cell h 1
  have q2 := Blk.cell h 2
  have q2' := fun q => Blk.cell (At.drewN h q) 2
  have f2' := fun q => Blk.free (At.drewN h q) 2
  simp only [cells, List.getElem?_cons_zero, List.getElem?_cons_succ] at q1 q2 q2'
  have HF := Lib.hid (fun q a => fail_calls (w.drewN q) b A l.length c s (At.drewN h q) 4 a)
  have hfin : ∀ q a, At ((w.drewN q).setCell ⟨b, 2, none⟩ (.int .i64 a)) b A l.length c { s with p := a } ∧ Chg (fun k => k = b) w ((w.drewN q).setCell ⟨b, 2, none⟩ (.int .i64 a)) := fun q a =>
   ⟨Blk.set (At.drewN h q) 2 _, Chg.set (S := fun k => k = b) ((Chg.refl _ w).drewN q) 2 (.inl rfl) _⟩
  have HS := Lib.hid hfin
  clear h hr hfin hb hl hbe he
  generalize (parse l s.p).1 = v at *
  generalize (parse l s.p).2.1 = to_ at *
  generalize (parse l s.p).2.2 = ok at *
  generalize l.length = n at *
  go_enter Try.func55, Try.ntmps55
  go_wp2_with (go_at_call 58; refine HI.out.mono ?_; rintro r w' ⟨rfl, rfl⟩)
  cases ok
  ·go_quiet ((go_at_call 67; exact Calls.quiet_of ((HP.out _).mono fun _ _ hh => ⟨hh.1, hh.2.out⟩)))
   go_wp2_with fail
   refine (HF.out _ _).mono ?_
   rintro r w' ⟨rfl, h1, h2⟩
   go_wp2
   go_ret
   exact ⟨rfl, h1, chgN h2⟩
  ·go_quiet ((go_at_call 67; exact Calls.quiet_of ((HP.out _).mono fun _ _ hh => ⟨hh.1, hh.2.out⟩)))
   have q2'' := q2' nq
   have f2'' := f2' nq
   go_wp2
   go_ret
   exact ⟨rfl, HS.out _ _⟩
 ·have hbe : (s.e == 0) = false := by simp [he]
  rw [hbe] at HI
  rw [if_neg he]
  have H := Lib.hid h
  clear h hr hbe he hb hl hc
  go_enter Try.func55, Try.ntmps55
  go_wp2_with (go_at_call 58; refine HI.out.mono ?_; rintro r w' ⟨rfl, rfl⟩)
  go_ret
  exact ⟨rfl, H.out, Chg.refl _ _⟩
end Cur
end Go.Proofs.Ytkoddmedhnhgiaa
set_option linter.unusedVariables false
set_option linter.unusedSimpArgs false
namespace Go.Proofs.Ytkoddmedhnhgiaa
open Go.RowKit Go.Proofs.YtkoddmedhnhgiaaW.PrintWords
namespace Cur
def Ok (l : List Int) (s : Cr) : Prop := 0 ≤ s.p ∧ s.p ≤ l.length
theorem ok_fail {l : List Int} {s : Cr} (h : Ok l s) (e a : Int) : Ok l (fail s e a) := by
 unfold fail; split <;> exact h
theorem ok_byte {l : List Int} {s : Cr} (h : Ok l s) (y : Int) : Ok l (byte l s y) := by
 unfold byte
 split
 ·rename_i hh
  have hp : s.p < l.length := by
   have := hh.1
   unfold peek at this
   split at this
   ·rename_i h2; exact h2.2
   ·simp at this
  exact ⟨by have := h.1; simp only; omega, by simp only; omega⟩
 ·exact ok_fail h _ _
theorem ok_number {l : List Int} {s : Cr} (h : Ok l s) : Ok l (number l s).1 := by
 have := parse_to l s.p h.1 h.2
 unfold number
 split
 ·split
  ·exact ⟨by have := h.1; simp only; omega, by simp only; omega⟩
  ·exact ok_fail h _ _
 ·exact h
set_option maxHeartbeats 400000 in
theorem new_calls (w : World) (A : Option Addr) (n c : Nat) : Calls Try.prog 28 #[.slice A n c] w fun r w' => r = .returned (.pointer (some ⟨w.heap.size, 0, none⟩)) ∧ At w' w.heap.size A n c ⟨0, 0, 0⟩ ∧ Below w.heap.size w w' := by
 go_enter Try.func28, Try.ntmps28
 go_wp2
 go_ret
 exact ⟨rfl, Blk.new w (cells true A n c 0 0 0) _, (Below.refl w.heap.size w).alloc (Nat.le_refl _) _⟩
end Cur
end Go.Proofs.Ytkoddmedhnhgiaa
set_option linter.unusedVariables false
set_option linter.unusedSimpArgs false
namespace Go.Proofs.Ytkoddmedhnhgiaa
open Go.RowKit Go.Proofs.YtkoddmedhnhgiaaW.PrintWords
namespace Cur
structure Reads (l : List Int) (s s' : Cr) (st : ByteArray) : Prop where
 ok : Ok l s'
 good : s'.e = 0 → strOfNums (l.take s.p.toNat) ++ st = strOfNums (l.take s'.p.toNat)
 bad : s'.e ≠ 0 → s'.p = s.p
end Cur
end Go.Proofs.Ytkoddmedhnhgiaa
set_option linter.unusedVariables false
set_option linter.unusedSimpArgs false
namespace Go.Proofs.Ytkoddmedhnhgiaa
open Go.RowKit Go.Proofs.YtkoddmedhnhgiaaW.PrintWords
def Cells (w : World) (A : Option Addr) (ys : List Value) : Prop := 0 < ys.length → ∃ ad, A = some ad ∧ ∀ j v, ys[j]? = some v → w.cell? (ad.add j) = some v
theorem Cells.take {w : World} {A : Option Addr} {ys : List Value} (h : Cells w A ys) (k : Nat) : Cells w A (ys.take k) := fun h0 => by
 obtain ⟨ad, e, hc⟩ := h (by simp at h0; omega)
 refine ⟨ad, e, fun j v hv => hc j v ?_⟩
 rw [List.getElem?_take] at hv
 split at hv
 ·exact hv
 ·cases hv
theorem Cells.drop {w : World} {ad : Addr} {ys : List Value} (h : Cells w (some ad) ys) (k : Nat) : Cells w (some (ad.add k)) (ys.drop k) := fun h0 => by
 obtain ⟨ad', e, hc⟩ := h (by simp at h0; omega)
 injection e with e; subst e
 refine ⟨_, rfl, fun j v hv => ?_⟩
 rw [Go.Deep.add_add]
 exact hc _ v (by rwa [List.getElem?_drop] at hv)
theorem Cells.new (w : World) (cs : List Value) (t : TypeId) : Cells (w.alloc (.cells cs.toArray t)) (some ⟨w.heap.size, 0, none⟩) cs := fun _ =>
 ⟨_, rfl, fun j v hv => by simpa using World.news_of_block (cs := cs.toArray) (t := t) (fr := (0, 0)) (heap_alloc_new w (.cells cs.toArray t)) j v (by simpa using hv)⟩
section
variable {P : Program} {ops : Array Oper} {o : Oper} {a : Act} {Q : Exit → Act → World → Prop} {K : Act → World → Prop}
end
section
variable {P : Program} (w : World)
end
end Go.Proofs.Ytkoddmedhnhgiaa
set_option linter.unusedVariables false
set_option linter.unusedSimpArgs false
namespace Go.Proofs.Ytkoddmedhnhgiaa
open Go.RowKit Go.Proofs.YtkoddmedhnhgiaaW.PrintWords
section
variable {P : Program} {ops : Array Oper} {rest : List Oper} {o : Oper} {a : Act} {Q : Exit → Act → World → Prop} {K : Act → World → Prop}
theorem run_appK (W : World) (base : Nat) (t ty e : TypeId) (z : Value) (k bytes : Nat) (ht : P.underlying t = some (.slice e)) (hinfo : (P.info? e).map (fun i => (i.zero, i.size, i.bytes)) = some (some z, k, bytes)) (hz : z.cells.size = k) (hk0 : 0 < k) (hb0 : 0 < bytes)
 (v : Value) (n : Nat) (xs ys : List Value) (A : Option Addr) (m c : Nat) (hm : ys.length = m * k) (HO : W.ownsRow base e k v n xs) (HR : Cells W A ys) (h1 : ∀ u ∈ ys, u.oneCell' = true) (hbase : base ≤ W.heap.size) (hl : (n + m) * bytes ≤ 140737488355328) :
 ∃ v1 w1, (Builtin.append_ #[t, t] ty #[v, .slice A m c]).run P W = .ok v1 w1 ∧ w1.ownsRow base e k v1 (n + m) (xs ++ ys) ∧ W.grownBy w1 v.ownBlock ∧ (v1.ownBlock = v.ownBlock ∨ ∃ b, v1.ownBlock = some b ∧ W.heap.size ≤ b) := by
 obtain ⟨i0, hi, hzz⟩ := Option.map_eq_some_iff.1 hinfo
 simp only [Prod.mk.injEq] at hzz
 obtain ⟨hz0, hz1, hz2⟩ := hzz
 have hlen : n + m ≤ 140737488355328 := Nat.le_trans (Nat.le_mul_of_pos_right _ hb0) hl
 rcases A with _ | ad
 ·have h0 : m = 0 := by
   rcases Nat.eq_zero_or_pos m with h0 | h0
   ·exact h0
   ·obtain ⟨ad, h, _⟩ := HR (by rw [hm]; exact Nat.mul_pos h0 hk0)
    cases h
  subst h0
  obtain rfl : ys = [] := List.eq_nil_of_length_eq_zero (by rw [hm, Nat.zero_mul])
  refine ⟨v, W, ?_, by rw [List.append_nil]; exact HO, World.grownBy.refl W _, .inl rfl⟩
  rcases HO.2 with ⟨rfl, hn⟩ | ⟨g, cap, cur, rfl, _, _, hnc, _⟩
  ·subst hn
   simp [Builtin.append_, run_underlying ht, sizeOf, typeInfo, hi, Builtin.lenOf, Builtin.firstCells]
  ·simp [Builtin.append_, run_underlying ht, sizeOf, typeInfo, hi, Builtin.lenOf, Builtin.firstCells, hnc, storeCells]
 ·have hnc : ∀ j u, ys[j]? = some u → W.cell? (ad.add j) = some u := by
   intro j u hu
   have h0 : 0 < ys.length := by
    rcases Nat.eq_zero_or_pos ys.length with h0 | h0
    ·rw [List.eq_nil_of_length_eq_zero h0] at hu; simp at hu
    ·exact h0
   obtain ⟨ad', he, hc⟩ := HR h0
   injection he with he; subst he
   exact hc j u hu
  obtain ⟨v1, w1, hrun, h2, hg, _, hat⟩ := run_append_own_at (P := P) W base t ty e i0 z k bytes ht hi hz0 hz1 hz2 hz hk0 v n xs HO ad m c ys hm hnc h1 (by simp only [maxLen]; omega) hl hbase
  refine ⟨v1, w1, hrun, h2, hg, ?_⟩
  rcases hat with hat | hat
  ·exact .inl hat
  ·exact .inr ⟨_, hat, Nat.le_refl _⟩
theorem wpl_appK {w0 W : World} (base : Nat) (hgd : o.guard = none) (s x : Operand) (t e : TypeId) (z : Value) (k bytes : Nat)
 (ho : o.op = .call { callee := .builtin .append, args := #[s, x], argTypes := #[t, t] })
 (ht : P.underlying t = some (.slice e)) (hinfo : (P.info? e).map (fun i => (i.zero, i.size, i.bytes)) = some (some z, k, bytes)) (hz : z.cells.size = k) (hk0 : 0 < k) (hb0 : 0 < bytes)
 (v : Value) (xs ys : List Value) (A : Option Addr) (n m c : Nat) (hs : a.eval s = v) (hx : a.eval x = .slice A m c) (hm : ys.length = m * k) (HO : W.ownsRow base e k v n xs) (HR : Cells W A ys) (h1 : ∀ u ∈ ys, u.oneCell' = true)
 (HB : Below base w0 W) (hbase : base ≤ W.heap.size) (hl : (n + m) * bytes ≤ 140737488355328)
 (h : ∀ A1 c1 w1, w1.ownsRow base e k (.slice A1 (n + m) c1) (n + m) (xs ++ ys) → Below base w0 w1 → W.grownBy w1 v.ownBlock → ((Value.slice A1 (n + m) c1).ownBlock = v.ownBlock ∨ ∃ b, (Value.slice A1 (n + m) c1).ownBlock = some b ∧ W.heap.size ≤ b) → n + m ≤ c1 → wpList P ops Q rest (a.put o.dst (.slice A1 (n + m) c1)) w1) :
 wpList P ops Q (o :: rest) a W := by
 obtain ⟨v1, w1, hr, hown, hg, hat⟩ := run_appK (P := P) W base t o.type e z k bytes ht hinfo hz hk0 hb0 v n xs ys A m c hm HO HR h1 hbase hl
 refine wpList_plain hgd fun K hK => ?_
 unfold Oper.wp execOp
 simp only [ho, resolve, invoke, builtin, Sem.run_bind, Sem.run_pure, Result.andThen_ok, List.map_toArray, List.map_cons, List.map_nil, hs, hx, hr]
 have hB := HB.grown hg hbase (own_base HO)
 rcases hown.2 with ⟨rfl, h0⟩ | ⟨g, cap, cur, rfl, _, _, h2, _⟩
 ·have e0 : n + m = 0 := h0
  have h3 := h none 0 w1
  rw [e0] at h3
  rw [e0] at hown
  exact hK _ _ (h3 hown hB hg hat (Nat.le_refl _))
 ·exact hK _ _ (h _ _ w1 hown hB hg hat h2)
end
end Go.Proofs.Ytkoddmedhnhgiaa
set_option linter.unusedVariables false
set_option linter.unusedSimpArgs false
namespace Go.Proofs.Ytkoddmedhnhgiaa
open Go.RowKit Go.ChangeShapes Go.WideShapes Go.Proofs.YtkoddmedhnhgiaaW.PrintWords
def Opens (P : Program) (w : World) (t : TypeId) {α : Type} (K : α → List Value → Prop) : Prop :=
 ∀ {H : Type} (enc : TypeId × Value → H) (fuel : Nat) (cs : List Value) (x : DataW H × List MemPlace), DataW.trod enc P w 0 (fun _ => true) true fuel t cs = some x → ∃ a, K a cs
theorem opens_int {P : Program} {w : World} {t : TypeId} {k : IntKind} (ht : P.underlying t = some (.int k)) : Opens P w t (fun (n : Int) cs => cs = [.int k n] ∧ (Lit.int k n).wf = true) := by
 intro H enc fuel cs x h
 obtain ⟨n, h1, _, h2⟩ := DataW.trod_int ht h
 exact ⟨n, h1, h2⟩
theorem Opens.mono {P : Program} {w : World} {t : TypeId} {α β : Type} {K : α → List Value → Prop} {K' : β → List Value → Prop} (h : Opens P w t K) (f : α → β) (hf : ∀ a cs, K a cs → K' (f a) cs) : Opens P w t K' := by
 intro H enc fuel cs x hx
 obtain ⟨a, ha⟩ := h enc fuel cs x hx
 exact ⟨f a, hf a cs ha⟩
theorem opens_slice {P : Program} {w : World} {t e : TypeId} {α : Type} {K : α → List Value → Prop} {sz : Nat} (ht : P.underlying t = some (.slice e)) (hc : P.cellsOf e = sz) (hK : Opens P w e K) :
 Opens P w t (fun (l : List α) cs => ∃ A c, cs = [.slice A l.length c] ∧ l.length ≤ c ∧ ReadsRow K sz w A l.length l) := by
 intro H enc fuel cs x h
 rcases Go.Deep.open_slice ht h with ⟨rfl, _⟩ | ⟨a, len, cap, m, n, D, Pl, rfl, _, hl, hm, hmm, _, hx⟩
 ·exact ⟨[], none, 0, rfl, Nat.le_refl _, rfl, by simp, fun h0 => by simp at h0⟩
 ·simp only [if_pos] at hmm
  subst hmm
  have each : ∀ i, i < m → ∃ q : α, ∃ c : List Value, c.length = sz ∧ K q c ∧ ∀ j u, c[j]? = some u → w.cell? (a.add (i * sz + j)) = some u := by
   intro i hi
   obtain ⟨cs', h1, h2⟩ := hx i hi
   rw [hc] at h1
   obtain ⟨_, hlen, hcell⟩ := World.cells?_some h1
   obtain ⟨q, hq⟩ := hK enc _ _ _ h2
   refine ⟨q, cs', hlen, hq, fun j u hu => ?_⟩
   have hj : j < cs'.length := by
    rcases Nat.lt_or_ge j cs'.length with h' | h'
    ·exact h'
    ·rw [List.getElem?_eq_none h'] at hu; cases hu
   have := hcell j (by omega)
   rw [Go.Deep.add_add] at this
   rw [this]; exact hu
  have build : ∀ k, k ≤ m → ∃ l : List α, l.length = k ∧ ∀ j p, l[j]? = some p → ∃ c : List Value, c.length = sz ∧ K p c ∧ ∀ i u, c[i]? = some u → w.cell? (a.add (j * sz + i)) = some u := by
   intro k
   induction k with
   | zero => intro _; exact ⟨[], rfl, fun j p h => by simp at h⟩
   | succ k ih =>
    intro hk
    obtain ⟨l, hl1, hl2⟩ := ih (by omega)
    obtain ⟨q, c, h1, h2, h3⟩ := each k (by omega)
    refine ⟨l ++ [q], by simp [hl1], fun j p hp => ?_⟩
    rcases Nat.lt_trichotomy j l.length with hj | hj | hj
    ·rw [List.getElem?_append_left hj] at hp
     exact hl2 j p hp
    ·subst hj
     simp at hp; subst hp
     rw [hl1]; exact ⟨c, h1, h2, h3⟩
    ·rw [List.getElem?_eq_none (by simp; omega)] at hp; cases hp
  obtain ⟨l, hl1, hl2⟩ := build len hl
  refine ⟨l, some a, m, by rw [hl1], by omega, rfl, ?_, fun _ => ⟨a, rfl, fun j p hp => ?_⟩⟩
  ·simp only [maxLen] at hm; omega
  ·exact hl2 j p hp
end Go.Proofs.Ytkoddmedhnhgiaa
set_option linter.unusedVariables false
set_option linter.unusedSimpArgs false
namespace Go.Proofs.Ytkoddmedhnhgiaa
open Go.RowKit Go.ChangeShapes Go.WideShapes Go.Proofs.YtkoddmedhnhgiaaW.PrintWords
theorem Opens.imp {P : Program} {w : World} {t : TypeId} {α β : Type} {K : α → List Value → Prop} {K' : β → List Value → Prop} (h : Opens P w t K) (hf : ∀ a cs, K a cs → ∃ b, K' b cs) : Opens P w t K' := by
 intro H enc fuel cs x hx
 obtain ⟨a, ha⟩ := h enc fuel cs x hx
 exact hf a cs ha
theorem opens_row {P : Program} {w : World} {t : TypeId} {fs : Array Field} (ht : P.underlying t = some (.struct fs)) (hc : P.cellsOf t = fs.size) (hoff : ∀ (i : Nat) (f : Field), fs[i]? = some f → f.offset = i ∧ P.cellsOf f.type = 1) (p : Nat → Value → Prop)
 (hp : ∀ (i : Nat) (f : Field), fs[i]? = some f → Opens P w f.type (fun (v : Value) cs => cs = [v] ∧ p i v)) : Opens P w t (fun (_ : Unit) cs => cs.length = fs.size ∧ ∀ i v, cs[i]? = some v → p i v) := by
 intro H enc fuel cs x h
 obtain ⟨xs, n, _, _, hl, hxl, hf⟩ := DataW.trod_struct ht h
 have hl2 : cs.length = fs.size := by rw [hl, hc]
 refine ⟨(), hl2, fun i v hv => ?_⟩
 have hi : i < fs.size := by
  rcases Nat.lt_or_ge i cs.length with h' | h'
  ·omega
  ·rw [List.getElem?_eq_none h'] at hv; cases hv
 have hfi : fs[i]? = some fs[i] := Array.getElem?_eq_getElem hi
 obtain ⟨o1, o2⟩ := hoff i _ hfi
 have g := hf i fs[i] hfi
 rw [o1, o2, List.getElem?_eq_getElem (by omega)] at g
 obtain ⟨u, hu, hpu⟩ := hp i _ hfi enc _ _ _ g
 have : v = u := by
  have h1 : ((cs.drop i).take 1)[0]? = some v := by rw [List.getElem?_take_of_lt (by omega), List.getElem?_drop]; simpa using hv
  rw [hu] at h1
  simpa using h1.symm
 subst this
 exact hpu
theorem cells_int {P : Program} {w : World} {t : TypeId} {k : IntKind} (ht : P.underlying t = some (.int k)) : Opens P w t (fun (v : Value) cs => cs = [v] ∧ ∃ n : Int, v = .int k n ∧ (Lit.int k n).wf = true) :=
 Opens.imp (opens_int ht) (by rintro n cs ⟨rfl, h⟩; exact ⟨_, rfl, n, rfl, h⟩)
theorem cells_slice {P : Program} {w : World} {t e : TypeId} {α : Type} {K : α → List Value → Prop} {sz : Nat} (ht : P.underlying t = some (.slice e)) (hc : P.cellsOf e = sz) (hK : Opens P w e K) :
 Opens P w t (fun (v : Value) cs => cs = [v] ∧ ∃ (l : List α) (A : Option Addr) (c : Nat), v = .slice A l.length c ∧ l.length ≤ c ∧ ReadsRow K sz w A l.length l) :=
 Opens.imp (opens_slice ht hc hK) (by rintro l cs ⟨A, c, rfl, h1, h2⟩; exact ⟨_, rfl, l, A, c, rfl, h1, h2⟩)
theorem three {fs : Array Field} {a b c : Field} (h : fs = #[a, b, c]) {p : Nat → Field → Prop} (h0 : p 0 a) (h1 : p 1 b) (h2 : p 2 c) : ∀ (i : Nat) (f : Field), fs[i]? = some f → p i f := by
 subst h
 intro i f hf
 match i, hf with
 | 0, hf => simp at hf; subst hf; exact h0
 | 1, hf => simp at hf; subst hf; exact h1
 | 2, hf => simp at hf; subst hf; exact h2
 | k + 3, hf => simp at hf
end Go.Proofs.Ytkoddmedhnhgiaa
