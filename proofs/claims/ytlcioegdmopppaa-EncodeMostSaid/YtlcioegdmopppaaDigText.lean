/- The walks of digits.text, digits.may, digits.Print, digits.Width. -/
import Derived.Test.YtlcioegdmopppaaBase
import Derived.Test.YtlcioegdmopppaaDigTextPlain
set_option linter.unusedVariables false
set_option linter.unusedSimpArgs false
namespace Go.Proofs.Ytlcioegdmopppaa
open Go.RowKit

def bys (l : List Int) : List Value := l.map fun x => .int .u8 x
theorem bys_set (l : List Int) (i : Nat) (x : Int) : (bys l).set i (.int .u8 x) = bys (l.set i x) := by simp [bys, List.map_set]
theorem bys_length (l : List Int) : (bys l).length = l.length := by simp [bys]

theorem arr_succ' (k n : Nat) (h : k < 10) : (arr k n).set (9 - k) (48 + ((n / 10 ^ k : Nat) : Int) % 10) = arr (k + 1) n := by
  rw [← arr_succ k n h, show 10 - (k + 1) = 9 - k from by omega]
  congr 1
  omega
theorem blk_new2 (w : World) (o : Obj) (cs : List Value) (t : TypeId) : Blk ((w.alloc o).alloc (.cells cs.toArray t)) (w.heap.size + 1) cs t := by
  have := Blk.new (w.alloc o) cs t
  simpa using this

theorem ten (l : List Int) (h : l.length = 10) : ∃ a0 a1 a2 a3 a4 a5 a6 a7 a8 a9, l = [a0, a1, a2, a3, a4, a5, a6, a7, a8, a9] := by
  match l, h with
  | [a0, a1, a2, a3, a4, a5, a6, a7, a8, a9], _ => exact ⟨a0, a1, a2, a3, a4, a5, a6, a7, a8, a9, rfl⟩

set_option maxHeartbeats 1000000 in
theorem text_calls (n : Nat) (hn : n ≤ 2147483647) (w : World) :
    Calls Try.prog 77 #[.int .i64 n] w fun e w' => e = .returned (.tuple #[.agg (bys (arr (wd n) n)).toArray, .int .i64 (wd n)]) ∧ Below w.heap.size w w' := by
  go_enter Try.func77, Try.ntmps77
  go_wp2
  go_loopw [0, 5] (fun v0 v5 wr => ∃ k : Nat, k ≤ 10 ∧ k ≤ wd n ∧ v0 = .int .i64 (n / 10 ^ k : Nat) ∧ v5 = .int .i64 k ∧ Blk wr (w.heap.size + 1) (bys (arr k n)) 114 ∧ Blk wr w.heap.size (bys (arr 0 n)) 114 ∧ Below w.heap.size w wr)
    (fun _ v5 _ => 10 - (intOf v5).toNat)
  case atStart => exact ⟨0, by omega, by omega, by simp, rfl, by rw [arr_zero]; exact blk_new2 _ _ _ _, by rw [arr_zero]; exact (Blk.new w (bys (List.replicate 10 0)) 114).alloc _, ((Below.refl _ _).alloc (Nat.le_refl _) _).alloc (by simp) _⟩
  case round =>
    obtain ⟨k, hk, hkw, rfl, rfl, hB, hA, hbel⟩ := hrel
    by_cases hmore : k = 0 ∨ 0 < n / 10 ^ k
    · have hlt : k < wd n := (lt_wd k n).2 hmore
      have hk10 : k < 10 := by have := wd_le hn; omega
      have hm : n / 10 ^ k ≤ 2147483647 := Nat.le_trans (Nat.div_le_self _ _) hn
      have hdiv := Lib.hid (div_pow n k)
      have hBs := hB.set (9 - k) (.int .u8 (48 + ((n / 10 ^ k : Nat) : Int) % 10))
      rw [bys_set, arr_succ' k n hk10] at hBs
      have hAs := hA.other (a := ⟨w.heap.size + 1, 9 - k, none⟩) (by simp) (.int .u8 (48 + ((n / 10 ^ k : Nat) : Int) % 10))
      generalize n / 10 ^ k = m at *
      have hc := hB.cell (9 - k)
      rw [List.getElem?_eq_getElem (by rw [bys_length, arr_length _ _ hk]; omega)] at hc
      have hf := hB.free (9 - k)
      generalize (bys (arr k n))[9 - k]'_ = old at hc
      have hend : (k + 1 ≤ 10 ∧ k + 1 ≤ wd n ∧ Value.int .i64 ((m : Int) / 10) = .int .i64 ((n / 10 ^ (k + 1) : Nat) : Int) ∧ Value.int .i64 ((k : Int) + 1) = .int .i64 (k + 1 : Nat) ∧
          Blk (wr.setCell ⟨w.heap.size + 1, 9 - k, none⟩ (.int .u8 (48 + (m : Int) % 10))) (w.heap.size + 1) (bys (arr (k + 1) n)) 114 ∧
          Blk (wr.setCell ⟨w.heap.size + 1, 9 - k, none⟩ (.int .u8 (48 + (m : Int) % 10))) w.heap.size (bys (arr 0 n)) 114 ∧
          Below w.heap.size w (wr.setCell ⟨w.heap.size + 1, 9 - k, none⟩ (.int .u8 (48 + (m : Int) % 10)))) :=
        ⟨by omega, by omega, by rw [← hdiv.out]; simp, by simp, hBs, hAs, hbel.setCell (by simp) _⟩
      have Hend := Lib.hid hend
      clear hend hdiv hBs hAs
      rcases hmore with rfl | hmore
      · go_wp2
        go_roundw
        case rel => exact ⟨1, Hend.out⟩
        case measure => simp [intOf]
      · by_cases hk0 : k = 0
        · subst hk0
          go_wp2
          go_roundw
          case rel => exact ⟨1, Hend.out⟩
          case measure => simp [intOf]
        · have hk1 : ((k : Int) == 0) = false := by simpa using hk0
          have hk2 : 0 < k := by omega
          clear hk0
          go_wp2
          go_roundw
          case rel => exact ⟨k + 1, Hend.out⟩
          case measure => simp [intOf]; omega
    · have hk0 : k ≠ 0 := fun h => hmore (.inl h)
      have hz : n / 10 ^ k = 0 := Nat.eq_zero_of_not_pos fun h => hmore (.inr h)
      have hkk : k = wd n := done_eq n k hkw hk0 hz
      have hk1 : ((k : Int) == 0) = false := by simpa using hk0
      rw [hz]
      clear hmore hz hk0
      subst hkk
      obtain ⟨a0, a1, a2, a3, a4, a5, a6, a7, a8, a9, e⟩ := ten _ (arr_length (wd n) n hk)
      have E := Lib.hid e
      rw [e] at hB
      obtain ⟨c0, c1, c2, c3, c4, c5, c6, c7, c8, c9, e2⟩ := ten _ (arr_length 0 n (by omega))
      rw [e2] at hA
      clear e e2
      have p0 := hB.cell 0; have p1 := hB.cell 1; have p2 := hB.cell 2; have p3 := hB.cell 3; have p4 := hB.cell 4; have p5 := hB.cell 5; have p6 := hB.cell 6; have p7 := hB.cell 7; have p8 := hB.cell 8; have p9 := hB.cell 9
      have q0 := hA.cell 0; have q1 := hA.cell 1; have q2 := hA.cell 2; have q3 := hA.cell 3; have q4 := hA.cell 4; have q5 := hA.cell 5; have q6 := hA.cell 6; have q7 := hA.cell 7; have q8 := hA.cell 8; have q9 := hA.cell 9
      have f0 := hA.free 0; have f1 := hA.free 1; have f2 := hA.free 2; have f3 := hA.free 3; have f4 := hA.free 4; have f5 := hA.free 5; have f6 := hA.free 6; have f7 := hA.free 7; have f8 := hA.free 8; have f9 := hA.free 9
      simp only [bys, List.map_cons, List.map_nil, List.getElem?_cons_zero, List.getElem?_cons_succ] at p0 p1 p2 p3 p4 p5 p6 p7 p8 p9 q0 q1 q2 q3 q4 q5 q6 q7 q8 q9
      clear hA hB
      go_wp2
      refine bodyPost_ret (v := .tuple #[.agg #[.int .u8 a0, .int .u8 a1, .int .u8 a2, .int .u8 a3, .int .u8 a4, .int .u8 a5, .int .u8 a6, .int .u8 a7, .int .u8 a8, .int .u8 a9], .int .i64 (wd n)]) (by simp [results, Try.results77, go_sem, q0, q1, q2, q3, q4, q5, q6, q7, q8, q9]) rfl ⟨?_, ?_⟩
      · rw [E.out]; simp [bys]
      · iterate 10 refine bset (Nat.le_refl _) ?_
        exact hbel
end Go.Proofs.Ytlcioegdmopppaa
