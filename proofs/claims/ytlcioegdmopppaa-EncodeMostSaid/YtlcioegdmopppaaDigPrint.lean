/- The walks of digits.may, digits.Print, digits.Width and the reference's Print. -/
import Derived.Test.YtlcioegdmopppaaDigText
import Derived.Test.YtlcioegdmopppaaWMore
set_option linter.unusedVariables false
set_option linter.unusedSimpArgs false
namespace Go.Proofs.Ytlcioegdmopppaa
open Go.RowKit Go.Proofs.YtlcioegdmopppaaW.PrintWords

theorem str_size (l : List Int) : (strOfNums l).size = l.length := by simp [strOfNums, ByteArray.size]
theorem str_digit (m : Nat) (hm : m < 10) (l : List Int) : (⟨#[48, 49, 50, 51, 52, 53, 54, 55, 56, 57]⟩ : ByteArray).extract m (m + 1) ++ strOfNums l = strOfNums (((m + 48 : Nat) : Int) :: l) := by
  have h : (⟨#[48, 49, 50, 51, 52, 53, 54, 55, 56, 57]⟩ : ByteArray).extract m (m + 1) = ⟨#[UInt8.ofNat (m + 48)]⟩ := by
    have hc : m = 0 ∨ m = 1 ∨ m = 2 ∨ m = 3 ∨ m = 4 ∨ m = 5 ∨ m = 6 ∨ m = 7 ∨ m = 8 ∨ m = 9 := by omega
    rcases hc with rfl | rfl | rfl | rfl | rfl | rfl | rfl | rfl | rfl | rfl <;> rfl
  rw [h]
  apply ByteArray.ext
  rw [ByteArray.data_append]
  have e : (((m + 48 : Nat) : Int)).toNat = m + 48 := by omega
  simp only [strOfNums, List.map_cons, e]
  simp

set_option maxHeartbeats 400000 in
theorem refprint_calls (n : Nat) (hn : n ≤ 2147483647) (w : World) :
    Calls Try.prog 46 #[.int .i64 n] w fun e w' => e = .returned (.tuple #[.string (strOfNums (low (wd n) n)), .int .i64 0]) ∧ Below w.heap.size w w' := by
  go_enter Try.func46, Try.ntmps46
  go_wp2
  go_loopw [0, 4] (fun v0 v4 wr => ∃ k : Nat, k < wd n ∧ v0 = .int .i64 (n / 10 ^ k : Nat) ∧ v4 = .string (strOfNums (low k n)) ∧ Below w.heap.size w wr)
    (fun v0 _ _ => (intOf v0).toNat)
  case atStart => exact ⟨0, wd_pos n, by simp, rfl, Below.refl _ _⟩
  case round =>
    obtain ⟨k, hk, rfl, rfl, hbel⟩ := hrel
    have hm : n / 10 ^ k ≤ 2147483647 := Nat.le_trans (Nat.div_le_self _ _) hn
    have hs : (strOfNums (low k n)).size ≤ 10 := by rw [str_size, low_length]; have := wd_le hn; omega
    have hdiv := Lib.hid (div_pow n k)
    have hmore := Lib.hid (lt_wd (k + 1) n)
    have hlow : Hid (low (k + 1) n = ((n / 10 ^ k % 10 + 48 : Nat) : Int) :: low k n) := by simp [Hid, low]
    have hdig := Lib.hid (str_digit (n / 10 ^ k % 10) (Nat.mod_lt _ (by omega)) (low k n))
    generalize n / 10 ^ k = m at *
    generalize hls : strOfNums (low k n) = s at *
    clear hls
    by_cases h9 : 9 < m
    · go_wp2
      go_roundw
      case rel => exact ⟨k + 1, hmore.out.2 (.inr (by rw [← hdiv.out]; omega)), by rw [← hdiv.out]; simp, by rw [hlow.out, hdig.out], hbel⟩
      case measure => simp [intOf]; omega
    · have hkk : k + 1 = wd n := by
        rcases Nat.lt_or_ge (k + 1) (wd n) with h | h
        · rcases hmore.out.1 h with h | h
          · omega
          · rw [← hdiv.out] at h; omega
        · omega
      have Hkk := Lib.hid hkk
      have hmm : m % 10 = m := by omega
      have Hmm := Lib.hid hmm
      clear hkk hmm
      go_wp2
      go_ret2
      rw [Hmm.out] at hdig hlow
      exact ⟨by rw [← Hkk.out, hlow.out, hdig.out]; rfl, hbel⟩

set_option maxHeartbeats 400000 in
theorem refprint_no (n : Int) (hn : n < 0 ∨ 2147483647 < n) (w : World) :
    Calls Try.prog 46 #[.int .i64 n] w fun e w' => e = .returned (.tuple #[.string ⟨#[]⟩, .int .i64 2]) ∧ Below w.heap.size w w' := by
  rcases hn with hn | hn
  · go_enter Try.func46, Try.ntmps46
    go_wp2
    go_ret2
    exact ⟨rfl, Below.refl _ _⟩
  · have h0 : ¬ n < 0 := by omega
    go_enter Try.func46, Try.ntmps46
    go_wp2
    go_ret2
    exact ⟨rfl, Below.refl _ _⟩

set_option maxHeartbeats 400000 in
theorem may_calls (n : Int) (w : World) :
    Calls Try.prog 76 #[.int .i64 n] w fun e w' => e = .returned (.bool (decide (0 ≤ n) && decide (n ≤ 2147483647))) ∧ w = w' := by
  by_cases h : 0 ≤ n
  · go_enter Try.func76, Try.ntmps76
    go_wp2
    go_ret
    exact ⟨by simp [h], rfl⟩
  · go_enter Try.func76, Try.ntmps76
    go_wp2
    go_ret
    exact ⟨by rw [show decide (0 ≤ n) = false from decide_eq_false (by omega)]; rfl, rfl⟩
theorem may_yes (n : Int) (h0 : 0 ≤ n) (h1 : n ≤ 2147483647) (w : World) : Calls Try.prog 76 #[.int .i64 n] w fun e w' => e = .returned (.bool true) ∧ w = w' :=
  (may_calls n w).mono fun _ _ ⟨h, k⟩ => ⟨by rw [h]; simp [h0, h1], k⟩
theorem may_no (n : Int) (h : n < 0 ∨ 2147483647 < n) (w : World) : Calls Try.prog 76 #[.int .i64 n] w fun e w' => e = .returned (.bool false) ∧ w = w' :=
  (may_calls n w).mono fun _ _ ⟨h', k⟩ => ⟨by rw [h']; congr 2; by_cases h0 : 0 ≤ n <;> simp [h0]; omega, k⟩

set_option maxHeartbeats 400000 in
theorem print_no (n : Int) (h : n < 0 ∨ 2147483647 < n) (w : World) :
    Calls Try.prog 72 #[.int .i64 n] w fun e w' => e = .returned (.tuple #[.string ⟨#[]⟩, .int .i64 2]) ∧ Below w.heap.size w w' := by
  go_enter Try.func72, Try.ntmps72
  go_wp2_with (go_at_call 76; refine (may_no _ h _).mono ?_; rintro e w' ⟨rfl, rfl⟩)
  go_ret2
  exact ⟨rfl, Below.refl _ _⟩
set_option maxRecDepth 100000 in
theorem slice_ten (b k : Nat) (h1 : 1 ≤ k) (h2 : k ≤ 10) (W : World) :
    (Instr.sliceAt 114 (.pointer (some ⟨b, 0, none⟩)) (some (.int .i64 (10 - (k : Int)))) none none).run Try.prog W = .ok (.slice (some ⟨b, 10 - k, none⟩) k k) W := by
  have hu : Try.prog.underlying 114 = some (.array (Try.prog.arrayLen 114) (Try.prog.elem 114)) := by kernel_rfl
  have hl : Try.prog.arrayLen 114 = 10 := by kernel_rfl
  have hs : (sizeOf (Try.prog.elem 114)).run Try.prog W = .ok 1 W := by kernel_rfl
  rw [run_sliceAt_array_l W 114 ⟨b, 0, none⟩ hu .i64 (10 - (k : Int)) (by omega) (by rw [hl]; omega), hs, hl]
  simp only [Result.andThen, slicedAt]
  have e : (10 - (k : Int)).toNat = 10 - k := by omega
  rw [e, if_neg (by omega)]
  congr 2
  · unfold Addr.add
    split
    · rw [show 10 - k = 0 from by omega]
    · simp
  · omega
  · omega
set_option maxRecDepth 100000 in
theorem conv_ten (b k n t : Nat) (_h1 : 1 ≤ k) (h2 : k ≤ 10) (W : World) (hB : Blk W b (bys (arr k n)) t) :
    (convert 27 9 (.slice (some ⟨b, 10 - k, none⟩) k k)).run Try.prog W = .ok (.string (strOfNums (low k n))) W := by
  refine string_of_reads (e := 5) (by kernel_rfl) (by kernel_rfl) (by kernel_rfl) ⟨low_length k n, by omega, fun _ => ⟨_, rfl, fun j hj => ?_⟩⟩
  have e : (⟨b, 10 - k, none⟩ : Addr).add j = ⟨b, 10 - k + j, none⟩ := by
    unfold Addr.add
    split
    · next h => rw [h]; rfl
    · rfl
  have hl : j < (low k n).length := by rw [low_length]; exact hj
  rw [e, hB.cell]
  unfold bys arr
  rw [List.getElem?_map, List.getElem?_append_right (by simp), List.length_replicate, show 10 - k + j - (10 - k) = j from by omega]
  rw [List.getD_eq_getElem?_getD, List.getElem?_eq_getElem hl]
  rfl

set_option maxHeartbeats 1000000 in
set_option maxRecDepth 100000 in
theorem print_yes (n : Nat) (hn : n ≤ 2147483647) (w : World) :
    Calls Try.prog 72 #[.int .i64 n] w fun e w' => e = .returned (.tuple #[.string (strOfNums (low (wd n) n)), .int .i64 0]) ∧ Below w.heap.size w w' := by
  have hw := wd_le hn
  have hw1 := wd_pos n
  go_enter Try.func72, Try.ntmps72
  go_wp2_with (go_at_call 76; refine (may_yes _ (by omega) (by omega) _).mono ?_; rintro e w' ⟨rfl, rfl⟩)
  refine (text_calls n hn _).mono ?_
  rintro e w1 ⟨rfl, hb⟩
  have hB := Lib.hid (Blk.new w1 (bys (arr (wd n) n)) 114)
  have hc := fun W h => conv_ten w1.heap.size (wd n) n 114 hw1 hw W h
  have hs := slice_ten w1.heap.size (wd n) hw1 hw
  obtain ⟨a0, a1, a2, a3, a4, a5, a6, a7, a8, a9, e⟩ := ten _ (arr_length (wd n) n hw)
  rw [e] at hB hc ⊢
  clear e
  simp only [bys, List.map_cons, List.map_nil] at hB hc ⊢
  have hc := hc _ hB.out
  go_wp2
  go_ret2
  exact ⟨rfl, hb.alloc hb.size _⟩

end Go.Proofs.Ytlcioegdmopppaa
