/- The walk of the law DequeOnce. -/
import Derived.Test.YtndciilmnnaemaaDequeW
import Derived.Test.YtndciilmnnaemaaDequeStrF
import Derived.Test.YtndciilmnnaemaaOpen
import Derived.Deep.CutBlock
set_option linter.unusedVariables false
set_option linter.unusedSimpArgs false
namespace Go.Proofs.Ytndciilmnnaemaa
open Go.RowKit Go.Shelf Go.Proofs.YtndciilmnnaemaaW.PrintWords DqS

/-- A string in a cell. -/
def StrK (x : ByteArray) (cs : List Value) : Prop := cs = [.string x]
theorem str_at {w : World} {A : Option Addr} {l : List ByteArray} {k : Nat} (h : ReadsRow StrK 1 w A l.length l) (hk : k < l.length) : ∃ ad, A = some ad ∧ w.cell? (ad.add k) = some (.string l[k]) := by
  obtain ⟨ad, c, e, _, hR, hc⟩ := ReadsRow.get_ h ByteArray.empty (k : Int) (by omega) (by omega)
  rw [Int.toNat_natCast] at hR hc
  unfold StrK at hR
  subst hR
  refine ⟨ad, e, ?_⟩
  have := hc 0 _ rfl
  rw [Nat.mul_one, Nat.add_zero, List.getD_eq_getElem?_getD, List.getElem?_eq_getElem hk] at this
  exact this
theorem opens_str (W : World) : Opens Try.prog W 9 StrK := Opens.mono (opens_string Try.underlying9) (fun x => x) (fun _ _ h => h.1)

theorem mid_last (l : List ByteArray) (lo h : Nat) (h1 : lo ≤ h) (h2 : h < l.length) : (l.drop lo).take (h + 1 - lo) = (l.drop lo).take (h - lo) ++ [l[h]] := by
  rw [show h + 1 - lo = (h - lo) + 1 from by omega, List.take_succ_eq_append_getElem (by simp; omega)]
  congr 2
  rw [List.getElem_drop]
  congr 1; omega
theorem mid_first (l : List ByteArray) (lo h : Nat) (h1 : lo < h) (h2 : h ≤ l.length) : (l.drop lo).take (h - lo) = l[lo] :: (l.drop (lo + 1)).take (h - (lo + 1)) := by
  rw [show h - lo = (h - (lo + 1)) + 1 from by omega, List.drop_eq_getElem_cons (by omega), List.take_succ_cons]

set_option maxRecDepth 100000 in
set_option maxHeartbeats 4000000 in
theorem once_main (w : World) (A : Option Addr) (c : Nat) (l : List ByteArray) (how : Int) (hr : Hid (ReadsRow StrK 1 w A l.length l)) (hl : l.length ≤ 200) (hh : 0 ≤ how ∧ how ≤ 255) :
    Calls Try.prog 9 #[.slice A l.length c, .int .u8 how] w fun e w' => e = .returned (.bool true) ∧ Below w.heap.size w w' := by
  go_enter Try.func9, Try.ntmps9
  go_wp2_with fail
  go_loopw [6] (fun v6 wr => ∃ k cs, k ≤ l.length ∧ v6 = .int .i64 (k : Nat) ∧ Is wr w.heap.size w.heap.size 0 56 cs (l.take k) ∧ Below w.heap.size w wr) (fun v6 _ => l.length - (intOf v6).toNat)
  case atStart =>
    exact ⟨0, _, by omega, rfl, is_new w w.heap.size 56 (Nat.le_refl _), (Below.refl _ w).alloc (Nat.le_refl _) _⟩
  case round =>
    obtain ⟨k, cs, hk, rfl, hI, hb⟩ := hrel
    by_cases hlt : k < l.length
    · obtain ⟨ad, rfl, hx⟩ := str_at hr.out hlt
      replace hx := pw_cell_below hb hx
      go_wp2_with fail
      refine (push_calls _ 0 _ _ _ _ (l.take k) l[k] hI (by simp; omega) hb.size).mono ?_
      rintro e w1 ⟨rfl, cs1, hI1, hS⟩
      have hb1 := hb.trans (hS.below hI hb.size)
      rw [← List.take_succ_eq_append_getElem hlt] at hI1
      clear hS hI hb hx
      go_wp2
      go_roundw
      case rel => exact ⟨k + 1, cs1, by omega, by go_num, hI1, hb1⟩
      case measure => simp [intOf]; omega
    · have hkk : k = l.length := by omega
      subst hkk
      rw [List.take_length] at hI
      go_wp2_with fail
      go_loopw [7, 8, 9] (fun v7 v8 v9 wr => ∃ (lo hi : Nat) (cs : List Value), lo ≤ hi ∧ hi ≤ l.length ∧ v7 = .int .i64 lo ∧ v8 = .int .i64 hi ∧ v9 = .int .i64 (lo + (l.length - hi) : Nat) ∧ Is wr w.heap.size w.heap.size 0 56 cs ((l.drop lo).take (hi - lo)) ∧ Below w.heap.size w wr) (fun _ _ v9 _ => l.length - (intOf v9).toNat)
      case atStart => exact ⟨0, l.length, cs, by omega, by omega, rfl, rfl, by simp, by simpa using hI, hb⟩
      case round =>
        obtain ⟨lo, hi, cs, h1, h2, rfl, rfl, rfl, hI, hb⟩ := hrel
        by_cases hlt : lo < hi
        · obtain ⟨h, rfl⟩ : ∃ h, hi = h + 1 := ⟨hi - 1, by omega⟩
          have hlt2 : (lo : Int) + (l.length - (h + 1) : Nat) < l.length := by omega
          by_cases hb2 : ((how / 2 ^ ((lo + (l.length - (h + 1))) % 8)).tmod 2 == 0) = true
          · have hHb := Lib.hid hb2
            rw [mid_last l lo h (by omega) (by omega)] at hI
            obtain ⟨ad, rfl, hx⟩ := str_at hr.out (show h < l.length by omega)
            go_wp2_with fail
            refine (pop_calls _ 0 _ _ _ _ _ l[h] hI (by simp; omega)).mono ?_
            rintro e w1 ⟨rfl, cs1, hI1, hS⟩
            have hb1 := hb.trans (hS.below hI hb.size)
            replace hx := pw_cell_below hb1 hx
            clear hS hI hb
            unfold enc
            go_wp2
            go_roundw
            case rel => exact ⟨lo, h, cs1, by omega, by omega, rfl, by go_num, by go_num, hI1, hb1⟩
            case measure => simp [intOf]; omega
          · have hb3 : ((how / 2 ^ ((lo + (l.length - (h + 1))) % 8)).tmod 2 == 0) = false := by simpa using hb2
            rw [mid_first l lo (h + 1) (by omega) (by omega)] at hI
            obtain ⟨ad, rfl, hx⟩ := str_at hr.out (show lo < l.length by omega)
            go_wp2_with fail
            refine (steal_calls _ 0 _ _ _ _ _ l[lo] hI (by simp; omega)).mono ?_
            rintro e w1 ⟨rfl, cs1, hI1, hS⟩
            have hb1 := hb.trans (hS.below hI hb.size)
            replace hx := pw_cell_below hb1 hx
            clear hS hI hb
            unfold enc
            go_wp2
            go_roundw
            case rel => exact ⟨lo + 1, h + 1, cs1, by omega, by omega, by go_num, rfl, by go_num, hI1, hb1⟩
            case measure => simp [intOf]; omega
        · have he : lo = hi := by omega
          subst he
          rw [show lo - lo = 0 from by omega, List.take_zero] at hI
          have hge : ¬ ((lo : Int) + (l.length - lo : Nat) < l.length) := by omega
          go_wp2_with fail
          refine (pop_empty _ 0 _ _ _ _ hI).mono ?_
          rintro e w1 ⟨rfl, rfl⟩
          go_wp2_with fail
          refine (steal_empty _ 0 _ _ _ _ hI).mono ?_
          rintro e w1 ⟨rfl, rfl⟩
          go_wp2_with fail
          refine (len_calls _ 0 _ _ _ _ _ hI).mono ?_
          rintro e w1 ⟨rfl, rfl⟩
          go_wp2_with fail
          refine (DqI.works07 _).mono ?_
          rintro e w2 ⟨rfl, hb2⟩
          go_wp2
          go_ret
          exact ⟨rfl, hb.trans (hb2.mono hb.size)⟩

theorem opens_DequeOnce_0 (W : World) : Opens Try.prog W 53 (fun (l : List ByteArray) cs => ∃ A c, cs = [.slice A l.length c] ∧ l.length ≤ c ∧ ReadsRow StrK 1 W A l.length l) :=
  opens_slice Try.underlying53 (by kernel_rfl) (opens_str W)
theorem walk_DequeOnce (w : World) (A : Option Addr) (c : Nat) (l : List ByteArray) (hr : ReadsRow StrK 1 w A l.length l) (hc : l.length ≤ c) (how : Int) (hw : (Lit.int .u8 how).wf = true) :
    Calls Try.prog 9 #[.slice A l.length c, .int .u8 how] w fun e w' => e = .returned (.bool true) ∧ Below w.heap.size w w' := by
  by_cases hl : l.length ≤ 200
  · refine once_main w A c l how (Lib.hid hr) hl ?_
    simp only [Lit.wf, decide_eq_true_eq, Bool.and_eq_true] at hw
    have h2 : IntKind.u8.min = 0 := rfl
    have h3 : IntKind.u8.max = 255 := rfl
    rw [h2, h3] at hw
    exact hw
  · go_enter Try.func9, Try.ntmps9
    have hgt : ((200 : Int) < l.length) := by omega
    go_wp2_with fail
    refine (DqI.works07 _).mono ?_
    rintro e w2 ⟨rfl, hb2⟩
    go_wp2
    go_ret
    exact ⟨rfl, hb2⟩
end Go.Proofs.Ytndciilmnnaemaa
