/- The reference's Encode; the law's example; histories that come in. -/
import Derived.Test.YtlcioegdmopppaaEnJ
import Derived.Test.YtlcioegdmopppaaOpenB
import Derived.Laws.BytesArg
set_option linter.unusedSimpArgs false
namespace Go.Proofs.Ytlcioegdmopppaa.En
open Go.RowKit Go.Proofs.Ytlcioegdmopppaa.PEncodeBack Go.Proofs.YtlcioegdmopppaaW.PrintWords
set_option linter.unusedVariables false

set_option maxRecDepth 1000000 in
theorem br_string {w : World} {base : Nat} {A : Option Addr} {n c : Nat} {xs : List Int} (h : BR w base (.slice A n c) xs) : (convert 27 9 (.slice A n c)).run Try.prog w = .ok (.string (strOfNums xs)) w := by
  rcases h with ⟨e, rfl⟩ | ⟨g, cap, e, _, _, h3, _, _, h6⟩
  · injection e with e1 e2 e3
    subst e1; subst e2; subst e3
    exact run_convert_bytes_nil w 27 5 Try.underlying27 Try.underlying5 0 0 9 Try.underlying9
  · injection e with e1 e2 e3
    subst e1; subst e2; subst e3
    refine run_convert_bytes_arg w 27 5 Try.underlying27 Try.underlying5 g 0 xs.length _ xs rfl (fun i hi => ?_) 9 Try.underlying9
    rw [Nat.zero_add]
    exact h6 i _ (by simp [nums, List.getElem?_eq_getElem hi, List.getD])

def RE (w : World) (h : List S42) (e : Ending) (w' : World) : Prop := e = .returned (.tuple #[.string (strOfNums (encP h)), .int .i64 (checkP h)]) ∧ Below w.heap.size w w'
theorem check_ok {h : List S42} (h0 : checkP h = 0) : h.all okT = true := by
  unfold checkP at h0
  split at h0
  · cases h0
  · split at h0
    · rename_i hq; exact absurd h0 hq
    · rename_i hq; exact parts_ok (by simpa using hq)
set_option maxHeartbeats 2000000 in
set_option maxRecDepth 100000 in
theorem rencode_c (w : World) (h : List S42) (A : Option Addr) (c : Nat) (hr : Kd.C k42 w A h.length h) (hc : h.length ≤ c) (hf : Fits h) :
    Calls Try.prog 14 #[.agg #[.slice A h.length c]] w (RE w h) := by
  have HR := Lib.hid hr
  have HB0 : Hid (Below w.heap.size w (w.alloc (.cells #[.slice A h.length c] 24))) := Lib.hid ((Below.refl _ _).alloc (Nat.le_refl _) _)
  have HZ : Hid (Blk (w.alloc (.cells #[.slice A h.length c] 24)) w.heap.size [.slice A h.length c] 24) := Lib.hid (Blk.new w [.slice A h.length c] 24)
  have HC := Lib.hid (fun (W : World) (hC : Kd.C k42 W A h.length h) => rcheck_c W h A c hC hc hf)
  have HT := Lib.hid (fun (W : World) (hC : Kd.C k42 W A h.length h) (hok : h.all okT = true) => rtext_c W h A c hC hc hf hok)
  have HOKP := Lib.hid (@check_ok h)
  have HE : Hid (encP h = if checkP h = 0 then histT h else []) := Lib.hid rfl
  have HFI : Hid (∀ W s, s = strOfNums (encP h) → Below w.heap.size w W → RE w h (.returned (.tuple #[.string s, .int .i64 (checkP h)])) W) := Lib.hid fun W s e hb => ⟨by rw [e], hb⟩
  clear hr hc hf
  by_cases h0 : checkP h = 0
  · have HOK := Lib.hid (HOKP.out h0)
    rw [if_pos h0] at HE
    rw [h0] at HC HFI
    clear h0 HOKP
    generalize hs : strOfNums (histT h) = s at *
    have HS := Lib.hid hs
    clear hs
    go_enter Try.func14, Try.ntmps14
    go_wp2_with fail
    refine (HC.out _ (Kd.C_below HR.out HB0.out)).mono ?_
    rintro e w1 ⟨rfl, hb1⟩
    have HB1 := Lib.hid (link HB0.out hb1)
    have HZ1 := Lib.hid (HZ.out.below hb1 HZ.out.lt)
    have hz1 := HZ1.out.cell 0
    simp only [List.getElem?_cons_zero] at hz1
    clear hb1
    go_wp2_with fail
    refine (HT.out _ (Kd.C_below HR.out HB1.out) HOK.out).mono ?_
    rintro e w2 ⟨rfl, hb2⟩
    have HFF := Lib.hid (HFI.out _ s (by rw [HE.out, HS.out]) (link HB1.out hb2))
    clear hb2 HFI
    go_wp2
    go_ret2
    exact HFF.out
  · rw [if_neg h0] at HE
    have hne : (checkP h != 0) = true := by simp [h0]
    clear h0 HOKP
    generalize checkP h = cp at *
    go_enter Try.func14, Try.ntmps14
    go_wp2_with fail
    refine (HC.out _ (Kd.C_below HR.out HB0.out)).mono ?_
    rintro e w1 ⟨rfl, hb1⟩
    have HFF := Lib.hid (HFI.out w1 ⟨#[]⟩ (by rw [HE.out]; rfl) (link HB0.out hb1))
    clear hb1 HFI
    go_wp2
    go_ret2
    exact HFF.out

/-! The example. -/
theorem one_row {α : Type} {d : Kd α} {W : World} {g : Nat} {x : α} {cs : List Value} {t : TypeId} (hg : Blk W g cs t) (hK : d.K W x cs) : Kd.C d W (some ⟨g, 0, none⟩) 1 [x] := by
  refine ⟨rfl, by decide, fun _ => ⟨_, rfl, fun j q hq => ?_⟩⟩
  have hj : j = 0 := by have := (List.getElem?_eq_some_iff.1 hq).1; simp at this; omega
  subst hj
  cases hq
  refine ⟨_, d.K_len hK, hK, fun i u hu => ?_⟩
  rw [Addr.add_lit, hg.cell]
  simpa using hu
def h7 : List S42 := [⟨7, false, [⟨true, 1, 0, [5]⟩]⟩]
def hm1 : List S42 := [⟨-1, false, []⟩]
theorem numS_small {n : Nat} (h : n < 10) : numS (n : Int) = [((n + 48 : Nat) : Int)] := by
  unfold numS
  rw [Int.toNat_natCast, wd_small h]
  unfold low low
  rw [Nat.pow_zero, Nat.div_one, Nat.mod_eq_of_lt h]
theorem h7_text : histT h7 = [116, 32, 55, 32, 99, 10, 114, 32, 49, 32, 53, 10] := by
  have a := numS_small (n := 7) (by decide)
  have b := numS_small (n := 1) (by decide)
  have c := numS_small (n := 5) (by decide)
  unfold histT h7 txnT headT opT
  simp only [List.flatMap_cons, List.flatMap_nil, texts_one, texts_cons]
  have a' : numS 7 = [55] := a
  have b' : numS 1 = [49] := b
  have c' : numS 5 = [53] := c
  rw [a', b', c']
  rfl
theorem h7_check : checkP h7 = 0 := by
  unfold checkP
  rw [if_neg (by decide), if_neg (by decide), if_neg (by rw [h7_text]; decide)]
theorem hm1_check : checkP hm1 = 2 := by
  unfold checkP
  rw [if_neg (by decide), if_pos (by decide)]
  decide
theorem h7_enc : encP h7 = [116, 32, 55, 32, 99, 10, 114, 32, 49, 32, 53, 10] := by unfold encP; rw [if_pos h7_check, h7_text]
theorem h7_fits : Fits h7 := ⟨⟨by decide, by decide, by decide⟩, fun _ => by rw [h7_text]; decide⟩
theorem hm1_fits : Fits hm1 := ⟨⟨by decide, by decide, by decide⟩, fun h => absurd h (by decide)⟩
theorem h7_laid {W : World} {g : Nat} (h1 : Blk W g [.int .i64 5] 3) (h2 : Blk W (g + 1) [.bool true, .int .i64 1, .int .i64 0, .slice (some ⟨g, 0, none⟩) 1 1] 39) (h3 : Blk W (g + 2) [.int .i64 7, .bool false, .slice (some ⟨g + 1, 0, none⟩) 1 1] 42) : Kd.C k42 W (some ⟨g + 2, 0, none⟩) 1 h7 := by
  refine one_row h3 (k42_mk W ⟨7, false, [⟨true, 1, 0, [5]⟩]⟩ (Nat.le_refl 1) (one_row h2 (k39_mk W ⟨true, 1, 0, [5]⟩ (Nat.le_refl 1) (one_row h1 rfl))))
theorem hm1_laid {W : World} {g : Nat} (h1 : Blk W g [.int .i64 (-1), .bool false, .slice none 0 0] 42) : Kd.C k42 W (some ⟨g, 0, none⟩) 1 hm1 :=
  one_row h1 (k42_mk W ⟨-1, false, []⟩ (Nat.le_refl 0) ⟨rfl, by decide, fun h => absurd h (by decide)⟩)
set_option maxHeartbeats 2000000 in
set_option maxRecDepth 100000 in
theorem works (w : World) : Calls Try.prog 12 #[] w fun e w' => e = .returned (.bool true) ∧ Below w.heap.size w w' := by
  have hb0 : Below w.heap.size w (((w.alloc (.cells #[.int .i64 5] 3)).alloc (.cells #[.bool true, .int .i64 1, .int .i64 0, .slice (some ⟨w.heap.size, 0, none⟩) 1 1] 39)).alloc (.cells #[.int .i64 7, .bool false, .slice (some ⟨w.heap.size + 1, 0, none⟩) 1 1] 42)) := (((Below.refl _ _).alloc (Nat.le_refl _) _).alloc (by simp) _).alloc (by simp; omega) _
  have HB0 := Lib.hid hb0
  have hl : Kd.C k42 (((w.alloc (.cells #[.int .i64 5] 3)).alloc (.cells #[.bool true, .int .i64 1, .int .i64 0, .slice (some ⟨w.heap.size, 0, none⟩) 1 1] 39)).alloc (.cells #[.int .i64 7, .bool false, .slice (some ⟨w.heap.size + 1, 0, none⟩) 1 1] 42)) (some ⟨w.heap.size + 2, 0, none⟩) 1 h7 := by
    refine h7_laid (((Blk.new w [.int .i64 5] 3).alloc _).alloc _) ((blk_new2 w (.cells #[.int .i64 5] 3) [.bool true, .int .i64 1, .int .i64 0, .slice (some ⟨w.heap.size, 0, none⟩) 1 1] 39).alloc _) ?_
    have := Blk.new ((w.alloc (.cells #[.int .i64 5] 3)).alloc (.cells #[.bool true, .int .i64 1, .int .i64 0, .slice (some ⟨w.heap.size, 0, none⟩) 1 1] 39)) [.int .i64 7, .bool false, .slice (some ⟨w.heap.size + 1, 0, none⟩) 1 1] 42
    rw [World.size_alloc, World.size_alloc] at this
    exact this
  have HE : Hid (Calls Try.prog 13 #[.agg #[.slice (some ⟨w.heap.size + 1 + 1, 0, none⟩) 1 1]] (((w.alloc (.cells #[.int .i64 5] 3)).alloc (.cells #[.bool true, .int .i64 1, .int .i64 0, .slice (some ⟨w.heap.size, 0, none⟩) 1 1] 39)).alloc (.cells #[.int .i64 7, .bool false, .slice (some ⟨w.heap.size + 1, 0, none⟩) 1 1] 42)) fun e w' => ∃ A n c, e = .returned (.tuple #[.slice A n c, .int .i64 0]) ∧ (convert 27 9 (.slice A n c)).run Try.prog w' = .ok (.string ⟨#[116, 32, 55, 32, 99, 10, 114, 32, 49, 32, 53, 10]⟩) w' ∧ Below w.heap.size w w') := Lib.hid <|
    (encode_c _ h7 (some ⟨w.heap.size + 2, 0, none⟩) 1 hl (by decide) h7_fits).mono fun e w' ⟨A, n, c, he, hB, hb⟩ => by
      rw [h7_check] at he
      rw [h7_enc] at hB
      exact ⟨A, n, c, he, br_string hB, link HB0.out hb⟩
  have HC : Hid (∀ (W : World), Calls Try.prog 15 #[.agg #[.slice (some ⟨W.heap.size, 0, none⟩) 1 1]] (W.alloc (.cells #[.int .i64 (-1), .bool false, .slice none 0 0] 42)) fun e w' => e = .returned (.int .i64 2) ∧ Below W.heap.size W w') := Lib.hid fun W => by
    have := check_c (W.alloc (.cells #[.int .i64 (-1), .bool false, .slice none 0 0] 42)) hm1 (some ⟨W.heap.size, 0, none⟩) 1 (hm1_laid (Blk.new W [.int .i64 (-1), .bool false, .slice none 0 0] 42)) (by decide) hm1_fits
    rw [hm1_check] at this
    exact this.mono fun e w' ⟨h1, h2⟩ => ⟨h1, link ((Below.refl _ _).alloc (Nat.le_refl _) _) h2⟩
  clear hb0 hl
  go_enter Try.func12, Try.ntmps12
  go_wp2_with fail
  refine HE.out.mono ?_
  rintro e w1 ⟨A1, n1, c1, rfl, kc, hb1⟩
  go_wp2_with fail
  refine (HC.out _).mono ?_
  rintro e w2 ⟨rfl, hb2⟩
  have hbF := link hb1 hb2
  clear kc
  go_wp2
  go_ret
  exact ⟨rfl, hbF⟩
end Go.Proofs.Ytlcioegdmopppaa.En
