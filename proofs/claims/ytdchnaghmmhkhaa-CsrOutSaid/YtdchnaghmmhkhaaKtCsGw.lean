/- coroner's law CsrGraphs: its walk. -/
import Derived.Test.YtdchnaghmmhkhaaKtCsTw
import Derived.Test.YtdchnaghmmhkhaaKtF
import Derived.Test.YtdchnaghmmhkhaaCsNewR
set_option linter.unusedSimpArgs false
namespace Go.Proofs.Ytdchnaghmmhkhaa
open Go.Shelf Go.RowKit Go.Lib Go.Sort Go.Proofs.Ytdchnaghmmhkhaa.RowAt Go.Proofs.Ytdchnaghmmhkhaa.PCsrGraphs Go.Proofs.YtdchnaghmmhkhaaW.PrintWords Go.Proofs.YtdchnaghmmhkhaaW.PrintLast Cs Cs.Ai
set_option linter.unusedSectionVars false
set_option linter.unusedVariables false

theorem opens_CsrGraphs_1 (W : World) : Opens Try.prog W 22 (fun (l : List S53) cs => ∃ A c, cs = [.slice A l.length c] ∧ l.length ≤ c ∧ InA W A l) := opens_arcs W
theorem ptr_nil (w : World) : (binOp .eql 24 (.pointer none) (.pointer none)).run Try.prog w = .ok (.bool true) w := by
  have h : ∀ d : Nat, (Op.equalIn (d + 1) 24 (.pointer none) (.pointer none)).run Try.prog w = .ok true w := fun d => by
    simp [Op.equalIn, run_underlying Try.underlying24]
  simp only [binOp]
  simp [Op.equal, Op.maxDepth, h 9999]
/-- to, at any world that keeps what came in. -/
theorem to_few (w : World) (A : Option Addr) (c : Nat) (l : List S53) (hi : InA w A l) (hc : l.length ≤ c) (hl : l.length ≤ 200) (w1 : World) (hb : Below w.heap.size w w1) :
    Calls Try.prog 10 #[.slice A l.length c] w1 fun e w' => ∃ A2 c2, e = .returned (.slice A2 l.length c2) ∧ Reads w' A2 (l.map ofR) ∧ Below w1.heap.size w1 w' := by
  refine (coronerlaw19_to.calls _ A c l _ w1 (Kd.C_below hi.each.1 hb) hc (to_f l (by omega))).mono ?_
  rintro e w2 ⟨v, rfl, h1, h2⟩
  obtain ⟨A2, c2, rfl, _, h3⟩ := Kd.R_reads h1
  exact ⟨A2, c2, by rw [List.length_map], reads_C h3, h2⟩
theorem of_few (r : List Ar) (A : Option Addr) (c : Nat) (w1 : World) (hr : r.length ≤ 200) (hR : Reads w1 A r) (hc : r.length ≤ c) : Calls Try.prog 14 #[.slice A r.length c] w1 fun e w' => ∃ A2 c2, e = .returned (.slice A2 r.length c2) ∧ Kd.C k53 w' A2 (r.map toR).length (r.map toR) ∧ (r.map toR).length ≤ c2 ∧ Below w1.heap.size w1 w' := by
  refine (coronerlaw19_of.calls _ A c r _ w1 (C_reads hR (by omega)) hc (of_f r (by omega))).mono ?_
  rintro e w2 ⟨v, rfl, h1, h2⟩
  obtain ⟨A2, c2, rfl, h4, h3⟩ := Kd.R_reads h1
  exact ⟨A2, c2, by rw [List.length_map], h3, h4, h2⟩
/-- The reference's New, where it may not be. -/
theorem rnew_bad (w : World) (n : Int) (A : Option Addr) (c : Nat) (l : List S53) (hi : InA w A l) (hc : l.length ≤ c) (hl : l.length ≤ 200) (hbad : okN n (l.map ofR) = false) (hn : ¬ (60 < n ∧ n ≤ 1024)) (w1 : World) (hb : Below w.heap.size w w1) :
    Calls Try.prog 11 #[.int .i64 n, .slice A l.length c] w1 fun e w' => ∃ A2 c2, e = .returned (.tuple #[.agg #[.int .i64 0, .slice A2 0 c2], .int .i64 2]) ∧ Below w1.heap.size w1 w' := by
  have hf : ∃ k, coronerref19_New.f k n l = some (0, [], 2) := by
    by_cases h : n < 0 ∨ n > 1024
    · exact ⟨1, new_bad_n l h⟩
    · obtain ⟨N, rfl⟩ : ∃ N : Nat, n = (N : Int) := ⟨n.toNat, by omega⟩
      obtain ⟨k, hk⟩ := new_f N l (by omega) (by omega)
      unfold okN at hbad
      rw [decide_eq_true (by omega : (0 : Int) ≤ N), decide_eq_true (by omega : (N : Int) ≤ 1024), List.any_map] at hbad
      rw [if_pos (by simpa using hbad)] at hk
      exact ⟨k, hk⟩
  obtain ⟨k, hk⟩ := hf
  refine (coronerref19_New.calls k n A c l 0 [] 2 w1 (Kd.C_below hi.each.1 hb) hc hk).mono ?_
  rintro e w2 ⟨v, rfl, h1, h2⟩
  obtain ⟨A2, c2, rfl⟩ := Kd.S_slice h1
  exact ⟨A2, c2, rfl, h2⟩
/-- The reference's New, where it may be. -/
theorem rnew_ok (w : World) (n : Nat) (A : Option Addr) (c : Nat) (l : List S53) (hi : InA w A l) (hc : l.length ≤ c) (hl : l.length ≤ 200) (hok : l.any (fun x => outA n (ofR x)) = false) (hn : n ≤ 1024) (w1 : World) (hb : Below w.heap.size w w1) :
    Calls Try.prog 11 #[.int .i64 n, .slice A l.length c] w1 fun e w' => ∃ A2 c2, e = .returned (.tuple #[.agg #[.int .i64 n, .slice A2 (l.foldl upd (sq0 n)).length c2], .int .i64 0]) ∧ Kd.C (Kd.slice 3 (Kd.int .i64)) w' A2 (l.foldl upd (sq0 n)).length (l.foldl upd (sq0 n)) ∧ (l.foldl upd (sq0 n)).length ≤ c2 ∧ Below w1.heap.size w1 w' := by
  obtain ⟨k, hk⟩ := new_f n l hn (by omega)
  rw [if_neg (by rw [hok]; exact Bool.false_ne_true)] at hk
  refine (coronerref19_New.calls k n A c l _ _ _ w1 (Kd.C_below hi.each.1 hb) hc hk).mono ?_
  rintro e w2 ⟨v, rfl, h1, h2⟩
  obtain ⟨A2, c2, rfl⟩ := Kd.S_slice h1
  obtain ⟨a1, a2, a3⟩ := Kd.S_reads' h1
  exact ⟨A2, c2, rfl, a3, a2, h2⟩

set_option maxRecDepth 1000000 in
set_option maxHeartbeats 8000000 in
theorem graphs_bad (w : World) (n : Int) (A : Option Addr) (c : Nat) (l : List S53) (hi : Hid (InA w A l)) (hc : l.length ≤ c) (from_ to_ : Int) (hn : Hid (¬ (60 < n ∧ n ≤ 1024))) (hl : l.length ≤ 200) (hbad : Hid (okN n (l.map ofR) = false)) :
    Calls Try.prog 3 #[.int .i64 n, .slice A l.length c, .int .i64 from_, .int .i64 to_] w fun e w' => e = .returned (.bool true) ∧ Below w.heap.size w w' := by
  have HT := Lib.hid (to_few w A c l hi.out hc hl)
  have HRN := Lib.hid (rnew_bad w n A c l hi.out hc hl hbad.out hn.out)
  have HN : Hid (∀ (A2 : Option Addr) (c2 : Nat) (w1 : World), Reads w1 A2 (l.map ofR) → Calls Try.prog 9 #[.int .i64 n, .slice A2 l.length c2] w1 fun e w' => e = .returned (.tuple #[.pointer none, .int .i64 2]) ∧ Below w1.heap.size w1 w') := Lib.hid fun A2 c2 w1 R => by
    have H := new_c n A2 c2 (l.map ofR) w1 R (by rw [List.length_map]; omega)
    rw [List.length_map] at H
    refine H.mono ?_
    rintro e w' ⟨hb, ⟨_, rfl⟩ | ⟨h, _⟩⟩
    · exact ⟨rfl, hb⟩
    · rw [hbad.out] at h; cases h
  have g2 : ¬ ((200 : Int) < l.length) := by omega
  have hnil := ptr_nil
  have hor : (60 < n ∧ ¬ n ≤ 1024) ∨ ¬ 60 < n := by
    have := hn.out
    by_cases h : 60 < n
    · exact .inl ⟨h, by omega⟩
    · exact .inr h
  clear hi hbad hn
  rcases hor with ⟨g0, g1⟩ | g0
  · go_enter Try.func3, Try.ntmps3
    go_wp2_with (fail)
    refine (HT.out _ (Below.refl _ _)).mono ?_
    rintro e w2 ⟨A2, c2, rfl, hR2, hb2⟩
    have HR2 := Lib.hid hR2
    have HB2 := Lib.hid hb2
    clear hR2 hb2
    go_wp2_with (fail)
    refine (HN.out A2 c2 w2 HR2.out).mono ?_
    rintro e w3 ⟨rfl, hb3⟩
    have HB3 := Lib.hid (HB2.out.trans (hb3.mono HB2.out.size))
    clear hb3 HR2 HB2
    go_wp2_with (fail)
    refine (HRN.out w3 HB3.out).mono ?_
    rintro e w4 ⟨A4, c4, rfl, hb4⟩
    have HB4 := Lib.hid (HB3.out.trans (hb4.mono HB3.out.size))
    clear hb4 HB3
    go_wp2_with (fail)
    refine (works_c _).mono ?_
    rintro e w5 ⟨rfl, hb5⟩
    have HB5 := Lib.hid ((HB4.out.alloc (HB4.out.size) (.cells #[.int .i64 0, .slice A4 0 c4] 32)).trans (hb5.mono (by rw [World.size_alloc]; have := HB4.out.size; omega)))
    clear hb5 HB4
    go_wp2
    go_ret
    exact ⟨rfl, HB5.out⟩
  · go_enter Try.func3, Try.ntmps3
    go_wp2_with (fail)
    refine (HT.out _ (Below.refl _ _)).mono ?_
    rintro e w2 ⟨A2, c2, rfl, hR2, hb2⟩
    have HR2 := Lib.hid hR2
    have HB2 := Lib.hid hb2
    clear hR2 hb2
    go_wp2_with (fail)
    refine (HN.out A2 c2 w2 HR2.out).mono ?_
    rintro e w3 ⟨rfl, hb3⟩
    have HB3 := Lib.hid (HB2.out.trans (hb3.mono HB2.out.size))
    clear hb3 HR2 HB2
    go_wp2_with (fail)
    refine (HRN.out w3 HB3.out).mono ?_
    rintro e w4 ⟨A4, c4, rfl, hb4⟩
    have HB4 := Lib.hid (HB3.out.trans (hb4.mono HB3.out.size))
    clear hb4 HB3
    go_wp2_with (fail)
    refine (works_c _).mono ?_
    rintro e w5 ⟨rfl, hb5⟩
    have HB5 := Lib.hid ((HB4.out.alloc (HB4.out.size) (.cells #[.int .i64 0, .slice A4 0 c4] 32)).trans (hb5.mono (by rw [World.size_alloc]; have := HB4.out.size; omega)))
    clear hb5 HB4
    go_wp2
    go_ret
    exact ⟨rfl, HB5.out⟩

set_option maxRecDepth 1000000 in
set_option maxHeartbeats 8000000 in
theorem graphs_off (w : World) (n : Int) (A : Option Addr) (c : Nat) (l : List S53) (from_ to_ : Int) (h : (60 < n ∧ n ≤ 1024) ∨ 200 < l.length) :
    Calls Try.prog 3 #[.int .i64 n, .slice A l.length c, .int .i64 from_, .int .i64 to_] w fun e w' => e = .returned (.bool true) ∧ Below w.heap.size w w' := by
  have hor : (60 < n ∧ n ≤ 1024) ∨ (60 < n ∧ ¬ n ≤ 1024 ∧ (200 : Int) < l.length) ∨ (¬ 60 < n ∧ (200 : Int) < l.length) := by omega
  clear h
  rcases hor with ⟨g0, g1⟩ | ⟨g0, g1, g2⟩ | ⟨g0, g2⟩ <;>
  · go_enter Try.func3, Try.ntmps3
    go_wp2_with (fail)
    refine (works_c _).mono ?_
    rintro e w5 ⟨rfl, hb5⟩
    have HB5 := Lib.hid hb5
    clear hb5
    go_wp2
    go_ret
    exact ⟨rfl, HB5.out⟩

def RgGr.T : Bool × List (List Nat × List Nat) := (true, [([], []), ([0], [0]), ([], []), ([2], [2]), ([1, 3], [1, 3]), ([4, 1], [4]), ([5], [5]), ([6, 5, 5], [5, 6]), ([7, 7, 5], [5, 7]), ([5], [5]), ([9, 8, 5], [5, 9]), ([8, 10, 10, 5], [5, 8, 10]), ([5, 11], [5, 11]), ([12, 11], [12]), ([13], [13]), ([13], [13]), ([13], [13]), ([14, 15, 16, 13, 13], [13, 14, 15, 16]), ([13], [13]), ([13], [13]), ([13], [13]), ([18, 19, 20, 17, 13], [13, 18, 19, 20]), ([17, 21, 13], [13, 17, 21]), ([13, 22], [13, 22]), ([23, 21], [23]), ([24, 24], [24]), ([24, 25], [24, 25]), ([26, 25, 0, 1, 2, 3, 4, 5, 6, 7, 8, 9, 10, 11, 12, 13, 14, 15, 16, 17, 18, 19, 20, 21, 22, 23, 24, 25, 26], [26])])
def RgGr.B : List Nat := [0, 1, 0, 4, 15, 31, 63, 127, 255, 63, 1023, 2047, 4095, 8191, 16383, 16383, 16383, 131071, 16383, 16383, 16383, 2097151, 4194303, 8388607, 16777215, 33554431, 67108863, 134217727]
theorem RgGr.tab : rtab .any (opsOf Try.f3 9) = RgGr.T := by kernel_rfl
theorem RgGr.bits : waitsOk RgGr.T.2 RgGr.B = true := by kernel_rfl
set_option maxRecDepth 1000000 in
set_option maxHeartbeats 8000000 in
theorem graphs_ok (w : World) (n : Nat) (A : Option Addr) (c : Nat) (l : List S53) (hi : Hid (InA w A l)) (hc : l.length ≤ c) (from_ to_ : Int) (hn : n ≤ 60) (hl : l.length ≤ 200) (hok : Hid (l.any (fun x => outA n (ofR x)) = false)) :
    Calls Try.prog 3 #[.int .i64 n, .slice A l.length c, .int .i64 from_, .int .i64 to_] w fun e w' => e = .returned (.bool true) ∧ Below w.heap.size w w' := by
  have hin : ∀ x ∈ l, 0 ≤ x.f0 ∧ x.f0 < n ∧ 0 ≤ x.f1 ∧ x.f1 < n := fun x hx => by
    have h := out_in.1 (by rw [List.any_map]; exact hok.out : (l.map ofR).any (outA n) = false) (ofR x) (List.mem_map.2 ⟨x, hx, rfl⟩)
    exact ⟨h.1.1, h.1.2, h.2.1, h.2.2⟩
  have HIN := Lib.hid hin
  have HT := Lib.hid (to_few w A c l hi.out hc hl)
  have HRN := Lib.hid (rnew_ok w n A c l hi.out hc hl hok.out (by omega))
  have HN := Lib.hid (new_few n l (by omega) hl hok.out hi.out.each.2)
  have g0 : ¬ (60 : Int) < n := by omega
  have g2 : ¬ ((200 : Int) < l.length) := by omega
  have HSQ := Lib.hid (sq_new l (sq0 n) hin (sq0_sq n))
  clear hin hi hok
  obtain ⟨M, hM⟩ : ∃ M, M = l.foldl upd (sq0 n) := ⟨_, rfl⟩
  rw [← hM] at HRN HSQ
  have HMM := Lib.hid hM
  clear hM
  go_enter Try.func3, Try.ntmps3
  go_wp2_with (fail)
  refine (HT.out _ (Below.refl _ _)).mono ?_
  rintro e w2 ⟨A2, c2, rfl, hR2, hb2⟩
  have HR2 := Lib.hid hR2
  have HB2 := Lib.hid hb2
  clear hR2 hb2 HT
  go_wp2_with (fail)
  refine (HN.out A2 c2 w2 HR2.out).mono ?_
  rintro e w3 ⟨p, r, rfl, hg3, hd, hb3⟩
  have HG3 := Lib.hid hg3
  have HD := Lib.hid hd
  have HB3 := Lib.hid (HB2.out.trans (hb3.mono HB2.out.size))
  have hlr : r.length ≤ 200 := Nat.le_trans hd.len (by rw [List.length_map]; exact hl)
  have HAR : Hid (arcsM n M (List.range n) = r.map toR) := Lib.hid (by rw [HMM.out]; exact arcs_eq HIN.out hd.is)
  have HMK : Hid (coronerref19_Mask.f n M from_ to_ = some (lookV n r from_ to_)) := Lib.hid (by rw [HMM.out]; exact mask_eq HIN.out hd from_ to_)
  clear hg3 hd hb3 HN HR2 HB2 HMM HIN
  go_wp2_with (fail)
  refine (HRN.out w3 HB3.out).mono ?_
  rintro e w4 ⟨A4, c4, rfl, hk4, hc4, hb4⟩
  have HG4 := Lib.hid (HG3.out.below hb4)
  have HK4 := Lib.hid hk4
  have HC4 := Lib.hid hc4
  have HB4 := Lib.hid (HB3.out.trans (hb4.mono HB3.out.size))
  clear hb4 HB3 hk4 hc4 HG3 HRN
  obtain ⟨m, hm⟩ : ∃ m, m = M.length := ⟨_, rfl⟩
  rw [← hm]
  have HLM := Lib.hid hm
  clear hm
  have hb5 : Below w.heap.size w (w4.alloc (.cells #[.int .i64 (n : Int), .slice A4 m c4] 32)) := HB4.out.alloc HB4.out.size _
  have hk5 : Below w4.heap.size w4 (w4.alloc (.cells #[.int .i64 (n : Int), .slice A4 m c4] 32)) := (Below.refl _ w4).alloc (Nat.le_refl _) _
  have hB5 := Blk.new w4 [.int .i64 (n : Int), .slice A4 m c4] 32
  have HB5 := Lib.hid hb5
  have HX5 := Lib.hid hB5
  have HG5 := Lib.hid (HG4.out.below hk5)
  have HK5 := Lib.hid (Kd.C_below HK4.out hk5)
  clear hb5 hk5 hB5 HG4 HK4 HB4
  go_wp2_with (fail)
  generalize (w4.alloc (.cells #[.int .i64 (n : Int), .slice A4 m c4] 32)) = w5 at *
  have hbD := Lib.hid ((Below.refl w5.heap.size w5).drew)
  have FX : Hid (∀ W, Below w5.heap.size w5 W → W.cell? ⟨w4.heap.size, 0, none⟩ = some (.int .i64 (n : Int)) ∧ W.cell? ⟨w4.heap.size, 1, none⟩ = some (.slice A4 m c4)) := Lib.hid fun W hW => by
    have := HX5.out.below hW HX5.out.lt
    exact ⟨this.cell 0, this.cell 1⟩
  have HL : Hid (∀ W, Below w5.heap.size w5 W → Calls Try.prog 12 #[.pointer (some p)] W fun e w' => e = .returned (.int .i64 (n : Int)) ∧ Below w5.heap.size w5 w') := Lib.hid fun W hW => (len_c n r _ W (HG5.out.below hW) (by omega)).mono fun e w' ⟨he, hw⟩ => by subst hw; exact ⟨he, hW⟩
  have HA : Hid (∀ W, Below w5.heap.size w5 W → Calls Try.prog 15 #[.pointer (some p)] W fun e w' => ∃ A c, e = .returned (.slice A r.length c) ∧ Reads w' A r ∧ r.length ≤ c ∧ Below w5.heap.size w5 w') := Lib.hid fun W hW => (arcs_c n r _ W (HG5.out.below hW) (by omega)).mono fun e w' ⟨A, c, he, h1, h2, hb⟩ => ⟨A, c, he, h1, h2, hW.trans (hb.mono hW.size)⟩
  have HO : Hid (∀ W, Below w5.heap.size w5 W → ∀ A c, Reads W A r → r.length ≤ c → Calls Try.prog 14 #[.slice A r.length c] W fun e w' => ∃ A2 c2, e = .returned (.slice A2 r.length c2) ∧ Kd.C k53 w' A2 (r.map toR).length (r.map toR) ∧ (r.map toR).length ≤ c2 ∧ Below w5.heap.size w5 w') := Lib.hid fun W hW A c hR hc => (of_few r A c W hlr hR hc).mono fun e w' ⟨A2, c2, he, h1, h2, hb⟩ => ⟨A2, c2, he, h1, h2, hW.trans (hb.mono hW.size)⟩
  have HRA : Hid (∀ W, Below w5.heap.size w5 W → Calls Try.prog 16 #[.agg #[.int .i64 (n : Int), .slice A4 m c4]] W fun e w' => ∃ A2 c2, e = .returned (.slice A2 r.length c2) ∧ Kd.C k53 w' A2 (r.map toR).length (r.map toR) ∧ (r.map toR).length ≤ c2 ∧ Below W.heap.size W w' ∧ Below w5.heap.size w5 w') := Lib.hid fun W hW => by
    obtain ⟨k, hk⟩ := arcs_f n M HSQ.out (by omega)
    rw [HAR.out] at hk
    have H := coronerref19_Arcs.calls k n A4 c4 M _ W (Kd.C_below HK5.out hW) HC4.out hk
    rw [← HLM.out] at H
    refine H.mono ?_
    rintro e w' ⟨v, rfl, h1, h2⟩
    obtain ⟨A2, c2, rfl, h4, h3⟩ := Kd.R_reads h1
    exact ⟨A2, c2, by rw [List.length_map], h3, h4, h2, hW.trans (h2.mono hW.size)⟩
  have HS : Hid (∀ W, Below w5.heap.size w5 W → ∀ A c B d, Kd.C k53 W A (r.map toR).length (r.map toR) → (r.map toR).length ≤ c → Kd.C k53 W B (r.map toR).length (r.map toR) → (r.map toR).length ≤ d → Calls Try.prog 13 #[.slice A r.length c, .slice B r.length d] W fun e w' => e = .returned (.bool true) ∧ Below w5.heap.size w5 w') := Lib.hid fun W hW A c B d h1 h2 h3 h4 => by
    have h5 := (same_f (r.map toR) (r.map toR) (by rw [List.length_map]; omega)).trans (congrArg some (by simp : _ = true))
    have H := coronerref19_Same.calls _ A c (r.map toR) B d (r.map toR) true W h1 h2 h3 h4 h5
    rw [List.length_map] at H
    exact H.mono fun e w' ⟨he, hd⟩ => ⟨he, hW.trans (hd.below.mono hW.size)⟩
  have HM : Hid (∀ W, Below w5.heap.size w5 W → Calls Try.prog 17 #[.pointer (some p), .int .i64 from_, .int .i64 to_] W fun e w' => e = .returned (.int .i64 (lookV n r from_ to_)) ∧ Below w5.heap.size w5 w') := Lib.hid fun W hW => (mask_any n r _ from_ to_ W (HG5.out.below hW) HD.out.is.1 (by omega) (by omega)).mono fun e w' ⟨he, hb⟩ => ⟨he, hW.trans (hb.mono hW.size)⟩
  have HRM : Hid (∀ W, Below w5.heap.size w5 W → Calls Try.prog 18 #[.agg #[.int .i64 (n : Int), .slice A4 m c4], .int .i64 from_, .int .i64 to_] W fun e w' => e = .returned (.int .i64 (lookV n r from_ to_)) ∧ Below w5.heap.size w5 w') := Lib.hid fun W hW => by
    have H := coronerref19_Mask.calls n A4 c4 M from_ to_ _ W (Kd.C_below HK5.out hW) HC4.out HMK.out
    rw [← HLM.out] at H
    exact H.mono fun e w' ⟨he, hb⟩ => ⟨he, hW.trans (hb.mono hW.size)⟩
  have HW : Hid (∀ W, Below w5.heap.size w5 W → Calls Try.prog 8 #[] W fun e w' => e = .returned (.bool true) ∧ Below w5.heap.size w5 w') := Lib.hid fun W hW => (works_c W).mono fun e w' ⟨he, hb⟩ => ⟨he, hW.trans (hb.mono hW.size)⟩
  clear HX5 HG5 HK5 HC4 HLM HMK HAR HD HSQ
  generalize lookV n r from_ to_ = lk at *
  -- REGION
  refine start_ (n := 28) (S := fun W => Below w5.heap.size w5 W) (ds := []) #[false, false, false, false, false, false, false, false, false, false, false, false, false, false, false, false, false, false, false, false, false, false, false, false, false, false, false, false] (by kernel_rfl) rfl rfl hbD.out (fun hHeld => ?_)
  refine with_tabW RgGr.tab RgGr.bits (fun HT_ HW_ => ?_)
  refine pure_ (i := 0) (N := some 48) (v := ?_) (a' := ?_) #[true, false, false, false, false, false, false, false, false, false, false, false, false, false, false, false, false, false, false, false, false, false, false, false, false, false, false, false] rfl rfl (any_of HT_.out (by kernel_rfl)) (fun _ _ _ h => h) (Or.inl ⟨by rfl, ?_⟩) ?_ ?_
  rotate_left
  · intro w'
    go_simp
    with_reducible rfl
  rotate_left
  · simp only [Act.put, List.setIfInBounds_toArray, List.set_cons_zero, List.set_cons_succ, i64_w, i32_w]
    rfl
  refine pure_ (i := 2) (N := some 50) (v := ?_) (a' := ?_) #[true, false, true, false, false, false, false, false, false, false, false, false, false, false, false, false, false, false, false, false, false, false, false, false, false, false, false, false] rfl rfl (any_of HT_.out (by kernel_rfl)) (fun _ _ _ h => h) (Or.inl ⟨by rfl, ?_⟩) ?_ ?_
  rotate_left
  · intro w'
    go_simp
    with_reducible rfl
  rotate_left
  · simp only [Act.put, List.setIfInBounds_toArray, List.set_cons_zero, List.set_cons_succ, i64_w, i32_w]
    rfl
  refine take_ (i := 3) (N := some 51) (v := ?_) (a' := ?_) #[true, false, true, true, false, false, false, false, false, false, false, false, false, false, false, false, false, false, false, false, false, false, false, false, false, false, false, false] rfl rfl (take_ofW HT_.out HW_.out (by kernel_rfl)) (fun _ _ _ h => h) (Or.inl ⟨by rfl, ?_⟩) hHeld ?_ ?_
  rotate_left
  · intro w' hW
    obtain ⟨hx_, hy_⟩ := FX.out w' hW
    go_simp
    with_reducible rfl
  rotate_left
  · simp only [Act.put, List.setIfInBounds_toArray, List.set_cons_zero, List.set_cons_succ, i64_w, i32_w]
    rfl
  refine one_ (i := 1) (N := some 49) #[true, true, true, true, false, false, false, false, false, false, false, false, false, false, false, false, false, false, false, false, false, false, false, false, false, false, false, false] rfl rfl (one_of HT_.out (by kernel_rfl)) (by decide) (fun K hK => ?_)
  refine goes_ Try.func12 (by kernel_rfl) rfl #[.pointer (some p)] (by rfl) rfl rfl (by (try simp only [List.map_toArray, List.map_cons, List.map_nil]); first | done | rfl) ?_
  refine (HL.out _ hHeld).mono ?_
  rintro e_ w_1 ⟨rfl, hH_⟩
  refine ⟨_, rfl, ?_⟩
  refine hK.out _ _ hH_ (fun hHeld => ?_)
  clear hK K hH_
  refine norm_ (a' := ?_) ?_ ?_
  rotate_left
  · show Act.put _ (some 49) _ = _
    simp only [Act.put, List.setIfInBounds_toArray, List.set_cons_zero, List.set_cons_succ, i64_w, i32_w]
    rfl
  refine pure_ (i := 4) (N := some 52) (v := ?_) (a' := ?_) #[true, true, true, true, true, false, false, false, false, false, false, false, false, false, false, false, false, false, false, false, false, false, false, false, false, false, false, false] rfl rfl (any_of HT_.out (by kernel_rfl)) (fun _ _ _ h => h) (Or.inl ⟨by rfl, ?_⟩) ?_ ?_
  rotate_left
  · intro w'
    go_simp
    with_reducible rfl
  rotate_left
  · simp only [Act.put, List.setIfInBounds_toArray, List.set_cons_zero, List.set_cons_succ, i64_w, i32_w]
    rfl
  refine pure_ (i := 5) (N := some 53) (v := ?_) (a' := ?_) #[true, true, true, true, true, true, false, false, false, false, false, false, false, false, false, false, false, false, false, false, false, false, false, false, false, false, false, false] rfl rfl (any_of HT_.out (by kernel_rfl)) (fun _ _ _ h => h) (Or.inl ⟨by rfl, ?_⟩) ?_ ?_
  rotate_left
  · intro w'
    go_simp
    with_reducible rfl
  rotate_left
  · simp only [Act.put, List.setIfInBounds_toArray, List.set_cons_zero, List.set_cons_succ, i64_w, i32_w]
    rfl
  refine pure_ (i := 6) (N := some 54) (v := ?_) (a' := ?_) #[true, true, true, true, true, true, true, false, false, false, false, false, false, false, false, false, false, false, false, false, false, false, false, false, false, false, false, false] rfl rfl (any_of HT_.out (by kernel_rfl)) (fun _ _ _ h => h) (Or.inl ⟨by rfl, ?_⟩) ?_ ?_
  rotate_left
  · intro w'
    go_simp
    with_reducible rfl
  rotate_left
  · simp only [Act.put, List.setIfInBounds_toArray, List.set_cons_zero, List.set_cons_succ, i64_w, i32_w]
    rfl
  refine take_ (i := 9) (N := some 57) (v := ?_) (a' := ?_) #[true, true, true, true, true, true, true, false, false, true, false, false, false, false, false, false, false, false, false, false, false, false, false, false, false, false, false, false] rfl rfl (take_ofW HT_.out HW_.out (by kernel_rfl)) (fun _ _ _ h => h) (Or.inl ⟨by rfl, ?_⟩) hHeld ?_ ?_
  rotate_left
  · intro w' hW
    obtain ⟨hx_, hy_⟩ := FX.out w' hW
    go_simp
    with_reducible rfl
  rotate_left
  · simp only [Act.put, List.setIfInBounds_toArray, List.set_cons_zero, List.set_cons_succ, i64_w, i32_w]
    rfl
  refine one_ (i := 7) (N := some 55) #[true, true, true, true, true, true, true, true, false, true, false, false, false, false, false, false, false, false, false, false, false, false, false, false, false, false, false, false] rfl rfl (one_of HT_.out (by kernel_rfl)) (by decide) (fun K hK => ?_)
  refine goes_ Try.func15 (by kernel_rfl) rfl #[.pointer (some p)] (by rfl) rfl rfl (by (try simp only [List.map_toArray, List.map_cons, List.map_nil]); first | done | rfl) ?_
  refine (HA.out _ hHeld).mono ?_
  rintro e_ w_7 ⟨A7, c7, rfl, hr7, hc7, hn_⟩
  refine ⟨_, rfl, ?_⟩
  have HR7 := Lib.hid hr7
  have HC7 := Lib.hid hc7
  clear hr7 hc7
  refine hK.out _ _ hn_ (fun hHeld => ?_)
  clear hK K hn_
  refine norm_ (a' := ?_) ?_ ?_
  rotate_left
  · show Act.put _ (some 55) _ = _
    simp only [Act.put, List.setIfInBounds_toArray, List.set_cons_zero, List.set_cons_succ, i64_w, i32_w]
    rfl
  refine one_ (i := 8) (N := some 56) #[true, true, true, true, true, true, true, true, true, true, false, false, false, false, false, false, false, false, false, false, false, false, false, false, false, false, false, false] rfl rfl (one_of HT_.out (by kernel_rfl)) (by decide) (fun K hK => ?_)
  refine goes_ Try.func14 (by kernel_rfl) rfl #[.slice A7 r.length c7] (by rfl) rfl rfl (by (try simp only [List.map_toArray, List.map_cons, List.map_nil]); first | done | rfl) ?_
  refine (HO.out _ hHeld A7 c7 HR7.out HC7.out).mono ?_
  rintro e_ w_8 ⟨A8, c8, rfl, hk8, hc8, hn_⟩
  refine ⟨_, rfl, ?_⟩
  have HK8 := Lib.hid hk8
  have HC8 := Lib.hid hc8
  clear hk8 hc8 HR7 HC7
  refine hK.out _ _ hn_ (fun hHeld => ?_)
  clear hK K hn_
  refine norm_ (a' := ?_) ?_ ?_
  rotate_left
  · show Act.put _ (some 56) _ = _
    simp only [Act.put, List.setIfInBounds_toArray, List.set_cons_zero, List.set_cons_succ, i64_w, i32_w]
    rfl
  refine one_ (i := 10) (N := some 58) #[true, true, true, true, true, true, true, true, true, true, true, false, false, false, false, false, false, false, false, false, false, false, false, false, false, false, false, false] rfl rfl (one_of HT_.out (by kernel_rfl)) (by decide) (fun K hK => ?_)
  refine goes_ Try.func16 (by kernel_rfl) rfl #[.agg #[.int .i64 (n : Int), .slice A4 m c4]] (by rfl) rfl rfl (by (try simp only [List.map_toArray, List.map_cons, List.map_nil]); first | done | rfl) ?_
  refine (HRA.out _ hHeld).mono ?_
  rintro e_ w_10 ⟨A10, c10, rfl, hk10, hc10, hb10, hn_⟩
  refine ⟨_, rfl, ?_⟩
  have HK10 := Lib.hid hk10
  have HC10 := Lib.hid hc10
  have HJ10 := Lib.hid (Kd.C_below HK8.out hb10)
  clear hk10 hc10 hb10 HK8
  refine hK.out _ _ hn_ (fun hHeld => ?_)
  clear hK K hn_
  refine norm_ (a' := ?_) ?_ ?_
  rotate_left
  · show Act.put _ (some 58) _ = _
    simp only [Act.put, List.setIfInBounds_toArray, List.set_cons_zero, List.set_cons_succ, i64_w, i32_w]
    rfl
  refine one_ (i := 11) (N := some 59) #[true, true, true, true, true, true, true, true, true, true, true, true, false, false, false, false, false, false, false, false, false, false, false, false, false, false, false, false] rfl rfl (one_of HT_.out (by kernel_rfl)) (by decide) (fun K hK => ?_)
  refine goes_ Try.func13 (by kernel_rfl) rfl #[.slice A8 r.length c8, .slice A10 r.length c10] (by rfl) rfl rfl (by (try simp only [List.map_toArray, List.map_cons, List.map_nil]); first | done | rfl) ?_
  refine (HS.out _ hHeld A8 c8 A10 c10 HJ10.out HC8.out HK10.out HC10.out).mono ?_
  rintro e_ w_11 ⟨rfl, hn_⟩
  refine ⟨_, rfl, ?_⟩
  clear HJ10 HC8 HK10 HC10
  refine hK.out _ _ hn_ (fun hHeld => ?_)
  clear hK K hn_
  refine norm_ (a' := ?_) ?_ ?_
  rotate_left
  · show Act.put _ (some 59) _ = _
    simp only [Act.put, List.setIfInBounds_toArray, List.set_cons_zero, List.set_cons_succ, i64_w, i32_w]
    rfl
  refine pure_ (i := 12) (N := some 60) (v := ?_) (a' := ?_) #[true, true, true, true, true, true, true, true, true, true, true, true, true, false, false, false, false, false, false, false, false, false, false, false, false, false, false, false] rfl rfl (any_of HT_.out (by kernel_rfl)) (fun _ _ _ h => h) (Or.inl ⟨by rfl, ?_⟩) ?_ ?_
  rotate_left
  · intro w'
    go_simp
    with_reducible rfl
  rotate_left
  · simp only [Act.put, List.setIfInBounds_toArray, List.set_cons_zero, List.set_cons_succ, i64_w, i32_w]
    rfl
  refine pure_ (i := 13) (N := some 61) (v := ?_) (a' := ?_) #[true, true, true, true, true, true, true, true, true, true, true, true, true, true, false, false, false, false, false, false, false, false, false, false, false, false, false, false] rfl rfl (any_of HT_.out (by kernel_rfl)) (fun _ _ _ h => h) (Or.inl ⟨by rfl, ?_⟩) ?_ ?_
  rotate_left
  · intro w'
    go_simp
    with_reducible rfl
  rotate_left
  · simp only [Act.put, List.setIfInBounds_toArray, List.set_cons_zero, List.set_cons_succ, i64_w, i32_w]
    rfl
  refine pure_ (i := 14) (N := some 62) (v := ?_) (a' := ?_) #[true, true, true, true, true, true, true, true, true, true, true, true, true, true, true, false, false, false, false, false, false, false, false, false, false, false, false, false] rfl rfl (any_of HT_.out (by kernel_rfl)) (fun _ _ _ h => h) (Or.inl ⟨by rfl, ?_⟩) ?_ ?_
  rotate_left
  · intro w'
    go_simp
    with_reducible rfl
  rotate_left
  · simp only [Act.put, List.setIfInBounds_toArray, List.set_cons_zero, List.set_cons_succ, i64_w, i32_w]
    rfl
  refine pure_ (i := 15) (N := some 63) (v := ?_) (a' := ?_) #[true, true, true, true, true, true, true, true, true, true, true, true, true, true, true, true, false, false, false, false, false, false, false, false, false, false, false, false] rfl rfl (any_of HT_.out (by kernel_rfl)) (fun _ _ _ h => h) (Or.inl ⟨by rfl, ?_⟩) ?_ ?_
  rotate_left
  · intro w'
    go_simp
    with_reducible rfl
  rotate_left
  · simp only [Act.put, List.setIfInBounds_toArray, List.set_cons_zero, List.set_cons_succ, i64_w, i32_w]
    rfl
  refine pure_ (i := 16) (N := some 64) (v := ?_) (a' := ?_) #[true, true, true, true, true, true, true, true, true, true, true, true, true, true, true, true, true, false, false, false, false, false, false, false, false, false, false, false] rfl rfl (any_of HT_.out (by kernel_rfl)) (fun _ _ _ h => h) (Or.inl ⟨by rfl, ?_⟩) ?_ ?_
  rotate_left
  · intro w'
    go_simp
    with_reducible rfl
  rotate_left
  · simp only [Act.put, List.setIfInBounds_toArray, List.set_cons_zero, List.set_cons_succ, i64_w, i32_w]
    rfl
  refine take_ (i := 18) (N := some 66) (v := ?_) (a' := ?_) #[true, true, true, true, true, true, true, true, true, true, true, true, true, true, true, true, true, false, true, false, false, false, false, false, false, false, false, false] rfl rfl (take_ofW HT_.out HW_.out (by kernel_rfl)) (fun _ _ _ h => h) (Or.inl ⟨by rfl, ?_⟩) hHeld ?_ ?_
  rotate_left
  · intro w' hW
    obtain ⟨hx_, hy_⟩ := FX.out w' hW
    go_simp
    with_reducible rfl
  rotate_left
  · simp only [Act.put, List.setIfInBounds_toArray, List.set_cons_zero, List.set_cons_succ, i64_w, i32_w]
    rfl
  refine pure_ (i := 19) (N := some 67) (v := ?_) (a' := ?_) #[true, true, true, true, true, true, true, true, true, true, true, true, true, true, true, true, true, false, true, true, false, false, false, false, false, false, false, false] rfl rfl (any_of HT_.out (by kernel_rfl)) (fun _ _ _ h => h) (Or.inl ⟨by rfl, ?_⟩) ?_ ?_
  rotate_left
  · intro w'
    go_simp
    with_reducible rfl
  rotate_left
  · simp only [Act.put, List.setIfInBounds_toArray, List.set_cons_zero, List.set_cons_succ, i64_w, i32_w]
    rfl
  refine pure_ (i := 20) (N := some 68) (v := ?_) (a' := ?_) #[true, true, true, true, true, true, true, true, true, true, true, true, true, true, true, true, true, false, true, true, true, false, false, false, false, false, false, false] rfl rfl (any_of HT_.out (by kernel_rfl)) (fun _ _ _ h => h) (Or.inl ⟨by rfl, ?_⟩) ?_ ?_
  rotate_left
  · intro w'
    go_simp
    with_reducible rfl
  rotate_left
  · simp only [Act.put, List.setIfInBounds_toArray, List.set_cons_zero, List.set_cons_succ, i64_w, i32_w]
    rfl
  refine one_ (i := 17) (N := some 65) #[true, true, true, true, true, true, true, true, true, true, true, true, true, true, true, true, true, true, true, true, true, false, false, false, false, false, false, false] rfl rfl (one_of HT_.out (by kernel_rfl)) (by decide) (fun K hK => ?_)
  refine goes_ Try.func17 (by kernel_rfl) rfl #[.pointer (some p), .int .i64 from_, .int .i64 to_] (by rfl) rfl rfl (by (try simp only [List.map_toArray, List.map_cons, List.map_nil]); first | done | rfl) ?_
  refine (HM.out _ hHeld).mono ?_
  rintro e_ w_2 ⟨rfl, hH_⟩
  refine ⟨_, rfl, ?_⟩
  refine hK.out _ _ hH_ (fun hHeld => ?_)
  clear hK K hH_
  refine norm_ (a' := ?_) ?_ ?_
  rotate_left
  · show Act.put _ (some 65) _ = _
    simp only [Act.put, List.setIfInBounds_toArray, List.set_cons_zero, List.set_cons_succ, i64_w, i32_w]
    rfl
  refine one_ (i := 21) (N := some 69) #[true, true, true, true, true, true, true, true, true, true, true, true, true, true, true, true, true, true, true, true, true, true, false, false, false, false, false, false] rfl rfl (one_of HT_.out (by kernel_rfl)) (by decide) (fun K hK => ?_)
  refine goes_ Try.func18 (by kernel_rfl) rfl #[.agg #[.int .i64 (n : Int), .slice A4 m c4], .int .i64 from_, .int .i64 to_] (by rfl) rfl rfl (by (try simp only [List.map_toArray, List.map_cons, List.map_nil]); first | done | rfl) ?_
  refine (HRM.out _ hHeld).mono ?_
  rintro e_ w_3 ⟨rfl, hH_⟩
  refine ⟨_, rfl, ?_⟩
  refine hK.out _ _ hH_ (fun hHeld => ?_)
  clear hK K hH_
  refine norm_ (a' := ?_) ?_ ?_
  rotate_left
  · show Act.put _ (some 69) _ = _
    simp only [Act.put, List.setIfInBounds_toArray, List.set_cons_zero, List.set_cons_succ, i64_w, i32_w]
    rfl
  refine pure_ (i := 22) (N := some 70) (v := ?_) (a' := ?_) #[true, true, true, true, true, true, true, true, true, true, true, true, true, true, true, true, true, true, true, true, true, true, true, false, false, false, false, false] rfl rfl (any_of HT_.out (by kernel_rfl)) (fun _ _ _ h => h) (Or.inl ⟨by rfl, ?_⟩) ?_ ?_
  rotate_left
  · intro w'
    go_simp
    with_reducible rfl
  rotate_left
  · simp only [Act.put, List.setIfInBounds_toArray, List.set_cons_zero, List.set_cons_succ, i64_w, i32_w]
    rfl
  refine pure_ (i := 23) (N := some 71) (v := ?_) (a' := ?_) #[true, true, true, true, true, true, true, true, true, true, true, true, true, true, true, true, true, true, true, true, true, true, true, true, false, false, false, false] rfl rfl (any_of HT_.out (by kernel_rfl)) (fun _ _ _ h => h) (Or.inl ⟨by rfl, ?_⟩) ?_ ?_
  rotate_left
  · intro w'
    go_simp
    with_reducible rfl
  rotate_left
  · simp only [Act.put, List.setIfInBounds_toArray, List.set_cons_zero, List.set_cons_succ, i64_w, i32_w]
    rfl
  refine pure_ (i := 24) (N := some 72) (v := ?_) (a' := ?_) #[true, true, true, true, true, true, true, true, true, true, true, true, true, true, true, true, true, true, true, true, true, true, true, true, true, false, false, false] rfl rfl (any_of HT_.out (by kernel_rfl)) (fun _ _ _ h => h) (Or.inl ⟨by rfl, ?_⟩) ?_ ?_
  rotate_left
  · intro w'
    go_simp
    with_reducible rfl
  rotate_left
  · simp only [Act.put, List.setIfInBounds_toArray, List.set_cons_zero, List.set_cons_succ, i64_w, i32_w]
    rfl
  refine one_ (i := 25) (N := some 73) #[true, true, true, true, true, true, true, true, true, true, true, true, true, true, true, true, true, true, true, true, true, true, true, true, true, true, false, false] rfl rfl (one_of HT_.out (by kernel_rfl)) (by decide) (fun K hK => ?_)
  refine goes_ Try.func8 (by kernel_rfl) rfl #[] (by rfl) rfl rfl (by (try simp only [List.map_toArray, List.map_cons, List.map_nil]); first | done | rfl) ?_
  refine (HW.out _ hHeld).mono ?_
  rintro e_ w_4 ⟨rfl, hH_⟩
  refine ⟨_, rfl, ?_⟩
  refine hK.out _ _ hH_ (fun hHeld => ?_)
  clear hK K hH_
  refine norm_ (a' := ?_) ?_ ?_
  rotate_left
  · show Act.put _ (some 73) _ = _
    simp only [Act.put, List.setIfInBounds_toArray, List.set_cons_zero, List.set_cons_succ, i64_w, i32_w]
    rfl
  refine pure_ (i := 26) (N := some 74) (v := ?_) (a' := ?_) #[true, true, true, true, true, true, true, true, true, true, true, true, true, true, true, true, true, true, true, true, true, true, true, true, true, true, true, false] rfl rfl (any_of HT_.out (by kernel_rfl)) (fun _ _ _ h => h) (Or.inl ⟨by rfl, ?_⟩) ?_ ?_
  rotate_left
  · intro w'
    go_simp
    with_reducible rfl
  rotate_left
  · simp only [Act.put, List.setIfInBounds_toArray, List.set_cons_zero, List.set_cons_succ, i64_w, i32_w]
    rfl
  refine pure_ (i := 27) (N := some 8) (v := ?_) (a' := ?_) #[true, true, true, true, true, true, true, true, true, true, true, true, true, true, true, true, true, true, true, true, true, true, true, true, true, true, true, true] rfl rfl (any_of HT_.out (by kernel_rfl)) (fun _ _ _ h => h) (Or.inl ⟨by rfl, ?_⟩) ?_ ?_
  rotate_left
  · intro w'
    go_simp
    with_reducible rfl
  rotate_left
  · simp only [Act.put, List.setIfInBounds_toArray, List.set_cons_zero, List.set_cons_succ, i64_w, i32_w]
    rfl
  refine done_ (done_of HT_.out (by kernel_rfl)) ?_
  go_wp2
  go_ret
  exact ⟨rfl, HB5.out.trans (hHeld.mono HB5.out.size)⟩
  -- END
theorem walk_CsrGraphs (w : World) (n : Int) (_hn : (Lit.int .i64 n).wf = true) (A : Option Addr) (c : Nat) (l : List S53) (hi : InA w A l) (hc : l.length ≤ c) (from_ : Int) (_hf : (Lit.int .i64 from_).wf = true) (to_ : Int) (_ht : (Lit.int .i64 to_).wf = true) :
    Calls Try.prog 3 #[.int .i64 n, .slice A l.length c, .int .i64 from_, .int .i64 to_] w fun e w' => e = .returned (.bool true) ∧ Below w.heap.size w w' := by
  by_cases h : (60 < n ∧ n ≤ 1024) ∨ 200 < l.length
  · exact graphs_off w n A c l from_ to_ h
  · cases hok : okN n (l.map ofR) with
    | false => exact graphs_bad w n A c l (Lib.hid hi) hc from_ to_ (Lib.hid (by omega)) (by omega) (Lib.hid hok)
    | true =>
      unfold okN at hok
      simp only [Bool.and_eq_true, decide_eq_true_eq, Bool.not_eq_true', List.any_map] at hok
      obtain ⟨⟨h1, h2⟩, h3⟩ := hok
      obtain ⟨N, rfl⟩ : ∃ N : Nat, n = (N : Int) := ⟨n.toNat, by omega⟩
      exact graphs_ok w N A c l (Lib.hid hi) hc from_ to_ (by omega) (by omega) (Lib.hid h3)
end Go.Proofs.Ytdchnaghmmhkhaa
