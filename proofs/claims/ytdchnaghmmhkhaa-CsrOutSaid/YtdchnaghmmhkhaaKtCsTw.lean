/- coroner's law CsrTurned: its walk. -/
import Derived.Test.YtdchnaghmmhkhaaKtE
set_option linter.unusedSimpArgs false
namespace Go.Proofs.Ytdchnaghmmhkhaa
open Go.Shelf Go.RowKit Go.Lib Go.Sort Go.Proofs.Ytdchnaghmmhkhaa.RowAt Go.Proofs.Ytdchnaghmmhkhaa.PCsrGraphs Go.Proofs.YtdchnaghmmhkhaaW.PrintWords Cs Cs.Ai
set_option linter.unusedSectionVars false
set_option linter.unusedVariables false

theorem opens_CsrTurned_1 (W : World) : Opens Try.prog W 22 (fun (l : List S53) cs => ∃ A c, cs = [.slice A l.length c] ∧ l.length ≤ c ∧ InA W A l) := opens_arcs W
theorem ptr_ne (w : World) (a : Addr) : (binOp .eql 24 (.pointer (some a)) (.pointer none)).run Try.prog w = .ok (.bool false) w := by
  have h : ∀ d : Nat, (Op.equalIn (d + 1) 24 (.pointer (some a)) (.pointer none)).run Try.prog w = .ok false w := fun d => by
    simp [Op.equalIn, run_underlying Try.underlying24]
  simp only [binOp]
  simp [Op.equal, Op.maxDepth, h 9999]
/-- New of few arcs. -/
theorem new_few (n : Nat) (l : List S53) (hn : n ≤ 1024) (hl : l.length ≤ 200) (hok : l.any (fun x => outA n (ofR x)) = false) (hr : ∀ a ∈ l, Rg a.f2) (A : Option Addr) (c : Nat) (w : World) (R : Reads w A (l.map ofR)) :
    Calls Try.prog 9 #[.int .i64 n, .slice A l.length c] w fun e w' => ∃ p r, e = .returned (.tuple #[.pointer (some p), .int .i64 0]) ∧ Gr w' (.pointer (some p)) n r ∧ GD n (l.map ofR) r ∧ Below w.heap.size w w' := by
  have hin : ∀ a ∈ l.map ofR, (0 ≤ a.f0 ∧ a.f0 < n) ∧ (0 ≤ a.f1 ∧ a.f1 < n) := out_in.1 (by rw [List.any_map]; exact hok)
  have H := new_c n A c (l.map ofR) w R (by rw [List.length_map]; omega)
  rw [List.length_map] at H
  refine H.mono ?_
  rintro e w' ⟨hb, ⟨h, _⟩ | ⟨_, p, r, rfl, hj, hlen, hg⟩⟩
  · rw [okN_in hn hin] at h; cases h
  · rw [Int.toNat_natCast] at hg
    have hg' := hg
    obtain ⟨b, _, _, _, _, rfl, _⟩ := hg'
    exact ⟨⟨b, 0, none⟩, r, rfl, hg, gd_of hin (fun a ha => by obtain ⟨x, hx, rfl⟩ := List.mem_map.1 ha; exact hr x hx) hj hlen, hb⟩
/-- Turned of few arcs. -/
theorem turned_few (n : Nat) (D r : List Ar) (h : GD n D r) (hn : n ≤ 1024) (hl : D.length ≤ 200) (p : Value) (w : World) (g : Gr w p n r) :
    Calls Try.prog 23 #[p] w fun e w' => ∃ q r2, e = .returned (.pointer (some q)) ∧ Gr w' (.pointer (some q)) n r2 ∧ GD n (r.map swp) r2 ∧ Below w.heap.size w w' := by
  have hlen := h.len
  refine (turned_c n r p w g hn (by omega)).mono ?_
  rintro e w' ⟨hb, v, rfl, h1⟩
  rw [tArcs_eq h.is n (fun a ha => (h.rng a ha).1)] at h1
  rcases h1 with ⟨h1, _⟩ | ⟨_, r2, hj, hlen2, hg⟩
  · rw [okN_in hn (swp_in h.rng)] at h1; cases h1
  · have hg' := hg
    obtain ⟨b, _, _, _, _, rfl, _⟩ := hg'
    exact ⟨⟨b, 0, none⟩, r2, rfl, hg, gd_of (swp_in h.rng) (swp_rg h.rg) hj hlen2, hb⟩

set_option maxRecDepth 1000000 in
set_option maxHeartbeats 8000000 in
theorem turned_ok (w : World) (n : Nat) (A : Option Addr) (c : Nat) (l : List S53) (hi : Hid (InA w A l)) (hc : l.length ≤ c) (from_ to_ : Int) (hn : n ≤ 60) (hl : l.length ≤ 200) (hok : Hid (l.any (fun x => outA n (ofR x)) = false)) (hf : Hid (fewB n l 60 200 = true)) :
    Calls Try.prog 5 #[.int .i64 n, .slice A l.length c, .int .i64 from_, .int .i64 to_] w fun e w' => e = .returned (.bool true) ∧ Below w.heap.size w w' := by
  have hF : Hid (Calls Try.prog 19 #[.int .i64 n, .slice A l.length c, .int .i64 60, .int .i64 200] w fun e w' => e = .returned (.bool true) ∧ Drawn0 w w') := Lib.hid (by
    obtain ⟨k, hk⟩ := few_f n l 60 200 (by decide)
    rw [hf.out] at hk
    exact coronerref19_Few.calls k n A c l 60 200 true w hi.out.each.1 hc hk)
  have hT : Hid (∀ w1, Below w.heap.size w w1 → Calls Try.prog 10 #[.slice A l.length c] w1 fun e w' => ∃ A2 c2, e = .returned (.slice A2 l.length c2) ∧ Reads w' A2 (l.map ofR) ∧ Below w1.heap.size w1 w') := Lib.hid fun w1 hb => by
    refine (coronerlaw19_to.calls _ A c l _ w1 (Kd.C_below hi.out.each.1 hb) hc (to_f l (by omega))).mono ?_
    rintro e w2 ⟨v, rfl, h1, h2⟩
    obtain ⟨A2, c2, rfl, _, h3⟩ := Kd.R_reads h1
    exact ⟨A2, c2, by rw [List.length_map], reads_C h3, h2⟩
  have hN := Lib.hid (new_few n l (by omega) hl hok.out hi.out.each.2)
  have hO : Hid (∀ (r : List Ar) (A : Option Addr) (c : Nat) (w1 : World), r.length ≤ 200 → Reads w1 A r → r.length ≤ c → Calls Try.prog 14 #[.slice A r.length c] w1 fun e w' => ∃ A2 c2, e = .returned (.slice A2 r.length c2) ∧ Kd.C k53 w' A2 (r.map toR).length (r.map toR) ∧ (r.map toR).length ≤ c2 ∧ Below w1.heap.size w1 w') := Lib.hid fun r A c w1 hr hR hc => by
    refine (coronerlaw19_of.calls _ A c r _ w1 (C_reads hR (by omega)) hc (of_f r (by omega))).mono ?_
    rintro e w2 ⟨v, rfl, h1, h2⟩
    obtain ⟨A2, c2, rfl, h4, h3⟩ := Kd.R_reads h1
    exact ⟨A2, c2, by rw [List.length_map], h3, h4, h2⟩
  clear hi hok
  go_enter Try.func5, Try.ntmps5
  go_wp2_with (fail)
  refine hF.out.mono ?_
  rintro e w1 ⟨rfl, hd1⟩
  have HB1 := Lib.hid hd1.below
  clear hd1 hF
  go_wp2_with (fail)
  refine (hT.out _ HB1.out).mono ?_
  rintro e w2 ⟨A2, c2, rfl, hR2, hb2⟩
  have HR2 := Lib.hid hR2
  have HB2 := Lib.hid (HB1.out.trans (hb2.mono HB1.out.size))
  clear hR2 hb2 hT HB1
  go_wp2_with (fail)
  refine (hN.out A2 c2 w2 HR2.out).mono ?_
  rintro e w3 ⟨p, r, rfl, hg3, hd, hb3⟩
  have HG3 := Lib.hid hg3
  have HD := Lib.hid hd
  have HB3 := Lib.hid (HB2.out.trans (hb3.mono HB2.out.size))
  have hlr : r.length ≤ 200 := Nat.le_trans hd.len (by rw [List.length_map]; exact hl)
  have HTU := Lib.hid (turned_few n (l.map ofR) r hd (by omega) (by rw [List.length_map]; exact hl))
  clear hg3 hd hb3 hN HR2 HB2
  have HL : Hid (∀ (p : Value) (r : List Ar) (W : World), Gr W p n r → Calls Try.prog 12 #[p] W fun e w' => e = .returned (.int .i64 (n : Int)) ∧ Below W.heap.size W w') := Lib.hid fun p r W h => (len_c n r p W h (by omega)).mono fun e w' ⟨he, hw⟩ => by subst hw; exact ⟨he, Below.refl _ _⟩
  have HA : Hid (∀ (p : Value) (r : List Ar) (W : World), r.length ≤ 200 → Gr W p n r → Calls Try.prog 15 #[p] W fun e w' => ∃ A c, e = .returned (.slice A r.length c) ∧ Reads w' A r ∧ r.length ≤ c ∧ Below W.heap.size W w') := Lib.hid fun p r W hr h => arcs_c n r p W h (by omega)
  have HM : Hid (∀ (p : Value) (D r : List Ar) (f t : Int) (W : World), r.length ≤ 200 → GD n D r → Gr W p n r → Calls Try.prog 17 #[p, .int .i64 f, .int .i64 t] W fun e w' => e = .returned (.int .i64 (lookV n r f t)) ∧ Below W.heap.size W w') := Lib.hid fun p D r f t W hr hd h => mask_any n r p f t W h hd.is.1 (by omega) (by omega)
  have hne := ptr_ne
  go_wp2_with (fail)
  refine (HTU.out _ w3 HG3.out).mono ?_
  rintro e w4 ⟨q, r2, rfl, hq4, hd2, hb4⟩
  have HQ4 := Lib.hid hq4
  have HG4 := Lib.hid (HG3.out.below hb4)
  have HB4 := Lib.hid (HB3.out.trans (hb4.mono HB3.out.size))
  have HD2 := Lib.hid hd2
  have HLN := Lib.hid (turned_len HD.out.is hd2.is)
  have HM2 : Hid (∀ (W : World), Gr W (.pointer (some q)) n r2 → Calls Try.prog 17 #[.pointer (some q), .int .i64 from_, .int .i64 to_] W fun e w' => e = .returned (.int .i64 (lookV n r to_ from_)) ∧ Below W.heap.size W w') := Lib.hid fun W h => by
    rw [← lookV_turned HD.out hd2]
    exact HM.out _ _ r2 from_ to_ W (by rw [HLN.out]; exact hlr) hd2 h
  have HA2 : Hid (∀ (W : World), Gr W (.pointer (some q)) n r2 → Calls Try.prog 15 #[.pointer (some q)] W fun e w' => ∃ A c, e = .returned (.slice A r.length c) ∧ Below W.heap.size W w') := Lib.hid fun W h => (HA.out _ r2 W (by rw [HLN.out]; exact hlr) h).mono fun e w' ⟨A, c, he, _, _, hb⟩ => ⟨A, c, by rw [he, HLN.out], hb⟩
  have HTU2 : Hid (∀ (W : World), Gr W (.pointer (some q)) n r2 → Calls Try.prog 23 #[.pointer (some q)] W fun e w' => ∃ s, e = .returned (.pointer (some s)) ∧ Gr w' (.pointer (some s)) n r ∧ Below W.heap.size W w') := Lib.hid fun W h => by
    refine (turned_few n (r.map swp) r2 hd2 (by omega) (by rw [List.length_map]; exact hlr) _ W h).mono ?_
    rintro e w' ⟨s, r3, he, hg, hd3, hb⟩
    rw [back HD.out.is hd2.is hd3.is] at hg
    exact ⟨s, he, hg, hb⟩
  clear hq4 hb4 hd2 HTU HG3 HB3
  go_wp2_with (fail)
  refine (HL.out _ r2 w4 HQ4.out).mono ?_
  rintro e w5 ⟨rfl, hb5⟩
  have HQ5 := Lib.hid (HQ4.out.below hb5)
  have HG5 := Lib.hid (HG4.out.below hb5)
  have HB5 := Lib.hid (HB4.out.trans (hb5.mono HB4.out.size))
  clear hb5 HQ4 HG4 HB4
  go_wp2_with (fail)
  refine (HM2.out w5 HQ5.out).mono ?_
  rintro e w6 ⟨rfl, hb6⟩
  have HQ6 := Lib.hid (HQ5.out.below hb6)
  have HG6 := Lib.hid (HG5.out.below hb6)
  have HB6 := Lib.hid (HB5.out.trans (hb6.mono HB5.out.size))
  clear hb6 HQ5 HG5 HB5
  go_wp2_with (fail)
  refine (HM.out _ _ r to_ from_ w6 hlr HD.out HG6.out).mono ?_
  rintro e w7 ⟨rfl, hb7⟩
  have HQ7 := Lib.hid (HQ6.out.below hb7)
  have HG7 := Lib.hid (HG6.out.below hb7)
  have HB7 := Lib.hid (HB6.out.trans (hb7.mono HB6.out.size))
  clear hb7 HQ6 HG6 HB6
  go_wp2_with (fail)
  refine (HA2.out w7 HQ7.out).mono ?_
  rintro e w8 ⟨A8, c8, rfl, hb8⟩
  have HQ8 := Lib.hid (HQ7.out.below hb8)
  have HG8 := Lib.hid (HG7.out.below hb8)
  have HB8 := Lib.hid (HB7.out.trans (hb8.mono HB7.out.size))
  clear hb8 HQ7 HG7 HB7
  go_wp2_with (fail)
  refine (HA.out _ r w8 hlr HG8.out).mono ?_
  rintro e w9 ⟨A9, c9, rfl, -, -, hb9⟩
  have HQ9 := Lib.hid (HQ8.out.below hb9)
  have HG9 := Lib.hid (HG8.out.below hb9)
  have HB9 := Lib.hid (HB8.out.trans (hb9.mono HB8.out.size))
  clear hb9 HQ8 HG8 HB8
  go_wp2_with (fail)
  refine (HTU2.out w9 HQ9.out).mono ?_
  rintro e w10 ⟨s, rfl, hs10, hb10⟩
  have HG10 := Lib.hid (HG9.out.below hb10)
  have HB10 := Lib.hid (HB9.out.trans (hb10.mono HB9.out.size))
  have HS10 := Lib.hid hs10
  clear hs10 HQ9
  clear hb10 HG9 HB9
  go_wp2_with (fail)
  refine (HA.out _ r w10 hlr HS10.out).mono ?_
  rintro e w11 ⟨A11, c11, rfl, hr11, hc11, hb11⟩
  have HG11 := Lib.hid (HG10.out.below hb11)
  have HB11 := Lib.hid (HB10.out.trans (hb11.mono HB10.out.size))
  have HR11 := Lib.hid hr11
  have HC11 := Lib.hid hc11
  clear hr11 hc11 HS10
  clear hb11 HG10 HB10
  go_wp2_with (fail)
  refine (hO.out r A11 c11 w11 hlr HR11.out HC11.out).mono ?_
  rintro e w12 ⟨A12, c12, rfl, hk12, hc12, hb12⟩
  have HG12 := Lib.hid (HG11.out.below hb12)
  have HB12 := Lib.hid (HB11.out.trans (hb12.mono HB11.out.size))
  have HK12 := Lib.hid hk12
  have HC12 := Lib.hid hc12
  clear hk12 hc12 HR11 HC11
  clear hb12 HG11 HB11
  go_wp2_with (fail)
  refine (HA.out _ r w12 hlr HG12.out).mono ?_
  rintro e w13 ⟨A13, c13, rfl, hr13, hc13, hb13⟩
  have HB13 := Lib.hid (HB12.out.trans (hb13.mono HB12.out.size))
  have HR13 := Lib.hid hr13
  have HC13 := Lib.hid hc13
  have HK13 := Lib.hid (Kd.C_below HK12.out hb13)
  clear hr13 hc13 HG12 HK12
  clear hb13  HB12
  go_wp2_with (fail)
  refine (hO.out r A13 c13 w13 hlr HR13.out HC13.out).mono ?_
  rintro e w14 ⟨A14, c14, rfl, hk14, hc14, hb14⟩
  have HB14 := Lib.hid (HB13.out.trans (hb14.mono HB13.out.size))
  have HJ14 := Lib.hid hk14
  have HC14 := Lib.hid hc14
  have HK14 := Lib.hid (Kd.C_below HK13.out hb14)
  clear hk14 hc14 HR13 HC13 HK13
  clear hb14  HB13
  have HSM : Hid (Calls Try.prog 13 #[.slice A12 r.length c12, .slice A14 r.length c14] w14 fun e w' => e = .returned (.bool true) ∧ Drawn0 w14 w') := Lib.hid (by
    have h1 := (same_f (r.map toR) (r.map toR) (by rw [List.length_map]; omega)).trans (congrArg some (by simp : _ = true))
    have h2 := coronerref19_Same.calls _ A12 c12 (r.map toR) A14 c14 (r.map toR) true w14 HK14.out HC12.out HJ14.out HC14.out h1
    rw [List.length_map] at h2
    exact h2)
  clear HK14 HJ14 HC12 HC14
  go_wp2_with (fail)
  refine HSM.out.mono ?_
  rintro e w15 ⟨rfl, hd15⟩
  have HB15 := Lib.hid (HB14.out.trans (hd15.below.mono HB14.out.size))
  clear hd15 HB14
  go_wp2_with (fail)
  refine (works_c w15).mono ?_
  rintro e w16 ⟨rfl, hb16⟩
  have HB16 := Lib.hid (HB15.out.trans (hb16.mono HB15.out.size))
  clear hb16
  go_wp2
  go_ret
  exact ⟨rfl, HB16.out⟩
theorem few_off (w : World) (n : Int) (A : Option Addr) (c : Nat) (l : List S53) (hi : InA w A l) (hc : l.length ≤ c) (h : fewB n l 60 200 = false) : Calls Try.prog 19 #[.int .i64 n, .slice A l.length c, .int .i64 60, .int .i64 200] w fun e w' => e = .returned (.bool false) ∧ Drawn0 w w' := by
  obtain ⟨k, hk⟩ := few_f n l 60 200 (by decide)
  rw [h] at hk
  exact coronerref19_Few.calls k n A c l 60 200 false w hi.each.1 hc hk
set_option maxRecDepth 1000000 in
set_option maxHeartbeats 8000000 in
theorem turned_off (w : World) (n : Int) (A : Option Addr) (c : Nat) (l : List S53) (hi : Hid (InA w A l)) (hc : l.length ≤ c) (from_ to_ : Int) (hf : Hid (fewB n l 60 200 = false)) :
    Calls Try.prog 5 #[.int .i64 n, .slice A l.length c, .int .i64 from_, .int .i64 to_] w fun e w' => e = .returned (.bool true) ∧ Below w.heap.size w w' := by
  have hF := Lib.hid (few_off w n A c l hi.out hc hf.out)
  clear hi hf
  go_enter Try.func5, Try.ntmps5
  go_wp2_with (fail)
  refine hF.out.mono ?_
  rintro e w1 ⟨rfl, hd1⟩
  have HB1 := Lib.hid hd1.below
  clear hd1 hF
  go_wp2_with (fail)
  refine (works_c w1).mono ?_
  rintro e w2 ⟨rfl, hb2⟩
  have HB2 := Lib.hid (HB1.out.trans (hb2.mono HB1.out.size))
  clear hb2
  go_wp2
  go_ret
  exact ⟨rfl, HB2.out⟩
theorem walk_CsrTurned (w : World) (n : Int) (_hn : (Lit.int .i64 n).wf = true) (A : Option Addr) (c : Nat) (l : List S53) (hi : InA w A l) (hc : l.length ≤ c) (from_ : Int) (_hf : (Lit.int .i64 from_).wf = true) (to_ : Int) (_ht : (Lit.int .i64 to_).wf = true) :
    Calls Try.prog 5 #[.int .i64 n, .slice A l.length c, .int .i64 from_, .int .i64 to_] w fun e w' => e = .returned (.bool true) ∧ Below w.heap.size w w' := by
  cases hf : fewB n l 60 200 with
  | false => exact turned_off w n A c l (Lib.hid hi) hc from_ to_ (Lib.hid hf)
  | true =>
    obtain ⟨N, rfl, h1, h2, h3⟩ := few_ok hf
    exact turned_ok w N A c l (Lib.hid hi) hc from_ to_ (by omega) h2 (Lib.hid h3) (Lib.hid hf)
end Go.Proofs.Ytdchnaghmmhkhaa
