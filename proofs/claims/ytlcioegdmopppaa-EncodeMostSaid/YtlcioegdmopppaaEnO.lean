/- The walk of the law EncodeMost. -/
import Derived.Test.YtlcioegdmopppaaEnN
set_option linter.unusedSimpArgs false
namespace Go.Proofs.Ytlcioegdmopppaa
open Go.RowKit Go.Proofs.Ytlcioegdmopppaa.PEncodeBack Go.Proofs.YtlcioegdmopppaaW.PrintWords En
set_option linter.unusedVariables false

theorem u16_wf {n : Int} (h : (Lit.int .u16 n).wf = true) : 0 ≤ n ∧ n ≤ 65535 := by
  simp only [Lit.wf, decide_eq_true_eq, Bool.and_eq_true] at h
  have h2 : IntKind.u16.min = 0 := rfl
  have h3 : IntKind.u16.max = 65535 := rfl
  rw [h2, h3] at h
  exact h
theorem text_one (W : World) (g : Nat) (i : Int) (hi : okN i = true) (hB : Blk W g [.int .i64 i, .bool false, .slice none 0 0] 42) : Calls Try.prog 18 #[.agg #[.slice (some ⟨g, 0, none⟩) 1 1]] W fun e w' => ∃ s, e = .returned (.string s) ∧ s.size = 5 + (numS i).length ∧ Below W.heap.size W w' := by
  have hl : Kd.C k42 W (some ⟨g, 0, none⟩) 1 [⟨i, false, []⟩] := one_row hB (k42_mk W ⟨i, false, []⟩ (Nat.le_refl 0) ⟨rfl, Nat.zero_le _, fun h => absurd h (Nat.lt_irrefl 0)⟩)
  exact (rtext_c W [⟨i, false, []⟩] (some ⟨g, 0, none⟩) 1 hl (Nat.le_refl 1) (one_fits i) (by simp [okT, hi])).mono fun e w' ⟨h1, h2⟩ => ⟨_, h1, by rw [str_len, one_text hi], h2⟩
theorem made_ints (m : Nat) : (madeCells (Value.int .i64 0).cells (m * 1)).toList = List.replicate m (Value.int .i64 0) := by
  apply List.ext_getElem
  · simp [madeCells]
  · intro i h1 h2
    simp [madeCells, Value.cells, Nat.mod_one]
theorem own_full {W : World} {base g n : Nat} {e : TypeId} {xs : List Value} (h : W.ownsRow base e 1 (.slice (some ⟨g, 0, none⟩) n n) n xs) : Blk W g xs e := by
  rcases h.2 with ⟨e1, _⟩ | ⟨g', cap, cur, e1, _, hg, _, _, hs, ht⟩
  · cases e1
  · injection e1 with ea eb ec
    injection ea with ea
    injection ea with ea
    subst ea; subst ec
    have : cur.toList = xs := by rw [← ht, List.take_of_length_le]; rw [Array.length_toList, hs]; exact Nat.le_refl _
    unfold Blk
    rw [hg, ← this]
theorem fill_step (m k : Nat) (x : Int) (hk : k < m) : (List.replicate k (Value.int .i64 x) ++ List.replicate (m - k) (Value.int .i64 0)).set k (.int .i64 x) = List.replicate (k + 1) (Value.int .i64 x) ++ List.replicate (m - (k + 1)) (Value.int .i64 0) := by
  rw [List.set_append, if_neg (by simp), List.length_replicate, Nat.sub_self, show m - k = (m - (k + 1)) + 1 by omega, List.replicate_succ, List.set_cons_zero, List.replicate_succ' (n := k), List.append_assoc]
  rfl
def Fill (w wr : World) (m : Nat) (x : Int) (k : Nat) : Prop := Blk wr w.heap.size (List.replicate k (Value.int .i64 x) ++ List.replicate (m - k) (Value.int .i64 0)) 3 ∧ Below w.heap.size w wr
theorem txn_info : (Try.prog.info? 42).map (fun i => (i.zero, i.size, i.bytes)) = some (some (.agg #[.int .i64 0, .bool false, .slice none 0 0]), 3, 40) := by kernel_rfl
set_option maxHeartbeats 4000000 in
set_option maxRecDepth 100000 in
theorem most_main (w : World) (n m : Nat) (x : Int) (hn : n ≤ 2000) (hm : m ≤ 300) (hx : okN x = true) :
    Calls Try.prog 4 #[.int .u16 n, .int .u16 m, .int .i64 x] w fun e w' => e = .returned (.bool true) ∧ Below w.heap.size w w' := by
  obtain ⟨hx0, hx1⟩ := okN_iff.1 hx
  have HX := Lib.hid hx
  have hn1 : ¬ (2000 : Int) < n := by omega
  have hm1 : ¬ (300 : Int) < m := by omega
  have hx2 : ¬ x < 0 := by omega
  have hx3 : ¬ (2147483647 : Int) < x := by omega
  obtain ⟨i0, hi, hz0, hz1, hz2⟩ := info_parts int_info
  have HI := Lib.hid hi
  have HZ0 := Lib.hid hz0
  have HZ1 := Lib.hid hz1
  have HZ2 := Lib.hid hz2
  clear hx hi hz0 hz1 hz2
  go_enter Try.func4, Try.ntmps4
  go_wp2_with (at_make; refine wpList_make_full w rfl _ _ 37 rfl w.heap.size 3 i0 (.int .i64 0) 1 Try.underlying37 HI.out HZ0.out HZ1.out .u16 .u16 (m : Int) (m : Int) m rfl rfl rfl rfl (by rw [HZ2.out]; omega) (by unfold maxLen; omega) (Nat.le_refl _) ?_; intro w1 hown hg1; have hF : Fill w w1 m x 0 := ⟨by have := own_full hown; rw [made_ints] at this; simpa using this, (Below.refl _ _).grown hg1 (Nat.le_refl _) (fun g hg => by cases hg)⟩; have HF : Aside (Fill w w1 m x 0) := hF; clear hown hg1 hF)
  go_loopw [8] (fun v8 wr => ∃ k : Nat, k ≤ m ∧ v8 = .int .i64 k ∧ Aside (Fill w wr m x k)) (fun v8 _ => m - (intOf v8).toNat)
  case atStart => exact ⟨0, by omega, rfl, HF⟩
  case round =>
    clear HF
    obtain ⟨k, hk, rfl, HF⟩ := hrel
    obtain ⟨hB, hb⟩ := HF.out
    by_cases hlt : k < m
    · have hlti : (k : Int) < m := by omega
      have hc := hB.cell k
      have hfz := hB.free k
      have e1 : (List.replicate k (Value.int .i64 x) ++ List.replicate (m - k) (Value.int .i64 0))[k]? = some (.int .i64 0) := by
        rw [List.getElem?_append_right (by simp), List.length_replicate, Nat.sub_self, List.getElem?_replicate, if_pos (by omega)]
      rw [e1] at hc
      have hset : Fill w (wr.setCell ⟨w.heap.size, k, none⟩ (.int .i64 x)) m x (k + 1) := by
        have h1 := hB.set k (.int .i64 x)
        rw [fill_step m k x hlt] at h1
        exact ⟨h1, bset (Nat.le_refl _) hb⟩
      have HS : Aside (Fill w (wr.setCell ⟨w.heap.size, k, none⟩ (.int .i64 x)) m x (k + 1)) := hset
      clear hset e1 hB hb HF
      go_wp2
      go_roundw
      case rel => exact ⟨k + 1, by omega, by go_num, HS⟩
      case measure => simp [intOf]; omega
    · have hlti : ¬ (k : Int) < m := by omega
      have hkm : m = k := by omega
      subst hkm
      rw [Nat.sub_self, List.replicate_zero, List.append_nil] at hB
      have hJ : MJ w (wr.alloc (.cells #[.slice none 0 0] 24)) w.heap.size wr.heap.size m x 0 (.slice none 0 0) :=
        ⟨hB.alloc _, Blk.new wr [.slice none 0 0] 24, ⟨[], World.ownsRow_nil _ _ _ _, Reps.none _ _⟩, hb.alloc hb.size _, hb.size⟩
      have HJ : Aside (MJ w (wr.alloc (.cells #[.slice none 0 0] 24)) w.heap.size wr.heap.size m x 0 (.slice none 0 0)) := hJ
      clear hB hb HF hJ hlt
      have hnt : wrap64 (n : Int) = n := by unfold wrap64; omega
      go_wp2_with fail
      generalize wr.heap.size = tb at *
      generalize (wr.alloc (.cells #[.slice none 0 0] 24)) = w2 at *
      go_loopw [10] (fun v10 wr => ∃ (k : Nat) (v : Value), k ≤ n ∧ v10 = .int .i64 k ∧ Aside (MJ w wr w.heap.size tb m x k v)) (fun v10 _ => n - (intOf v10).toNat)
      case atStart => exact ⟨0, _, by omega, rfl, HJ⟩
      case round =>
        clear HJ
        obtain ⟨k, v, hk, rfl, HJ⟩ := hrel
        have hj := HJ.out
        have hz := hj.box.cell 0
        simp only [List.getElem?_cons_zero] at hz
        by_cases hlt : k < n
        · have hlti : (k : Int) < n := by omega
          obtain ⟨xs, ho, hr⟩ := hj.row
          have HO := Lib.hid ho
          have HO2 := Lib.hid ((ho.alloc (.cells #[.bool true, .int .i64 5, .int .i64 0, .slice (some ⟨w.heap.size, 0, none⟩) m m] 39)).alloc (.cells #[.int .i64 (k : Int), .bool false, .slice (some ⟨wr.heap.size, 0, none⟩) 1 1] 42))
          have hbb : Below w.heap.size w ((wr.alloc (.cells #[.bool true, .int .i64 5, .int .i64 0, .slice (some ⟨w.heap.size, 0, none⟩) m m] 39)).alloc (.cells #[.int .i64 (k : Int), .bool false, .slice (some ⟨wr.heap.size, 0, none⟩) 1 1] 42)) := (hj.bel.alloc hj.bel.size _).alloc (by have := hj.bel.size; simp; omega) _
          have HBB := Lib.hid hbb
          have hcy := Cells.new (wr.alloc (.cells #[.bool true, .int .i64 5, .int .i64 0, .slice (some ⟨w.heap.size, 0, none⟩) m m] 39)) [.int .i64 (k : Int), .bool false, .slice (some ⟨wr.heap.size, 0, none⟩) 1 1] 42
          rw [World.size_alloc] at hcy
          have HCY := Lib.hid hcy
          have HV1 : Hid (∀ u ∈ [Value.int .i64 (k : Int), .bool false, .slice (some ⟨wr.heap.size, 0, none⟩) 1 1], Value.oneCell' u = true) := Lib.hid (by
            intro u hu
            simp only [List.mem_cons, List.mem_nil_iff, or_false] at hu
            rcases hu with rfl | rfl | rfl <;> rfl)
          have HNX := Lib.hid (fun (w5 : World) (v5 : Value) hg ho5 hb5 => hj.next (w5 := w5) (v5 := v5) ho hr hg ho5 hb5)
          clear hj HJ ho hr hbb hcy
          go_wp2_with (at_builtin; refine wpl_appK (w0 := w) w.heap.size rfl (.tmp 49) (.tmp 55) 22 42 (.agg #[.int .i64 0, .bool false, .slice none 0 0]) 3 40 rfl Try.underlying22 txn_info rfl (by decide) (by decide) v xs [.int .i64 (k : Int), .bool false, .slice (some ⟨wr.heap.size, 0, none⟩) 1 1] (some ⟨wr.heap.size + 1, 0, none⟩) k 1 1 rfl rfl rfl HO2.out HCY.out HV1.out HBB.out HBB.out.size (by omega) ?_; intro A1 c1 w5 hown5 hb5 hg5 hat5 hc5; have hnx := HNX.out w5 _ hg5 hown5 hb5; have hzz := hnx.2.cell 0; have hff := hnx.2.free 0; simp only [List.getElem?_cons_zero] at hzz; have HJ2 : Aside (MJ w (w5.setCell ⟨tb, 0, none⟩ (.slice A1 (k + 1) c1)) w.heap.size tb m x (k + 1) (.slice A1 (k + 1) c1)) := hnx.1; clear hown5 hb5 hg5 hat5 hc5 hnx HNX HO HO2 HBB HCY HV1)
          go_roundw
          case rel => exact ⟨k + 1, _, by omega, by go_num, HJ2⟩
          case measure => simp [intOf]; omega
        · have hlti : ¬ (k : Int) < n := by omega
          have hkn : n = k := by omega
          subst hkn
          obtain ⟨A, c, rfl, hcap, hC⟩ := hj.C hm
          have HC0 := Lib.hid hC
          have HBX := Lib.hid hj.box
          have HBE := Lib.hid hj.bel
          have hlen := mostH_len n m x
          have hck := check_c wr (mostH n m x) A c (by rw [hlen]; exact hC) (by rw [hlen]; exact hcap) (most_fits hn hm HX.out)
          have hsz := fun (W : World) (hC : Kd.C k42 W A n (mostH n m x)) => size_c W (mostH n m x) A c (by rw [hlen]; exact hC) (by rw [hlen]; exact hcap) (most_fits hn hm HX.out)
          rw [hlen] at hck hsz
          have HCK := Lib.hid hck
          have HSZ := Lib.hid hsz
          have HCV := Lib.hid (most_check hn (m := m) HX.out)
          have HEN : Hid (checkP (mostH n m x) = 0 → (encP (mostH n m x)).length = sizeP m x n) := Lib.hid fun h0 => by unfold encP; rw [if_pos h0, most_text]
          have HSL := Lib.hid (sizeP_le HX.out hm)
          clear hj HJ hC hck hsz hlen hcap hlt hk
          by_cases hbg : 1024 < n
          · have hbgi : (1024 : Int) < n := by omega
            rw [HCV.out, if_pos hbg] at HCK
            clear HCV HEN hbg
            go_wp2_with fail
            refine HCK.out.mono ?_
            rintro e w3 ⟨rfl, hb3⟩
            have hbF := HBE.out.trans (hb3.mono HBE.out.size)
            clear hb3
            go_wp2_with fail
            refine (works _).mono ?_
            rintro e w4 ⟨rfl, hb4⟩
            go_wp2
            go_ret
            exact ⟨rfl, link hbF hb4⟩
          · have hbgi : ¬ (1024 : Int) < n := by omega
            rw [if_neg hbg] at HCV
            have HTX : Hid (∀ (W : World) (i : Int), okN i = true → Calls Try.prog 18 #[.agg #[.slice (some ⟨W.heap.size, 0, none⟩) 1 1]] (W.alloc (.cells #[.int .i64 i, .bool false, .slice none 0 0] 42)) fun e w' => ∃ s, e = .returned (.string s) ∧ s.size = 5 + (numS i).length ∧ Below W.heap.size W w') := Lib.hid fun W i hi =>
              (text_one _ W.heap.size i hi (Blk.new W [.int .i64 i, .bool false, .slice none 0 0] 42)).mono fun e w' ⟨s, h1, h2, h3⟩ => ⟨s, h1, h2, link ((Below.refl _ _).alloc (Nat.le_refl _) _) h3⟩
            clear hbg
            generalize hcp : checkP (mostH n m x) = cp at *
            have HCP := Lib.hid hcp
            clear hcp
            go_wp2_with fail
            refine HCK.out.mono ?_
            rintro e w3 ⟨rfl, hb3⟩
            have HB3 := Lib.hid hb3
            clear hb3 hz HCK
            obtain ⟨wq, hwq⟩ : ∃ wq, wq = wr := ⟨_, rfl⟩
            subst hwq
            go_wp2_with fail
            go_loopw [12, 13] (fun v12 v13 wr2 => ∃ k : Nat, k ≤ n ∧ v13 = .int .i64 k ∧ v12 = .int .i64 (sizeP m x k : Nat) ∧ Aside (Below wq.heap.size wq wr2)) (fun _ v13 _ => n - (intOf v13).toNat)
            case atStart => exact ⟨0, by omega, rfl, rfl, HB3.out⟩
            case round =>
              clear HB3
              obtain ⟨k, hk2, rfl, rfl, HB⟩ := hrel
              by_cases hlt : k < n
              · have hlti2 : (k : Int) < n := by omega
                have hokk : okN (k : Int) = true := okN_nat (by omega)
                have HOKK := Lib.hid hokk
                have HSS := Lib.hid (sizeP_succ m x k)
                have hS := HSL.out k (by omega)
                have hl1 := (numS_len hokk).2
                have hl2 := (numS_len HX.out).2
                have hBE := Lib.hid HB.out
                clear hokk HB
                generalize sizeP m x k = S at *
                have hS2 : S ≤ 8000000 := by omega
                go_wp2_with fail
                refine (HTX.out _ _ HOKK.out).mono ?_
                rintro e w5 ⟨s1, rfl, hs1, hb5⟩
                have HS1 := Lib.hid hs1
                have hs1b : s1.size ≤ 15 := by omega
                have HB5 := Lib.hid (link hBE.out hb5)
                clear hs1 hb5
                go_wp2_with fail
                refine (HTX.out _ _ HX.out).mono ?_
                rintro e w6 ⟨s2, rfl, hs2, hb6⟩
                have HS2 := Lib.hid hs2
                have hs2a : 5 ≤ s2.size := by omega
                have hs2b : s2.size ≤ 15 := by omega
                have HB6 := Lib.hid (link HB5.out hb6)
                obtain ⟨P, hP⟩ : ∃ P, P = (s2.size - 4) * m := ⟨_, rfl⟩
                have hPb : P ≤ 3300 := by
                  rw [hP]
                  exact Nat.le_trans (Nat.mul_le_mul (show s2.size - 4 ≤ 11 by omega) hm) (by decide)
                have hPe : ((s2.size : Int) - 4) * (m : Int) = (P : Int) := by
                  rw [hP, Int.natCast_mul, Int.ofNat_sub (by omega)]; rfl
                have HPE := Lib.hid hP
                have hmul : wrap64 (((s2.size : Int) - 4) * (m : Int)) = (P : Int) := by rw [hPe]; unfold wrap64; omega
                have HF : Hid (sizeP m x (k + 1) = S + s1.size + 4 + P) := Lib.hid (by rw [HSS.out, HS1.out, HPE.out, HS2.out])
                clear hs2 hb6 hP HPE
                go_wp2
                go_roundw
                case rel => exact ⟨k + 1, by omega, by go_num, by rw [HF.out]; go_num, HB6.out⟩
                case measure => simp [intOf]; omega
              · have hlti2 : ¬ (k : Int) < n := by omega
                have hkn2 : k = n := by omega
                subst hkn2
                have hb7 := HB.out
                have HB7 := Lib.hid (HBE.out.trans (hb7.mono HBE.out.size))
                have hz7 := (HBX.out.below hb7 HBX.out.lt).cell 0
                simp only [List.getElem?_cons_zero] at hz7
                have HSC := Lib.hid (HSZ.out wr (Kd.C_below HC0.out hb7))
                have hSb := HSL.out k hn
                clear hb7 HB hlt hk2
                by_cases hsz : 262144 < sizeP m x k
                · rw [if_pos hsz] at HCV
                  have hszi : (262144 : Int) < (sizeP m x k : Nat) := by omega
                  have hc3 := HCV.out
                  subst hc3
                  clear HCV hsz HEN HCP
                  generalize sizeP m x k = S at *
                  go_wp2_with fail
                  refine (works _).mono ?_
                  rintro e w8 ⟨rfl, hb8⟩
                  go_wp2
                  go_ret
                  exact ⟨rfl, link HB7.out hb8⟩
                · rw [if_neg hsz] at HCV
                  have hszi : ¬ (262144 : Int) < (sizeP m x k : Nat) := by omega
                  have hc3 := HCV.out
                  have hen := HEN.out hc3
                  rw [hen] at HSC
                  subst hc3
                  clear HCV hsz HEN HCP hen
                  generalize sizeP m x k = S at *
                  go_wp2_with fail
                  refine HSC.out.mono ?_
                  rintro e w8 ⟨rfl, hb8⟩
                  have hb9 := link HB7.out hb8
                  clear hb8
                  go_wp2_with fail
                  refine (works _).mono ?_
                  rintro e w9 ⟨rfl, hb10⟩
                  go_wp2
                  go_ret
                  exact ⟨rfl, link hb9 hb10⟩

set_option maxHeartbeats 1000000 in
set_option maxRecDepth 100000 in
theorem walk_EncodeMost (w : World) (n : Int) (hn : (Lit.int .u16 n).wf = true) (m : Int) (hm : (Lit.int .u16 m).wf = true) (x : Int) (_hx : (Lit.int .i64 x).wf = true) :
    Calls Try.prog 4 #[.int .u16 n, .int .u16 m, .int .i64 x] w fun e w' => e = .returned (.bool true) ∧ Below w.heap.size w w' := by
  have hn2 : 0 ≤ n ∧ n ≤ 65535 := u16_wf hn
  have hm2 : 0 ≤ m ∧ m ≤ 65535 := u16_wf hm
  obtain ⟨n, rfl⟩ := Int.eq_ofNat_of_zero_le hn2.1
  obtain ⟨m, rfl⟩ := Int.eq_ofNat_of_zero_le hm2.1
  clear hn hm _hx
  by_cases h : n ≤ 2000 ∧ m ≤ 300 ∧ okN x = true
  · exact most_main w n m x h.1 h.2.1 h.2.2
  · have hb : (2000 : Int) < n ∨ (¬ (2000 : Int) < n ∧ (300 : Int) < m) ∨ (¬ (2000 : Int) < n ∧ ¬ (300 : Int) < m ∧ x < 0) ∨ (¬ (2000 : Int) < n ∧ ¬ (300 : Int) < m ∧ ¬ x < 0 ∧ (2147483647 : Int) < x) := by
      have hq : ¬ (n ≤ 2000 ∧ m ≤ 300 ∧ (0 ≤ x ∧ x ≤ 2147483647)) := by rw [okN_iff] at h; exact h
      omega
    clear h
    rcases hb with h1 | ⟨h1, h2⟩ | ⟨h1, h2, h3⟩ | ⟨h1, h2, h3, h4⟩
    all_goals
      go_enter Try.func4, Try.ntmps4
      go_wp2_with fail
      refine (works _).mono ?_
      rintro e w9 ⟨rfl, hb10⟩
      go_wp2
      go_ret
      exact ⟨rfl, hb10⟩
end Go.Proofs.Ytlcioegdmopppaa
