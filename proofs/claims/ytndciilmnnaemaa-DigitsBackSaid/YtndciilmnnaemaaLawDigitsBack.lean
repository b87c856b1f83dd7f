/- The walk of the law DigitsBack. -/
import Derived.Test.YtndciilmnnaemaaLawDigitsWrong
set_option linter.unusedVariables false
set_option linter.unusedSimpArgs false
namespace Go.Proofs.Ytndciilmnnaemaa
open Go.RowKit Go.Proofs.YtndciilmnnaemaaW.PrintWords

theorem bytesOf_str (l : List Int) (h : ∀ x ∈ l, 0 ≤ x ∧ x ≤ 255) : bytesOf (strOfNums l) = l := by
  unfold bytesOf strOfNums
  simp only [List.map_map]
  conv => rhs; rw [← List.map_id l]
  refine List.map_congr_left fun x hx => ?_
  have := h x hx
  simp only [Function.comp, id, UInt8.toNat_ofNat']
  omega

section
variable {ops : Array Oper} {rest : List Oper} {o : Oper} {a : Act} {Q : Exit → Act → World → Prop}
/-- append(b, x...) of bytes. -/
theorem app_bytes {w0 W : World} (base : Nat) (s x : Operand) (hgd : o.guard = none)
    (ho : o.op = .call { callee := .builtin .append, args := #[s, x], argTypes := #[22, 22] })
    (v : Value) (xs ys : List Int) (A : Option Addr) (m c : Nat) (hs : a.eval s = v) (hx : a.eval x = .slice A m c)
    (HO : W.ownsRow base 5 1 v xs.length (nums .u8 xs)) (HR : ReadsInt W .u8 A m ys) (HB : Below base w0 W) (hbase : base ≤ W.heap.size) (hl : (xs.length + m) * 1 ≤ 140737488355328)
    (h : ∀ v1 w1, w1.ownsRow base 5 1 v1 (xs ++ ys).length (nums .u8 (xs ++ ys)) → Below base w0 w1 → W.grownBy w1 v.ownBlock → (v1.ownBlock = v.ownBlock ∨ ∃ b, v1.ownBlock = some b ∧ W.heap.size ≤ b) → wpList Try.prog ops Q rest (a.put o.dst v1) w1) :
    wpList Try.prog ops Q (o :: rest) a W :=
  print_append_row base hgd s x 22 5 .u8 1 ho Try.underlying22 (by kernel_rfl) (by decide) v xs ys A m c hs hx HO HR HB hbase hl h
theorem app_str {w0 W : World} (base : Nat) (s x : Operand) (hgd : o.guard = none)
    (ho : o.op = .call { callee := .builtin .append, args := #[s, x], argTypes := #[22, 9] })
    (v : Value) (xs : List Int) (y : ByteArray) (hs : a.eval s = v) (hx : a.eval x = .string y)
    (HO : W.ownsRow base 5 1 v xs.length (nums .u8 xs)) (HB : Below base w0 W) (hbase : base ≤ W.heap.size) (hl : xs.length + y.size ≤ 140737488355328)
    (h : ∀ v1 w1, w1.ownsRow base 5 1 v1 (xs ++ bytesOf y).length (nums .u8 (xs ++ bytesOf y)) → Below base w0 w1 → W.grownBy w1 v.ownBlock → wpList Try.prog ops Q rest (a.put o.dst v1) w1) :
    wpList Try.prog ops Q (o :: rest) a W :=
  print_append_str base hgd s x 22 9 5 ho Try.underlying22 Try.underlying9 (by kernel_rfl) v xs y hs hx HO HB hbase hl h
end

theorem own_empty (W : World) (base : Nat) (hb : base ≤ W.heap.size) : (W.alloc (.cells #[] 5)).ownsRow base 5 1 (.slice (some ⟨W.heap.size, 0, none⟩) 0 0) ([] : List Int).length (nums .u8 []) :=
  World.ownsRow_made W #[] 0 hb (by decide) rfl

/-- What has been gathered behind k numbers. -/
def gath (l0 l2 : List Int) (k : Nat) : List Int := l0 ++ texts (l2.take k)
theorem gath_zero (l0 l2 : List Int) : gath l0 l2 0 = l0 := by simp [gath, texts]

theorem own_below {w w1 : World} {base : Nat} {e : TypeId} {size n : Nat} {v : Value} {xs : List Value} (h : w.ownsRow base e size v n xs) (hb : Below w.heap.size w w1) : w1.ownsRow base e size v n xs :=
  own_move h fun k hk => hb.block k (own_lt h k hk)

theorem own_slice {w : World} {base : Nat} {e : TypeId} {v : Value} {xs : List Int} {k : IntKind} (h : w.ownsRow base e 1 v xs.length (nums k xs)) :
    ∃ A c, v = .slice A xs.length c ∧ xs.length ≤ c ∧ Kd.C (Kd.int k) w A xs.length xs := by
  obtain ⟨A, c, he, hr⟩ := own_reads h
  refine ⟨A, c, he, ?_, Kd.C_of_reads (d := (0 : Int)) (h1 := fun _ => rfl) hr⟩
  rcases h.2 with ⟨h1, h2⟩ | ⟨g, cap, cur, h1, _, _, h2, _⟩
  · rw [h1] at he; injection he with _ _ h3; omega
  · rw [h1] at he; injection he with _ _ h3; omega

set_option maxRecDepth 100000 in
set_option maxHeartbeats 2000000 in
theorem back_main (w : World) (A0 : Option Addr) (c0 : Nat) (l0 : List Int) (A1 : Option Addr) (c1 : Nat) (l1 : List Int) (A2 : Option Addr) (c2 : Nat) (l2 : List Int) (WK : WorksWell)
    (h0 : (l0.length : Int) ≤ 300) (h1 : (l1.length : Int) ≤ 300) (h2 : (l2.length : Int) ≤ 60) (hr0 : Hid (ReadsInt w .u8 A0 l0.length l0)) (hr1 : Hid (ReadsInt w .u8 A1 l1.length l1)) (hr2 : Hid (Kd.C (Kd.int .i64) w A2 l2.length l2))
    (hc2 : l2.length ≤ c2) (hb0 : Hid (Bytes l0)) (hb1 : Hid (Bytes l1)) (hs : Hid (Stops l1)) (hs32 : Hid (l1.getD 0 0 ≠ 32))
    (hcase : ((l1.length : Int) ≤ 0) ∨ (0 < (l1.length : Int) ∧ ∃ ad x, A1 = some ad ∧ w.cell? ad = some (.int .u8 x) ∧ ¬ (48 ≤ x ∧ x ≤ 57) ∧ (x == 32) = false)) :
    Calls Try.prog 6 #[.slice A0 l0.length c0, .slice A1 l1.length c1, .slice A2 l2.length c2] w fun e w' => e = .returned (.bool true) ∧ Below w.heap.size w w' := by
  have HC := Lib.hid hcase; clear hcase
  go_enter Try.func6, Try.ntmps6
  go_upto_region 1 with (fail)
  go_cut [47] (fun v47 wc => v47 = .bool false ∧ Below w.heap.size w wc)
  case first =>
    rcases HC.out with hz | ⟨hz, ad, x, rfl, hx, hd, h32⟩
    · clear HC
      go_wp2
      go_meet
      case rel => exact ⟨by simp; omega, Below.refl _ _⟩
    · clear HC
      have hd' := Lib.hid hd; clear hd
      go_wp2_with fail
      refine (digit_calls _ _).mono ?_
      rintro e w1 ⟨rfl, hd1⟩
      rw [decide_eq_false hd'.out]
      replace hd1 := hd1.below
      have hx1 := pw_cell_below hd1 hx
      go_wp2
      go_meet
      case rel => exact ⟨by simp; omega, hd1⟩
  case rest =>
    obtain ⟨rfl, hbc⟩ := hcut
    have hr0' := ReadsInt.below hr0.out hbc
    have hr1' := Lib.hid (ReadsInt.below hr1.out hbc)
    have hr2' := Lib.hid (Kd.C_below hr2.out hbc)
    have hsz := hbc.size
    go_wp2_with (at_builtin; refine app_bytes (w0 := w) w.heap.size _ _ rfl rfl _ [] l0 A0 l0.length c0 rfl rfl (own_empty wc _ hsz) (hr0'.allocS _) (hbc.alloc hsz _) (by simp; omega) (by simp; omega) ?_; intro v1 w1 ho1 hb1 hg1 ha1; clear hg1 ha1)
    rw [List.nil_append] at ho1
    clear hr0' hr1' hr2' hbc hsz
    go_loopw [7, 8] (fun v7 v8 wr => ∃ k : Nat, k ≤ l2.length ∧ v8 = .int .i64 k ∧ (∀ x ∈ l2.take k, 0 ≤ x ∧ x ≤ 2147483647) ∧ wr.ownsRow w.heap.size 5 1 v7 (gath l0 l2 k).length (nums .u8 (gath l0 l2 k)) ∧ Below w.heap.size w wr)
      (fun _ v8 _ => l2.length - (intOf v8).toNat)
    case atStart => exact ⟨0, by omega, rfl, by simp, by rw [gath_zero]; exact ho1, hb1⟩
    case round =>
      obtain ⟨k, hk, rfl, hv, ho, hb⟩ := hrel
      clear ho1 hb1
      have Hv := Lib.hid hv; clear hv
      by_cases hlt : k < l2.length
      · obtain ⟨ad, rfl, hx⟩ := Kd.at_int (Kd.C_below hr2.out hb) k (by omega) (by omega)
        rw [Int.toNat_natCast] at hx
        generalize hxx : rd l2 k = x at *
        have Hxx := Lib.hid hxx; clear hxx
        by_cases hval : 0 ≤ x ∧ x ≤ 2147483647
        · obtain ⟨m, rfl⟩ := Int.eq_ofNat_of_zero_le hval.1
          have hm : m ≤ 2147483647 := by omega
          clear hval
          go_wp2_with fail
          refine (print_yes m hm _).mono ?_
          rintro e w2 ⟨rfl, hd2⟩
          replace ho := own_below ho hd2
          replace hb := hb.trans (hd2.mono hb.size)
          replace hx := pw_cell_below hd2 hx
          clear hd2
          have hsz : (strOfNums (low (wd m) m)).size = wd m := by rw [str_size, low_length]
          have hbs := Lib.hid (bytesOf_str (low (wd m) m) (low_bytes _ _))
          have hw10 := wd_le hm
          generalize strOfNums (low (wd m) m) = s at *
          have Hsz := Lib.hid hsz
          have hs10 : s.size ≤ 10 := by omega
          clear hsz
          have hr0' := ReadsInt.below hr0.out hb
          have hr1' := ReadsInt.below hr1.out hb
          go_wp2_with (first | (at_builtin; refine app_bytes (w0 := w2) w2.heap.size (.tmp 84) (.tmp 85) rfl rfl _ [] l0 A0 l0.length c0 rfl rfl (own_empty w2 _ (Nat.le_refl _)) (hr0'.allocS _) ((Below.refl _ _).alloc (Nat.le_refl _) _) (by simp) (by simp; omega) ?_; intro v1 w3 ho1 hb3 hg1 ha1; clear hg1 ha1) | (at_builtin; refine app_str (w0 := w2) w2.heap.size (.tmp 86) (.tmp 87) rfl rfl _ ([] ++ l0) s rfl rfl ho1 hb3 hb3.size (by simp; omega) ?_; intro v2 w4 ho2 hb4 hg2; clear hg2) | (at_builtin; refine app_bytes (w0 := w2) w2.heap.size (.tmp 88) (.tmp 89) rfl rfl _ ([] ++ l0 ++ bytesOf s) l1 A1 l1.length c1 rfl rfl ho2 (ReadsInt.below hr1' hb4) hb4 hb4.size (by simp [bytesOf_length]; omega) ?_; intro v3 w5 ho3 hb5 hg3 ha3; clear hg3 ha3))
          clear ho1 ho2 hb3 hb4 hr0' hr1'
          rw [List.nil_append, hbs.out] at ho3
          obtain ⟨A3, c3, he3, hc3, hC3⟩ := own_slice ho3
          rw [he3]
          clear ho3 he3
          replace ho := own_below ho hb5
          have hpb := parse_back l0 l1 m hm hs.out
          have hbT : Bytes (l0 ++ low (wd m) m ++ l1) := by
            intro x hx
            rcases List.mem_append.1 hx with hx | hx
            · rcases List.mem_append.1 hx with hx | hx
              · exact hb0.out x hx
              · exact low_bytes _ _ x hx
            · exact hb1.out x hx
          have hlT : ((l0 ++ low (wd m) m ++ l1).length : Int) ≤ 140737488351232 := by simp only [List.length_append, low_length]; omega
          have hpc := parse_calls (l0 ++ low (wd m) m ++ l1) l0.length A3 c3 w5 hC3 hc3 hbT hlT
          rw [← Hsz.out] at hpb
          have hpb2 : parse (l0 ++ low (wd m) m ++ l1) l0.length = ((m : Int), (l0.length : Int) + s.size, true) := by rw [← Hsz.out]; exact hpb
          rw [hpb2] at hpc
          clear hpb2 hpb hbT hlT hC3 hc3
          (with_reducible refine hpc.mono ?_)
          clear hpc
          rintro e w6 ⟨rfl, hd6⟩
          replace hb5 := hb5.trans (hd6.below.mono hb5.size)
          replace ho := own_below ho hd6.below
          clear hd6
          replace hb := hb.trans (hb5.mono hb.size)
          replace hx := pw_cell_below hb5 hx
          clear hb5
          have hg10 : (gath l0 l2 k).length ≤ 300 + 11 * 60 := by
            have := texts_len _ Hv.out
            simp only [gath, List.length_append]
            have h3 : (l2.take k).length ≤ 60 := by rw [List.length_take]; omega
            omega
          have hend : gath l0 l2 (k + 1) = gath l0 l2 k ++ [32] ++ bytesOf s := by
            have hk2 : l2[k]? = some (m : Int) := by
              have := Hxx.out
              unfold rd at this
              rw [Int.toNat_natCast, List.getD_eq_getElem?_getD, List.getElem?_eq_getElem hlt] at this
              rw [List.getElem?_eq_getElem hlt]; exact congrArg some this
            rw [hbs.out]
            unfold gath
            rw [List.take_add_one, hk2, texts_append]
            simp [texts]
          have hv1 : ∀ x ∈ l2.take (k + 1), 0 ≤ x ∧ x ≤ 2147483647 := by
            have hk2 : l2[k]? = some (m : Int) := by
              have := Hxx.out
              unfold rd at this
              rw [Int.toNat_natCast, List.getD_eq_getElem?_getD, List.getElem?_eq_getElem hlt] at this
              rw [List.getElem?_eq_getElem hlt]; exact congrArg some this
            intro x hx
            rw [List.take_add_one, hk2] at hx
            rcases List.mem_append.1 hx with hx | hx
            · exact Hv.out x hx
            · simp at hx; omega
          have Hend := Lib.hid hend
          have Hv1 := Lib.hid hv1
          clear hend hv1
          generalize gath l0 l2 k = g at *
          have hsz := hb.size
          go_wp2_with (first | (at_builtin; refine print_append_num (w0 := w) w.heap.size rfl (.tmp 116) (.tmp 117) 22 5 .u8 1 rfl Try.underlying22 (by kernel_rfl) (by decide) _ g 32 rfl rfl ho hb hsz (by omega) ?_; intro v1 w3 ho1 hb3 hg1 ha1; clear hg1 ha1) | (at_builtin; refine app_str (w0 := w) w.heap.size (.tmp 118) (.tmp 119) rfl rfl _ (g ++ [32]) s rfl rfl ho1 hb3 hb3.size (by simp; omega) ?_; intro v2 w4 ho2 hb4 hg2; clear hg2))
          go_roundw
          case rel => exact ⟨k + 1, by omega, by go_num, Hv1.out, by rw [Hend.out]; exact ho2, hb4⟩
          case measure => simp [intOf]; omega
        · have hval' : x < 0 ∨ 2147483647 < x := by omega
          have Hval := Lib.hid hval
          clear hval
          go_wp2_with fail
          refine (print_no x hval' _).mono ?_
          rintro e w2 ⟨rfl, hd2⟩
          replace hb := hb.trans (hd2.mono hb.size)
          replace hx := pw_cell_below hd2 hx
          clear hd2 ho
          rcases hval' with hv1 | hv1
          · go_wp2_with fail
            refine (WK _).mono ?_
            rintro e w3 ⟨rfl, hd3⟩
            replace hb := hb.trans (hd3.mono hb.size); clear hd3
            go_wp2
            go_ret
            exact ⟨rfl, hb⟩
          · have hv2 : ¬ x < 0 := by omega
            go_wp2_with fail
            refine (WK _).mono ?_
            rintro e w3 ⟨rfl, hd3⟩
            replace hb := hb.trans (hd3.mono hb.size); clear hd3
            go_wp2
            go_ret
            exact ⟨rfl, hb⟩
      · have hkk : k = l2.length := by omega
        subst hkk
        have hv := Hv.out
        rw [List.take_length] at hv
        have hg : gath l0 l2 l2.length = l0 ++ texts l2 := by unfold gath; rw [List.take_length]
        have hg10 : (gath l0 l2 l2.length).length ≤ 300 + 11 * 60 := by
          have := texts_len _ hv
          rw [hg, List.length_append]
          omega
        have Hg := Lib.hid hg
        have HV := Lib.hid hv
        clear hg hv Hv hlt hk
        generalize gath l0 l2 l2.length = g at *
        obtain ⟨A7, c7, he7, hc7, hC7⟩ := own_slice ho
        rw [he7] at ho ⊢
        clear he7 hC7 hc7
        have hr1' := ReadsInt.below hr1.out hb
        have hsz := hb.size
        go_wp2_with (at_builtin; refine app_bytes (w0 := w) w.heap.size (.tmp 124) (.tmp 125) rfl rfl _ g l1 A1 l1.length c1 rfl rfl ho hr1' hb hsz (by omega) ?_; intro v3 w5 ho3 hb5 hg3 ha3; clear hg3 ha3)
        clear hr1' hsz ho hb
        obtain ⟨A3, c3, he3, hc3, hC3⟩ := own_slice ho3
        rw [he3]
        clear ho3 he3
        have hlb := list_back l0 l1 l2 hs.out hs32.out HV.out
        have hbT : Bytes (g ++ l1) := by
          rw [Hg.out]
          intro x hx
          rcases List.mem_append.1 hx with hx | hx
          · rcases List.mem_append.1 hx with hx | hx
            · exact hb0.out x hx
            · exact texts_bytes _ x hx
          · exact hb1.out x hx
        have hlT : ((g ++ l1).length : Int) ≤ 17592186044416 := by simp only [List.length_append]; omega
        have hlc := list_calls (g ++ l1) l0.length A3 c3 w5 hC3 hc3 hbT hlT
        rw [← Hg.out] at hlb
        rw [hlb] at hlc
        have hge : (l0.length : Int) + (texts l2).length = (g.length : Int) := by rw [Hg.out]; simp
        rw [hge] at hlc
        clear hge hlb hbT hlT hC3 hc3
        (with_reducible refine hlc.mono ?_)
        clear hlc
        rintro e w6 ⟨A4, c4, rfl, hc4, hC4, hd6⟩
        dsimp only at hc4 hC4 ⊢
        replace hb5 := hb5.trans (hd6.mono hb5.size)
        clear hd6
        go_wp2_with fail
        refine (same_calls l2 l2 A4 c4 A2 c2 _ hC4 hc4 (Kd.C_below hr2.out hb5) hc2 (by omega)).mono ?_
        rintro e w7 ⟨rfl, hd7⟩
        rw [decide_eq_true rfl]
        replace hb5 := hb5.trans (hd7.below.mono hb5.size)
        clear hd7
        go_wp2_with fail
        refine (WK _).mono ?_
        rintro e w8 ⟨rfl, hd8⟩
        replace hb5 := hb5.trans (hd8.mono hb5.size)
        go_wp2
        go_ret
        exact ⟨rfl, hb5⟩

/-- Nothing is asked, there: too much of something. -/
theorem back_big (w : World) (A0 : Option Addr) (c0 : Nat) (l0 : List Int) (A1 : Option Addr) (c1 : Nat) (l1 : List Int) (A2 : Option Addr) (c2 : Nat) (l2 : List Int) (WK : WorksWell)
    (h : ¬ (l0.length : Int) ≤ 300 ∨ ¬ (l1.length : Int) ≤ 300 ∨ ¬ (l2.length : Int) ≤ 60) :
    Calls Try.prog 6 #[.slice A0 l0.length c0, .slice A1 l1.length c1, .slice A2 l2.length c2] w fun e w' => e = .returned (.bool true) ∧ Below w.heap.size w w' := by
  by_cases h0 : (l0.length : Int) ≤ 300
  · by_cases h1 : (l1.length : Int) ≤ 300
    · have h2 : ¬ (l2.length : Int) ≤ 60 := by omega
      clear h
      go_enter Try.func6, Try.ntmps6
      go_wp2_with fail
      refine (WK _).mono ?_
      rintro e w3 ⟨rfl, hd⟩
      go_wp2
      go_ret
      exact ⟨rfl, hd⟩
    · clear h
      go_enter Try.func6, Try.ntmps6
      go_wp2_with fail
      refine (WK _).mono ?_
      rintro e w3 ⟨rfl, hd⟩
      go_wp2
      go_ret
      exact ⟨rfl, hd⟩
  · clear h
    go_enter Try.func6, Try.ntmps6
    go_wp2_with fail
    refine (WK _).mono ?_
    rintro e w3 ⟨rfl, hd⟩
    go_wp2
    go_ret
    exact ⟨rfl, hd⟩
/-- Nor here: a digit, or a blank, stands at the head of what is behind. -/
theorem back_head (w : World) (A0 : Option Addr) (c0 : Nat) (l0 : List Int) (ad : Addr) (c1 : Nat) (l1 : List Int) (A2 : Option Addr) (c2 : Nat) (l2 : List Int) (WK : WorksWell) (x : Int)
    (h0 : (l0.length : Int) ≤ 300) (h1 : (l1.length : Int) ≤ 300) (h2 : (l2.length : Int) ≤ 60) (hl : 0 < (l1.length : Int)) (hx : w.cell? ad = some (.int .u8 x)) (h : (48 ≤ x ∧ x ≤ 57) ∨ (x == 32) = true) :
    Calls Try.prog 6 #[.slice A0 l0.length c0, .slice (some ad) l1.length c1, .slice A2 l2.length c2] w fun e w' => e = .returned (.bool true) ∧ Below w.heap.size w w' := by
  by_cases hd : 48 ≤ x ∧ x ≤ 57
  · clear h
    have HD := Lib.hid hd; clear hd
    go_enter Try.func6, Try.ntmps6
    go_wp2_with fail
    refine (digit_calls _ _).mono ?_
    rintro e w1 ⟨rfl, hd1⟩
    rw [decide_eq_true HD.out]
    replace hd1 := hd1.below
    go_wp2_with fail
    refine (WK _).mono ?_
    rintro e w3 ⟨rfl, hd⟩
    replace hd1 := hd1.trans (hd.mono hd1.size); clear hd
    go_wp2
    go_ret
    exact ⟨rfl, hd1⟩
  · have h32 : (x == 32) = true := by rcases h with h | h; · exact absurd h hd
                                      · exact h
    clear h
    have HD := Lib.hid hd; clear hd
    go_enter Try.func6, Try.ntmps6
    go_wp2_with fail
    refine (digit_calls _ _).mono ?_
    rintro e w1 ⟨rfl, hd1⟩
    rw [decide_eq_false HD.out]
    replace hd1 := hd1.below
    have hx1 := pw_cell_below hd1 hx
    go_wp2_with fail
    refine (WK _).mono ?_
    rintro e w3 ⟨rfl, hd⟩
    replace hd1 := hd1.trans (hd.mono hd1.size); clear hd
    go_wp2
    go_ret
    exact ⟨rfl, hd1⟩

theorem walk_DigitsBack (w : World) (A0 : Option Addr) (c0 : Nat) (l0 : List Int) (hr0 : Kd.C (Kd.int .u8) w A0 l0.length l0) (hc0 : l0.length ≤ c0) (hb0 : ∀ x ∈ l0, (Lit.int .u8 x).wf = true) (hs0 : l0.length * 1 ≤ 140737488351232)
    (A1 : Option Addr) (c1 : Nat) (l1 : List Int) (hr1 : Kd.C (Kd.int .u8) w A1 l1.length l1) (hc1 : l1.length ≤ c1) (hb1 : ∀ x ∈ l1, (Lit.int .u8 x).wf = true) (hs1 : l1.length * 1 ≤ 140737488351232)
    (A2 : Option Addr) (c2 : Nat) (l2 : List Int) (hr2 : Kd.C (Kd.int .i64) w A2 l2.length l2) (hc2 : l2.length ≤ c2) (hb2 : ∀ x ∈ l2, (Lit.int .i64 x).wf = true) (hs2 : l2.length * 8 ≤ 140737488351232) :
    Calls Try.prog 6 #[.slice A0 l0.length c0, .slice A1 l1.length c1, .slice A2 l2.length c2] w fun e w' => e = .returned (.bool true) ∧ Below w.heap.size w w' := by
  by_cases hbig : ¬ (l0.length : Int) ≤ 300 ∨ ¬ (l1.length : Int) ≤ 300 ∨ ¬ (l2.length : Int) ≤ 60
  · exact back_big w A0 c0 l0 A1 c1 l1 A2 c2 l2 works_well hbig
  · have h0 : (l0.length : Int) ≤ 300 := by omega
    have h1 : (l1.length : Int) ≤ 300 := by omega
    have h2 : (l2.length : Int) ≤ 60 := by omega
    have R0 : ReadsInt w .u8 A0 l0.length l0 := Kd.reads_of_C (enc := Value.int .u8) (d := (0 : Int)) (h1 := fun _ => rfl) hr0
    have R1 : ReadsInt w .u8 A1 l1.length l1 := Kd.reads_of_C (enc := Value.int .u8) (d := (0 : Int)) (h1 := fun _ => rfl) hr1
    by_cases hl : (l1.length : Int) ≤ 0
    · have e : l1 = [] := List.length_eq_zero_iff.1 (by omega)
      exact back_main w A0 c0 l0 A1 c1 l1 A2 c2 l2 works_well h0 h1 h2 R0 R1 hr2 hc2 (bytes_of_wf hb0) (bytes_of_wf hb1) (.inl e) (show l1.getD 0 0 ≠ 32 by rw [e]; simp) (.inl hl)
    · obtain ⟨ad, rfl, hx⟩ := Kd.at_int hr1 0 (by omega) (by omega)
      have hx' : w.cell? ad = some (.int .u8 (l1.getD 0 0)) := by
        have e : ad.add (0 : Int).toNat = ad := by unfold Addr.add; simp
        rw [e] at hx; exact hx
      by_cases hh : (48 ≤ l1.getD 0 0 ∧ l1.getD 0 0 ≤ 57) ∨ (l1.getD 0 0 == 32) = true
      · exact back_head w A0 c0 l0 ad c1 l1 A2 c2 l2 works_well _ h0 h1 h2 (by omega) hx' hh
      · have hd : ¬ (48 ≤ l1.getD 0 0 ∧ l1.getD 0 0 ≤ 57) := fun h => hh (.inl h)
        have h32 : (l1.getD 0 0 == 32) = false := by
          cases h : (l1.getD 0 0 == 32)
          · rfl
          · exact absurd (.inr h) hh
        exact back_main w A0 c0 l0 (some ad) c1 l1 A2 c2 l2 works_well h0 h1 h2 R0 R1 hr2 hc2 (bytes_of_wf hb0) (bytes_of_wf hb1) (.inr hd) (beq_eq_false_iff_ne.1 h32) (.inr ⟨by omega, ad, _, rfl, hx', hd, h32⟩)
end Go.Proofs.Ytndciilmnnaemaa
