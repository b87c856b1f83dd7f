/- The walk of the law HistoryLines. -/
import Derived.Test.YtlcioegdmopppaaHsQ
set_option linter.unusedSimpArgs false
namespace Go.Proofs.Ytlcioegdmopppaa
open Go.RowKit Go.Proofs.Ytlcioegdmopppaa.PEncodeBack Go.Proofs.YtlcioegdmopppaaW.PrintWords Go.Proofs.YtlcioegdmopppaaW.PrintLast Hs
set_option linter.unusedVariables false

theorem bytes_of_wf {l : List Int} (h : ∀ x ∈ l, (Lit.int .u8 x).wf = true) : Bytes l := fun x hx => by
  have h1 := h x hx
  simp only [Lit.wf, decide_eq_true_eq, Bool.and_eq_true] at h1
  have h2 : IntKind.u8.min = 0 := rfl
  have h3 : IntKind.u8.max = 255 := rfl
  rw [h2, h3] at h1
  exact h1
theorem bytes_app {l m : List Int} (h : Bytes l) (h' : Bytes m) : Bytes (l ++ m) := fun x hx => by
  rcases List.mem_append.1 hx with hx | hx
  · exact h x hx
  · exact h' x hx
theorem bytes_take {l : List Int} (h : Bytes l) (n : Nat) : Bytes (l.take n) := fun x hx => h x (List.mem_of_mem_take hx)
section
variable {ops : Array Oper} {rest : List Oper} {o : Oper} {a : Act} {Q : Exit → Act → World → Prop}
/-- append(b, x...) of bytes. -/
theorem app_bytes {w0 W : World} (base : Nat) (s x : Operand) (hgd : o.guard = none)
    (ho : o.op = .call { callee := .builtin .append, args := #[s, x], argTypes := #[27, 27] })
    (v : Value) (xs ys : List Int) (A : Option Addr) (m c : Nat) (hs : a.eval s = v) (hx : a.eval x = .slice A m c)
    (HO : W.ownsRow base 5 1 v xs.length (nums .u8 xs)) (HR : ReadsInt W .u8 A m ys) (HB : Below base w0 W) (hbase : base ≤ W.heap.size) (hl : (xs.length + m) * 1 ≤ 140737488355328)
    (h : ∀ v1 w1, w1.ownsRow base 5 1 v1 (xs ++ ys).length (nums .u8 (xs ++ ys)) → Below base w0 w1 → W.grownBy w1 v.ownBlock → (v1.ownBlock = v.ownBlock ∨ ∃ b, v1.ownBlock = some b ∧ W.heap.size ≤ b) → wpList Try.prog ops Q rest (a.put o.dst v1) w1) :
    wpList Try.prog ops Q (o :: rest) a W :=
  print_append_row base hgd s x 27 5 .u8 1 ho Try.underlying27 (by kernel_rfl) (by decide) v xs ys A m c hs hx HO HR HB hbase hl h
end
theorem own_empty (W : World) (base : Nat) (hb : base ≤ W.heap.size) : (W.alloc (.cells #[] 5)).ownsRow base 5 1 (.slice (some ⟨W.heap.size, 0, none⟩) 0 0) ([] : List Int).length (nums .u8 []) :=
  World.ownsRow_made W #[] 0 hb (by decide) rfl
theorem own_slice {w : World} {base : Nat} {e : TypeId} {v : Value} {xs : List Int} {k : IntKind} (h : w.ownsRow base e 1 v xs.length (nums k xs)) :
    ∃ A c, v = .slice A xs.length c ∧ xs.length ≤ c ∧ Kd.C (Kd.int k) w A xs.length xs := by
  obtain ⟨A, c, he, hr⟩ := own_reads h
  refine ⟨A, c, he, ?_, Kd.C_of_reads (d := (0 : Int)) (h1 := fun _ => rfl) hr⟩
  rcases h.2 with ⟨h1, h2⟩ | ⟨g, cap, cur, h1, _, _, h2, _⟩
  · rw [h1] at he; injection he with _ _ h3; omega
  · rw [h1] at he; injection he with _ _ h3; omega
/-- Decode, as a law uses it. -/
theorem dec_use (w : World) (A : Option Addr) (l : List Int) (c : Nat) (most : Int) (hC : Kd.C (Kd.int .u8) w A l.length l) (hc : l.length ≤ c) (hb : Bytes l) {h : List S42} {e x : Int} (hd : decP l most = (h, e, x)) :
    Calls Try.prog 20 #[.slice A l.length c, .int .i64 most] w fun r w' => ∃ B d, r = .returned (.tuple #[.agg #[.slice B h.length d], .int .i64 e, .int .i64 x]) ∧ h.length ≤ d ∧ Kd.C k42 w' B h.length h ∧ Below w.heap.size w w' := by
  refine (decode_c w A l c most hC hc hb).mono ?_
  rintro r w' ⟨v, h1, h2, h3⟩
  rw [hd] at h1 h2
  obtain ⟨B, d, rfl, hd, hr⟩ := Kd.S_reads h2
  exact ⟨B, d, h1, hd, hr, h3⟩
section
variable (w : World) (A : Option Addr) (c : Nat) (l : List Int) (A1 : Option Addr) (c1 : Nat) (m : List Int) (n : Int)
set_option maxHeartbeats 1000000 in
theorem lines_long (hl : 600 < l.length ∨ 600 < m.length) : Calls Try.prog 7 #[.slice A l.length c, .slice A1 m.length c1, .int .u16 n] w fun e w' => e = .returned (.bool true) ∧ Below w.heap.size w w' := by
  by_cases h1 : 600 < l.length
  · have h1i : (600 : Int) < l.length := by omega
    go_enter Try.func7, Try.ntmps7
    go_wp2_with fail
    refine (works _).mono ?_
    rintro e w2 ⟨rfl, hb2⟩
    go_wp2
    go_ret
    exact ⟨rfl, hb2⟩
  · have h1i : ¬ (600 : Int) < l.length := by omega
    have h2i : (600 : Int) < m.length := by omega
    go_enter Try.func7, Try.ntmps7
    go_wp2_with fail
    refine (works _).mono ?_
    rintro e w2 ⟨rfl, hb2⟩
    go_wp2
    go_ret
    exact ⟨rfl, hb2⟩
set_option maxHeartbeats 1000000 in
/-- An error at the end. -/
theorem lines_end (hr : Kd.C (Kd.int .u8) w A l.length l) (hc : l.length ≤ c) (hb : Bytes l) (hl : l.length ≤ 600) (hm : m.length ≤ 600) {h : List S42} {e : Int} (hd : decP l 4096 = (h, e, (l.length : Int))) (he : e ≠ 0) :
    Calls Try.prog 7 #[.slice A l.length c, .slice A1 m.length c1, .int .u16 n] w fun e w' => e = .returned (.bool true) ∧ Below w.heap.size w w' := by
  have HD := Lib.hid (dec_use w A l c 4096 hr hc hb hd)
  have h1i : ¬ (600 : Int) < l.length := by omega
  have h2i : ¬ (600 : Int) < m.length := by omega
  have hne : (e != 0) = true := by simp [he]
  have hpos : ¬ (l.length : Int) < 0 := by omega
  clear hr hc hb hd he
  go_enter Try.func7, Try.ntmps7
  go_wp2_with fail
  refine HD.out.mono ?_
  rintro r w1 ⟨B, d, rfl, hd1, hr1, hb1⟩
  have HB := Lib.hid (below_alloc hb1 (.cells #[.slice B h.length d] 24))
  clear hd1 hr1 hb1
  go_wp2_with fail
  refine (works _).mono ?_
  rintro r w2 ⟨rfl, hb2⟩
  go_wp2
  go_ret
  exact ⟨rfl, link HB.out hb2⟩
set_option maxHeartbeats 2000000 in
/-- An error ahead of the end. -/
theorem lines_ahead (hr : Kd.C (Kd.int .u8) w A l.length l) (hc : l.length ≤ c) (hb : Bytes l) (hl : l.length ≤ 600) (hr1 : Kd.C (Kd.int .u8) w A1 m.length m) (hm : m.length ≤ 600) (hbm : Bytes m) {h : List S42} {e : Int} {x : Nat} (hx : x < l.length) (hd : decP l 4096 = (h, e, (x : Int))) (he : e ≠ 0) :
    Calls Try.prog 7 #[.slice A l.length c, .slice A1 m.length c1, .int .u16 n] w fun e w' => e = .returned (.bool true) ∧ Below w.heap.size w w' := by
  have HD := Lib.hid (dec_use w A l c 4096 hr hc hb hd)
  obtain ⟨ad, rfl, -⟩ := Kd.at_int hr 0 (by omega) (by omega)
  have HR := Lib.hid (Kd.reads_of_C (enc := Value.int .u8) (d := (0 : Int)) (h1 := fun _ => rfl) hr : ReadsInt w .u8 (some ad) l.length l)
  have HR1 := Lib.hid (Kd.reads_of_C (enc := Value.int .u8) (d := (0 : Int)) (h1 := fun _ => rfl) hr1 : ReadsInt w .u8 A1 m.length m)
  have h1i : ¬ (600 : Int) < l.length := by omega
  have h2i : ¬ (600 : Int) < m.length := by omega
  have hne : (e != 0) = true := by simp [he]
  have hpos : ¬ (x : Int) < 0 := by omega
  have hxl : decide (l.length ≤ x) = false := decide_eq_false (by omega)
  have hpos2 : decide ((x : Int) < 0) = false := decide_eq_false (by omega)
  have hxc : x + 1 ≤ c := by omega
  have hxc2 : x < c := by omega
  have hxc3 : (0 : Int) ≤ (x : Int) + 1 := by omega
  have HBY := Lib.hid (bytes_app (bytes_take hb (x + 1)) hbm)
  have HX := Lib.hid hx
  have HL := Lib.hid hl
  have HM := Lib.hid hm
  have HDD := Lib.hid hd
  have htk : (l.take (x + 1)).length = x + 1 := by rw [List.length_take]; omega
  have HTK := Lib.hid htk
  have hTB : x + 1 ≤ 601 := by omega
  clear hr hd he hr1 hb hbm htk
  go_enter Try.func7, Try.ntmps7
  go_wp2_with fail
  refine HD.out.mono ?_
  rintro r w1 ⟨B, d, rfl, hd1, hrr1, hb1⟩
  have HB := Lib.hid (below_alloc hb1 (.cells #[.slice B h.length d] 24))
  clear hd1 hrr1 hb1
  have hr0' := (ReadsInt.take_ (ReadsInt.below HR.out HB.out) (x + 1) (by omega)).allocS
  have hr1' := ReadsInt.below HR1.out HB.out
  have hsz := HB.out.size
  have ho0 := own_empty (w1.alloc (.cells #[.slice B h.length d] 24)) w.heap.size hsz
  simp only [World.size_alloc] at ho0 hsz
  have hb0 := HB.out.alloc (by rw [World.size_alloc]; exact hsz) (.cells #[] 5)
  have hr2' := hr0' (.cells #[] 5)
  have hs2 : w.heap.size ≤ ((w1.alloc (.cells #[.slice B h.length d] 24)).alloc (.cells #[] 5)).heap.size := by rw [World.size_alloc, World.size_alloc]; omega
  have HAPP := Lib.hid (fun (W : World) (hW : Below w.heap.size w W) => ReadsInt.below HR1.out hW)
  clear hr0'
  go_wp2_with (first
    | (at_builtin; refine app_bytes (w0 := w) w.heap.size (.tmp 50) (.tmp 54) rfl rfl _ [] (l.take (x + 1)) (some ad) (x + 1) c rfl rfl ho0 hr2' hb0 hs2 (by rw [List.length_nil]; omega) ?_; intro v1 w3 ho1 hb3 hg1 ha1; clear hg1 ha1)
    | (at_builtin; refine app_bytes (w0 := w) w.heap.size (.tmp 55) (.tmp 56) rfl rfl _ ([] ++ l.take (x + 1)) m A1 m.length c1 rfl rfl ho1 (HAPP.out _ hb3) hb3 hb3.size (by rw [List.nil_append, HTK.out]; omega) ?_; intro v2 w4 ho2 hb4 hg2 ha2; clear hg2 ha2))
  rw [List.nil_append] at ho2
  obtain ⟨A2, c2, rfl, hc2, hC2⟩ := own_slice ho2
  have HB4 := Lib.hid hb4
  have HD2 := Lib.hid (fun g f y (hdd : decP (l.take (x + 1) ++ m) 4096 = (g, f, y)) => dec_use w4 A2 _ c2 4096 hC2 hc2 HBY.out hdd)
  clear ho0 hb0 hr1' hr2' hs2 hsz ho1 hb3 ho2 hb4 hC2 hc2 HAPP HR HR1 HD HB
  have HBAD := Lib.hid (fun (he : e = 3 ∨ e = 4) => dec_bad (l := l) (l' := l.take (x + 1) ++ m) (a := x) (by omega) (by omega) (by rw [List.length_append, HTK.out]; omega) HDD.out he (by omega) ⟨hx, by rw [List.length_append, HTK.out]; omega, fun k hk => by
    rw [List.getD_eq_getElem?_getD, List.getD_eq_getElem?_getD, List.getElem?_append_left (by rw [HTK.out]; omega), List.getElem?_take, if_pos (by omega)]⟩)
  clear HBY HTK HL HM HX
  by_cases h4 : e = 4
  · subst h4
    have HD3 := Lib.hid (HD2.out _ _ _ (HBAD.out (.inr rfl)))
    clear HD2 HBAD
    go_wp2_with fail
    refine HD3.out.mono ?_
    rintro r w5 ⟨B2, d2, rfl, -, -, hb5⟩
    have HB5 := Lib.hid (link HB4.out (below_alloc hb5 (.cells #[.slice B2 ([] : List S42).length d2] 24)))
    clear hb5
    go_wp2_with fail
    refine (works _).mono ?_
    rintro r w6 ⟨rfl, hb6⟩
    go_wp2
    go_ret
    exact ⟨rfl, link HB5.out hb6⟩
  · by_cases h3 : e = 3
    · subst h3
      have HD3 := Lib.hid (HD2.out _ _ _ (HBAD.out (.inl rfl)))
      clear HD2 HBAD
      go_wp2_with fail
      refine HD3.out.mono ?_
      rintro r w5 ⟨B2, d2, rfl, -, -, hb5⟩
      have HB5 := Lib.hid (link HB4.out (below_alloc hb5 (.cells #[.slice B2 ([] : List S42).length d2] 24)))
      clear hb5
      go_wp2_with fail
      refine (works _).mono ?_
      rintro r w6 ⟨rfl, hb6⟩
      go_wp2
      go_ret
      exact ⟨rfl, link HB5.out hb6⟩
    · have b4 : (e == 4) = false := by simp [h4]
      have b3 : (e == 3) = false := by simp [h3]
      rcases hdd : decP (l.take (x + 1) ++ m) 4096 with ⟨g, f, y⟩
      have HD3 := Lib.hid (HD2.out _ _ _ hdd)
      clear HD2 HBAD hdd
      go_wp2_with fail
      refine HD3.out.mono ?_
      rintro r w5 ⟨B2, d2, rfl, -, -, hb5⟩
      have HB5 := Lib.hid (link HB4.out (below_alloc hb5 (.cells #[.slice B2 g.length d2] 24)))
      clear hb5
      go_wp2_with fail
      refine (works _).mono ?_
      rintro r w6 ⟨rfl, hb6⟩
      go_wp2
      go_ret
      exact ⟨rfl, link HB5.out hb6⟩
def RgLines.T : Bool × List (List Nat × List Nat) := (true, [([], []), ([0], [0]), ([1], [1]), ([2], [2]), ([3, 2], [2, 3]), ([4, 2], [2, 4]), ([2], [2]), ([6, 2], [2, 6]), ([7, 2], [2, 7]), ([5, 8, 2], [2, 5, 8]), ([2, 9], [2, 9]), ([10, 2], [10]), ([11], [11]), ([12, 11, 11], [11, 12]), ([11], [11]), ([14, 13, 11], [11, 14]), ([13, 15, 11], [11, 13, 15]), ([11, 16], [11, 16]), ([17, 15], [17]), ([18, 18], [18]), ([18, 19], [18, 19]), ([20, 19, 0, 1, 2, 3, 4, 5, 6, 7, 8, 9, 10, 11, 12, 13, 14, 15, 16, 17, 18, 19, 20], [20])])
def RgLines.B : List Nat := [0, 1, 3, 7, 15, 31, 7, 71, 199, 511, 1023, 2047, 4095, 8191, 4095, 32767, 65535, 131071, 262143, 524287, 1048575, 2097151]
theorem RgLines.tab : rtab .any (opsOf Try.f7 15) = RgLines.T := by kernel_rfl
theorem RgLines.bits : waitsOk RgLines.T.2 RgLines.B = true := by kernel_rfl
set_option maxHeartbeats 4000000 in
/-- No error. -/
theorem lines_good (hr : Kd.C (Kd.int .u8) w A l.length l) (hc : l.length ≤ c) (hb : Bytes l) (hl : l.length ≤ 600) (hm : m.length ≤ 600) (hn : 0 ≤ n ∧ n ≤ 65535) {h : List S42} {x : Int} (hd : decP l 4096 = (h, 0, x)) :
    Calls Try.prog 7 #[.slice A l.length c, .slice A1 m.length c1, .int .u16 n] w fun e w' => e = .returned (.bool true) ∧ Below w.heap.size w w' := by
  have HD := Lib.hid (dec_use w A l c 4096 hr hc hb hd)
  have HR := Lib.hid hr
  have HC := Lib.hid hc
  have HBY := Lib.hid hb
  have HL := Lib.hid hl
  have HFEW := Lib.hid (dec_few (by omega) (by omega) hd)
  have HG := Lib.hid (fun (k : Nat) (hk : k ≤ l.length) (hc : k = 0 ∨ l.getD (k - 1) 0 = 10) => dec_good (most := 4096) (by omega) (by omega) hd hk hc)
  have h1i : ¬ (600 : Int) < l.length := by omega
  have h2i : ¬ (600 : Int) < m.length := by omega
  obtain ⟨N, hN⟩ : ∃ N, l.length = N := ⟨_, rfl⟩
  have HN := Lib.hid hN
  have hmod : 0 ≤ n.tmod ((N : Int) + 1) ∧ n.tmod ((N : Int) + 1) ≤ N := by
    have h1 := Int.tmod_nonneg ((N : Int) + 1) hn.1
    have h2 := Int.tmod_lt_of_pos n (show (0 : Int) < (N : Int) + 1 by omega)
    omega
  obtain ⟨k0, hk0⟩ := Int.eq_ofNat_of_zero_le hmod.1
  rw [hk0] at hmod
  have hk0N : k0 ≤ N := by omega
  rw [HN.out] at HD h1i hl
  clear hr hc hb hd hmod hN
  rw [HN.out]
  go_enter Try.func7, Try.ntmps7
  go_wp2_with fail
  refine HD.out.mono ?_
  rintro r w1 ⟨B, d, rfl, hd1, hr1, hb1⟩
  have HB := Lib.hid (below_alloc hb1 (.cells #[.slice B h.length d] 24))
  have HH := Lib.hid (Kd.C_alloc hr1 (.cells #[.slice B h.length d] 24))
  have HZ := Lib.hid (Blk.new w1 [.slice B h.length d] 24)
  have HD1 := Lib.hid hd1
  clear hr1 hb1 hd1
  go_wp2_with fail
  go_loop [13] (fun v13 => ∃ k : Nat, k ≤ N ∧ v13 = .int .i64 k) (fun v13 => (intOf v13).toNat)
  case atStart => exact ⟨k0, hk0N, rfl⟩
  case round =>
    obtain ⟨k, hk, rfl⟩ := hrel
    by_cases hst : k = 0 ∨ l.getD (k - 1) 0 = 10
    case neg =>
      obtain ⟨j, rfl⟩ : ∃ j, k = j + 1 := ⟨k - 1, by omega⟩
      have hj : j < l.length := by rw [HN.out]; omega
      obtain ⟨ad, rfl, hq⟩ := Kd.at_int (Kd.C_below HR.out HB.out) (j : Int) (by omega) (by omega)
      rw [Int.toNat_natCast] at hq
      have hv : rd l (j : Int) ≠ 10 := by
        intro e
        exact hst (.inr (by rw [Nat.add_sub_cancel]; unfold rd at e; rw [Int.toNat_natCast] at e; exact e))
      generalize rd l (j : Int) = y at *
      have hy : (y != 10) = true := by simp [hv]
      have hp : (0 : Int) < (j : Int) + 1 := by omega
      have hjN : (j : Int) < N := by omega
      clear hst hv
      go_wp2
      go_round
      case rel => exact ⟨j, by omega, by go_num⟩
      case measure => simp [intOf]
    obtain ⟨g, hdg, hle⟩ := HG.out k (by rw [HN.out]; exact hk) hst
    have hkl : (l.take k).length = k := by rw [List.length_take, HN.out]; omega
    have HDG := Lib.hid (fun (W : World) (hW : Below w.heap.size w W) => dec_use W A (l.take k) c 4096 (Kd.C_take (Kd.C_below HR.out hW) (by rw [HN.out]; exact hk)) (by have := HC.out; rw [HN.out] at this; omega) (bytes_take HBY.out k) hdg)
    rw [hkl] at HDG
    have hkc : k ≤ c := by have := HC.out; rw [HN.out] at this; omega
    have HDG1 := Lib.hid (HDG.out _ HB.out)
    have HLE := Lib.hid hle
    clear HDG hle hdg hkl HG HBY
    have hcase : (k = 0) ∨ (∃ j ad, k = j + 1 ∧ A = some ad ∧ (w1.alloc (.cells #[.slice B h.length d] 24)).cell? (ad.add j) = some (.int .u8 10)) := by
      rcases hst with h0 | h0
      · exact .inl h0
      · rcases Nat.eq_zero_or_pos k with h1 | h1
        · exact .inl h1
        · obtain ⟨j, rfl⟩ : ∃ j, k = j + 1 := ⟨k - 1, by omega⟩
          have hj : j < l.length := by rw [HN.out]; omega
          obtain ⟨ad, rfl, hq⟩ := Kd.at_int (Kd.C_below HR.out HB.out) (j : Int) (by omega) (by omega)
          rw [Int.toNat_natCast] at hq
          refine .inr ⟨j, ad, rfl, rfl, ?_⟩
          rw [hq]
          rw [Nat.add_sub_cancel] at h0
          unfold rd
          rw [Int.toNat_natCast, h0]
    clear hst
    have HH0 := Lib.hid HH.out
    rcases hcase with rfl | ⟨j, ad, rfl, rfl, hq⟩
    case' inl => go_wp2_with fail
    case' inr =>
      have hp : (0 : Int) < (j : Int) + 1 := by omega
      have hjN : (j : Int) < N := by omega
      go_wp2_with fail
      clear hq hp hjN
    all_goals
      refine HDG1.out.mono ?_
      rintro r w1' ⟨B2, d2, rfl, hd2, hr2, hb2⟩
      have hz2 := Blk.new w1' [.slice B2 g.length d2] 24
      have hz1 := (HZ.out.below hb2 HZ.out.lt).alloc (.cells #[.slice B2 g.length d2] 24)
      have hh2 := Kd.C_alloc hr2 (.cells #[.slice B2 g.length d2] 24)
      have hh1 := Kd.C_alloc (Kd.C_below HH.out hb2) (.cells #[.slice B2 g.length d2] 24)
      have hbw := below_alloc (link HB.out hb2) (.cells #[.slice B2 g.length d2] 24)
      have HZ2 := Lib.hid hz2
      have HZ1 := Lib.hid hz1
      have HH2 := Lib.hid hh2
      have HH1 := Lib.hid hh1
      have HB2 := Lib.hid hbw
      clear hz2 hz1 hh2 hh1 hbw hr2 hb2 HH0 HDG1 HD
      go_wp2_with fail
      generalize w1'.alloc (.cells #[.slice B2 g.length d2] 24) = w2 at *
      have hle1 : (g.length : Int) ≤ h.length := by have := HLE.out.1; omega
      have hle2 : (opsN g : Int) ≤ opsN h := by have := HLE.out.2; omega
      have hsm := HFEW.out
      have hsn := HLE.out
      unfold Le at hsn
      have FX : Hid (∀ (W : World), Below w2.heap.size w2 W → W.cell? ⟨w1.heap.size, 0, none⟩ = some (.slice B h.length d) ∧ W.cell? ⟨w1'.heap.size, 0, none⟩ = some (.slice B2 g.length d2)) := Lib.hid (fun (W : World) (hb : Below w2.heap.size w2 W) => ⟨(HZ1.out.below hb HZ1.out.lt).cell 0, (HZ2.out.below hb HZ2.out.lt).cell 0⟩)
      have HOG := Lib.hid (fun (W : World) (hb : Below w2.heap.size w2 W) => (ops_c W g B2 d2 (Kd.C_below HH2.out hb) hd2 (by unfold big; omega) (by unfold big; omega)).mono fun e w' ⟨h1, h2⟩ => (⟨h1, link hb h2⟩ : _ ∧ Below w2.heap.size w2 w'))
      have HOH := Lib.hid (fun (W : World) (hb : Below w2.heap.size w2 W) => (ops_c W h B d (Kd.C_below HH1.out hb) HD1.out (by unfold big; omega) (by unfold big; omega)).mono fun e w' ⟨h1, h2⟩ => (⟨h1, link hb h2⟩ : _ ∧ Below w2.heap.size w2 w'))
      have HW := Lib.hid (fun (W : World) (hb : Below w2.heap.size w2 W) => (works W).mono fun e w' ⟨h1, h2⟩ => (⟨h1, link hb h2⟩ : _ ∧ Below w2.heap.size w2 w'))
      have hbD := (Below.refl w2.heap.size w2).drew
      generalize opsN g = og at *
      generalize opsN h = oh at *
      clear hsm hsn
      refine start_ (n := 22) (S := fun W => Below w2.heap.size w2 W) (ds := []) #[false, false, false, false, false, false, false, false, false, false, false, false, false, false, false, false, false, false, false, false, false, false] (by kernel_rfl) rfl rfl hbD (fun hHeld => ?_)
      refine with_tabW RgLines.tab RgLines.bits (fun HT_ HW_ => ?_)
      refine pure_ (i := 0) (N := some 106) (v := ?_) (a' := ?_) #[true, false, false, false, false, false, false, false, false, false, false, false, false, false, false, false, false, false, false, false, false, false] rfl rfl (any_of HT_.out (by kernel_rfl)) (fun _ _ _ h => h) (Or.inl ⟨by rfl, ?_⟩) ?_ ?_
      rotate_left
      · intro w'
        go_simp
        with_reducible rfl
      rotate_left
      · simp only [Act.put, List.setIfInBounds_toArray, List.set_cons_zero, List.set_cons_succ, i64_w, i32_w]
        rfl
      refine pure_ (i := 1) (N := some 107) (v := ?_) (a' := ?_) #[true, true, false, false, false, false, false, false, false, false, false, false, false, false, false, false, false, false, false, false, false, false] rfl rfl (any_of HT_.out (by kernel_rfl)) (fun _ _ _ h => h) (Or.inl ⟨by rfl, ?_⟩) ?_ ?_
      rotate_left
      · intro w'
        go_simp
        with_reducible rfl
      rotate_left
      · simp only [Act.put, List.setIfInBounds_toArray, List.set_cons_zero, List.set_cons_succ, i64_w, i32_w]
        rfl
      refine pure_ (i := 2) (N := some 108) (v := ?_) (a' := ?_) #[true, true, true, false, false, false, false, false, false, false, false, false, false, false, false, false, false, false, false, false, false, false] rfl rfl (any_of HT_.out (by kernel_rfl)) (fun _ _ _ h => h) (Or.inl ⟨by rfl, ?_⟩) ?_ ?_
      rotate_left
      · intro w'
        go_simp
        with_reducible rfl
      rotate_left
      · simp only [Act.put, List.setIfInBounds_toArray, List.set_cons_zero, List.set_cons_succ, i64_w, i32_w]
        rfl
      refine pure_ (i := 3) (N := some 109) (v := ?_) (a' := ?_) #[true, true, true, true, false, false, false, false, false, false, false, false, false, false, false, false, false, false, false, false, false, false] rfl rfl (any_of HT_.out (by kernel_rfl)) (fun _ _ _ h => h) (Or.inl ⟨by rfl, ?_⟩) ?_ ?_
      rotate_left
      · intro w'
        go_simp
        with_reducible rfl
      rotate_left
      · simp only [Act.put, List.setIfInBounds_toArray, List.set_cons_zero, List.set_cons_succ, i64_w, i32_w]
        rfl
      refine take_ (i := 4) (N := some 110) (v := ?_) (a' := ?_) #[true, true, true, true, true, false, false, false, false, false, false, false, false, false, false, false, false, false, false, false, false, false] rfl rfl (take_ofW HT_.out HW_.out (by kernel_rfl)) (fun _ _ _ h => h) (Or.inl ⟨by rfl, ?_⟩) hHeld ?_ ?_
      rotate_left
      · intro w' hW
        obtain ⟨hx_, hy_⟩ := FX.out w' hW
        go_simp
        with_reducible rfl
      rotate_left
      · simp only [Act.put, List.setIfInBounds_toArray, List.set_cons_zero, List.set_cons_succ, i64_w, i32_w]
        rfl
      refine pure_ (i := 5) (N := some 111) (v := ?_) (a' := ?_) #[true, true, true, true, true, true, false, false, false, false, false, false, false, false, false, false, false, false, false, false, false, false] rfl rfl (any_of HT_.out (by kernel_rfl)) (fun _ _ _ h => h) (Or.inl ⟨by rfl, ?_⟩) ?_ ?_
      rotate_left
      · intro w'
        go_simp
        with_reducible rfl
      rotate_left
      · simp only [Act.put, List.setIfInBounds_toArray, List.set_cons_zero, List.set_cons_succ, i64_w, i32_w]
        rfl
      refine pure_ (i := 6) (N := some 112) (v := ?_) (a' := ?_) #[true, true, true, true, true, true, true, false, false, false, false, false, false, false, false, false, false, false, false, false, false, false] rfl rfl (any_of HT_.out (by kernel_rfl)) (fun _ _ _ h => h) (Or.inl ⟨by rfl, ?_⟩) ?_ ?_
      rotate_left
      · intro w'
        go_simp
        with_reducible rfl
      rotate_left
      · simp only [Act.put, List.setIfInBounds_toArray, List.set_cons_zero, List.set_cons_succ, i64_w, i32_w]
        rfl
      refine take_ (i := 7) (N := some 113) (v := ?_) (a' := ?_) #[true, true, true, true, true, true, true, true, false, false, false, false, false, false, false, false, false, false, false, false, false, false] rfl rfl (take_ofW HT_.out HW_.out (by kernel_rfl)) (fun _ _ _ h => h) (Or.inl ⟨by rfl, ?_⟩) hHeld ?_ ?_
      rotate_left
      · intro w' hW
        obtain ⟨hx_, hy_⟩ := FX.out w' hW
        go_simp
        with_reducible rfl
      rotate_left
      · simp only [Act.put, List.setIfInBounds_toArray, List.set_cons_zero, List.set_cons_succ, i64_w, i32_w]
        rfl
      refine pure_ (i := 8) (N := some 114) (v := ?_) (a' := ?_) #[true, true, true, true, true, true, true, true, true, false, false, false, false, false, false, false, false, false, false, false, false, false] rfl rfl (any_of HT_.out (by kernel_rfl)) (fun _ _ _ h => h) (Or.inl ⟨by rfl, ?_⟩) ?_ ?_
      rotate_left
      · intro w'
        go_simp
        with_reducible rfl
      rotate_left
      · simp only [Act.put, List.setIfInBounds_toArray, List.set_cons_zero, List.set_cons_succ, i64_w, i32_w]
        rfl
      refine pure_ (i := 9) (N := some 115) (v := ?_) (a' := ?_) #[true, true, true, true, true, true, true, true, true, true, false, false, false, false, false, false, false, false, false, false, false, false] rfl rfl (any_of HT_.out (by kernel_rfl)) (fun _ _ _ h => h) (Or.inl ⟨by rfl, ?_⟩) ?_ ?_
      rotate_left
      · intro w'
        go_simp
        with_reducible rfl
      rotate_left
      · simp only [Act.put, List.setIfInBounds_toArray, List.set_cons_zero, List.set_cons_succ, i64_w, i32_w]
        rfl
      refine pure_ (i := 10) (N := some 116) (v := ?_) (a' := ?_) #[true, true, true, true, true, true, true, true, true, true, true, false, false, false, false, false, false, false, false, false, false, false] rfl rfl (any_of HT_.out (by kernel_rfl)) (fun _ _ _ h => h) (Or.inl ⟨by rfl, ?_⟩) ?_ ?_
      rotate_left
      · intro w'
        go_simp
        with_reducible rfl
      rotate_left
      · simp only [Act.put, List.setIfInBounds_toArray, List.set_cons_zero, List.set_cons_succ, i64_w, i32_w]
        rfl
      refine pure_ (i := 11) (N := some 117) (v := ?_) (a' := ?_) #[true, true, true, true, true, true, true, true, true, true, true, true, false, false, false, false, false, false, false, false, false, false] rfl rfl (any_of HT_.out (by kernel_rfl)) (fun _ _ _ h => h) (Or.inl ⟨by rfl, ?_⟩) ?_ ?_
      rotate_left
      · intro w'
        go_simp
        with_reducible rfl
      rotate_left
      · simp only [Act.put, List.setIfInBounds_toArray, List.set_cons_zero, List.set_cons_succ, i64_w, i32_w]
        rfl
      refine take_ (i := 12) (N := some 118) (v := ?_) (a' := ?_) #[true, true, true, true, true, true, true, true, true, true, true, true, true, false, false, false, false, false, false, false, false, false] rfl rfl (take_ofW HT_.out HW_.out (by kernel_rfl)) (fun _ _ _ h => h) (Or.inl ⟨by rfl, ?_⟩) hHeld ?_ ?_
      rotate_left
      · intro w' hW
        obtain ⟨hx_, hy_⟩ := FX.out w' hW
        go_simp
        with_reducible rfl
      rotate_left
      · simp only [Act.put, List.setIfInBounds_toArray, List.set_cons_zero, List.set_cons_succ, i64_w, i32_w]
        rfl
      refine take_ (i := 14) (N := some 120) (v := ?_) (a' := ?_) #[true, true, true, true, true, true, true, true, true, true, true, true, true, false, true, false, false, false, false, false, false, false] rfl rfl (take_ofW HT_.out HW_.out (by kernel_rfl)) (fun _ _ _ h => h) (Or.inl ⟨by rfl, ?_⟩) hHeld ?_ ?_
      rotate_left
      · intro w' hW
        obtain ⟨hx_, hy_⟩ := FX.out w' hW
        go_simp
        with_reducible rfl
      rotate_left
      · simp only [Act.put, List.setIfInBounds_toArray, List.set_cons_zero, List.set_cons_succ, i64_w, i32_w]
        rfl
      refine one_ (i := 13) (N := some 119) #[true, true, true, true, true, true, true, true, true, true, true, true, true, true, true, false, false, false, false, false, false, false] rfl rfl (one_of HT_.out (by kernel_rfl)) (by decide) (fun K hK => ?_)
      refine goes_ Try.func23 (by kernel_rfl) rfl #[.agg #[.slice B2 g.length d2]] (by rfl) rfl rfl (by (try simp only [List.map_toArray, List.map_cons, List.map_nil]); first | done | rfl) ?_
      refine (HOG.out _ hHeld).mono ?_
      rintro e_ w_1 ⟨rfl, hH_⟩
      refine ⟨_, rfl, ?_⟩
      refine hK.out _ _ hH_ (fun hHeld => ?_)
      clear hK K hH_
      refine norm_ (a' := ?_) ?_ ?_
      rotate_left
      · show Act.put _ (some 119) _ = _
        simp only [Act.put, List.setIfInBounds_toArray, List.set_cons_zero, List.set_cons_succ, i64_w, i32_w]
        rfl
      refine one_ (i := 15) (N := some 121) #[true, true, true, true, true, true, true, true, true, true, true, true, true, true, true, true, false, false, false, false, false, false] rfl rfl (one_of HT_.out (by kernel_rfl)) (by decide) (fun K hK => ?_)
      refine goes_ Try.func23 (by kernel_rfl) rfl #[.agg #[.slice B h.length d]] (by rfl) rfl rfl (by (try simp only [List.map_toArray, List.map_cons, List.map_nil]); first | done | rfl) ?_
      refine (HOH.out _ hHeld).mono ?_
      rintro e_ w_2 ⟨rfl, hH_⟩
      refine ⟨_, rfl, ?_⟩
      refine hK.out _ _ hH_ (fun hHeld => ?_)
      clear hK K hH_
      refine norm_ (a' := ?_) ?_ ?_
      rotate_left
      · show Act.put _ (some 121) _ = _
        simp only [Act.put, List.setIfInBounds_toArray, List.set_cons_zero, List.set_cons_succ, i64_w, i32_w]
        rfl
      refine pure_ (i := 16) (N := some 122) (v := ?_) (a' := ?_) #[true, true, true, true, true, true, true, true, true, true, true, true, true, true, true, true, true, false, false, false, false, false] rfl rfl (any_of HT_.out (by kernel_rfl)) (fun _ _ _ h => h) (Or.inl ⟨by rfl, ?_⟩) ?_ ?_
      rotate_left
      · intro w'
        go_simp
        with_reducible rfl
      rotate_left
      · simp only [Act.put, List.setIfInBounds_toArray, List.set_cons_zero, List.set_cons_succ, i64_w, i32_w]
        rfl
      refine pure_ (i := 17) (N := some 123) (v := ?_) (a' := ?_) #[true, true, true, true, true, true, true, true, true, true, true, true, true, true, true, true, true, true, false, false, false, false] rfl rfl (any_of HT_.out (by kernel_rfl)) (fun _ _ _ h => h) (Or.inl ⟨by rfl, ?_⟩) ?_ ?_
      rotate_left
      · intro w'
        go_simp
        with_reducible rfl
      rotate_left
      · simp only [Act.put, List.setIfInBounds_toArray, List.set_cons_zero, List.set_cons_succ, i64_w, i32_w]
        rfl
      refine pure_ (i := 18) (N := some 124) (v := ?_) (a' := ?_) #[true, true, true, true, true, true, true, true, true, true, true, true, true, true, true, true, true, true, true, false, false, false] rfl rfl (any_of HT_.out (by kernel_rfl)) (fun _ _ _ h => h) (Or.inl ⟨by rfl, ?_⟩) ?_ ?_
      rotate_left
      · intro w'
        go_simp
        with_reducible rfl
      rotate_left
      · simp only [Act.put, List.setIfInBounds_toArray, List.set_cons_zero, List.set_cons_succ, i64_w, i32_w]
        rfl
      refine one_ (i := 19) (N := some 125) #[true, true, true, true, true, true, true, true, true, true, true, true, true, true, true, true, true, true, true, true, false, false] rfl rfl (one_of HT_.out (by kernel_rfl)) (by decide) (fun K hK => ?_)
      refine goes_ Try.func19 (by kernel_rfl) rfl #[] (by rfl) rfl rfl (by (try simp only [List.map_toArray, List.map_cons, List.map_nil]); first | done | rfl) ?_
      refine (HW.out _ hHeld).mono ?_
      rintro e_ w_3 ⟨rfl, hH_⟩
      refine ⟨_, rfl, ?_⟩
      refine hK.out _ _ hH_ (fun hHeld => ?_)
      clear hK K hH_
      refine norm_ (a' := ?_) ?_ ?_
      rotate_left
      · show Act.put _ (some 125) _ = _
        simp only [Act.put, List.setIfInBounds_toArray, List.set_cons_zero, List.set_cons_succ, i64_w, i32_w]
        rfl
      refine pure_ (i := 20) (N := some 126) (v := ?_) (a' := ?_) #[true, true, true, true, true, true, true, true, true, true, true, true, true, true, true, true, true, true, true, true, true, false] rfl rfl (any_of HT_.out (by kernel_rfl)) (fun _ _ _ h => h) (Or.inl ⟨by rfl, ?_⟩) ?_ ?_
      rotate_left
      · intro w'
        go_simp
        with_reducible rfl
      rotate_left
      · simp only [Act.put, List.setIfInBounds_toArray, List.set_cons_zero, List.set_cons_succ, i64_w, i32_w]
        rfl
      refine pure_ (i := 21) (N := some 6) (v := ?_) (a' := ?_) #[true, true, true, true, true, true, true, true, true, true, true, true, true, true, true, true, true, true, true, true, true, true] rfl rfl (any_of HT_.out (by kernel_rfl)) (fun _ _ _ h => h) (Or.inl ⟨by rfl, ?_⟩) ?_ ?_
      rotate_left
      · intro w'
        go_simp
        with_reducible rfl
      rotate_left
      · simp only [Act.put, List.setIfInBounds_toArray, List.set_cons_zero, List.set_cons_succ, i64_w, i32_w]
        rfl
      refine done_ (done_of HT_.out (by kernel_rfl)) ?_
      go_wp2
      go_ret
      exact ⟨rfl, link HB2.out hHeld⟩
end
theorem walk_HistoryLines (w : World) (A : Option Addr) (c : Nat) (l : List Int) (hr : Kd.C (Kd.int .u8) w A l.length l) (hc : l.length ≤ c) (hb : ∀ x ∈ l, (Lit.int .u8 x).wf = true) (hs : l.length * 1 ≤ 140737488351232)
    (A1 : Option Addr) (c1 : Nat) (m : List Int) (hr1 : Kd.C (Kd.int .u8) w A1 m.length m) (hc1 : m.length ≤ c1) (hb1 : ∀ x ∈ m, (Lit.int .u8 x).wf = true) (hs1 : m.length * 1 ≤ 140737488351232) (n : Int) (hn : (Lit.int .u16 n).wf = true) :
    Calls Try.prog 7 #[.slice A l.length c, .slice A1 m.length c1, .int .u16 n] w fun e w' => e = .returned (.bool true) ∧ Below w.heap.size w w' := by
  by_cases h1 : 600 < l.length ∨ 600 < m.length
  · exact lines_long w A c l A1 c1 m n h1
  · have hb' := bytes_of_wf hb
    have hn' : 0 ≤ n ∧ n ≤ 65535 := by
      simp only [Lit.wf, decide_eq_true_eq, Bool.and_eq_true] at hn
      have h2 : IntKind.u16.min = 0 := rfl
      have h3 : IntKind.u16.max = 65535 := rfl
      rw [h2, h3] at hn
      exact hn
    rcases hd : decP l 4096 with ⟨h, e, x⟩
    rcases dec_place (by omega) (by omega) hd with ⟨rfl, -⟩ | ⟨he, hx⟩
    · exact lines_good w A c l A1 c1 m n hr hc hb' (by omega) (by omega) hn' hd
    · obtain ⟨y, rfl⟩ := Int.eq_ofNat_of_zero_le hx.1
      by_cases hxl : y < l.length
      · exact lines_ahead w A c l A1 c1 m n hr hc hb' (by omega) hr1 (by omega) (bytes_of_wf hb1) hxl hd he
      · obtain rfl : y = l.length := by omega
        exact lines_end w A c l A1 c1 m n hr hc hb' (by omega) (by omega) hd he
end Go.Proofs.Ytlcioegdmopppaa
