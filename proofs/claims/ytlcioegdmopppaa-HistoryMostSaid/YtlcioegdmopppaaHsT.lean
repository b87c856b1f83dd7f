/- The walk of the law HistoryMost. -/
import Derived.Test.YtlcioegdmopppaaHsS
import Derived.Test.YtlcioegdmopppaaGrE
set_option linter.unusedSimpArgs false
namespace Go.Proofs.Ytlcioegdmopppaa
open Go.RowKit Go.Proofs.Ytlcioegdmopppaa.PEncodeBack Go.Proofs.YtlcioegdmopppaaW.PrintWords Hs
set_option linter.unusedVariables false

theorem dec_at (w : World) (A : Option Addr) (l : List Int) (n c : Nat) (most : Int) (hn : n = l.length) (hC : Kd.C (Kd.int .u8) w A l.length l) (hc : l.length ≤ c) (hb : Bytes l) {h : List S42} {e x : Int} (hd : decP l most = (h, e, x)) :
    Calls Try.prog 20 #[.slice A n c, .int .i64 most] w fun r w' => ∃ B d, r = .returned (.tuple #[.agg #[.slice B h.length d], .int .i64 e, .int .i64 x]) ∧ h.length ≤ d ∧ Kd.C k42 w' B h.length h ∧ Below w.heap.size w w' := by
  subst hn
  refine (decode_c w A l c most hC hc hb).mono ?_
  rintro r w' ⟨v, h1, h2, h3⟩
  rw [hd] at h1 h2
  obtain ⟨B, d, rfl, hd, hr⟩ := Kd.S_reads h2
  exact ⟨B, d, h1, hd, hr, h3⟩
/-- The bytes of a row of one's own. -/
theorem br_C {w : World} {base : Nat} {A : Option Addr} {n c : Nat} {xs : List Int} (h : BR w base (.slice A n c) xs) (hl : xs.length ≤ 1000000) : n = xs.length ∧ xs.length ≤ c ∧ Kd.C (Kd.int .u8) w A xs.length xs := by
  obtain ⟨h1, h2, h3⟩ := h.cells
  refine ⟨h1, h2, rfl, by omega, fun h0 => ?_⟩
  obtain ⟨ad, h4, h5⟩ := h3 (by rw [nums_len]; exact h0)
  refine ⟨ad, h4, fun j q hq => ⟨[.int .u8 q], rfl, rfl, fun i u hu => ?_⟩⟩
  have hi : i = 0 := by have := (List.getElem?_eq_some_iff.1 hu).1; simp at this; omega
  subst hi
  simp at hu
  subst hu
  have h6 := h5 j (.int .u8 q) (by simp [nums, hq])
  show w.cell? (ad.add (j * 1 + 0)) = _
  rw [Nat.mul_one, Nat.add_zero]
  exact h6
/-- The row of a constant's bytes. -/
theorem br_const (w : World) (base : Nat) (hb : base ≤ w.heap.size) (l : List Int) (hl : l.length ≤ 1000) : BR (w.alloc (.cells (nums .u8 l).toArray 5 (l.length, l.length + 1))) base (.slice (some ⟨w.heap.size, 0, none⟩) l.length l.length) l := by
  refine .inr ⟨w.heap.size, l.length, rfl, hb, by rw [World.size_alloc]; omega, Nat.le_refl _, by simp only [maxLen]; omega, fun j hj => ⟨?_, ?_⟩, fun j u hu => ?_⟩
  · rw [World.cell?_alloc_mark]
    simp [nums, hj]
  · rw [World.frozen?_alloc_mark]
    simp
    omega
  · rw [World.cell?_alloc_mark]
    simpa using hu
section
variable (w : World) (n m : Int)
set_option maxHeartbeats 1000000 in
theorem most_much (h : 5000 < n ∨ 4096 < m) : Calls Try.prog 8 #[.int .u16 n, .int .u16 m] w fun e w' => e = .returned (.bool true) ∧ Below w.heap.size w w' := by
  by_cases h1 : 5000 < n
  · go_enter Try.func8, Try.ntmps8
    go_wp2_with fail
    refine (works _).mono ?_
    rintro e w2 ⟨rfl, hb2⟩
    go_wp2
    go_ret
    exact ⟨rfl, hb2⟩
  · have h2 : 4096 < m := by omega
    go_enter Try.func8, Try.ntmps8
    go_wp2_with fail
    refine (works _).mono ?_
    rintro e w2 ⟨rfl, hb2⟩
    go_wp2
    go_ret
    exact ⟨rfl, hb2⟩
end
def sR : ByteArray := ⟨#[114, 32, 53, 10]⟩
def sT : ByteArray := ⟨#[116, 32]⟩
def sC : ByteArray := ⟨#[32, 99, 10]⟩
theorem info_u8 : (Try.prog.info? 5).map (fun i => (i.zero, i.size, i.bytes)) = some (some (.int .u8 0), 1, 1) := by kernel_rfl
theorem cells_lit (w : World) (l : List Int) (t : TypeId) : Cells (w.alloc (.cells (nums .u8 l).toArray t)) (some ⟨w.heap.size, 0, none⟩) (nums .u8 l) := fun _ => ⟨_, rfl, fun j u hu => by
  rw [Addr.add_lit, Nat.zero_add, (Blk.new w (nums .u8 l) t).cell]; exact hu⟩
def ys (k : Nat) : List Int := [49 + (k : Int) / 1000, 48 + (k : Int) / 100 % 10, 48 + (k : Int) / 10 % 10, 48 + (k : Int) % 10]
theorem tls_next {k : Nat} (hk : k < 9000) : tls 0 k ++ bytesOf sT ++ ys k ++ bytesOf sC = tls 0 (k + 1) := by
  have h := tls_snoc k 0
  rw [Nat.zero_add] at h
  rw [h, tl_four hk, show bytesOf sT = [116, 32] from rfl, show bytesOf sC = [32, 99, 10] from rfl]
  unfold ys
  simp
set_option maxHeartbeats 4000000 in
set_option maxRecDepth 100000 in
theorem most_main (w : World) (N M : Nat) (hN : N ≤ 5000) (hM : M ≤ 4096) : Calls Try.prog 8 #[.int .u16 (N : Int), .int .u16 (M : Int)] w fun e w' => e = .returned (.bool true) ∧ Below w.heap.size w w' := by
  have kc := fun (w : World) (C : Array Value) (n c : Nat) => Lib.run_convert_bytes_const (P := Try.prog) w 27 5 C n c Try.underlying27 Try.underlying5
  have hNi : ¬ (5000 : Int) < N := by omega
  have hMi : ¬ (4096 : Int) < M := by omega
  have HB0 : Hid (BR (w.alloc (.cells #[.int .u8 116, .int .u8 32, .int .u8 48, .int .u8 32, .int .u8 97, .int .u8 10] 5 (6, 7))) w.heap.size (.slice (some ⟨w.heap.size, 0, none⟩) 6 6) (rds 0) ∧ Below w.heap.size w (w.alloc (.cells #[.int .u8 116, .int .u8 32, .int .u8 48, .int .u8 32, .int .u8 97, .int .u8 10] 5 (6, 7)))) := Lib.hid ⟨by
    have := br_const w w.heap.size (Nat.le_refl _) [116, 32, 48, 32, 97, 10] (by decide)
    have e : rds 0 = [116, 32, 48, 32, 97, 10] := by rw [rds, tl0]; rfl
    rw [e]; exact this, (Below.refl _ _).alloc (Nat.le_refl _) _⟩
  go_enter Try.func8, Try.ntmps8
  go_wp2_with fail
  clear kc
  go_loopw [5, 6] (fun v5 v6 wr => ∃ k : Nat, k ≤ N ∧ v6 = .int .i64 k ∧ Aside (BR wr w.heap.size v5 (rds k) ∧ Below w.heap.size w wr)) (fun _ v6 _ => N - (intOf v6).toNat)
  case atStart => exact ⟨0, by omega, rfl, HB0.out⟩
  case round =>
    clear HB0
    obtain ⟨k, hk, rfl, HJ⟩ := hrel
    by_cases hlt : k < N
    · have hlti : (k : Int) < N := by omega
      obtain ⟨hB, hbel⟩ := HJ.out
      have HS : Hid (bytesOf sR = r5) := Lib.hid rfl
      have hsz : (rds k).length + sR.size ≤ 140737488355328 := by rw [rds_len]; have : sR.size = 4 := rfl; omega
      have hbs := hbel.size
      go_wp2_with (at_builtin; refine wpl_bapp_str (w0 := w) w.heap.size rfl (.tmp 30) (.const (.string sR)) 27 9 5 rfl Try.underlying27 Try.underlying9 info_u8 _ (rds k) sR rfl rfl hB hbel hbs hsz ?_; intro A1 c1 w1 h1 h2 h3 h4; clear h3 h4; generalize (rds k ++ bytesOf sR).length = n1 at h1 ⊢)
      rw [HS.out] at h1
      go_roundw
      case rel => exact ⟨k + 1, by omega, by go_num, by rw [show rds (k + 1) = rds k ++ r5 from by unfold rds; rw [r5s_snoc, List.append_assoc]]; exact h1, h2⟩
      case measure => simp [intOf]; omega
    · have hlti : ¬ (k : Int) < N := by omega
      obtain rfl : N = k := by omega
      obtain ⟨hB, hbel⟩ := HJ.out
      obtain ⟨A1, c1, rfl, hc1⟩ := hB.slice
      have hlk := rds_len N
      obtain ⟨-, hc2, hC⟩ := br_C hB (by omega)
      have HD := Lib.hid (fun (h : List S42) (e x : Int) (hd : decP (rds N) M = (h, e, x)) => dec_at wr A1 (rds N) (rds N).length c1 M rfl hC hc2 (by unfold rds; exact fun y hy => (List.mem_append.1 hy).elim (tl_bytes 0 97 (.inl rfl) y) (r5s_bytes N y)) hd)
      have HBW := Lib.hid hbel
      have HR := Lib.hid (dec_rds N M hN hM)
      clear hB hC hc2 hc1 hbel HJ hlk
      generalize (rds N).length = L at *
      by_cases hNM : N ≤ M
      · obtain ⟨h, hd, ho⟩ := HR.out.1 hNM
        have hfew := dec_few (by omega) (by rw [rds_len]; omega) hd
        have HD1 := Lib.hid (HD.out _ _ _ hd)
        have HO := Lib.hid (fun (W : World) (B : Option Addr) (d : Nat) (hC : Kd.C k42 W B h.length h) (hd : h.length ≤ d) => ops_c W h B d hC hd (by unfold big; omega) (by unfold big; omega))
        rw [ho] at HO
        clear HD hd ho hfew HR
        have hNM1 : ¬ (M : Int) < N := by omega
        have hNM2 : (N : Int) ≤ M := by omega
        go_wp2_with fail
        refine HD1.out.mono ?_
        rintro r w2 ⟨B, d, rfl, hd1, hr1, hb1⟩
        have hz := Blk.new w2 [.slice B h.length d] 24
        have q0 := hz.cell 0
        simp only [List.getElem?_cons_zero] at q0
        have HO1 := Lib.hid (HO.out _ B d (Kd.C_alloc hr1 (.cells #[.slice B h.length d] 24)) hd1)
        have HB2 := Lib.hid (below_alloc (link HBW.out hb1) (.cells #[.slice B h.length d] 24))
        clear hz hd1 hr1 hb1 HO HD1
        go_wp2_with fail
        refine HO1.out.mono ?_
        rintro r w3 ⟨rfl, hb3⟩
        have HB3 := Lib.hid (link HB2.out hb3)
        clear hb3 q0 HO1
        go_wp2_with fail
        clear hNM1 hNM2 HBW
        try clear hlti
        go_loopw [10, 11] (fun v10 v11 wr => ∃ k : Nat, k ≤ N ∧ v11 = .int .i64 k ∧ Aside (BR wr w.heap.size v10 (tls 0 k) ∧ Below w.heap.size w wr)) (fun _ v11 _ => N - (intOf v11).toNat)
        case atStart => exact ⟨0, by omega, rfl, BR.nil _ _, HB3.out⟩
        case round =>
          clear HB2 HB3 hk hlt
          obtain ⟨k, hk, rfl, HJ⟩ := hrel
          by_cases hlt : k < N
          · have hlti : (k : Int) < N := by omega
            obtain ⟨hB, hbel⟩ := HJ.out
            have hbs := hbel.size
            have hlen := tls_len k 0 (by omega)
            have hsz1 : (tls 0 k).length + sT.size ≤ 140737488355328 := by have : sT.size = 2 := rfl; omega
            have HLEN := Lib.hid hlen
            clear hlen HJ
            go_wp2_with (first
              | (at_builtin; refine wpl_bapp_str (w0 := w) w.heap.size rfl (.tmp 77) (.const (.string sT)) 27 9 5 rfl Try.underlying27 Try.underlying9 info_u8 _ (tls 0 k) sT rfl rfl hB hbel hbs hsz1 ?_; intro A2 c2 w3 h1 h2 h3 h4; clear h3 h4; generalize (tls 0 k ++ bytesOf sT).length = n1 at h1 ⊢)
              | (at_builtin; refine wpl_bapp_row (w0 := w) w.heap.size rfl (.tmp 79) (.tmp 98) 27 5 rfl Try.underlying27 info_u8 _ _ (ys k) (some ⟨w3.heap.size, 0, none⟩) 4 4 rfl rfl rfl (h1.alloc _) (cells_lit w3 (ys k) _) (below_alloc h2 _) (Nat.le_trans h2.size (by rw [World.size_alloc]; omega)) (by rw [List.length_append, HLEN.out]; have : (bytesOf sT).length = 2 := rfl; have : (ys k).length = 4 := rfl; omega) ?_; intro A3 c3 w4 g1 g2 g3 g4; clear g3 g4; generalize (tls 0 k ++ bytesOf sT ++ ys k).length = n2 at g1 ⊢)
              | (at_builtin; refine wpl_bapp_str (w0 := w) w.heap.size rfl (.tmp 100) (.const (.string sC)) 27 9 5 rfl Try.underlying27 Try.underlying9 info_u8 _ _ sC rfl rfl g1 g2 g2.size (by rw [List.length_append, List.length_append, HLEN.out]; have : (bytesOf sT).length = 2 := rfl; have : (ys k).length = 4 := rfl; have : sC.size = 3 := rfl; omega) ?_; intro A4 c4 w5 e1 e2 e3 e4; clear e3 e4; generalize (tls 0 k ++ bytesOf sT ++ ys k ++ bytesOf sC).length = n3 at e1 ⊢))
            go_roundw
            case rel => exact ⟨k + 1, by omega, by go_num, by rw [tls_next (by omega)] at e1; exact e1, e2⟩
            case measure => simp [intOf]; omega
          · have hlti : ¬ (k : Int) < N := by omega
            obtain rfl : N = k := by omega
            obtain ⟨hB, hbel⟩ := HJ.out
            obtain ⟨A2, c2, rfl, hc2⟩ := hB.slice
            have hlk := tls_len N 0 (by omega)
            obtain ⟨-, hc3, hC⟩ := br_C hB (by omega)
            have HE := Lib.hid (fun (h : List S42) (e x : Int) (hd : decP (tls 0 N) M = (h, e, x)) => dec_at wr A2 (tls 0 N) (tls 0 N).length c2 M rfl hC hc3 (tls_bytes N 0) hd)
            have HBW2 := Lib.hid hbel
            have HT := Lib.hid (dec_tls N M hN hM)
            clear hB hC hc2 hc3 hbel HJ hlk
            generalize (tls 0 N).length = L2 at *
            by_cases hNT : N ≤ 1024
            · obtain ⟨g, hd, hg⟩ := HT.out.1 hNT
              have HE1 := Lib.hid (HE.out _ _ _ hd)
              rw [hg] at HE1
              clear HE hd hg HT
              have hNT1 : ¬ (1024 : Int) < N := by omega
              go_wp2_with fail
              refine HE1.out.mono ?_
              rintro r w6 ⟨B6, d6, rfl, -, -, hb6⟩
              have HB6 := Lib.hid (below_alloc (link HBW2.out hb6) (.cells #[.slice B6 N d6] 24))
              clear hb6
              go_wp2_with fail
              refine (works _).mono ?_
              rintro r w7 ⟨rfl, hb7⟩
              go_wp2
              go_ret
              exact ⟨rfl, link HB6.out hb7⟩
            · have hd := HT.out.2 (by omega)
              have HE1 := Lib.hid (HE.out _ _ _ hd)
              clear HE hd HT
              have hNT1 : (1024 : Int) < N := by omega
              go_wp2_with fail
              refine HE1.out.mono ?_
              rintro r w6 ⟨B6, d6, rfl, -, -, hb6⟩
              have HB6 := Lib.hid (below_alloc (link HBW2.out hb6) (.cells #[.slice B6 ([] : List S42).length d6] 24))
              clear hb6
              go_wp2_with fail
              refine (works _).mono ?_
              rintro r w7 ⟨rfl, hb7⟩
              go_wp2
              go_ret
              exact ⟨rfl, link HB6.out hb7⟩
      · have hMN : M < N := by omega
        have hd := HR.out.2 hMN
        have HD1 := Lib.hid (HD.out _ _ _ hd)
        clear HD hd HR
        have hNM1 : (M : Int) < N := by omega
        have hNM2 : ¬ (N : Int) ≤ M := by omega
        have hps : ((6 + 4 * M : Nat) : Int) = 6 + 4 * (M : Int) := by omega
        rw [hps] at HD1
        clear hps
        go_wp2_with fail
        refine HD1.out.mono ?_
        rintro r w2 ⟨B, d, rfl, hd1, hr1, hb1⟩
        have HB2 := Lib.hid (below_alloc (link HBW.out hb1) (.cells #[.slice B ([] : List S42).length d] 24))
        clear hd1 hr1 hb1 HD1
        go_wp2_with fail
        go_loopw [10, 11] (fun v10 v11 wr => ∃ k : Nat, k ≤ N ∧ v11 = .int .i64 k ∧ Aside (BR wr w.heap.size v10 (tls 0 k) ∧ Below w.heap.size w wr)) (fun _ v11 _ => N - (intOf v11).toNat)
        case atStart => exact ⟨0, by omega, rfl, BR.nil _ _, HB2.out⟩
        case round =>
          clear HB2 hk hlt
          obtain ⟨k, hk, rfl, HJ⟩ := hrel
          by_cases hlt : k < N
          · have hlti : (k : Int) < N := by omega
            obtain ⟨hB, hbel⟩ := HJ.out
            have hbs := hbel.size
            have hlen := tls_len k 0 (by omega)
            have hsz1 : (tls 0 k).length + sT.size ≤ 140737488355328 := by have : sT.size = 2 := rfl; omega
            have HLEN := Lib.hid hlen
            clear hlen HJ
            go_wp2_with (first
              | (at_builtin; refine wpl_bapp_str (w0 := w) w.heap.size rfl (.tmp 77) (.const (.string sT)) 27 9 5 rfl Try.underlying27 Try.underlying9 info_u8 _ (tls 0 k) sT rfl rfl hB hbel hbs hsz1 ?_; intro A2 c2 w3 h1 h2 h3 h4; clear h3 h4; generalize (tls 0 k ++ bytesOf sT).length = n1 at h1 ⊢)
              | (at_builtin; refine wpl_bapp_row (w0 := w) w.heap.size rfl (.tmp 79) (.tmp 98) 27 5 rfl Try.underlying27 info_u8 _ _ (ys k) (some ⟨w3.heap.size, 0, none⟩) 4 4 rfl rfl rfl (h1.alloc _) (cells_lit w3 (ys k) _) (below_alloc h2 _) (Nat.le_trans h2.size (by rw [World.size_alloc]; omega)) (by rw [List.length_append, HLEN.out]; have : (bytesOf sT).length = 2 := rfl; have : (ys k).length = 4 := rfl; omega) ?_; intro A3 c3 w4 g1 g2 g3 g4; clear g3 g4; generalize (tls 0 k ++ bytesOf sT ++ ys k).length = n2 at g1 ⊢)
              | (at_builtin; refine wpl_bapp_str (w0 := w) w.heap.size rfl (.tmp 100) (.const (.string sC)) 27 9 5 rfl Try.underlying27 Try.underlying9 info_u8 _ _ sC rfl rfl g1 g2 g2.size (by rw [List.length_append, List.length_append, HLEN.out]; have : (bytesOf sT).length = 2 := rfl; have : (ys k).length = 4 := rfl; have : sC.size = 3 := rfl; omega) ?_; intro A4 c4 w5 e1 e2 e3 e4; clear e3 e4; generalize (tls 0 k ++ bytesOf sT ++ ys k ++ bytesOf sC).length = n3 at e1 ⊢))
            go_roundw
            case rel => exact ⟨k + 1, by omega, by go_num, by rw [tls_next (by omega)] at e1; exact e1, e2⟩
            case measure => simp [intOf]; omega
          · have hlti : ¬ (k : Int) < N := by omega
            obtain rfl : N = k := by omega
            obtain ⟨hB, hbel⟩ := HJ.out
            obtain ⟨A2, c2, rfl, hc2⟩ := hB.slice
            have hlk := tls_len N 0 (by omega)
            obtain ⟨-, hc3, hC⟩ := br_C hB (by omega)
            have HE := Lib.hid (fun (h : List S42) (e x : Int) (hd : decP (tls 0 N) M = (h, e, x)) => dec_at wr A2 (tls 0 N) (tls 0 N).length c2 M rfl hC hc3 (tls_bytes N 0) hd)
            have HBW2 := Lib.hid hbel
            have HT := Lib.hid (dec_tls N M hN hM)
            clear hB hC hc2 hc3 hbel HJ hlk
            generalize (tls 0 N).length = L2 at *
            by_cases hNT : N ≤ 1024
            · obtain ⟨g, hd, hg⟩ := HT.out.1 hNT
              have HE1 := Lib.hid (HE.out _ _ _ hd)
              rw [hg] at HE1
              clear HE hd hg HT
              have hNT1 : ¬ (1024 : Int) < N := by omega
              go_wp2_with fail
              refine HE1.out.mono ?_
              rintro r w6 ⟨B6, d6, rfl, -, -, hb6⟩
              have HB6 := Lib.hid (below_alloc (link HBW2.out hb6) (.cells #[.slice B6 N d6] 24))
              clear hb6
              go_wp2_with fail
              refine (works _).mono ?_
              rintro r w7 ⟨rfl, hb7⟩
              go_wp2
              go_ret
              exact ⟨rfl, link HB6.out hb7⟩
            · have hd := HT.out.2 (by omega)
              have HE1 := Lib.hid (HE.out _ _ _ hd)
              clear HE hd HT
              have hNT1 : (1024 : Int) < N := by omega
              go_wp2_with fail
              refine HE1.out.mono ?_
              rintro r w6 ⟨B6, d6, rfl, -, -, hb6⟩
              have HB6 := Lib.hid (below_alloc (link HBW2.out hb6) (.cells #[.slice B6 ([] : List S42).length d6] 24))
              clear hb6
              go_wp2_with fail
              refine (works _).mono ?_
              rintro r w7 ⟨rfl, hb7⟩
              go_wp2
              go_ret
              exact ⟨rfl, link HB6.out hb7⟩
theorem walk_HistoryMost (w : World) (n : Int) (hn : (Lit.int .u16 n).wf = true) (m : Int) (hm : (Lit.int .u16 m).wf = true) :
    Calls Try.prog 8 #[.int .u16 n, .int .u16 m] w fun e w' => e = .returned (.bool true) ∧ Below w.heap.size w w' := by
  have hw : ∀ x : Int, (Lit.int .u16 x).wf = true → 0 ≤ x ∧ x ≤ 65535 := fun x hx => by
    simp only [Lit.wf, decide_eq_true_eq, Bool.and_eq_true] at hx
    have h2 : IntKind.u16.min = 0 := rfl
    have h3 : IntKind.u16.max = 65535 := rfl
    rw [h2, h3] at hx
    exact hx
  obtain ⟨N, rfl⟩ := Int.eq_ofNat_of_zero_le (hw n hn).1
  obtain ⟨M, rfl⟩ := Int.eq_ofNat_of_zero_le (hw m hm).1
  by_cases h : (5000 : Int) < N ∨ (4096 : Int) < M
  · exact most_much w N M h
  · exact most_main w N M (by omega) (by omega)
end Go.Proofs.Ytlcioegdmopppaa
