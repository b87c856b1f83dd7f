/- The walk of the law CursorSticks. -/
import Derived.Test.YtndciilmnnaemaaLawCursorPlays
import Derived.Test.YtndciilmnnaemaaCurDoB
set_option linter.unusedVariables false
set_option linter.unusedSimpArgs false
namespace Go.Proofs.Ytndciilmnnaemaa
open Go.RowKit Go.Proofs.YtndciilmnnaemaaW.PrintWords Cur

theorem fail_err {s : Cr} (h : s.e ≠ 0) (e a : Int) : fail s e a = s := by unfold fail; rw [if_neg (fun hh => h hh.1)]
theorem peek_err {l : List Int} {s : Cr} (h : s.e ≠ 0) : peek l s = (0, false) := by unfold peek; rw [if_neg (fun hh => h hh.1)]
theorem number_err {l : List Int} {s : Cr} (h : s.e ≠ 0) : number l s = (s, 0) := by unfold number; rw [if_neg h]
theorem nums_err {l : List Int} {s : Cr} (h : s.e ≠ 0) : nums_ l s = (s, []) := by unfold nums_; rw [if_neg h]
theorem byte_err {l : List Int} {s : Cr} (h : s.e ≠ 0) (y : Int) : byte l s y = s := by
  unfold byte
  rw [peek_err h, fail_err h]
  simp
theorem doit_err {l : List Int} {s : Cr} (h : s.e ≠ 0) (a : Ac) : doit l s a = s := by
  unfold doit
  rw [byte_err h, number_err h, nums_err h, fail_err h]
  simp
theorem failed (s : Cr) (a : Int) : (fail s 2 a).e ≠ 0 := by
  unfold fail
  by_cases h : s.e = 0
  · rw [if_pos ⟨h, by decide⟩]; simp
  · rw [if_neg (fun hh => h hh.1)]; exact h
/-- Between two acts: the cursor at b = w.heap.size, the reference's, which stands elsewhere, at D. -/
structure PlE (w W : World) (D : Nat) (A : Option Addr) (l : List Int) (c : Nat) (s t : Cr) : Prop where
  ok : Ok l s
  ok2 : Ok l t
  at_ : At W w.heap.size A l.length c s
  d : Blk W D (rcs A l.length c t) 69
  below : Below w.heap.size w W
theorem PlE.next {w wr W1 : World} {D : Nat} {A : Option Addr} {l : List Int} {c : Nat} {s t s' t' : Cr} (hP : PlE w wr D A l c s t) (hD : w.heap.size ≠ D) (hDl : w.heap.size ≤ D) (hok : Ok l s') (hok2 : Ok l t') (hat : At W1 w.heap.size A l.length c s') (hch : Chg (fun k => k = w.heap.size) wr.drew W1) :
    PlE w ((((W1.setCell ⟨D, 0, none⟩ (.slice A l.length c)).setCell ⟨D, 1, none⟩ (.int .i64 t'.p)).setCell ⟨D, 2, none⟩ (.int .i64 t'.e)).setCell ⟨D, 3, none⟩ (.int .i64 t'.x)) D A l c s' t' := by
  have hd : Blk wr.drew D (rcs A l.length c t) 69 := hP.d
  have hd1 := hd.chg hch (by omega)
  have hb : Below w.heap.size w wr.drew := hP.below.drew
  have hb1 := hb.trans (hch.below hb.size (fun i hi => by omega))
  exact ⟨hok, hok2, set4_at hat hD _ _ _ _, set4 hd1 _ _ _ _, below4 hb1 hDl _ _ _ _⟩
theorem PlE.drewN {w W : World} {D : Nat} {A : Option Addr} {l : List Int} {c : Nat} {s t : Cr} (h : PlE w W D A l c s t) (q : Nat) : PlE w (W.drewN q) D A l c s t := ⟨h.ok, h.ok2, At.drewN h.at_ q, h.d, pw_below_drewN h.below q⟩
theorem PlE.chg {w W W' : World} {D : Nat} {A : Option Addr} {l : List Int} {c : Nat} {s s' t : Cr} (h : PlE w W D A l c s t) (hD : w.heap.size ≠ D) (hok : Ok l s') (hat : At W' w.heap.size A l.length c s') (hch : Chg (fun k => k = w.heap.size) W W') : PlE w W' D A l c s' t :=
  ⟨hok, h.ok2, hat, h.d.chg hch (by omega), h.below.trans (hch.below h.below.size (fun i hi => by omega))⟩

set_option maxRecDepth 100000 in
set_option maxHeartbeats 4000000 in
theorem csticks_main (w : World) (A : Option Addr) (c : Nat) (l : List Int) (A2 : Option Addr) (c2 : Nat) (m : List Ac) (A3 : Option Addr) (c3 : Nat) (m3 : List Ac) (hr : Hid (Kd.C (Kd.int .u8) w A l.length l)) (hc : l.length ≤ c) (hB : Hid (Bytes l)) (hr2 : Hid (ReadsRow AcK 4 w A2 m.length m))
    (hr3 : Hid (ReadsRow AcK 4 w A3 m3.length m3)) (hl : l.length ≤ 300) (hm : m.length ≤ 60) (hm3 : m3.length ≤ 60) :
    Calls Try.prog 13 #[.slice A l.length c, .slice A2 m.length c2, .slice A3 m3.length c3] w fun e w' => e = .returned (.bool true) ∧ Below w.heap.size w w' := by
  go_enter Try.func13, Try.ntmps13
  go_wp2_with fail
  refine (new_calls _ _ _ _).mono ?_
  rintro r w1 ⟨rfl, h1, hb1⟩
  go_wp2_with fail
  have hD0 : PlE w (w1.alloc (.cells #[.slice A l.length c, .int .i64 0, .int .i64 0, .int .i64 0] 69)) w1.heap.size A l c ⟨0, 0, 0⟩ ⟨0, 0, 0⟩ :=
    ⟨⟨by simp, by simp⟩, ⟨by simp, by simp⟩, Blk.alloc h1 _, Blk.new w1 (rcs A l.length c ⟨0, 0, 0⟩) _, hb1.alloc hb1.size _⟩
  have hDb : w.heap.size ≠ w1.heap.size := by have := h1.lt; omega
  have hDl : w.heap.size ≤ w1.heap.size := hb1.size
  generalize (w1.alloc (.cells #[.slice A l.length c, .int .i64 0, .int .i64 0, .int .i64 0] 69)) = w2 at *
  generalize w1.heap.size = D at *
  clear h1 hb1
  go_loopw [9] (fun v9 wr => ∃ (k : Nat) (s t : Cr), k ≤ m.length ∧ v9 = .int .i64 k ∧ PlE w wr D A l c s t) (fun v9 _ => m.length - (intOf v9).toNat)
  case atStart => exact ⟨0, _, _, by omega, rfl, hD0⟩
  case round =>
    clear hD0
    obtain ⟨k, s, t, hk, rfl, hP⟩ := hrel
    by_cases hlt : k < m.length
    · obtain ⟨ad, rfl, e0, e1, e2, e3⟩ := ac_at hr2.out hlt
      replace e0 := pw_cell_below hP.below e0
      replace e1 := pw_cell_below hP.below e1
      replace e2 := pw_cell_below hP.below e2
      replace e3 := pw_cell_below hP.below e3
      have z0 : wr.drew.cell? (ad.add (k * 4)) = _ := e0
      have z1 : wr.drew.cell? ⟨(ad.add (k * 4)).block, (ad.add (k * 4)).off + 1, none⟩ = _ := e1
      have z2 : wr.drew.cell? ⟨(ad.add (k * 4)).block, (ad.add (k * 4)).off + 2, none⟩ = _ := e2
      have z3 : wr.drew.cell? ⟨(ad.add (k * 4)).block, (ad.add (k * 4)).off + 3, none⟩ = _ := e3
      have HD1 := Lib.hid (do_any w wr.drew w.heap.size A l c s t m[k] hP.at_ hr.out hP.below.drew (Nat.le_refl _) hc hB.out (by omega) hP.ok hP.ok2)
      obtain ⟨⟨x0, x1, x2, x3⟩, g0, g1, g2, g3⟩ := facts4 hP.d
      have y0 : wr.drew.cell? ⟨D, 0, none⟩ = _ := x0
      have y1 : wr.drew.cell? ⟨D, 1, none⟩ = _ := x1
      have y2 : wr.drew.cell? ⟨D, 2, none⟩ = _ := x2
      have y3 : wr.drew.cell? ⟨D, 3, none⟩ = _ := x3
      have hok := Lib.hid (ok_doit hP.ok m[k])
      have hok2 := Lib.hid (ok_doit hP.ok2 m[k])
      have HPd := Lib.hid (hP.d)
      have HP := Lib.hid hP
      clear hP
      unfold acs rc at HD1
      generalize doit l s m[k] = s' at *
      generalize doit l t m[k] = t' at *
      generalize m[k] = a at *
      have hlti : (k : Int) < m.length := by omega
      go_wp2
      go_region_with (go_at_call 44; (with_reducible refine HD1.out.mono ?_); rintro r W1 ⟨⟨bv, rfl⟩, hat, hch⟩; have hd1 := Blk.chg (w := wr.drew) HPd.out hch (by omega); obtain ⟨⟨j0, j1, j2, j3⟩, i0, i1, i2, i3⟩ := facts4 hd1)
      all_goals
        go_wp2
        go_roundw
        case rel => exact ⟨k + 1, s', t', by omega, by go_num, PlE.next HP.out hDb hDl hok.out hok2.out hat hch⟩
        case measure => simp [intOf]; omega
    · have hge : ¬ (k : Int) < m.length := by omega
      have HF := Lib.hid (fail_calls wr _ _ _ _ _ hP.at_ 2 5)
      have hne := failed s 5
      have hok := Lib.hid (ok_fail hP.ok 2 5)
      have HP := Lib.hid hP
      clear hP hr2
      go_wp2_with fail
      refine HF.out.mono ?_
      rintro r w3 ⟨rfl, hat, hch⟩
      have hP3 := PlE.chg HP.out hDb hok.out hat hch
      clear HP HF hok hat hch
      generalize fail s 2 5 = s1 at *
      have HE := Lib.hid (err_calls w3 _ _ _ _ _ _ _ hP3.at_)
      have HN := Lib.hid hne
      have hneb : (s1.e == 0) = false := by simp [hne]
      clear hne
      go_wp2_with fail
      refine HE.out.mono ?_
      rintro r w4 ⟨rfl, q, rfl⟩
      replace hP3 := hP3.drewN q
      generalize w3.drewN q = w4 at *
      have HA := Lib.hid (at_calls w4 _ _ _ _ _ _ _ hP3.at_)
      clear HE
      go_wp2_with fail
      refine HA.out.mono ?_
      rintro r w5 ⟨rfl, rfl⟩
      clear HA
      go_wp2_with fail
      go_loopw [13] (fun v13 wr => ∃ (k : Nat) (t : Cr), k ≤ m3.length ∧ v13 = .int .i64 k ∧ PlE w wr D A l c s1 t) (fun v13 _ => m3.length - (intOf v13).toNat)
      case atStart => exact ⟨0, _, by omega, rfl, hP3⟩
      case round =>
        rename_i wr
        clear hP3
        obtain ⟨k, t, hk, rfl, hP⟩ := hrel
        by_cases hlt : k < m3.length
        · obtain ⟨ad, rfl, e0, e1, e2, e3⟩ := ac_at hr3.out hlt
          replace e0 := pw_cell_below hP.below e0
          replace e1 := pw_cell_below hP.below e1
          replace e2 := pw_cell_below hP.below e2
          replace e3 := pw_cell_below hP.below e3
          have z0 : wr.drew.cell? (ad.add (k * 4)) = _ := e0
          have z1 : wr.drew.cell? ⟨(ad.add (k * 4)).block, (ad.add (k * 4)).off + 1, none⟩ = _ := e1
          have z2 : wr.drew.cell? ⟨(ad.add (k * 4)).block, (ad.add (k * 4)).off + 2, none⟩ = _ := e2
          have z3 : wr.drew.cell? ⟨(ad.add (k * 4)).block, (ad.add (k * 4)).off + 3, none⟩ = _ := e3
          have HD1 := Lib.hid (do_any w wr.drew w.heap.size A l c s1 t m3[k] hP.at_ hr.out hP.below.drew (Nat.le_refl _) hc hB.out (by omega) hP.ok hP.ok2)
          obtain ⟨⟨x0, x1, x2, x3⟩, g0, g1, g2, g3⟩ := facts4 hP.d
          have y0 : wr.drew.cell? ⟨D, 0, none⟩ = _ := x0
          have y1 : wr.drew.cell? ⟨D, 1, none⟩ = _ := x1
          have y2 : wr.drew.cell? ⟨D, 2, none⟩ = _ := x2
          have y3 : wr.drew.cell? ⟨D, 3, none⟩ = _ := x3
          have hok2 := Lib.hid (ok_doit hP.ok2 m3[k])
          have HPd := Lib.hid (hP.d)
          have HP := Lib.hid hP
          clear hP
          rw [doit_err HN.out] at HD1
          unfold acs rc at HD1
          generalize doit l t m3[k] = t' at *
          generalize m3[k] = a at *
          have hlti : (k : Int) < m3.length := by omega
          go_upto_region 18 with (fail)
          go_cut [] (fun wc => PlE w wc D A l c s1 t')
          case first =>
            go_region_with (go_at_call 44; ((with_reducible refine HD1.out.mono ?_); rintro r W1 ⟨⟨bv, rfl⟩, hat, hch⟩; have hd1 := Blk.chg (w := wr.drew) HPd.out hch (by omega); obtain ⟨⟨j0, j1, j2, j3⟩, i0, i1, i2, i3⟩ := facts4 hd1))
            all_goals
              go_wp2
              go_meet
              case rel => exact PlE.next HP.out hDb hDl HP.out.ok hok2.out hat hch
          case rest =>
            have hP := hcut
            clear hcut
            clear x0 x1 x2 x3 g0 g1 g2 g3 y0 y1 y2 y3 z0 z1 z2 z3 e0 e1 e2 e3 HPd HD1 hok2 HP
            have HE := Lib.hid (err_calls wc _ _ _ _ _ _ _ hP.at_)
            go_wp2_with fail
            refine HE.out.mono ?_
            rintro r w4 ⟨rfl, q, rfl⟩
            replace hP := hP.drewN q
            generalize wc.drewN q = w4 at *
            clear HE
            have HK := Lib.hid (peek_calls w4 _ A l c s1 hP.at_ (Kd.C_below hr.out hP.below) hP.ok.1)
            rw [peek_err HN.out] at HK
            go_wp2_with fail
            refine HK.out.mono ?_
            rintro r w5 ⟨rfl, q2, rfl⟩
            replace hP := hP.drewN q2
            generalize w4.drewN q2 = w5 at *
            clear HK
            have HA := Lib.hid (at_calls w5 _ _ _ _ _ _ _ hP.at_)
            go_wp2_with fail
            refine HA.out.mono ?_
            rintro r w6 ⟨rfl, rfl⟩
            clear HA
            have HM := Lib.hid (number_calls w5 _ A l c s1 hP.at_ (Kd.C_below hr.out hP.below) hc hB.out (by omega))
            rw [number_err HN.out] at HM
            go_wp2_with fail
            refine HM.out.mono ?_
            rintro r w6 ⟨rfl, hat, hch⟩
            replace hP := hP.chg hDb hP.ok hat hch
            clear HM hat hch
            have HL := Lib.hid (nums_calls w6 _ A l c s1 hP.at_ (Kd.C_below hr.out hP.below) hc hB.out (by omega))
            rw [nums_err HN.out] at HL
            go_wp2_with fail
            refine HL.out.mono ?_
            rintro r w7 ⟨⟨v, rfl, hR⟩, hat, hch⟩
            replace hP := hP.chg hDb hP.ok hat hch
            obtain ⟨AR, cR, rfl, hcR, _⟩ := Kd.R_reads hR
            clear HL hat hch hR
            go_wp2
            go_roundw
            case rel => exact ⟨k + 1, _, by omega, by go_num, hP⟩
            case measure => simp [intOf]; omega
        · have hge3 : ¬ (k : Int) < m3.length := by omega
          have hbw := Lib.hid hP.below
          clear hP
          go_wp2_with fail
          refine (works02 _).mono ?_
          rintro e w2 ⟨rfl, hb2⟩
          go_wp2
          go_ret
          exact ⟨rfl, hbw.out.trans (hb2.mono hbw.out.size)⟩
theorem opens_CursorSticks_1 (W : World) : Opens Try.prog W 65 (fun (l : List Ac) cs => ∃ A c, cs = [.slice A l.length c] ∧ l.length ≤ c ∧ ReadsRow AcK 4 W A l.length l) := opens_acs W
theorem opens_CursorSticks_2 (W : World) : Opens Try.prog W 65 (fun (l : List Ac) cs => ∃ A c, cs = [.slice A l.length c] ∧ l.length ≤ c ∧ ReadsRow AcK 4 W A l.length l) := opens_acs W
theorem walk_CursorSticks (w : World) (A : Option Addr) (c : Nat) (l : List Int) (hr : Kd.C (Kd.int .u8) w A l.length l) (hc : l.length ≤ c) (hb : ∀ x ∈ l, (Lit.int .u8 x).wf = true) (hs : l.length * 1 ≤ 140737488351232)
    (A2 : Option Addr) (c2 : Nat) (m : List Ac) (hr2 : ReadsRow AcK 4 w A2 m.length m) (hc2 : m.length ≤ c2) (A3 : Option Addr) (c3 : Nat) (m3 : List Ac) (hr3 : ReadsRow AcK 4 w A3 m3.length m3) (hc3 : m3.length ≤ c3) :
    Calls Try.prog 13 #[.slice A l.length c, .slice A2 m.length c2, .slice A3 m3.length c3] w fun e w' => e = .returned (.bool true) ∧ Below w.heap.size w w' := by
  by_cases h1 : l.length ≤ 300
  · by_cases h2 : m.length ≤ 60
    · by_cases h3 : m3.length ≤ 60
      · exact csticks_main w A c l A2 c2 m A3 c3 m3 (Lib.hid hr) hc (Lib.hid (bytes_of_wf hb)) (Lib.hid hr2) (Lib.hid hr3) h1 h2 h3
      · have hle : ¬ ((300 : Int) < l.length) := by omega
        have hle2 : ¬ ((60 : Int) < m.length) := by omega
        have hgt : ((60 : Int) < m3.length) := by omega
        clear hr hr2 hb hr3
        go_enter Try.func13, Try.ntmps13
        go_wp2_with fail
        refine (works02 _).mono ?_
        rintro e w2 ⟨rfl, hb2⟩
        go_wp2
        go_ret
        exact ⟨rfl, hb2⟩
    · have hle : ¬ ((300 : Int) < l.length) := by omega
      have hgt : ((60 : Int) < m.length) := by omega
      clear hr hr2 hb hr3
      go_enter Try.func13, Try.ntmps13
      go_wp2_with fail
      refine (works02 _).mono ?_
      rintro e w2 ⟨rfl, hb2⟩
      go_wp2
      go_ret
      exact ⟨rfl, hb2⟩
  · have hgt : ((300 : Int) < l.length) := by omega
    clear hr hr2 hb hr3
    go_enter Try.func13, Try.ntmps13
    go_wp2_with fail
    refine (works02 _).mono ?_
    rintro e w2 ⟨rfl, hb2⟩
    go_wp2
    go_ret
    exact ⟨rfl, hb2⟩
end Go.Proofs.Ytndciilmnnaemaa
