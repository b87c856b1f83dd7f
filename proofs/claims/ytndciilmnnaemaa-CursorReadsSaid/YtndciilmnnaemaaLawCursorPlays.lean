/- The walk of the law CursorPlays. -/
import Derived.Test.YtndciilmnnaemaaCurDo
import Derived.Test.YtndciilmnnaemaaOpenB
import Derived.Test.YtndciilmnnaemaaLawDigits
set_option linter.unusedVariables false
set_option linter.unusedSimpArgs false
namespace Go.Proofs.Ytndciilmnnaemaa
open Go.RowKit Go.Proofs.YtndciilmnnaemaaW.PrintWords Cur

/-- An act lies in four cells. -/
def AcK (x : Ac) (cs : List Value) : Prop := cs = acs x
theorem ac_at {w : World} {A : Option Addr} {l : List Ac} {k : Nat} (h : ReadsRow AcK 4 w A l.length l) (hk : k < l.length) : ∃ ad, A = some ad ∧ w.cell? (ad.add (k * 4)) = some (.int .i64 l[k].d) ∧ w.cell? ⟨(ad.add (k * 4)).block, (ad.add (k * 4)).off + 1, none⟩ = some (.int .u8 l[k].x) ∧
    w.cell? ⟨(ad.add (k * 4)).block, (ad.add (k * 4)).off + 2, none⟩ = some (.int .i64 l[k].e) ∧ w.cell? ⟨(ad.add (k * 4)).block, (ad.add (k * 4)).off + 3, none⟩ = some (.int .i64 l[k].n) := by
  obtain ⟨ad, c, e, _, hR, hc⟩ := ReadsRow.get_ h ⟨0, 0, 0, 0⟩ (k : Int) (by omega) (by omega)
  rw [Int.toNat_natCast, List.getD_eq_getElem?_getD, List.getElem?_eq_getElem hk, Option.getD_some] at hR
  rw [Int.toNat_natCast] at hc
  unfold AcK at hR
  subst hR
  have h1 := hc 1 _ rfl
  have h2 := hc 2 _ rfl
  have h3 := hc 3 _ rfl
  rw [← Go.Deep.add_add] at h1 h2 h3
  exact ⟨ad, e, hc 0 _ rfl, h1, h2, h3⟩

/-- Between two acts: the cursor at b = w.heap.size, the reference's at D. -/
structure PlC (w W : World) (D : Nat) (A : Option Addr) (l : List Int) (c : Nat) (s : Cr) : Prop where
  ok : Ok l s
  at_ : At W w.heap.size A l.length c s
  d : Blk W D (rcs A l.length c s) 69
  below : Below w.heap.size w W
theorem set4_at {w : World} {b g : Nat} {A : Option Addr} {n c : Nat} {s : Cr} (h : At w b A n c s) (hg : b ≠ g) (x0 x1 x2 x3 : Value) : At ((((w.setCell ⟨g, 0, none⟩ x0).setCell ⟨g, 1, none⟩ x1).setCell ⟨g, 2, none⟩ x2).setCell ⟨g, 3, none⟩ x3) b A n c s :=
  Blk.other (Blk.other (Blk.other (Blk.other h hg _) hg _) hg _) hg _

/-- Behind an act: the reference's new cursor at G, pointed to by v. -/
def CutC (w W : World) (D : Nat) (A : Option Addr) (l : List Int) (c : Nat) (s s' : Cr) (v : Value) : Prop :=
  ∃ G, v = .pointer (some ⟨G, 0, none⟩) ∧ G ≠ D ∧ G ≠ w.heap.size ∧ At W w.heap.size A l.length c s' ∧ Blk W D (rcs A l.length c s) 69 ∧ Blk W G (rcs A l.length c s') 69 ∧ Below w.heap.size w W
abbrev zobj : Obj := .cells #[.slice none 0 0, .int .i64 0, .int .i64 0, .int .i64 0] 69
theorem play_a {w wr W1 : World} {D : Nat} {A : Option Addr} {l : List Int} {c : Nat} {s s' : Cr} (hP : PlC w wr D A l c s) (hD : w.heap.size ≠ D) (hat : At W1 w.heap.size A l.length c s') (hch : Chg (fun k => k = w.heap.size) wr.drew W1) :
    CutC w (W1.alloc (.cells #[.slice A l.length c, .int .i64 s'.p, .int .i64 s'.e, .int .i64 s'.x] 69)) D A l c s s' (.pointer (some ⟨W1.heap.size, 0, none⟩)) := by
  have hd : Blk wr.drew D (rcs A l.length c s) 69 := hP.d
  have hd1 := hd.chg hch (by omega)
  have h1 := hd1.lt
  have h2 := hat.lt
  have hb : Below w.heap.size w wr.drew := hP.below.drew
  have hb1 := hb.trans (hch.below hb.size (fun i hi => by omega))
  exact ⟨_, rfl, by omega, by omega, Blk.alloc hat _, hd1.alloc _, Blk.new W1 (rcs A l.length c s') _, hb1.alloc hb1.size _⟩
theorem play_b {w wr W1 : World} {D : Nat} {A : Option Addr} {l : List Int} {c : Nat} {s s' : Cr} (hP : PlC w wr D A l c s) (hD : w.heap.size ≠ D) (hat : At W1 w.heap.size A l.length c s') (hch : Chg (fun k => k = w.heap.size) (wr.alloc zobj).drew W1) :
    CutC w ((((W1.setCell ⟨wr.heap.size, 0, none⟩ (.slice A l.length c)).setCell ⟨wr.heap.size, 1, none⟩ (.int .i64 s'.p)).setCell ⟨wr.heap.size, 2, none⟩ (.int .i64 s'.e)).setCell ⟨wr.heap.size, 3, none⟩ (.int .i64 s'.x)) D A l c s s' (.pointer (some ⟨wr.heap.size, 0, none⟩)) := by
  have hd : Blk (wr.alloc zobj).drew D (rcs A l.length c s) 69 := Blk.alloc hP.d _
  have hd1 := hd.chg hch (by omega)
  have h1 := hP.d.lt
  have h2 := hP.at_.lt
  have hz : Blk (wr.alloc zobj).drew wr.heap.size zc 69 := Blk.new wr zc _
  have hz1 := hz.chg hch (by omega)
  have hb : Below w.heap.size w (wr.alloc zobj).drew := (hP.below.alloc hP.below.size _).drew
  have hb1 := hb.trans (hch.below hb.size (fun i hi => by omega))
  exact ⟨_, rfl, by omega, by omega, set4_at hat (by omega) _ _ _ _, Blk.other (Blk.other (Blk.other (Blk.other hd1 (by simp; omega) _) (by simp; omega) _) (by simp; omega) _) (by simp; omega) _, set4 hz1 _ _ _ _, below4 hb1 (by omega) _ _ _ _⟩

set_option maxRecDepth 100000 in
set_option maxHeartbeats 4000000 in
theorem cplays_main (w : World) (A : Option Addr) (c : Nat) (l : List Int) (A2 : Option Addr) (c2 : Nat) (m : List Ac) (hr : Hid (Kd.C (Kd.int .u8) w A l.length l)) (hc : l.length ≤ c) (hB : Hid (Bytes l)) (hr2 : Hid (ReadsRow AcK 4 w A2 m.length m)) (hl : l.length ≤ 300) (hm : m.length ≤ 60) :
    Calls Try.prog 12 #[.slice A l.length c, .slice A2 m.length c2] w fun e w' => e = .returned (.bool true) ∧ Below w.heap.size w w' := by
  go_enter Try.func12, Try.ntmps12
  go_wp2_with fail
  refine (new_calls _ _ _ _).mono ?_
  rintro r w1 ⟨rfl, h1, hb1⟩
  go_wp2_with fail
  have hD0 : PlC w (w1.alloc (.cells #[.slice A l.length c, .int .i64 0, .int .i64 0, .int .i64 0] 69)) w1.heap.size A l c ⟨0, 0, 0⟩ :=
    ⟨⟨by simp, by simp⟩, Blk.alloc h1 _, Blk.new w1 (rcs A l.length c ⟨0, 0, 0⟩) _, hb1.alloc hb1.size _⟩
  have hDb : w.heap.size ≠ w1.heap.size := by have := h1.lt; omega
  have hDl : w.heap.size ≤ w1.heap.size := hb1.size
  generalize (w1.alloc (.cells #[.slice A l.length c, .int .i64 0, .int .i64 0, .int .i64 0] 69)) = w2 at *
  generalize w1.heap.size = D at *
  clear h1 hb1
  go_loopw [7] (fun v7 wr => ∃ (k : Nat) (s : Cr), k ≤ m.length ∧ v7 = .int .i64 k ∧ PlC w wr D A l c s) (fun v7 _ => m.length - (intOf v7).toNat)
  case atStart => exact ⟨0, _, by omega, rfl, hD0⟩
  case round =>
    clear hD0
    obtain ⟨k, s, hk, rfl, hP⟩ := hrel
    by_cases hlt : k < m.length
    · obtain ⟨ad, rfl, e0, e1, e2, e3⟩ := ac_at hr2.out hlt
      replace e0 := pw_cell_below hP.below e0
      replace e1 := pw_cell_below hP.below e1
      replace e2 := pw_cell_below hP.below e2
      replace e3 := pw_cell_below hP.below e3
      have z0 : wr.drew.cell? (ad.add (k * 4)) = _ := e0
      have z1 : wr.drew.cell? ⟨(ad.add (k * 4)).block, (ad.add (k * 4)).off + 1, none⟩ = _ := e1
      have z2 : wr.drew.cell? ⟨(ad.add (k * 4)).block, (ad.add (k * 4)).off + 2, none⟩ = _ := e2
      have z3 : wr.drew.cell? ⟨(ad.add (k * 4)).block, (ad.add (k * 4)).off + 3, none⟩ = _ := e3
      have hdo := fun W (ha : At W w.heap.size A l.length c s) (hb : Below w.heap.size w W) => do_calls w W w.heap.size A l c s m[k] ha hr.out hb (Nat.le_refl _) hc hB.out (by omega) hP.ok
      have ha1 : At wr.drew w.heap.size A l.length c s := hP.at_
      have hb1 : Below w.heap.size w wr.drew := hP.below.drew
      have ha2 : At (wr.alloc (.cells #[.slice none 0 0, .int .i64 0, .int .i64 0, .int .i64 0] 69)).drew w.heap.size A l.length c s := Blk.alloc hP.at_ _
      have hb2 : Below w.heap.size w (wr.alloc (.cells #[.slice none 0 0, .int .i64 0, .int .i64 0, .int .i64 0] 69)).drew := (hP.below.alloc hP.below.size _).drew
      have hz2 : Blk (wr.alloc (.cells #[.slice none 0 0, .int .i64 0, .int .i64 0, .int .i64 0] 69)).drew wr.heap.size zc 69 := Blk.new wr zc _
      have hwl : w.heap.size < wr.heap.size := hP.at_.lt
      have HZ := Lib.hid hz2
      clear hz2
      obtain ⟨⟨x0, x1, x2, x3⟩, g0, g1, g2, g3⟩ := facts4 hP.d
      have y0 : wr.drew.cell? ⟨D, 0, none⟩ = _ := x0
      have y1 : wr.drew.cell? ⟨D, 1, none⟩ = _ := x1
      have y2 : wr.drew.cell? ⟨D, 2, none⟩ = _ := x2
      have y3 : wr.drew.cell? ⟨D, 3, none⟩ = _ := x3
      have hbz := ((Below.refl wr.heap.size wr).alloc (Nat.le_refl _) (.cells #[.slice none 0 0, .int .i64 0, .int .i64 0, .int .i64 0] 69)).drew
      have v0 := pw_cell_below hbz e0
      have v1 := pw_cell_below hbz e1
      have v2 := pw_cell_below hbz e2
      have v3 := pw_cell_below hbz e3
      have t0 := pw_cell_below hbz x0
      have t1 := pw_cell_below hbz x1
      have t2 := pw_cell_below hbz x2
      have t3 := pw_cell_below hbz x3
      clear hbz
      have hok := ok_doit hP.ok m[k]
      have HDO := Lib.hid hdo
      have HP := Lib.hid hP
      clear hdo hP
      have HD1 := Lib.hid (HDO.out _ ha1 hb1)
      have HD2 := Lib.hid (HDO.out _ ha2 hb2)
      clear HDO ha1 hb1 ha2 hb2
      unfold acs rc at HD1 HD2
      generalize doit l s m[k] = s' at *
      generalize m[k] = a at *
      have hlti : (k : Int) < m.length := by omega
      have HOK := Lib.hid hok
      have HPd := Lib.hid (HP.out.d)
      have hDr : D < wr.heap.size := HP.out.d.lt
      go_upto_region 8 with (fail)
      go_cut [8, 9] (fun v8 v9 wc => v9 = .bool true ∧ CutC w wc D A l c s s' v8)
      case first =>
        go_region_with (go_at_call 44; first | (with_reducible refine HD1.out.mono ?_; rintro r W1 ⟨rfl, hat, hch⟩) | (with_reducible refine HD2.out.mono ?_; rintro r W1 ⟨rfl, hat, hch⟩; have hz3 := Blk.chg HZ.out hch (by omega); obtain ⟨⟨j0, j1, j2, j3⟩, i0, i1, i2, i3⟩ := facts4 hz3))
        all_goals
          go_wp2
          go_meet
          case rel =>
            first
              | with_reducible exact ⟨rfl, play_a HP.out hDb hat hch⟩
              | with_reducible exact ⟨rfl, play_b HP.out hDb hat hch⟩
      case rest =>
        obtain ⟨rfl, G, rfl, hGD, hGc, hat, hd, hg, hb⟩ := hcut
        clear x0 x1 x2 x3 g0 g1 g2 g3 y0 y1 y2 y3 z0 z1 z2 z3 v0 v1 v2 v3 t0 t1 t2 t3 e0 e1 e2 e3 HZ HD1 HD2
        obtain ⟨⟨x0, x1, x2, x3⟩, g0, g1, g2, g3⟩ := facts4 hg
        obtain ⟨⟨y0, y1, y2, y3⟩, f0, f1, f2, f3⟩ := facts4 hd
        have hd2 := set4 hd (.slice A l.length c) (.int .i64 s'.p) (.int .i64 s'.e) (.int .i64 s'.x)
        have hat2 := set4_at hat (g := D) (by omega) (.slice A l.length c) (.int .i64 s'.p) (.int .i64 s'.e) (.int .i64 s'.x)
        have hb2 := below4 hb hDl (.slice A l.length c) (.int .i64 s'.p) (.int .i64 s'.e) (.int .i64 s'.x)
        have HE := Lib.hid (err_calls _ _ _ _ _ _ _ _ hat2)
        have hfin : Hid (∀ q, PlC w (((((wc.setCell ⟨D, 0, none⟩ (.slice A l.length c)).setCell ⟨D, 1, none⟩ (.int .i64 s'.p)).setCell ⟨D, 2, none⟩ (.int .i64 s'.e)).setCell ⟨D, 3, none⟩ (.int .i64 s'.x)).drewN q) D A l c s') := Lib.hid fun q => ⟨hok, At.drewN hat2 q, hd2, pw_below_drewN hb2 q⟩
        clear hat hd hg hb hok hd2 hat2 hb2
        go_wp2_with fail
        refine HE.out.mono ?_
        rintro r w3 ⟨rfl, q, rfl⟩
        have hP3 := hfin.out q
        generalize (((((wc.setCell ⟨D, 0, none⟩ (.slice A l.length c)).setCell ⟨D, 1, none⟩ (.int .i64 s'.p)).setCell ⟨D, 2, none⟩ (.int .i64 s'.e)).setCell ⟨D, 3, none⟩ (.int .i64 s'.x)).drewN q) = w3 at *
        clear x0 x1 x2 x3 g0 g1 g2 g3 y0 y1 y2 y3 f0 f1 f2 f3 hfin HE
        obtain ⟨⟨y0, y1, y2, y3⟩, _, _, _, _⟩ := facts4 hP3.d
        have HA := Lib.hid (fun q => at_calls (w3.drewN q) _ _ _ _ _ _ _ (At.drewN hP3.at_ q))
        have HF := Lib.hid (fun q => (⟨hP3.ok, At.drewN hP3.at_ q, hP3.d, pw_below_drewN hP3.below q⟩ : PlC w (w3.drewN q) D A l c s'))
        clear hP3
        go_wp2
        go_quiet ((go_at_call 46; exact Calls.quiet_of_same ((HA.out _).mono fun _ _ h => ⟨h.1, h.2.symm⟩)))
        go_wp2
        go_roundw
        case rel => exact ⟨k + 1, _, by omega, by go_num, HF.out _⟩
        case measure => simp [intOf]; omega
    · have hbw := Lib.hid hP.below
      have hge : ¬ (k : Int) < m.length := by omega
      clear hP
      go_wp2_with fail
      refine (works02 _).mono ?_
      rintro e w2 ⟨rfl, hb2⟩
      go_wp2
      go_ret
      exact ⟨rfl, hbw.out.trans (hb2.mono hbw.out.size)⟩

theorem opens_ac (W : World) : Opens Try.prog W 73 AcK := by
  refine Opens.imp (opens_row (p := fun i v => match i with | 0 => ∃ n : Int, v = .int .i64 n ∧ (Lit.int .i64 n).wf = true | 1 => ∃ n : Int, v = .int .u8 n ∧ (Lit.int .u8 n).wf = true | _ => ∃ n : Int, v = .int .i64 n ∧ (Lit.int .i64 n).wf = true)
    Try.underlying73 (by kernel_rfl) (four rfl ⟨rfl, by kernel_rfl⟩ ⟨rfl, by kernel_rfl⟩ ⟨rfl, by kernel_rfl⟩ ⟨rfl, by kernel_rfl⟩)
    (four rfl (cells_int Try.underlying3) (cells_int Try.underlying5) (cells_int Try.underlying3) (cells_int Try.underlying3))) ?_
  rintro _ cs ⟨hl, hp⟩
  obtain ⟨a, b, c, d, rfl⟩ := list4 hl
  obtain ⟨x0, rfl, _⟩ := hp 0 _ rfl
  obtain ⟨x1, rfl, _⟩ := hp 1 _ rfl
  obtain ⟨x2, rfl, _⟩ := hp 2 _ rfl
  obtain ⟨x3, rfl, _⟩ := hp 3 _ rfl
  exact ⟨⟨x0, x1, x2, x3⟩, rfl⟩
/-- What comes in as a list of acts. -/
theorem opens_acs (W : World) : Opens Try.prog W 65 (fun (l : List Ac) cs => ∃ A c, cs = [.slice A l.length c] ∧ l.length ≤ c ∧ ReadsRow AcK 4 W A l.length l) :=
  opens_slice Try.underlying65 (by kernel_rfl) (opens_ac W)
theorem opens_CursorPlays_1 (W : World) : Opens Try.prog W 65 (fun (l : List Ac) cs => ∃ A c, cs = [.slice A l.length c] ∧ l.length ≤ c ∧ ReadsRow AcK 4 W A l.length l) := opens_acs W
theorem walk_CursorPlays (w : World) (A : Option Addr) (c : Nat) (l : List Int) (hr : Kd.C (Kd.int .u8) w A l.length l) (hc : l.length ≤ c) (hb : ∀ x ∈ l, (Lit.int .u8 x).wf = true) (hs : l.length * 1 ≤ 140737488351232)
    (A2 : Option Addr) (c2 : Nat) (m : List Ac) (hr2 : ReadsRow AcK 4 w A2 m.length m) (hc2 : m.length ≤ c2) :
    Calls Try.prog 12 #[.slice A l.length c, .slice A2 m.length c2] w fun e w' => e = .returned (.bool true) ∧ Below w.heap.size w w' := by
  by_cases h1 : l.length ≤ 300
  · by_cases h2 : m.length ≤ 60
    · exact cplays_main w A c l A2 c2 m (Lib.hid hr) hc (Lib.hid (bytes_of_wf hb)) (Lib.hid hr2) h1 h2
    · have hle : ¬ ((300 : Int) < l.length) := by omega
      have hgt : ((60 : Int) < m.length) := by omega
      clear hr hr2 hb
      go_enter Try.func12, Try.ntmps12
      go_wp2_with fail
      refine (works02 _).mono ?_
      rintro e w2 ⟨rfl, hb2⟩
      go_wp2
      go_ret
      exact ⟨rfl, hb2⟩
  · have hgt : ((300 : Int) < l.length) := by omega
    clear hr hr2 hb
    go_enter Try.func12, Try.ntmps12
    go_wp2_with fail
    refine (works02 _).mono ?_
    rintro e w2 ⟨rfl, hb2⟩
    go_wp2
    go_ret
    exact ⟨rfl, hb2⟩
end Go.Proofs.Ytndciilmnnaemaa
