/- Law 02's do. -/
import Derived.Test.YtndciilmnnaemaaCurW
set_option linter.unusedVariables false
set_option linter.unusedSimpArgs false
namespace Go.Proofs.Ytndciilmnnaemaa
open Go.RowKit Go.Proofs.YtndciilmnnaemaaW.PrintWords
namespace Cur

/-- An act. -/
structure Ac where
  d : Int
  x : Int
  e : Int
  n : Int
def acs (a : Ac) : List Value := [.int .i64 a.d, .int .u8 a.x, .int .i64 a.e, .int .i64 a.n]
def doit (l : List Int) (s : Cr) (a : Ac) : Cr := if a.d = 0 then byte l s a.x else if a.d = 1 then (number l s).1 else if a.d = 2 then (nums_ l s).1 else if a.d = 3 then fail s a.e a.n else s
theorem ok_doit {l : List Int} {s : Cr} (h : Ok l s) (a : Ac) : Ok l (doit l s a) := by
  unfold doit
  split
  · exact ok_byte h _
  · split
    · exact ok_number h
    · split
      · exact ok_nums h
      · split
        · exact ok_fail h _ _
        · exact h

/-- What lies behind region 0 of do. -/
structure DoJ (wO w W : World) (b : Nat) (A : Option Addr) (n c : Nat) (s s' : Cr) (a : Ac) : Prop where
  at_ : At W b A n c s'
  old : Below wO.heap.size wO W
  chg : Chg (fun k => k = b) w W
  x : Blk W w.heap.size (rcs A n c s) 69
  a : Blk W (w.heap.size + 1) (acs a) 73
  y : Blk W (w.heap.size + 1 + 1) zc 69
  size : w.heap.size + 3 ≤ W.heap.size
theorem DoJ.chg_ {wO w W W' : World} {b : Nat} {A : Option Addr} {n c : Nat} {s s' s2 : Cr} {a : Ac} (h : DoJ wO w W b A n c s s' a) (hbO : wO.heap.size ≤ b) (hbw : b < w.heap.size) (hc : Chg (fun k => k = b) W W') (ha : At W' b A n c s2) : DoJ wO w W' b A n c s s2 a :=
  ⟨ha, h.old.trans (hc.below h.old.size fun i hi => by rw [hi]; exact hbO), h.chg.trans hc, h.x.chg hc (by omega), h.a.chg hc (by omega), h.y.chg hc (by omega), Nat.le_trans h.size hc.size⟩
theorem DoJ.below {wO w W W' : World} {b : Nat} {A : Option Addr} {n c : Nat} {s s' : Cr} {a : Ac} (h : DoJ wO w W b A n c s s' a) (hbw : b < w.heap.size) (hb : Below W.heap.size W W') : DoJ wO w W' b A n c s s' a :=
  ⟨Blk.below h.at_ hb h.at_.lt, h.old.trans (hb.mono h.old.size), h.chg.trans (Chg.of_below hb), h.x.below hb h.x.lt, h.a.below hb h.a.lt, h.y.below hb h.y.lt, Nat.le_trans h.size hb.size⟩
theorem DoJ.start {wO w : World} {b : Nat} {A : Option Addr} {n c : Nat} {s : Cr} (a : Ac) (h : At w b A n c s) (ho : Below wO.heap.size wO w) (hbw : b < w.heap.size) :
    DoJ wO w (((w.alloc (.cells #[.slice A n c, .int .i64 s.p, .int .i64 s.e, .int .i64 s.x] 69)).alloc (.cells #[.int .i64 a.d, .int .u8 a.x, .int .i64 a.e, .int .i64 a.n] 73)).alloc (.cells #[.slice none 0 0, .int .i64 0, .int .i64 0, .int .i64 0] 69)) b A n c s s a := by
  have hb := ((Below.refl w.heap.size w).alloc (Nat.le_refl _) (.cells #[.slice A n c, .int .i64 s.p, .int .i64 s.e, .int .i64 s.x] 69)).alloc (by simp) (.cells #[.int .i64 a.d, .int .u8 a.x, .int .i64 a.e, .int .i64 a.n] 73) |>.alloc (by simp; omega) (.cells #[.slice none 0 0, .int .i64 0, .int .i64 0, .int .i64 0] 69)
  refine ⟨Blk.below h hb hbw, ho.trans (hb.mono ho.size), Chg.of_below hb, ((Blk.new w (rcs A n c s) _).alloc _).alloc _, Blk.alloc (heap_alloc2_new w _ _) _, ?_, by simp⟩
  have := heap_alloc_new ((w.alloc (.cells #[.slice A n c, .int .i64 s.p, .int .i64 s.e, .int .i64 s.x] 69)).alloc (.cells #[.int .i64 a.d, .int .u8 a.x, .int .i64 a.e, .int .i64 a.n] 73)) (.cells #[.slice none 0 0, .int .i64 0, .int .i64 0, .int .i64 0] 69)
  rw [World.size_alloc, World.size_alloc] at this
  exact this
theorem DoJ.done {wO w W : World} {b : Nat} {A : Option Addr} {n c : Nat} {s s' : Cr} {a : Ac} (h : DoJ wO w W b A n c s s' a) (hbw : b < w.heap.size) (x0 x1 x2 x3 : Value) :
    At ((((W.setCell ⟨w.heap.size + 1 + 1, 0, none⟩ x0).setCell ⟨w.heap.size + 1 + 1, 1, none⟩ x1).setCell ⟨w.heap.size + 1 + 1, 2, none⟩ x2).setCell ⟨w.heap.size + 1 + 1, 3, none⟩ x3) b A n c s' ∧
      Chg (fun k => k = b) w ((((W.setCell ⟨w.heap.size + 1 + 1, 0, none⟩ x0).setCell ⟨w.heap.size + 1 + 1, 1, none⟩ x1).setCell ⟨w.heap.size + 1 + 1, 2, none⟩ x2).setCell ⟨w.heap.size + 1 + 1, 3, none⟩ x3) :=
  have hg : w.heap.size ≤ w.heap.size + 1 + 1 := by omega
  ⟨Blk.other (Blk.other (Blk.other (Blk.other h.at_ (by simp; omega) _) (by simp; omega) _) (by simp; omega) _) (by simp; omega) _, (((h.chg.set 0 (.inr hg) _).set 1 (.inr hg) _).set 2 (.inr hg) _).set 3 (.inr hg) _⟩

set_option maxRecDepth 100000 in
set_option maxHeartbeats 4000000 in
theorem do_calls (wO w : World) (b : Nat) (A : Option Addr) (l : List Int) (c : Nat) (s : Cr) (a : Ac) (h : At w b A l.length c s) (hC : Kd.C (Kd.int .u8) wO A l.length l) (ho : Below wO.heap.size wO w) (hbO : wO.heap.size ≤ b)
    (hc : l.length ≤ c) (hB : Bytes l) (hl : (l.length : Int) ≤ 300) (hok : Ok l s) :
    Calls Try.prog 44 #[.pointer (some ⟨b, 0, none⟩), rc A l.length c s, .agg (acs a).toArray] w fun r w' => r = .returned (.tuple #[rc A l.length c (doit l s a), .bool true]) ∧ At w' b A l.length c (doit l s a) ∧ Chg (fun k => k = b) w w' := by
  have hbw := h.lt
  have hJ := DoJ.start (wO := wO) a h ho hbw
  have HC := Lib.hid hC
  clear h hC ho
  unfold rc acs doit
  rcases a with ⟨d, x, e, m⟩
  simp only at *
  go_enter Try.func44, Try.ntmps44
  by_cases h0 : d = 0
  · subst h0
    simp only [if_true] at *
    go_wp2_with fail
    refine (byte_calls _ b A l c s hJ.at_ (Kd.C_below HC.out hJ.old) hok.1 (by omega) x).mono ?_
    rintro r W1 ⟨rfl, hat, hch⟩
    have hJ1 := hJ.chg_ hbO hbw hch hat
    obtain ⟨⟨x0, x1, x2, x3⟩, g0, g1, g2, g3⟩ := facts4 hJ1.x
    obtain ⟨⟨a0, a1, a2, a3⟩, _, _, _, _⟩ := facts4 hJ1.a
    obtain ⟨⟨y0, y1, y2, y3⟩, f0, f1, f2, f3⟩ := facts4 hJ1.y
    have HR := Lib.hid (rbyte_calls W1 A l c s (Kd.C_below HC.out hJ1.old) hok.1 (by omega) x)
    have HJ1 := Lib.hid hJ1
    clear hJ hJ1 hat hch
    unfold rc at HR
    go_wp2_with fail
    refine HR.out.mono ?_
    rintro r W2 ⟨rfl, hb2⟩
    have hJ2 := HJ1.out.below hbw hb2
    clear x0 x1 x2 x3 g0 g1 g2 g3 a0 a1 a2 a3 y0 y1 y2 y3 f0 f1 f2 f3
    obtain ⟨⟨y0, y1, y2, y3⟩, f0, f1, f2, f3⟩ := facts4 hJ2.y
    have HJ2 := Lib.hid hJ2
    clear hJ2 hb2 HR
    go_wp2
    exact bodyPost_ret (results_row_tmp rfl _ _ (w.heap.size + 1 + 1) _ _ (0, 0) _ rfl (set4 HJ2.out.y _ _ _ _) rfl Try.underlying69 (rc_info 0 _ rfl)) rfl ⟨rfl, HJ2.out.done hbw _ _ _ _⟩
  · have hd0 : (d == 0) = false := by simp [h0]
    by_cases h1 : d = 1
    · subst h1
      simp only [h0, if_true, if_false] at *
      go_wp2_with fail
      refine (number_calls _ b A l c s hJ.at_ (Kd.C_below HC.out hJ.old) hc hB (by omega)).mono ?_
      rintro r W1 ⟨rfl, hat, hch⟩
      have hJ1 := hJ.chg_ hbO hbw hch hat
      obtain ⟨⟨x0, x1, x2, x3⟩, g0, g1, g2, g3⟩ := facts4 hJ1.x
      have HR := Lib.hid (rnumber_calls W1 A l c s (Kd.C_below HC.out hJ1.old) hc (by omega))
      have HJ1 := Lib.hid hJ1
      clear hJ hJ1 hat hch
      unfold rc at HR
      generalize (number l s).2 = v at *
      go_wp2_with fail
      refine HR.out.mono ?_
      rintro r W2 ⟨rfl, hb2⟩
      have hJ2 := HJ1.out.below hbw hb2
      have hJ3 := fun o => hJ2.below hbw ((Below.refl W2.heap.size W2).alloc (Nat.le_refl _) o)
      have HJ3 := Lib.hid hJ3
      have y0 := fun o => (facts4 (hJ3 o).y).1.1
      have y1 := fun o => (facts4 (hJ3 o).y).1.2.1
      have y2 := fun o => (facts4 (hJ3 o).y).1.2.2.1
      have y3 := fun o => (facts4 (hJ3 o).y).1.2.2.2
      have f0 := fun o => (facts4 (hJ3 o).y).2.1
      have f1 := fun o => (facts4 (hJ3 o).y).2.2.1
      have f2 := fun o => (facts4 (hJ3 o).y).2.2.2.1
      have f3 := fun o => (facts4 (hJ3 o).y).2.2.2.2
      clear x0 x1 x2 x3 g0 g1 g2 g3 hJ2 hJ3 hb2 HR HJ1
      go_wp2
      exact bodyPost_ret (results_row_tmp rfl _ _ (w.heap.size + 1 + 1) _ _ (0, 0) _ rfl (set4 (HJ3.out _).y _ _ _ _) rfl Try.underlying69 (rc_info 0 _ rfl)) rfl ⟨rfl, (HJ3.out _).done hbw _ _ _ _⟩
    · have hd1 : (d == 1) = false := by simp [h1]
      by_cases h2 : d = 2
      · subst h2
        simp only [h0, h1, if_true, if_false] at *
        go_wp2_with fail
        refine (nums_calls _ b A l c s hJ.at_ (Kd.C_below HC.out hJ.old) hc hB (by omega)).mono ?_
        rintro r W1 ⟨⟨v1, rfl, hR1⟩, hat, hch⟩
        have hJ1 := hJ.chg_ hbO hbw hch hat
        obtain ⟨⟨x0, x1, x2, x3⟩, g0, g1, g2, g3⟩ := facts4 hJ1.x
        have HR := Lib.hid (rnums_calls W1 A l c s (Kd.C_below HC.out hJ1.old) hc (by omega))
        have HJ1 := Lib.hid hJ1
        have hsz0 := hJ.size
        replace hR1 := Kd.R_lower hR1 hsz0
        clear hJ hJ1 hat hch
        unfold rc at HR
        have hvl : ((nums_ l s).2.length : Int) ≤ 9223372036854775806 := by
          have := list_len l s.p (by omega)
          unfold nums_
          split
          · split
            · exact this
            · simp
          · simp
        generalize (nums_ l s).2 = v at *
        go_wp2_with fail
        refine HR.out.mono ?_
        rintro r W2 ⟨⟨v2, rfl, hR2⟩, hb2⟩
        replace hR2 := Kd.R_lower hR2 HJ1.out.size
        replace hR1 := Kd.R_below hR1 hb2
        have hJ2 := HJ1.out.below hbw hb2
        have hJ3 := fun o => hJ2.below hbw ((Below.refl W2.heap.size W2).alloc (Nat.le_refl _) o)
        have HJ3 := Lib.hid (fun o q => (hJ3 o).below hbw (pw_below_drewN (Below.refl (W2.alloc o).heap.size (W2.alloc o)) q))
        have y0 := fun o => (facts4 (hJ3 o).y).1.1
        have y1 := fun o => (facts4 (hJ3 o).y).1.2.1
        have y2 := fun o => (facts4 (hJ3 o).y).1.2.2.1
        have y3 := fun o => (facts4 (hJ3 o).y).1.2.2.2
        have f0 := fun o => (facts4 (hJ3 o).y).2.1
        have f1 := fun o => (facts4 (hJ3 o).y).2.2.1
        have f2 := fun o => (facts4 (hJ3 o).y).2.2.2.1
        have f3 := fun o => (facts4 (hJ3 o).y).2.2.2.2
        have z0 : ∀ o, (W2.alloc o).drew.cell? ⟨w.heap.size + 1 + 1, 0, none⟩ = some (.slice none 0 0) := y0
        have z1 : ∀ o, (W2.alloc o).drew.cell? ⟨w.heap.size + 1 + 1, 1, none⟩ = some (.int .i64 0) := y1
        have z2 : ∀ o, (W2.alloc o).drew.cell? ⟨w.heap.size + 1 + 1, 2, none⟩ = some (.int .i64 0) := y2
        have z3 : ∀ o, (W2.alloc o).drew.cell? ⟨w.heap.size + 1 + 1, 3, none⟩ = some (.int .i64 0) := y3
        have hR1a : ∀ o, Kd.R (Kd.int .i64) 3 (W2.alloc o) (w.heap.size + 3) (fun _ => True) v1 v := fun o => Kd.R_below hR1 ((Below.refl W2.heap.size W2).alloc (Nat.le_refl _) o)
        have hR2a : ∀ o, Kd.R (Kd.int .i64) 3 (W2.alloc o) (w.heap.size + 3) (fun _ => True) v2 v := fun o => Kd.R_below hR2 ((Below.refl W2.heap.size W2).alloc (Nat.le_refl _) o)
        have HS : Hid (∀ W, Kd.R (Kd.int .i64) 3 W (w.heap.size + 3) (fun _ => True) v1 v → Kd.R (Kd.int .i64) 3 W (w.heap.size + 3) (fun _ => True) v2 v → Calls Try.prog 24 #[v1, v2] W fun e w' => e = .returned (.bool true) ∧ ∃ q, w' = W.drewN q) := Lib.hid fun W k1 k2 => by
          obtain ⟨A1, c1, rfl, hc1, hC1⟩ := Kd.R_reads k1
          obtain ⟨A2, c2, rfl, hc2, hC2⟩ := Kd.R_reads k2
          have := same_calls v v A1 c1 A2 c2 W hC1 hc1 hC2 hc2 hvl
          rw [decide_eq_true rfl] at this
          exact this.mono fun e w' hh => ⟨hh.1, hh.2.out⟩
        have HRa : Hid (∀ o, Kd.R (Kd.int .i64) 3 (W2.alloc o).drew (w.heap.size + 3) (fun _ => True) v1 v) := Lib.hid fun o => Kd.R_below hR1 (((Below.refl W2.heap.size W2).alloc (Nat.le_refl _) o).drew)
        have HRb : Hid (∀ o, Kd.R (Kd.int .i64) 3 (W2.alloc o).drew (w.heap.size + 3) (fun _ => True) v2 v) := Lib.hid fun o => Kd.R_below hR2 (((Below.refl W2.heap.size W2).alloc (Nat.le_refl _) o).drew)
        have HRc : Hid (∀ o x0 x1 x2 x3, Calls Try.prog 24 #[v1, v2] (((((W2.alloc o).setCell ⟨w.heap.size + 1 + 1, 0, none⟩ x0).setCell ⟨w.heap.size + 1 + 1, 1, none⟩ x1).setCell ⟨w.heap.size + 1 + 1, 2, none⟩ x2).setCell ⟨w.heap.size + 1 + 1, 3, none⟩ x3).drew fun e w' => e = .returned (.bool true) ∧ ∃ q, w' = (((((W2.alloc o).setCell ⟨w.heap.size + 1 + 1, 0, none⟩ x0).setCell ⟨w.heap.size + 1 + 1, 1, none⟩ x1).setCell ⟨w.heap.size + 1 + 1, 2, none⟩ x2).setCell ⟨w.heap.size + 1 + 1, 3, none⟩ x3).drew.drewN q) :=
          Lib.hid fun o x0 x1 x2 x3 => HS.out _ (Kd.R_below (own_set4 (hR1a o) (by omega) x0 x1 x2 x3) ((Below.refl _ _).drew)) (Kd.R_below (own_set4 (hR2a o) (by omega) x0 x1 x2 x3) ((Below.refl _ _).drew))
        have HRd : Hid (∀ o, Calls Try.prog 24 #[v1, v2] (W2.alloc o).drew fun e w' => e = .returned (.bool true) ∧ ∃ q, w' = (W2.alloc o).drew.drewN q) := Lib.hid fun o => HS.out _ (HRa.out o) (HRb.out o)
        clear HRa HRb HS
        clear x0 x1 x2 x3 g0 g1 g2 g3 hJ2 hJ3 hb2 HR HJ1 hR1 hR2 hR1a hR2a hsz0
        go_wp2
        go_region_with (go_at_call 24; (first | with_reducible refine (HRd.out _).mono ?_ | with_reducible refine (HRc.out _ _ _ _ _).mono ?_); rintro r W4 ⟨rfl, q, rfl⟩)
        all_goals
          go_wp2
          exact bodyPost_ret (results_row_tmp rfl _ _ (w.heap.size + 1 + 1) _ _ (0, 0) _ rfl (set4 (HJ3.out _ _).y _ _ _ _) rfl Try.underlying69 (rc_info 0 _ rfl)) rfl ⟨rfl, (HJ3.out _ _).done hbw _ _ _ _⟩
      · have hd2 : (d == 2) = false := by simp [h2]
        by_cases h3 : d = 3
        · subst h3
          simp only [h0, h1, h2, if_true, if_false] at *
          go_wp2_with fail
          refine (fail_calls _ b A l.length c s hJ.at_ e m).mono ?_
          rintro r W1 ⟨rfl, hat, hch⟩
          have hJ1 := hJ.chg_ hbO hbw hch hat
          obtain ⟨⟨x0, x1, x2, x3⟩, g0, g1, g2, g3⟩ := facts4 hJ1.x
          obtain ⟨⟨a0, a1, a2, a3⟩, _, _, _, _⟩ := facts4 hJ1.a
          obtain ⟨⟨y0, y1, y2, y3⟩, f0, f1, f2, f3⟩ := facts4 hJ1.y
          have HR := Lib.hid (rfail_calls W1 A l.length c s e m)
          have HJ1 := Lib.hid hJ1
          clear hJ hJ1 hat hch
          unfold rc at HR
          go_wp2_with fail
          refine HR.out.mono ?_
          rintro r W2 ⟨rfl, hb2⟩
          have hJ2 := HJ1.out.below hbw hb2
          clear x0 x1 x2 x3 g0 g1 g2 g3 a0 a1 a2 a3 y0 y1 y2 y3 f0 f1 f2 f3
          obtain ⟨⟨y0, y1, y2, y3⟩, f0, f1, f2, f3⟩ := facts4 hJ2.y
          have HJ2 := Lib.hid hJ2
          clear hJ2 hb2 HR
          go_wp2
          exact bodyPost_ret (results_row_tmp rfl _ _ (w.heap.size + 1 + 1) _ _ (0, 0) _ rfl (set4 HJ2.out.y _ _ _ _) rfl Try.underlying69 (rc_info 0 _ rfl)) rfl ⟨rfl, HJ2.out.done hbw _ _ _ _⟩
        · have hd3 : (d == 3) = false := by simp [h3]
          simp only [h0, h1, h2, h3, if_true, if_false] at *
          go_wp2_with fail
          refine (peek_calls _ b A l c s hJ.at_ (Kd.C_below HC.out hJ.old) hok.1).mono ?_
          rintro r W1 ⟨rfl, q, hW1⟩
          have hJ1 : DoJ wO w W1 b A l.length c s s ⟨d, x, e, m⟩ := by
            rw [hW1]
            exact hJ.below hbw (pw_below_drewN (Below.refl _ _) q)
          clear hW1
          obtain ⟨⟨x0, x1, x2, x3⟩, g0, g1, g2, g3⟩ := facts4 hJ1.x
          have HR := Lib.hid (rpeek_calls W1 A l c s (Kd.C_below HC.out hJ1.old) hok.1)
          have HJ1 := Lib.hid hJ1
          clear hJ hJ1
          unfold rc at HR
          generalize (peek l s).1 = z at *
          generalize (peek l s).2 = ok at *
          go_wp2_with fail
          refine HR.out.mono ?_
          rintro r W2 ⟨rfl, hb2⟩
          have hJ2 := HJ1.out.below hbw hb2
          clear x0 x1 x2 x3 g0 g1 g2 g3
          obtain ⟨⟨x0, x1, x2, x3⟩, g0, g1, g2, g3⟩ := facts4 hJ2.x
          obtain ⟨⟨y0, y1, y2, y3⟩, f0, f1, f2, f3⟩ := facts4 hJ2.y
          have HJ2 := Lib.hid hJ2
          clear hJ2 hb2 HR
          go_wp2
          exact bodyPost_ret (results_row_tmp rfl _ _ (w.heap.size + 1 + 1) _ _ (0, 0) _ rfl (set4 HJ2.out.y _ _ _ _) rfl Try.underlying69 (rc_info 0 _ rfl)) rfl ⟨rfl, HJ2.out.done hbw _ _ _ _⟩
end Cur
end Go.Proofs.Ytndciilmnnaemaa
