/- The contracts of cursor: what changes it. -/
import Derived.Test.YtndciilmnnaemaaCur
set_option linter.unusedVariables false
set_option linter.unusedSimpArgs false
namespace Go.Proofs.Ytndciilmnnaemaa
open Go.RowKit Go.Proofs.YtndciilmnnaemaaW.PrintWords
namespace Cur

set_option maxHeartbeats 1000000 in
theorem fail_calls (w : World) (b : Nat) (A : Option Addr) (n c : Nat) (s : Cr) (h : At w b A n c s) (e a : Int) :
    Calls Try.prog 47 #[.pointer (some ⟨b, 0, none⟩), .int .i64 e, .int .i64 a] w fun r w' => r = .returned (.tuple #[]) ∧ At w' b A n c (fail s e a) ∧ Chg (fun k => k = b) w w' := by
  have HI := Lib.hid (goes_calls w b A n c s.p s.e s.x h)
  by_cases he : s.e = 0 ∧ e ≠ 0
  · have hb : (s.e == 0) = true := by simp [he.1]
    have hne : (e != 0) = true := by simp [he.2]
    rw [hb] at HI
    have q3 := Blk.cell h 3
    have q4 := Blk.cell h 4
    have f3 := Blk.free h 3
    have f4 := Blk.free h 4
    simp only [cells, List.getElem?_cons_zero, List.getElem?_cons_succ] at q3 q4
    have hfin : At ((w.setCell ⟨b, 3, none⟩ (.int .i64 e)).setCell ⟨b, 4, none⟩ (.int .i64 a)) b A n c (fail s e a) ∧ Chg (fun k => k = b) w ((w.setCell ⟨b, 3, none⟩ (.int .i64 e)).setCell ⟨b, 4, none⟩ (.int .i64 a)) := by
      unfold fail
      rw [if_pos he]
      exact ⟨(Blk.set h 3 _).set 4 _, Chg.set (S := fun k => k = b) (Chg.set (S := fun k => k = b) (Chg.refl _ w) 3 (.inl rfl) _) 4 (.inl rfl) _⟩
    have HF := Lib.hid hfin
    clear h he hb hfin
    go_enter Try.func47, Try.ntmps47
    go_wp2_with (go_at_call 93; refine HI.out.mono ?_; rintro r w' ⟨rfl, rfl⟩)
    go_end0
    exact ⟨rfl, HF.out⟩
  · unfold fail
    rw [if_neg he]
    by_cases h0 : s.e = 0
    · have h1 : e = 0 := Classical.byContradiction fun h1 => he ⟨h0, h1⟩
      subst h1
      have hb : (s.e == 0) = true := by simp [h0]
      rw [hb] at HI
      have H := Lib.hid h
      clear h he h0 hb
      go_enter Try.func47, Try.ntmps47
      go_wp2_with (go_at_call 93; refine HI.out.mono ?_; rintro r w' ⟨rfl, rfl⟩)
      go_end0
      exact ⟨rfl, H.out, Chg.refl _ _⟩
    · have hb : (s.e == 0) = false := by simp [h0]
      rw [hb] at HI
      have H := Lib.hid h
      clear h he h0 hb
      go_enter Try.func47, Try.ntmps47
      go_wp2_with (go_at_call 93; refine HI.out.mono ?_; rintro r w' ⟨rfl, rfl⟩)
      go_end0
      exact ⟨rfl, H.out, Chg.refl _ _⟩
theorem At.drewN {w : World} {b : Nat} {A : Option Addr} {n c : Nat} {s : Cr} (h : At w b A n c s) (q : Nat) : At (w.drewN q) b A n c s := h
theorem chgN {w w' : World} {S : Nat → Prop} {q : Nat} (h : Chg S (w.drewN q) w') : Chg S w w' := ⟨h.os, h.tape, h.output, h.size, h.block⟩

set_option maxHeartbeats 1000000 in
theorem byte_calls (w : World) (b : Nat) (A : Option Addr) (l : List Int) (c : Nat) (s : Cr) (h : At w b A l.length c s) (hr : Kd.C (Kd.int .u8) w A l.length l) (h0 : 0 ≤ s.p) (hl : (l.length : Int) ≤ 140737488351232) (y : Int) :
    Calls Try.prog 51 #[.pointer (some ⟨b, 0, none⟩), .int .u8 y] w fun r w' => r = .returned (.tuple #[]) ∧ At w' b A l.length c (byte l s y) ∧ Chg (fun k => k = b) w w' := by
  have HP := Lib.hid (peek_calls w b A l c s h hr h0)
  unfold byte
  by_cases hp : (peek l s).2 = true
  · have hlt : s.p < l.length := by
      unfold peek at hp
      split at hp
      · rename_i hh; exact hh.2
      · simp at hp
    by_cases hy : y = (peek l s).1
    · rw [if_pos ⟨hp, hy⟩]
      rw [hp] at HP
      generalize (peek l s).1 = z at *
      subst hy
      have q2 := fun q => Blk.cell (At.drewN h q) 2
      have f2 := fun q => Blk.free (At.drewN h q) 2
      simp only [cells, List.getElem?_cons_zero, List.getElem?_cons_succ] at q2
      have hfin : ∀ q, At ((w.drewN q).setCell ⟨b, 2, none⟩ (.int .i64 (s.p + 1))) b A l.length c { s with p := s.p + 1 } ∧ Chg (fun k => k = b) w ((w.drewN q).setCell ⟨b, 2, none⟩ (.int .i64 (s.p + 1))) := fun q =>
        ⟨Blk.set (At.drewN h q) 2 _, Chg.set (S := fun k => k = b) ((Chg.refl _ w).drewN q) 2 (.inl rfl) _⟩
      have HF := Lib.hid hfin
      generalize s.p = p at *
      generalize l.length = n at *
      clear h hr hfin hp
      go_enter Try.func51, Try.ntmps51
      go_wp2_with fail
      refine HP.out.mono ?_
      rintro r w' ⟨rfl, q, rfl⟩
      replace q2 := q2 q
      replace f2 := f2 q
      go_wp2
      refine bodyPost_ret (results_none rfl _ _ _) rfl ⟨rfl, ?_⟩
      exact HF.out q
    · rw [if_neg (fun hh => hy hh.2)]
      rw [hp] at HP
      have hyb : (y == (peek l s).1) = false := by simp [hy]
      have HA := Lib.hid (fun q => at_calls (w.drewN q) b A l.length c s.p s.e s.x (At.drewN h q))
      have HF := Lib.hid (fun q => fail_calls (w.drewN q) b A l.length c s (At.drewN h q) 4 s.p)
      generalize (peek l s).1 = z at *
      generalize fail s 4 s.p = s' at *
      generalize l.length = n at *
      clear h hr hp hy hlt h0
      go_enter Try.func51, Try.ntmps51
      go_wp2_with fail
      refine HP.out.mono ?_
      rintro r w' ⟨rfl, q, rfl⟩
      have HA := Lib.hid (HA.out q)
      have HF := Lib.hid (HF.out q)
      go_wp2_with fail
      refine HA.out.mono ?_
      rintro r w' ⟨rfl, rfl⟩
      go_wp2_with fail
      refine HF.out.mono ?_
      rintro r w' ⟨rfl, h1, h2⟩
      go_wp2
      go_end0
      exact ⟨rfl, h1, chgN h2⟩
  · rw [if_neg (fun hh => hp hh.1)]
    have hpf : (peek l s).2 = false := by simpa using hp
    rw [hpf] at HP
    have HA := Lib.hid (fun q => at_calls (w.drewN q) b A l.length c s.p s.e s.x (At.drewN h q))
    have HF := Lib.hid (fun q => fail_calls (w.drewN q) b A l.length c s (At.drewN h q) 4 s.p)
    generalize (peek l s).1 = z at *
    generalize fail s 4 s.p = s' at *
    generalize l.length = n at *
    clear h hr hp h0 hpf
    go_enter Try.func51, Try.ntmps51
    go_wp2_with fail
    refine HP.out.mono ?_
    rintro r w' ⟨rfl, q, rfl⟩
    have HA := Lib.hid (HA.out q)
    have HF := Lib.hid (HF.out q)
    go_wp2_with fail
    refine HA.out.mono ?_
    rintro r w' ⟨rfl, rfl⟩
    go_wp2_with fail
    refine HF.out.mono ?_
    rintro r w' ⟨rfl, h1, h2⟩
    go_wp2
    go_end0
    exact ⟨rfl, h1, chgN h2⟩

set_option maxHeartbeats 1000000 in
theorem number_calls (w : World) (b : Nat) (A : Option Addr) (l : List Int) (c : Nat) (s : Cr) (h : At w b A l.length c s) (hr : Kd.C (Kd.int .u8) w A l.length l) (hc : l.length ≤ c) (hb : Bytes l) (hl : (l.length : Int) ≤ 140737488351232) :
    Calls Try.prog 49 #[.pointer (some ⟨b, 0, none⟩)] w fun r w' => r = .returned (.int .i64 (number l s).2) ∧ At w' b A l.length c (number l s).1 ∧ Chg (fun k => k = b) w w' := by
  have HI := Lib.hid (goes_calls w b A l.length c s.p s.e s.x h)
  unfold number
  by_cases he : s.e = 0
  · have hbe : (s.e == 0) = true := by simp [he]
    rw [hbe] at HI
    rw [if_pos he]
    have HP := Lib.hid (fun q => parse_calls l s.p A c (w.drewN q) (Kd.C_below hr (pw_below_drewN (Below.refl w.heap.size w) q)) hc hb hl)
    have q1 := Blk.cell h 1
    have q2 := Blk.cell h 2
    have q2' := fun q => Blk.cell (At.drewN h q) 2
    have f2' := fun q => Blk.free (At.drewN h q) 2
    simp only [cells, List.getElem?_cons_zero, List.getElem?_cons_succ] at q1 q2 q2'
    have HF := Lib.hid (fun q a => fail_calls (w.drewN q) b A l.length c s (At.drewN h q) 4 a)
    have hfin : ∀ q a, At ((w.drewN q).setCell ⟨b, 2, none⟩ (.int .i64 a)) b A l.length c { s with p := a } ∧ Chg (fun k => k = b) w ((w.drewN q).setCell ⟨b, 2, none⟩ (.int .i64 a)) := fun q a =>
      ⟨Blk.set (At.drewN h q) 2 _, Chg.set (S := fun k => k = b) ((Chg.refl _ w).drewN q) 2 (.inl rfl) _⟩
    have HS := Lib.hid hfin
    clear h hr hfin hb hl hbe he
    generalize (parse l s.p).1 = v at *
    generalize (parse l s.p).2.1 = to_ at *
    generalize (parse l s.p).2.2 = ok at *
    generalize l.length = n at *
    go_enter Try.func49, Try.ntmps49
    go_wp2_with (go_at_call 93; refine HI.out.mono ?_; rintro r w' ⟨rfl, rfl⟩)
    cases ok
    · go_quiet ((go_at_call 20; exact Calls.quiet_of ((HP.out _).mono fun _ _ hh => ⟨hh.1, hh.2.out⟩)))
      go_wp2_with fail
      refine (HF.out _ _).mono ?_
      rintro r w' ⟨rfl, h1, h2⟩
      go_wp2
      go_ret
      exact ⟨rfl, h1, chgN h2⟩
    · go_quiet ((go_at_call 20; exact Calls.quiet_of ((HP.out _).mono fun _ _ hh => ⟨hh.1, hh.2.out⟩)))
      have q2'' := q2' nq
      have f2'' := f2' nq
      go_wp2
      go_ret
      exact ⟨rfl, HS.out _ _⟩
  · have hbe : (s.e == 0) = false := by simp [he]
    rw [hbe] at HI
    rw [if_neg he]
    have H := Lib.hid h
    clear h hr hbe he hb hl hc
    go_enter Try.func49, Try.ntmps49
    go_wp2_with (go_at_call 93; refine HI.out.mono ?_; rintro r w' ⟨rfl, rfl⟩)
    go_ret
    exact ⟨rfl, H.out, Chg.refl _ _⟩

theorem C_nil (w : World) (k : IntKind) : Kd.C (Kd.int k) w none 0 ([] : List Int) :=
  Kd.C_of_reads (enc := Value.int k) (d := (0 : Int)) (h1 := fun _ => rfl) ⟨rfl, by simp, fun h => by simp at h⟩
theorem chgB {w w1 w' : World} {b : Nat} (h : Below w.heap.size w w1) (hc : Chg (fun k => k = b) w1 w') : Chg (fun k => k = b) w w' := (Chg.of_below h).trans hc
theorem list_own (l : List Int) (a : Int) (A : Option Addr) (c : Nat) (w : World) (hr : Kd.C (Kd.int .u8) w A l.length l) (hc : l.length ≤ c) (hb : Bytes l) (hl : (l.length : Int) ≤ 17592186044416) :
    Calls Try.prog 22 #[.slice A l.length c, .int .i64 a] w fun e w' => ∃ v, e = .returned (.tuple #[v, .int .i64 (list l a).2.1, .bool (list l a).2.2]) ∧ Kd.R (Kd.int .i64) 3 w' w.heap.size (fun _ => True) v (list l a).1 ∧ Below w.heap.size w w' :=
  PDigitsLists.digits_List.calls _ A c l a _ _ _ w hr hc (list_f l hb hl a _ (Nat.le_refl _))
theorem own_set {w1 : World} {e base b : Nat} {v : Value} {L : List Int} (h : Kd.R (Kd.int .i64) e w1 base (fun _ => True) v L) (hb : b < base) (j : Nat) (u : Value) : Kd.R (Kd.int .i64) e (w1.setCell ⟨b, j, none⟩ u) base (fun _ => True) v L :=
  Kd.R_mono (Kd.R_far (p := ⟨b, j, none⟩) (Kd.R_bound h) (fun k hk => by have := hk.2.1; simp; omega) u) (fun _ _ => trivial)
/-- A list of numbers comes out, a row of the call's own. -/
def Lists (w : World) (base : Nat) (r : Ending) (L : List Int) : Prop := ∃ v, r = .returned v ∧ Kd.R (Kd.int .i64) 3 w base (fun _ => True) v L
theorem lists_nil (w : World) (base : Nat) : Lists w base (.returned (.slice none 0 0)) [] := ⟨_, rfl, Kd.R_nil _ _ _ _ _⟩
theorem lists_own {w1 : World} {base b : Nat} {v : Value} {L : List Int} (h : Kd.R (Kd.int .i64) 3 w1 base (fun _ => True) v L) (hb : b < base) (j : Nat) (u : Value) : Lists (w1.setCell ⟨b, j, none⟩ u) base (.returned v) L := ⟨v, rfl, own_set h hb j u⟩
set_option maxRecDepth 100000 in
set_option maxHeartbeats 1000000 in
theorem nums_calls (w : World) (b : Nat) (A : Option Addr) (l : List Int) (c : Nat) (s : Cr) (h : At w b A l.length c s) (hr : Kd.C (Kd.int .u8) w A l.length l) (hc : l.length ≤ c) (hb : Bytes l) (hl : (l.length : Int) ≤ 17592186044416) :
    Calls Try.prog 50 #[.pointer (some ⟨b, 0, none⟩)] w fun r w' => Lists w' w.heap.size r (nums_ l s).2 ∧ At w' b A l.length c (nums_ l s).1 ∧ Chg (fun k => k = b) w w' := by
  have HI := Lib.hid (goes_calls w b A l.length c s.p s.e s.x h)
  unfold nums_
  by_cases he : s.e = 0
  · have hbe : (s.e == 0) = true := by simp [he]
    rw [hbe] at HI
    rw [if_pos he]
    have HP := Lib.hid (list_own l s.p A c w.drew (Kd.C_below hr ((Below.refl w.heap.size w).drew)) hc hb hl)
    have q1 := Blk.cell h 1
    have q2 := Blk.cell h 2
    simp only [cells, List.getElem?_cons_zero, List.getElem?_cons_succ] at q1 q2
    have q1' : w.drew.cell? ⟨b, 1, none⟩ = some (.slice A l.length c) := q1
    have q2' : w.drew.cell? ⟨b, 2, none⟩ = some (.int .i64 s.p) := q2
    have hbs := h.lt
    have hat : ∀ w1, Below w.heap.size w.drew w1 → At w1 b A l.length c s := fun w1 hb => Blk.below (w := w) h ⟨hb.os, hb.tape, hb.output, hb.size, hb.block⟩ hbs
    have hbw : ∀ w1, Below w.heap.size w.drew w1 → Below w.heap.size w w1 := fun w1 hb => ⟨hb.os, hb.tape, hb.output, hb.size, hb.block⟩
    have HAT := Lib.hid hat
    have HBW := Lib.hid hbw
    clear h hr hb hl hbe he hat hbw
    generalize (list l s.p).1 = v at *
    generalize (list l s.p).2.1 = to_ at *
    generalize (list l s.p).2.2 = ok at *
    generalize l.length = n at *
    go_enter Try.func50, Try.ntmps50
    go_wp2_with (go_at_call 93; refine HI.out.mono ?_; rintro r w' ⟨rfl, rfl⟩)
    cases ok
    · go_region_with (go_at_call 22; refine HP.out.mono ?_; rintro r w1 ⟨v1, rfl, hR, hbl⟩)
      all_goals
        have HF := Lib.hid (fail_calls w1 b A n c s (HAT.out w1 hbl) 4 to_)
        go_wp2_with fail
        refine HF.out.mono ?_
        rintro r w' ⟨rfl, h1, h2⟩
        go_wp2
        go_ret
        exact ⟨lists_nil _ _, h1, chgB (HBW.out w1 hbl) h2⟩
    · go_region_with (go_at_call 22; refine HP.out.mono ?_; rintro r w1 ⟨v1, rfl, hR, hbl⟩)
      all_goals
        have ha := HAT.out w1 hbl
        have r2 := Blk.cell ha 2
        have g2 := Blk.free ha 2
        simp only [cells, List.getElem?_cons_zero, List.getElem?_cons_succ] at r2
        have HA := Lib.hid ha
        clear ha
        go_wp2
        go_ret
        exact ⟨lists_own hR hbs 2 _, Blk.set HA.out 2 _, chgB (HBW.out w1 hbl) (Chg.set (S := fun k => k = b) (Chg.refl _ w1) 2 (.inl rfl) _)⟩
  · have hbe : (s.e == 0) = false := by simp [he]
    rw [hbe] at HI
    rw [if_neg he]
    have H := Lib.hid h
    clear h hr hbe he hb hl hc
    go_enter Try.func50, Try.ntmps50
    go_wp2_with (go_at_call 93; refine HI.out.mono ?_; rintro r w' ⟨rfl, rfl⟩)
    go_ret
    exact ⟨lists_nil _ _, H.out, Chg.refl _ _⟩
end Cur
end Go.Proofs.Ytndciilmnnaemaa
