/- The contracts of pipe, at rows of int. -/
import Derived.Test.YtndciilmnnaemaaDequeIntF
set_option linter.unusedVariables false
set_option linter.unusedSimpArgs false
namespace Go.Proofs.Ytndciilmnnaemaa.DqI
open Go.RowKit Go.Shelf Go.Proofs.YtndciilmnnaemaaW.PrintWords

/-- A pipe, in plain words. -/
structure Pp where
  room : Nat
  l : List Int
  cl : Bool
  sent : Nat
  recv : Nat
/-- A pipe lies at the block b. -/
structure PI (w : World) (base b : Nat) (cs : List Value) (p : Pp) : Prop where
  is_ : Is w base b 1 117 cs p.l
  len : cs.length = 7
  pos : 0 < p.room
  small : p.l.length ≤ 1000000
  r : cs[0]? = some (.int .i64 p.room)
  c : cs[4]? = some (.bool p.cl)
  s : cs[5]? = some (.int .i64 p.sent)
  v : cs[6]? = some (.int .i64 p.recv)
theorem PI.blk {w : World} {base b : Nat} {cs : List Value} {p : Pp} (h : PI w base b cs p) : Blk w b cs 117 := h.is_.1
theorem PI.cells {w : World} {base b : Nat} {cs : List Value} {p : Pp} (h : PI w base b cs p) : w.cell? ⟨b, 0, none⟩ = some (.int .i64 p.room) ∧ w.cell? ⟨b, 4, none⟩ = some (.bool p.cl) ∧ w.cell? ⟨b, 5, none⟩ = some (.int .i64 p.sent) ∧ w.cell? ⟨b, 6, none⟩ = some (.int .i64 p.recv) :=
  ⟨(h.blk.cell 0).trans h.r, (h.blk.cell 4).trans h.c, (h.blk.cell 5).trans h.s, (h.blk.cell 6).trans h.v⟩
theorem PI.drewN {w : World} {base b : Nat} {cs : List Value} {p : Pp} (h : PI w base b cs p) (n : Nat) : PI (w.drewN n) base b cs p := ⟨h.is_.drewN n, h.len, h.pos, h.small, h.r, h.c, h.s, h.v⟩
theorem PI.below {w w' : World} {base b : Nat} {cs : List Value} {p : Pp} (h : PI w base b cs p) (hb : Below w.heap.size w w') : PI w' base b cs p := ⟨h.is_.below hb, h.len, h.pos, h.small, h.r, h.c, h.s, h.v⟩
/-- What a step of a pipe may turn. -/
def PStep (w w' : World) (b : Nat) (cs cs' : List Value) : Prop := Chg (set cs b 1) w w' ∧ ∀ k, set cs' b 1 k → set cs b 1 k ∨ w.heap.size ≤ k
theorem PStep.refl (w : World) (b : Nat) (cs : List Value) : PStep w w b cs cs := ⟨Chg.refl _ _, fun _ h => .inl h⟩
theorem PStep.below {w w' : World} {base b : Nat} {cs cs' : List Value} {p : Pp} (h : PStep w w' b cs cs') (hi : PI w base b cs p) (hb : base ≤ w.heap.size) : Below base w w' := h.1.below hb (set_ge hi.is_)
theorem Is.put {w : World} {base b o t j : Nat} {cs : List Value} {l : List Int} (h : Is w base b o t cs l) (h0 : j ≠ o) (h1 : j ≠ o + 1) (h2 : j ≠ o + 2) (v : Value) : Is (w.setCell ⟨b, j, none⟩ v) base b o t (cs.set j v) l := by
  obtain ⟨hb, hbb, rv, top, ring, c0, c1, c2, hr, hm, hring⟩ := h
  refine ⟨hb.set j v, hbb, rv, top, ring, by rw [List.getElem?_set_ne h0]; exact c0, by rw [List.getElem?_set_ne h1]; exact c1, by rw [List.getElem?_set_ne h2]; exact c2, hr, hm, ?_⟩
  rcases hring with h | ⟨g, e1, e2, e3, e4⟩
  · exact .inl h
  · exact .inr ⟨g, e1, e2, e3, e4.other (a := ⟨b, j, none⟩) e3 v⟩
theorem set_put {cs : List Value} {b o j : Nat} {v : Value} (h0 : j ≠ o) (k : Nat) (h : set (cs.set j v) b o k) : set cs b o k := by
  rcases h with h | h
  · exact .inl h
  · rw [List.getD_eq_getElem?_getD, List.getElem?_set_ne h0, ← List.getD_eq_getElem?_getD] at h; exact .inr h
theorem get_put {cs : List Value} {j : Nat} {v : Value} (h : j < cs.length) : (cs.set j v)[j]? = some v := by rw [List.getElem?_set_self h]

theorem chg_undrew {S : Nat → Prop} {w w' : World} {q : Nat} (h : Chg S (w.drewN q) w') : Chg S w w' := ⟨h.os, h.tape, h.output, h.size, h.block⟩
theorem Step.undrew {w w' : World} {base b o t q : Nat} {cs cs' : List Value} (h : Step (w.drewN q) w' base b o t cs cs') : Step w w' base b o t cs cs' := ⟨h.1, h.2.1, chg_undrew h.2.2.1, h.2.2.2⟩
theorem PStep.drewN {w w' : World} {b : Nat} {cs cs' : List Value} (h : PStep w w' b cs cs') (q : Nat) : PStep w (w'.drewN q) b cs cs' := ⟨h.1.drewN q, h.2⟩
theorem send_fin {w w1 : World} {base b : Nat} {cs cs1 : List Value} {p : Pp} {x : Int} (h : PI w base b cs p) (hl : p.l.length < 1000000) (hI : Is w1 base b 1 117 cs1 (p.l ++ [x])) (hS : Step w w1 base b 1 117 cs cs1) :
    PI (w1.setCell ⟨b, 5, none⟩ (.int .i64 (p.sent + 1))) base b (cs1.set 5 (.int .i64 (p.sent + 1))) ⟨p.room, p.l ++ [x], p.cl, p.sent + 1, p.recv⟩ ∧ PStep w (w1.setCell ⟨b, 5, none⟩ (.int .i64 (p.sent + 1))) b cs (cs1.set 5 (.int .i64 (p.sent + 1))) := by
  have hn : cs1.length = 7 := by rw [hS.1, h.len]
  have e0 := hS.2.1 0 (by omega) (by omega) (by omega)
  have e4 := hS.2.1 4 (by omega) (by omega) (by omega)
  have e6 := hS.2.1 6 (by omega) (by omega) (by omega)
  refine ⟨⟨hI.put (by omega) (by omega) (by omega) _, by simp [hn], h.pos, by simp; omega, ?_, ?_, ?_, ?_⟩, hS.2.2.1.set 5 (.inl (.inl rfl)) _, fun k hk => hS.2.2.2 k (set_put (by omega) k hk)⟩
  · rw [List.getElem?_set_ne (by omega), e0]; exact h.r
  · rw [List.getElem?_set_ne (by omega), e4]; exact h.c
  · exact get_put (by omega)
  · rw [List.getElem?_set_ne (by omega), e6]; exact h.v
theorem recv_fin {w w1 : World} {base b : Nat} {cs cs1 : List Value} {p : Pp} {x : Int} {L : List Int} (h : PI w base b cs p) (hl : p.l = x :: L) (hI : Is w1 base b 1 117 cs1 L) (hS : Step w w1 base b 1 117 cs cs1) :
    PI (w1.setCell ⟨b, 6, none⟩ (.int .i64 (p.recv + 1))) base b (cs1.set 6 (.int .i64 (p.recv + 1))) ⟨p.room, L, p.cl, p.sent, p.recv + 1⟩ ∧ PStep w (w1.setCell ⟨b, 6, none⟩ (.int .i64 (p.recv + 1))) b cs (cs1.set 6 (.int .i64 (p.recv + 1))) := by
  have hn : cs1.length = 7 := by rw [hS.1, h.len]
  have e0 := hS.2.1 0 (by omega) (by omega) (by omega)
  have e4 := hS.2.1 4 (by omega) (by omega) (by omega)
  have e5 := hS.2.1 5 (by omega) (by omega) (by omega)
  refine ⟨⟨hI.put (by omega) (by omega) (by omega) _, by simp [hn], h.pos, by have := h.small; rw [hl] at this; simp at this ⊢; omega, ?_, ?_, ?_, ?_⟩, hS.2.2.1.set 6 (.inl (.inl rfl)) _, fun k hk => hS.2.2.2 k (set_put (by omega) k hk)⟩
  · rw [List.getElem?_set_ne (by omega), e0]; exact h.r
  · rw [List.getElem?_set_ne (by omega), e4]; exact h.c
  · rw [List.getElem?_set_ne (by omega), e5]; exact h.s
  · exact get_put (by omega)
theorem close_fin {w : World} {base b : Nat} {cs : List Value} {p : Pp} (h : PI w base b cs p) :
    PI (w.setCell ⟨b, 4, none⟩ (.bool true)) base b (cs.set 4 (.bool true)) ⟨p.room, p.l, true, p.sent, p.recv⟩ ∧ PStep w (w.setCell ⟨b, 4, none⟩ (.bool true)) b cs (cs.set 4 (.bool true)) := by
  have hn := h.len
  refine ⟨⟨h.is_.put (by omega) (by omega) (by omega) _, by simp [hn], h.pos, h.small, ?_, ?_, ?_, ?_⟩, (Chg.refl _ w).set 4 (.inl (.inl rfl)) _, fun k hk => .inl (set_put (by omega) k hk)⟩
  · rw [List.getElem?_set_ne (by omega)]; exact h.r
  · exact get_put (by omega)
  · rw [List.getElem?_set_ne (by omega)]; exact h.s
  · rw [List.getElem?_set_ne (by omega)]; exact h.v

set_option maxHeartbeats 400000 in
theorem pis_calls (w : World) (base b : Nat) (cs : List Value) (p : Pp) (h : PI w base b cs p) : Calls Try.prog 97 #[.pointer (some ⟨b, 0, none⟩)] w fun e w' => e = .returned (.bool true) ∧ w = w' := by
  obtain ⟨q0, q4, q5, q6⟩ := h.cells
  have hp := h.pos
  have hpi : (0 : Int) < p.room := by omega
  clear h
  go_enter Try.func97, Try.ntmps97
  go_wp2
  go_ret
  exact ⟨rfl, rfl⟩
set_option maxHeartbeats 400000 in
theorem pnew_calls (w : World) (n : Int) (h0 : 1 ≤ n) (h1 : n ≤ 64) : Calls Try.prog 61 #[.int .i64 n] w fun e w' => e = .returned (.tuple #[.pointer (some ⟨w.heap.size, 0, none⟩), .int .i64 0]) ∧ (∃ cs, PI w' w.heap.size w.heap.size cs ⟨n.toNat, [], false, 0, 0⟩) ∧ Below w.heap.size w w' := by
  have hfin : (∃ cs, PI (w.alloc (.cells #[.int .i64 n, .slice none 0 0, .int .i64 0, .int .i64 0, .bool false, .int .i64 0, .int .i64 0] 117)) w.heap.size w.heap.size cs ⟨n.toNat, [], false, 0, 0⟩) ∧
      Below w.heap.size w (w.alloc (.cells #[.int .i64 n, .slice none 0 0, .int .i64 0, .int .i64 0, .bool false, .int .i64 0, .int .i64 0] 117)) := by
    refine ⟨⟨[.int .i64 n, .slice none 0 0, .int .i64 0, .int .i64 0, .bool false, .int .i64 0, .int .i64 0], ⟨⟨Blk.new w _ _, Nat.le_refl _, .slice none 0 0, 0, [], rfl, rfl, rfl, ring_empty, by simp, .inl ⟨rfl, rfl⟩⟩, rfl, by simp only; omega, by simp, ?_, rfl, rfl, rfl⟩⟩, (Below.refl _ w).alloc (Nat.le_refl _) _⟩
    simp only [List.getElem?_cons_zero]
    rw [Int.toNat_of_nonneg (by omega)]
  have HF := Lib.hid hfin
  clear hfin
  go_enter Try.func61, Try.ntmps61
  go_wp2
  go_ret2
  exact ⟨rfl, HF.out⟩
set_option maxHeartbeats 400000 in
theorem pnew_no (w : World) (n : Int) (h : n < 1 ∨ 64 < n) : Calls Try.prog 61 #[.int .i64 n] w fun e w' => e = .returned (.tuple #[.pointer none, .int .i64 2]) ∧ w = w' := by
  by_cases h1 : n < 1
  · clear h
    go_enter Try.func61, Try.ntmps61
    go_wp2
    go_ret2
    exact ⟨rfl, rfl⟩
  · have h2 : 64 < n := by omega
    clear h
    go_enter Try.func61, Try.ntmps61
    go_wp2
    go_ret2
    exact ⟨rfl, rfl⟩
set_option maxHeartbeats 400000 in
theorem plen_calls (w : World) (base b : Nat) (cs : List Value) (p : Pp) (h : PI w base b cs p) : Calls Try.prog 70 #[.pointer (some ⟨b, 0, none⟩)] w fun e w' => e = .returned (.int .i64 p.l.length) ∧ w = w' := by
  have HI := Lib.hid (pis_calls w base b cs p h)
  have HL := Lib.hid (len_calls b 1 _ w base cs p.l h.is_)
  clear h
  go_enter Try.func70, Try.ntmps70
  go_wp2_with fail
  refine HI.out.mono ?_
  rintro e w' ⟨rfl, rfl⟩
  go_wp2_with fail
  refine HL.out.mono ?_
  rintro e w' ⟨rfl, rfl⟩
  go_wp2
  go_ret
  exact ⟨rfl, rfl⟩
set_option maxHeartbeats 400000 in
theorem proom_calls (w : World) (base b : Nat) (cs : List Value) (p : Pp) (h : PI w base b cs p) : Calls Try.prog 71 #[.pointer (some ⟨b, 0, none⟩)] w fun e w' => e = .returned (.int .i64 p.room) ∧ w = w' := by
  obtain ⟨q0, q4, q5, q6⟩ := h.cells
  have HI := Lib.hid (pis_calls w base b cs p h)
  clear h
  go_enter Try.func71, Try.ntmps71
  go_wp2_with fail
  refine HI.out.mono ?_
  rintro e w' ⟨rfl, rfl⟩
  go_wp2
  go_ret
  exact ⟨rfl, rfl⟩
set_option maxHeartbeats 400000 in
theorem pclosed_calls (w : World) (base b : Nat) (cs : List Value) (p : Pp) (h : PI w base b cs p) : Calls Try.prog 72 #[.pointer (some ⟨b, 0, none⟩)] w fun e w' => e = .returned (.bool p.cl) ∧ w = w' := by
  obtain ⟨q0, q4, q5, q6⟩ := h.cells
  have HI := Lib.hid (pis_calls w base b cs p h)
  clear h
  go_enter Try.func72, Try.ntmps72
  go_wp2_with fail
  refine HI.out.mono ?_
  rintro e w' ⟨rfl, rfl⟩
  go_wp2
  go_ret
  exact ⟨rfl, rfl⟩
set_option maxHeartbeats 400000 in
theorem pdone_calls (w : World) (base b : Nat) (cs : List Value) (p : Pp) (h : PI w base b cs p) : Calls Try.prog 73 #[.pointer (some ⟨b, 0, none⟩)] w fun e w' => e = .returned (.bool (p.cl && ((p.l.length : Int) == 0))) ∧ w = w' := by
  have HC := Lib.hid (pclosed_calls w base b cs p h)
  have HL := Lib.hid (len_calls b 1 _ w base cs p.l h.is_)
  clear h
  rcases p with ⟨room, l, cl, se, re⟩
  simp only at *
  generalize l.length = n at *
  cases cl
  all_goals
    go_enter Try.func73, Try.ntmps73
    go_wp2_with fail
    refine HC.out.mono ?_
    rintro e w' ⟨rfl, rfl⟩
    go_wp2_with (go_at_call 35; refine HL.out.mono ?_; rintro e w' ⟨rfl, rfl⟩)
    go_ret
    exact ⟨rfl, rfl⟩
set_option maxHeartbeats 400000 in
theorem pclose_calls (w : World) (base b : Nat) (cs : List Value) (p : Pp) (h : PI w base b cs p) : Calls Try.prog 65 #[.pointer (some ⟨b, 0, none⟩)] w fun e w' =>
    e = .returned (.int .i64 (if p.cl = true then 11 else 0)) ∧ ∃ cs', PI w' base b cs' ⟨p.room, p.l, true, p.sent, p.recv⟩ ∧ PStep w w' b cs cs' := by
  obtain ⟨q0, q4, q5, q6⟩ := h.cells
  have f4 := h.blk.free 4
  have HI := Lib.hid (pis_calls w base b cs p h)
  have HF := Lib.hid (close_fin h)
  have H := Lib.hid h
  clear h
  rcases p with ⟨room, l, cl, se, re⟩
  simp only at *
  cases cl
  · go_enter Try.func65, Try.ntmps65
    go_wp2_with fail
    refine HI.out.mono ?_
    rintro e w' ⟨rfl, rfl⟩
    go_wp2
    go_ret
    exact ⟨rfl, _, HF.out⟩
  · go_enter Try.func65, Try.ntmps65
    go_wp2_with fail
    refine HI.out.mono ?_
    rintro e w' ⟨rfl, rfl⟩
    go_wp2
    go_ret
    exact ⟨rfl, _, H.out, PStep.refl _ _ _⟩
/-- What Send answers, and what is behind it. -/
def sendE (p : Pp) : Int := if p.cl = true then 11 else if p.room ≤ p.l.length then 9 else 0
def sendP (p : Pp) (x : Int) : Pp := if p.cl = true then p else if p.room ≤ p.l.length then p else ⟨p.room, p.l ++ [x], p.cl, p.sent + 1, p.recv⟩
set_option maxHeartbeats 1000000 in
theorem psend_calls (w : World) (base b : Nat) (cs : List Value) (p : Pp) (x : Int) (h : PI w base b cs p) (hl : p.l.length < 1000000) (hs : p.sent ≤ 1000000000) (hbase : base ≤ w.heap.size) :
    Calls Try.prog 67 #[.pointer (some ⟨b, 0, none⟩), enc x] w fun e w' => e = .returned (.int .i64 (sendE p)) ∧ ∃ cs', PI w' base b cs' (sendP p x) ∧ PStep w w' b cs cs' := by
  obtain ⟨q0, q4, q5, q6⟩ := h.cells
  have HI := Lib.hid (pis_calls w base b cs p h)
  have HL := Lib.hid (fun q => len_calls b 1 _ (w.drewN q) base cs p.l (h.is_.drewN q))
  have HP := Lib.hid (fun q => push_calls b 1 _ base (w.drewN q) cs p.l x (h.is_.drewN q) (by omega) hbase)
  have H := Lib.hid h
  unfold sendE sendP
  clear h
  by_cases hc : p.cl = true
  · rw [if_pos hc, if_pos hc]
    rw [hc] at q4
    clear hc HP
    unfold enc
    go_enter Try.func67, Try.ntmps67
    go_wp2_with fail
    refine HI.out.mono ?_
    rintro e w' ⟨rfl, rfl⟩
    go_wp2
    go_ret
    exact ⟨rfl, _, H.out, PStep.refl _ _ _⟩
  · rw [if_neg hc, if_neg hc]
    have hcf : p.cl = false := by simpa using hc
    rw [hcf] at q4
    clear hc
    by_cases hr : p.room ≤ p.l.length
    · rw [if_pos hr, if_pos hr]
      have hri : decide (p.room ≤ p.l.length) = true := decide_eq_true hr
      clear HP
      unfold enc
      go_enter Try.func67, Try.ntmps67
      go_wp2_with fail
      refine HI.out.mono ?_
      rintro e w' ⟨rfl, rfl⟩
      go_wp2
      go_quiet ((go_at_call 35; exact Calls.quiet_of_same ((HL.out _).mono fun _ _ h => ⟨h.1, h.2.symm⟩)))
      go_wp2
      go_ret
      exact ⟨rfl, _, H.out.drewN _, (PStep.refl _ _ _).drewN _⟩
    · rw [if_neg hr, if_neg hr]
      have hri : decide (p.room ≤ p.l.length) = false := decide_eq_false hr
      have HF : Hid (∀ w1 cs1, Is w1 base b 1 117 cs1 (p.l ++ [x]) → Step w w1 base b 1 117 cs cs1 → PI (w1.setCell ⟨b, 5, none⟩ (.int .i64 (p.sent + 1))) base b (cs1.set 5 (.int .i64 (p.sent + 1))) ⟨p.room, p.l ++ [x], p.cl, p.sent + 1, p.recv⟩ ∧ PStep w (w1.setCell ⟨b, 5, none⟩ (.int .i64 (p.sent + 1))) b cs (cs1.set 5 (.int .i64 (p.sent + 1))) ∧
          w1.cell? ⟨b, 5, none⟩ = some (.int .i64 p.sent) ∧ w1.frozen? ⟨b, 5, none⟩ = false) := Lib.hid fun w1 cs1 hI hS =>
        ⟨(send_fin H.out hl hI hS).1, (send_fin H.out hl hI hS).2, (hI.1.cell 5).trans ((hS.2.1 5 (by omega) (by omega) (by omega)).trans H.out.s), hI.1.free 5⟩
      have hs1 : (p.sent : Int) ≤ 1000000000 := by omega
      clear hr
      rw [hcf] at HF ⊢
      rcases p with ⟨room, l, cl, se, re⟩
      simp only at *
      unfold enc at *
      generalize l ++ [x] = l2 at *
      generalize l.length = n at *
      go_enter Try.func67, Try.ntmps67
      go_wp2_with fail
      refine HI.out.mono ?_
      rintro e w' ⟨rfl, rfl⟩
      go_wp2
      go_quiet ((go_at_call 35; exact Calls.quiet_of_same ((HL.out _).mono fun _ _ h => ⟨h.1, h.2.symm⟩)))
      go_wp2_with fail
      refine (HP.out _).mono ?_
      rintro e w1 ⟨rfl, cs1, hI1, hS1⟩
      obtain ⟨r1, r2, r3, r4⟩ := HF.out w1 cs1 hI1 hS1.undrew
      have R1 := Lib.hid r1
      have R2 := Lib.hid r2
      clear r1 r2 hI1 hS1 HF
      go_wp2
      go_ret
      exact ⟨rfl, _, R1.out, R2.out⟩
theorem psend_of (w : World) (base b : Nat) (cs : List Value) (p : Pp) (x : Int) (h : PI w base b cs p) (hl : p.l.length < 1000000) (hs : p.sent ≤ 1000000000) (hbase : base ≤ w.heap.size) :
    Calls Try.prog 67 #[.pointer (some ⟨b, 0, none⟩), .int .i64 x] w fun e w' => e = .returned (.int .i64 (sendE p)) ∧ ∃ cs', PI w' base b cs' (sendP p x) ∧ PStep w w' b cs cs' := psend_calls w base b cs p x h hl hs hbase
/-- What Recv answers, and what is behind it. -/
def recvX (p : Pp) : Int := p.l.getD 0 0
def recvE (p : Pp) : Int := if p.l = [] then (if p.cl = true then 11 else 10) else 0
def recvP (p : Pp) : Pp := if p.l = [] then p else ⟨p.room, p.l.drop 1, p.cl, p.sent, p.recv + 1⟩
set_option maxHeartbeats 1000000 in
theorem precv_calls (w : World) (base b : Nat) (cs : List Value) (p : Pp) (h : PI w base b cs p) (hs : p.recv ≤ 1000000000) :
    Calls Try.prog 63 #[.pointer (some ⟨b, 0, none⟩)] w fun e w' => e = .returned (.tuple #[enc (recvX p), .int .i64 (recvE p)]) ∧ ∃ cs', PI w' base b cs' (recvP p) ∧ PStep w w' b cs cs' := by
  obtain ⟨q0, q4, q5, q6⟩ := h.cells
  have HI := Lib.hid (pis_calls w base b cs p h)
  have H := Lib.hid h
  have hsm := h.small
  have hi := h.is_
  clear h
  unfold recvX recvE recvP
  rcases p with ⟨room, l, cl, se, re⟩
  simp only at *
  rcases l with _ | ⟨x, L⟩
  · rw [if_pos rfl, if_pos rfl]
    have HL := Lib.hid (steal_empty b 1 _ base w cs hi)
    have E : enc (([] : List Int).getD 0 0) = Value.int .i64 0 := rfl
    rw [E]
    clear hi hsm E
    cases cl
    all_goals
      go_enter Try.func63, Try.ntmps63
      go_wp2_with fail
      refine HI.out.mono ?_
      rintro e w' ⟨rfl, rfl⟩
      go_wp2_with fail
      refine HL.out.mono ?_
      rintro e w' ⟨rfl, rfl⟩
      go_wp2
      go_ret2
      exact ⟨rfl, _, H.out, PStep.refl _ _ _⟩
  · rw [if_neg (by simp), if_neg (by simp)]
    have HL := Lib.hid (steal_calls b 1 _ base w cs L x hi (by simp at hsm; omega))
    have HF : Hid (∀ w1 cs1, Is w1 base b 1 117 cs1 L → Step w w1 base b 1 117 cs cs1 → PI (w1.setCell ⟨b, 6, none⟩ (.int .i64 (re + 1))) base b (cs1.set 6 (.int .i64 (re + 1))) ⟨room, L, cl, se, re + 1⟩ ∧ PStep w (w1.setCell ⟨b, 6, none⟩ (.int .i64 (re + 1))) b cs (cs1.set 6 (.int .i64 (re + 1))) ∧
        w1.cell? ⟨b, 6, none⟩ = some (.int .i64 re) ∧ w1.frozen? ⟨b, 6, none⟩ = false) := Lib.hid fun w1 cs1 hI hS =>
      ⟨(recv_fin H.out rfl hI hS).1, (recv_fin H.out rfl hI hS).2, (hI.1.cell 6).trans ((hS.2.1 6 (by omega) (by omega) (by omega)).trans H.out.v), hI.1.free 6⟩
    have hs1 : (re : Int) ≤ 1000000000 := by omega
    have E : enc ((x :: L).getD 0 0) = .int .i64 x := rfl
    rw [E]
    unfold enc at HL
    clear hi hsm E
    simp only [List.drop_succ_cons, List.drop_zero]
    go_enter Try.func63, Try.ntmps63
    go_wp2_with fail
    refine HI.out.mono ?_
    rintro e w' ⟨rfl, rfl⟩
    go_wp2_with fail
    refine HL.out.mono ?_
    rintro e w1 ⟨rfl, cs1, hI1, hS1⟩
    obtain ⟨r1, r2, r3, r4⟩ := HF.out w1 cs1 hI1 hS1
    have R1 := Lib.hid r1
    have R2 := Lib.hid r2
    clear r1 r2 hI1 hS1 HF
    go_wp2
    go_ret2
    exact ⟨rfl, _, R1.out, R2.out⟩
end Go.Proofs.Ytndciilmnnaemaa.DqI
