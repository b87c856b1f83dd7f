/- The contracts of deque, at rows of int: pushing and taking. -/
import Derived.Test.YtndciilmnnaemaaDequeIntB
import Derived.Laws.CopyOwn
import Derived.Laws.MakeOwn
set_option linter.unusedVariables false
set_option linter.unusedSimpArgs false
namespace Go.Proofs.Ytndciilmnnaemaa.DqI
open Go.RowKit Go.Shelf Go.Proofs.YtndciilmnnaemaaW.PrintWords Go.Proofs.YtndciilmnnaemaaW.PrintLast Go.Proofs.YtndciilmnnaemaaW.PrintMore
attribute [local go_sem] max2_int min2_int max_two min_two

/-- 'Is', with its parts told. -/
def Raw (w : World) (base b o t : Nat) (cs : List Value) (l : List Int) (rv : Value) (top : Nat) (ring : List Int) : Prop :=
  Blk w b cs t ∧ base ≤ b ∧ cs[o]? = some rv ∧ cs[o + 1]? = some (.int .i64 top) ∧ cs[o + 2]? = some (.int .i64 l.length) ∧ RingOk ring top l ∧ ring.length ≤ 4294967296 ∧
    ((rv = .slice none 0 0 ∧ ring = []) ∨ ∃ g, rv = .slice (some ⟨g, 0, none⟩) ring.length ring.length ∧ base ≤ g ∧ g ≠ b ∧ Blk w g (ring.map enc) 3)
theorem Is.raw {w : World} {base b o t : Nat} {cs : List Value} {l : List Int} (h : Is w base b o t cs l) : ∃ rv top ring, Raw w base b o t cs l rv top ring := by
  obtain ⟨h1, h2, rv, top, ring, h3⟩ := h
  exact ⟨rv, top, ring, h1, h2, h3⟩
theorem Raw.is {w : World} {base b o t : Nat} {cs : List Value} {l : List Int} {rv : Value} {top : Nat} {ring : List Int} (h : Raw w base b o t cs l rv top ring) : Is w base b o t cs l :=
  ⟨h.1, h.2.1, rv, top, ring, h.2.2⟩
/-- A step of a deque: what it is behind it; that nothing else has turned. -/
def Step (w w' : World) (base b o t : Nat) (cs cs' : List Value) : Prop :=
  cs'.length = cs.length ∧ (∀ j, j ≠ o → j ≠ o + 1 → j ≠ o + 2 → cs'[j]? = cs[j]?) ∧ Chg (set cs b o) w w' ∧ (∀ k, set cs' b o k → set cs b o k ∨ w.heap.size ≤ k)

theorem made_list (n : Nat) (z : Value) : madeCells #[z] n = (List.replicate n z).toArray := by
  unfold madeCells
  apply Array.ext
  · simp
  · intro i h1 h2
    simp [Nat.mod_one]
theorem made (i : Int) (n : Nat) (hi : Hid (i = n)) (hn : n ≤ 4294967296) : ∀ W : World, (Instr.makeSlice 27 (.int .i64 i) (.int .i64 i)).run Try.prog W = .ok (.slice (some ⟨W.heap.size, 0, none⟩) n n) (W.alloc (.cells (List.replicate n (Value.int .i64 0)).toArray 3)) := by
  intro W
  rw [hi.out, ← made_list]
  exact run_make_row' 27 3 (Value.int .i64 0) 8 Try.underlying27 elem_info rfl .i64 .i64 n (by omega) (by omega) W
theorem own_src {w : World} {base n c : Nat} {e : TypeId} {A : Option Addr} {xs : List Value} (h : w.ownsRow base e 1 (.slice A n c) n xs) (hn : 0 < xs.length) : ∃ ad, A = some ad ∧ ∀ j v, xs[j]? = some v → w.cell? (ad.add j) = some v := by
  obtain ⟨g, cap, hv, _, hlt⟩ := h.form (by have := h.1; omega)
  have hA : A = some ⟨g, 0, none⟩ := by injection hv
  subst hA
  exact ⟨_, rfl, h.cells (g := g) rfl⟩
theorem splice_rep (L : List Int) (m : Nat) (z : Int) : splice (List.replicate m (enc z)) 0 (L.map enc) = (L ++ List.replicate (m - L.length) z).map enc := by
  unfold splice; simp

theorem elem_size : (Try.prog.info? 3).map (·.size) = some 1 := by kernel_rfl
theorem copy_in {ops : Array Oper} {rest : List Oper} {op : Oper} {a : Act} {Q : Exit → Act → World → Prop} {w w1 : World} (d s : Operand) (hgd : op.guard = none)
    (ho : op.op = .call { callee := .builtin .copy, args := #[d, s], argTypes := #[27, 27] }) (g m k1 : Nat) (A1 : Option Addr) (L : List Int) (hd : a.eval d = .slice (some ⟨g, 0, none⟩) m m) (hs : a.eval s = .slice A1 L.length k1)
    (hg0 : Blk w1 g (List.replicate m (Value.int .i64 0)) 3) (hsrc : 0 < (L.map enc).length → ∃ ad, A1 = some ad ∧ ∀ j v, (L.map enc)[j]? = some v → w1.cell? (ad.add j) = some v) (hm : L.length ≤ m) (hb : Below w.heap.size w w1) (hg : w.heap.size ≤ g)
    (h : ∀ w2, Blk w2 g ((L ++ List.replicate (m - L.length) 0).map enc) 3 → Below w.heap.size w w2 → wpList Try.prog ops Q rest (a.put op.dst (goInt (L.map enc).length)) w2) : wpList Try.prog ops Q (op :: rest) a w1 := by
  refine wpList_copy_splice hgd d s 27 27 ho 3 Try.underlying27 elem_size (some ⟨g, 0, none⟩) A1 m m L.length k1 hd hs g 0 (List.replicate m (Value.int .i64 0)) 3 hg0 (L.map enc) (by simp [Nat.min_def]; omega) (fun hp => ⟨rfl, hsrc hp⟩) (by simp; omega) ?_ w.heap.size w hb hg ?_
  · intro v hv
    obtain ⟨x, _, rfl⟩ := List.mem_map.1 hv
    rfl
  · intro w2 hg2 hb2
    refine h w2 ?_ hb2
    have := hg2.out
    rw [show (Value.int .i64 0) = enc 0 from rfl, splice_rep] at this
    exact this
/-- What grow leaves, in a case in which it makes a ring of m places. -/
theorem grow_step (b o t base m : Nat) (w w1 : World) (cs : List Value) (L : List Int) (rv : Value) (top : Nat) (ring : List Int) (h : Raw w base b o t cs L rv top ring) (hbase : base ≤ w.heap.size) (hm : L.length < m) (hm2 : m ≤ 4294967296)
    (hb1 : Below w.heap.size w w1) (hg : Blk w1 w.heap.size ((L ++ List.replicate (m - L.length) 0).map enc) 3) :
    ∃ cs' rv' top' ring', Raw ((w1.setCell ⟨b, o, none⟩ (.slice (some ⟨w.heap.size, 0, none⟩) m m)).setCell ⟨b, o + 1, none⟩ (.int .i64 0)) base b o t cs' L rv' top' ring' ∧ L.length < ring'.length ∧
      Step w ((w1.setCell ⟨b, o, none⟩ (.slice (some ⟨w.heap.size, 0, none⟩) m m)).setCell ⟨b, o + 1, none⟩ (.int .i64 0)) base b o t cs cs' := by
  obtain ⟨hb, hbb, c0, c1, c2, hr, _, hring⟩ := h
  have hbl := hb.lt
  have hlen : (L ++ List.replicate (m - L.length) 0).length = m := by simp; omega
  have l0 : o < cs.length := by
    rcases Nat.lt_or_ge o cs.length with h | h
    · exact h
    · rw [List.getElem?_eq_none h] at c0; cases c0
  have l1 : o + 1 < cs.length := by
    rcases Nat.lt_or_ge (o + 1) cs.length with h | h
    · exact h
    · rw [List.getElem?_eq_none h] at c1; cases c1
  have hB := ((hb.below hb1 hbl).set o (.slice (some ⟨w.heap.size, 0, none⟩) m m)).set (o + 1) (.int .i64 0)
  refine ⟨_, .slice (some ⟨w.heap.size, 0, none⟩) m m, 0, L ++ List.replicate (m - L.length) 0, ⟨hB, hbb, ?_, ?_, ?_, ring_grow L 0 m (by omega) (by omega), by omega, .inr ⟨w.heap.size, by rw [hlen], hbase, by omega, ?_⟩⟩, by omega, ?_⟩
  · rw [List.getElem?_set_ne (by omega), List.getElem?_set_self l0]
  · rw [List.getElem?_set_self (by simpa using l1)]; rfl
  · rw [List.getElem?_set_ne (by omega), List.getElem?_set_ne (by omega)]; exact c2
  · exact (hg.other (by simp; omega) _).other (by simp; omega) _
  · refine ⟨by simp, fun j h0 h1 _ => by rw [List.getElem?_set_ne (by omega), List.getElem?_set_ne (by omega)], ((Chg.of_below hb1).set _ (.inl (.inl rfl)) _).set _ (.inl (.inl rfl)) _, ?_⟩
    rintro k (rfl | hk)
    · exact .inl (.inl rfl)
    · rw [List.getD_eq_getElem?_getD, List.getElem?_set_ne (by omega), List.getElem?_set_self l0] at hk
      simp [Value.ownBlock] at hk
      exact .inr (by omega)

set_option maxRecDepth 100000 in
set_option maxHeartbeats 1000000 in
theorem grow_calls (b o t base : Nat) (w : World) (cs : List Value) (L : List Int) (rv : Value) (top : Nat) (ring : List Int) (h : Raw w base b o t cs L rv top ring) (hL : L.length ≤ 1000000000) (hbase : base ≤ w.heap.size) :
    Calls Try.prog 81 #[.pointer (some ⟨b, o, none⟩)] w fun e w' => e = .returned (.tuple #[]) ∧ ∃ cs' rv' top' ring', Raw w' base b o t cs' L rv' top' ring' ∧ L.length < ring'.length ∧ Step w w' base b o t cs cs' := by
  have HR := Lib.hid h
  obtain ⟨hb, hbb, c0, c1, c2, hr, hm, hring⟩ := h
  have hrv : ∃ A, rv = .slice A ring.length ring.length := by
    rcases hring with ⟨rfl, h⟩ | ⟨g, h, _⟩
    · exact ⟨none, by rw [h]; rfl⟩
    · exact ⟨_, h⟩
  obtain ⟨A, rfl⟩ := hrv
  have hbl := hb.lt
  have q0 := hb.cell o
  have q1 := hb.cell (o + 1)
  have q2 := hb.cell (o + 2)
  have f0 := hb.free o
  have f1 := hb.free (o + 1)
  rw [c0] at q0
  rw [c1] at q1
  rw [c2] at q2
  have hlen := hr.1
  by_cases hlt : L.length < ring.length
  · have hdec : decide (L.length < ring.length) = true := decide_eq_true hlt
    have Hlt := Lib.hid hlt
    clear hb c0 c1 c2 hr hring hlt
    go_enter Try.func81, Try.ntmps81
    go_wp2
    go_quiet (fail)
    go_wp2
    refine bodyPost_ret (results_none rfl _ _ _) rfl ?_
    exact ⟨rfl, cs, _, top, ring, HR.out, Hlt.out, rfl, fun _ _ _ _ => rfl, (Chg.refl _ _).drewN _, fun k hk => .inl hk⟩
  · have hdec : decide (L.length < ring.length) = false := decide_eq_false hlt
    have heq : ring.length = L.length := by omega
    have Heq := Lib.hid heq
    clear hb c0 c1 c2 hr hring hlt heq
    obtain ⟨m, hm1, hm2, hmk⟩ : ∃ m, L.length < m ∧ m ≤ 4294967296 ∧ Hid (m = if 2 * L.length ≤ 4 then 4 else 2 * L.length) := by
      refine ⟨if 2 * L.length ≤ 4 then 4 else 2 * L.length, ?_, ?_, rfl⟩ <;> split <;> omega
    have mk4 : 2 * (L.length : Int) ≤ 4 → Hid ((4 : Int) = m) := fun h => by
      have := hmk.out; rw [if_pos (by omega)] at this; show (4 : Int) = m; omega
    have mk2 : 4 < 2 * (L.length : Int) → Hid (2 * (L.length : Int) = m) := fun h => by
      have := hmk.out; rw [if_neg (by omega)] at this; show 2 * (L.length : Int) = m; omega
    by_cases h4 : 2 * (L.length : Int) ≤ 4
    all_goals
      first
        | have hmake := made 4 m (mk4 h4) hm2
        | have hmake := made (2 * (L.length : Int)) m (mk2 (by omega)) hm2
      clear mk4 mk2
      go_enter Try.func81, Try.ntmps81
      go_wp2
      go_quiet (fail)
      go_wp2_with fail
      refine (list_calls b o t base _ cs L ((HR.out.is.drewN nq).below ((Below.refl _ _).alloc (Nat.le_refl _) _)) hL).mono ?_
      rintro e w1 ⟨v, rfl, ho, hb1⟩
      obtain ⟨A1, k1, rfl, hk1⟩ := own_form ho
      have hg0 : Blk w1 w.heap.size (List.replicate m (Value.int .i64 0)) 3 := (Blk.new (w.drewN nq) (List.replicate m (Value.int .i64 0)) 3).below hb1 (by simp)
      have hsrc := own_src ho
      replace hb1 : Below w.heap.size w w1 := (((pw_below_drewN (Below.refl _ w) nq).alloc (Nat.le_refl _) _).trans (hb1.mono (by simp)))
      have Hsrc := Lib.hid hsrc
      have Hg0 := Lib.hid hg0
      clear ho hmake hg0 hsrc
      go_wp2_with (refine copy_in (w := w) (.tmp 20) (.tmp 22) rfl rfl w.heap.size m k1 A1 L rfl rfl Hg0.out Hsrc.out (by omega) hb1 (Nat.le_refl _) ?_; intro w2 hg2 hb2; have p0 := pw_cell_below hb2 q0; have p1 := pw_cell_below hb2 q1; have g0 := (hb2.frozen (p := ⟨b, o, none⟩) hbl).trans f0; have g1 := (hb2.frozen (p := ⟨b, o + 1, none⟩) hbl).trans f1)
      go_end0
      exact ⟨rfl, grow_step b o t base m w w2 cs L _ top ring HR.out hbase hm1 hm2 hb2 hg2⟩
end Go.Proofs.Ytndciilmnnaemaa.DqI
