/- The walk of the law LevelLess. -/
import Derived.Test.YtkjddfmhledckaaLvJ
import Derived.Test.YtkjddfmhledckaaLvG
import Derived.Test.YtkjddfmhledckaaSteps
set_option linter.unusedSimpArgs false
namespace Go.Proofs.Ytkjddfmhledckaa
open Go.RowKit Go.Lib Go.Proofs.Ytkjddfmhledckaa.PLevelOf Go.Proofs.YtkjddfmhledckaaW.PrintWords Lv
set_option linter.unusedVariables false

theorem Cells.of_ownK {w : World} {base n c k : Nat} {e : TypeId} {A : Option Addr} {xs : List Value} (h : w.ownsRow base e k (.slice A n c) n xs) : Cells w A xs := fun hn => by
  rcases h.2 with ⟨h0, hn0⟩ | ⟨g, cap, cur, hv, hb, hg, hcap, _, _, ht⟩
  · have := h.1
    rw [hn0, Nat.zero_mul] at this; omega
  · have hA : A = some ⟨g, 0, none⟩ := by injection hv
    subst hA
    refine ⟨_, rfl, fun j v hv => ?_⟩
    rw [Addr.add_lit, Nat.zero_add, cell_of_row _ _ _ _ _ _ hg]
    rw [← ht, List.getElem?_take] at hv
    split at hv
    · simpa using hv
    · cases hv

section
variable {P : Program} {ops : Array Oper} {rest : List Oper} {o : Oper} {a : Act} {Q : Exit → Act → World → Prop} {K : Act → World → Prop}
theorem run_appK (W : World) (base : Nat) (t ty e : TypeId) (z : Value) (k bytes : Nat) (ht : P.underlying t = some (.slice e)) (hinfo : (P.info? e).map (fun i => (i.zero, i.size, i.bytes)) = some (some z, k, bytes)) (hz : z.cells.size = k) (hk0 : 0 < k) (hb0 : 0 < bytes)
    (v : Value) (n : Nat) (xs ys : List Value) (A : Option Addr) (m c : Nat) (hm : ys.length = m * k) (HO : W.ownsRow base e k v n xs) (HR : Cells W A ys) (h1 : ∀ u ∈ ys, u.oneCell' = true) (hbase : base ≤ W.heap.size) (hl : (n + m) * bytes ≤ 140737488355328) :
    ∃ v1 w1, (Builtin.append_ #[t, t] ty #[v, .slice A m c]).run P W = .ok v1 w1 ∧ w1.ownsRow base e k v1 (n + m) (xs ++ ys) ∧ W.grownBy w1 v.ownBlock ∧ (v1.ownBlock = v.ownBlock ∨ ∃ b, v1.ownBlock = some b ∧ W.heap.size ≤ b) := by
  obtain ⟨i0, hi, hzz⟩ := Option.map_eq_some_iff.1 hinfo
  simp only [Prod.mk.injEq] at hzz
  obtain ⟨hz0, hz1, hz2⟩ := hzz
  have hlen : n + m ≤ 140737488355328 := Nat.le_trans (Nat.le_mul_of_pos_right _ hb0) hl
  rcases A with _ | ad
  · have h0 : m = 0 := by
      rcases Nat.eq_zero_or_pos m with h0 | h0
      · exact h0
      · obtain ⟨ad, h, _⟩ := HR (by rw [hm]; exact Nat.mul_pos h0 hk0)
        cases h
    subst h0
    obtain rfl : ys = [] := List.eq_nil_of_length_eq_zero (by rw [hm, Nat.zero_mul])
    refine ⟨v, W, ?_, by rw [List.append_nil]; exact HO, World.grownBy.refl W _, .inl rfl⟩
    rcases HO.2 with ⟨rfl, hn⟩ | ⟨g, cap, cur, rfl, _, _, hnc, _⟩
    · subst hn
      simp [Builtin.append_, run_underlying ht, sizeOf, typeInfo, hi, Builtin.lenOf, Builtin.firstCells]
    · simp [Builtin.append_, run_underlying ht, sizeOf, typeInfo, hi, Builtin.lenOf, Builtin.firstCells, hnc, storeCells]
  · have hnc : ∀ j u, ys[j]? = some u → W.cell? (ad.add j) = some u := by
      intro j u hu
      have h0 : 0 < ys.length := by
        rcases Nat.eq_zero_or_pos ys.length with h0 | h0
        · rw [List.eq_nil_of_length_eq_zero h0] at hu; simp at hu
        · exact h0
      obtain ⟨ad', he, hc⟩ := HR h0
      injection he with he; subst he
      exact hc j u hu
    obtain ⟨v1, w1, hrun, h2, hg, _, hat⟩ := run_append_own_at (P := P) W base t ty e i0 z k bytes ht hi hz0 hz1 hz2 hz hk0 v n xs HO ad m c ys hm hnc h1 (by simp only [maxLen]; omega) hl hbase
    refine ⟨v1, w1, hrun, h2, hg, ?_⟩
    rcases hat with hat | hat
    · exact .inl hat
    · exact .inr ⟨_, hat, Nat.le_refl _⟩
/-- For go_region_law: the value written out. -/
theorem step_appK {w0 W : World} (base : Nat) (hw : Region.wanted o (yielded ops a.tmps) = true) (s x : Operand) (t e : TypeId) (z : Value) (k bytes : Nat)
    (ho : o.op = .call { callee := .builtin .append, args := #[s, x], argTypes := #[t, t] })
    (ht : P.underlying t = some (.slice e)) (hinfo : (P.info? e).map (fun i => (i.zero, i.size, i.bytes)) = some (some z, k, bytes)) (hz : z.cells.size = k) (hk0 : 0 < k) (hb0 : 0 < bytes)
    (v : Value) (xs ys : List Value) (A : Option Addr) (n m c : Nat) (hs : a.eval s = v) (hx : a.eval x = .slice A m c) (hm : ys.length = m * k) (HO : W.ownsRow base e k v n xs) (HR : Cells W A ys) (h1 : ∀ u ∈ ys, u.oneCell' = true)
    (HB : Below base w0 W) (hbase : base ≤ W.heap.size) (hl : (n + m) * bytes ≤ 140737488355328)
    (h : ∀ A1 c1 w1, w1.ownsRow base e k (.slice A1 (n + m) c1) (n + m) (xs ++ ys) → Below base w0 w1 → W.grownBy w1 v.ownBlock → ((Value.slice A1 (n + m) c1).ownBlock = v.ownBlock ∨ ∃ b, (Value.slice A1 (n + m) c1).ownBlock = some b ∧ W.heap.size ≤ b) → n + m ≤ c1 → K (a.put o.dst (.slice A1 (n + m) c1)) w1) :
    if Region.wanted o (yielded ops a.tmps) = true then Oper.wp P o a W K Q else K (a.put o.dst undef) W := by
  rw [if_pos hw]
  obtain ⟨v1, w1, hr, hown, hg, hat⟩ := run_appK (P := P) W base t o.type e z k bytes ht hinfo hz hk0 hb0 v n xs ys A m c hm HO HR h1 hbase hl
  unfold Oper.wp execOp
  simp only [ho, resolve, invoke, builtin, Sem.run_bind, Sem.run_pure, Result.andThen_ok, List.map_toArray, List.map_cons, List.map_nil, hs, hx, hr]
  have hB := HB.grown hg hbase (own_base HO)
  rcases hown.2 with ⟨rfl, h0⟩ | ⟨g, cap, cur, rfl, _, _, h2, _⟩
  · have e0 : n + m = 0 := h0
    have h3 := h none 0 w1
    rw [e0] at h3
    rw [e0] at hown
    exact h3 hown hB hg hat (Nat.le_refl _)
  · exact h _ _ w1 hown hB hg hat h2
theorem wpl_appK {w0 W : World} (base : Nat) (hgd : o.guard = none) (s x : Operand) (t e : TypeId) (z : Value) (k bytes : Nat)
    (ho : o.op = .call { callee := .builtin .append, args := #[s, x], argTypes := #[t, t] })
    (ht : P.underlying t = some (.slice e)) (hinfo : (P.info? e).map (fun i => (i.zero, i.size, i.bytes)) = some (some z, k, bytes)) (hz : z.cells.size = k) (hk0 : 0 < k) (hb0 : 0 < bytes)
    (v : Value) (xs ys : List Value) (A : Option Addr) (n m c : Nat) (hs : a.eval s = v) (hx : a.eval x = .slice A m c) (hm : ys.length = m * k) (HO : W.ownsRow base e k v n xs) (HR : Cells W A ys) (h1 : ∀ u ∈ ys, u.oneCell' = true)
    (HB : Below base w0 W) (hbase : base ≤ W.heap.size) (hl : (n + m) * bytes ≤ 140737488355328)
    (h : ∀ A1 c1 w1, w1.ownsRow base e k (.slice A1 (n + m) c1) (n + m) (xs ++ ys) → Below base w0 w1 → W.grownBy w1 v.ownBlock → ((Value.slice A1 (n + m) c1).ownBlock = v.ownBlock ∨ ∃ b, (Value.slice A1 (n + m) c1).ownBlock = some b ∧ W.heap.size ≤ b) → n + m ≤ c1 → wpList P ops Q rest (a.put o.dst (.slice A1 (n + m) c1)) w1) :
    wpList P ops Q (o :: rest) a W := by
  obtain ⟨v1, w1, hr, hown, hg, hat⟩ := run_appK (P := P) W base t o.type e z k bytes ht hinfo hz hk0 hb0 v n xs ys A m c hm HO HR h1 hbase hl
  refine wpList_plain hgd fun K hK => ?_
  unfold Oper.wp execOp
  simp only [ho, resolve, invoke, builtin, Sem.run_bind, Sem.run_pure, Result.andThen_ok, List.map_toArray, List.map_cons, List.map_nil, hs, hx, hr]
  have hB := HB.grown hg hbase (own_base HO)
  rcases hown.2 with ⟨rfl, h0⟩ | ⟨g, cap, cur, rfl, _, _, h2, _⟩
  · have e0 : n + m = 0 := h0
    have h3 := h none 0 w1
    rw [e0] at h3
    rw [e0] at hown
    exact hK _ _ (h3 hown hB hg hat (Nat.le_refl _))
  · exact hK _ _ (h _ _ w1 hown hB hg hat h2)
end
theorem mn_min (a b : Int) : mn a b = min a b := by unfold mn; split <;> omega
/-- The cells of a finding. -/
def fc (p : S32) (A : Option Addr) (c : Nat) : List Value := [.int .i64 p.f0, .int .i64 p.f1, .int .i64 p.f2, .int .i64 p.f3, .int .i64 p.f4, .int .i64 p.f5, .slice A p.f6.length c]
/-- One finding, laid in a block. -/
theorem one_laid {W : World} {g : Nat} {p : S32} {A : Option Addr} {c : Nat} (hg : W.heap[g]? = some (.cells #[.int .i64 p.f0, .int .i64 p.f1, .int .i64 p.f2, .int .i64 p.f3, .int .i64 p.f4, .int .i64 p.f5, .slice A p.f6.length c] 32 (0, 0)))
    (l6 : p.f6.length ≤ c) (h6 : Kd.C k56 W A p.f6.length p.f6) : Kd.C k32 W (some ⟨g, 0, none⟩) 1 [p] := by
  refine ⟨rfl, by decide, fun _ => ⟨_, rfl, fun j q hq => ?_⟩⟩
  have hj : j = 0 := by have := (List.getElem?_eq_some_iff.1 hq).1; simp at this; omega
  subst hj
  cases hq
  refine ⟨_, rfl, k32_mk W p l6 h6, fun i u hu => ?_⟩
  rw [Addr.add_lit, cell_of_row _ _ _ _ _ _ hg]
  simpa using hu
/-- A row of findings as its cells. -/
theorem flat32 {W : World} {A : Option Addr} {l : List S32} (h : Kd.C k32 W A l.length l) : ∃ ys : List Value, Reps (k32.K W) 7 l ys ∧ Cells W A ys ∧ ∀ u ∈ ys, u.oneCell' = true := by
  cases A with
  | none =>
    have hl : l = [] := by
      cases l with
      | nil => rfl
      | cons p l => obtain ⟨ad, e, _⟩ := h.2.2 (by simp); cases e
    subst hl
    exact ⟨[], Reps.none _ _, fun h0 => absurd h0 (by decide), fun u hu => by simp at hu⟩
  | some ad =>
    obtain ⟨ys, hn, hc⟩ := ReadsRow.inner_ h
    exact ⟨ys, hn, fun _ => ⟨ad, rfl, hc⟩, Kd.reps_one hn (by decide) fun p c hp => k32.K_one hp⟩
/-- A row of so many of one's own. -/
def LsR (w2 W : World) (n : Nat) (xs : List Value) (v : Value) : Prop := ∃ A c, v = .slice A n c ∧ n ≤ c ∧ W.ownsRow w2.heap.size 32 7 v n xs ∧ Below w2.heap.size w2 W
theorem LsR.row {w2 W : World} {l : List S32} {p : S32} {A6 : Option Addr} {c6 : Nat} {ys : List Value} {v : Value} (h : LsR w2 W (l.length + 1) (ys ++ fc p A6 c6) v) (hR : Reps (k32.K w2) 7 l ys) (l6 : p.f6.length ≤ c6) (h6 : Kd.C k56 w2 A6 p.f6.length p.f6) :
    ∃ A c, v = .slice A (l ++ [p]).length c ∧ (l ++ [p]).length ≤ c ∧ Kd.C k32 W A (l ++ [p]).length (l ++ [p]) ∧ Below w2.heap.size w2 W := by
  obtain ⟨A, c, rfl, hc, ho, hb⟩ := h
  have h1 : Reps (k32.K W) 7 (l ++ [p]) (ys ++ fc p A6 c6) := (Reps.snoc hR (k32_mk w2 p l6 h6) rfl).imp_ fun q cs hq => k32.K_below hb hq
  obtain ⟨A', c', e, hrd⟩ := own_reads_row ho h1 (by simp)
  injection e with e1 e2 e3
  subst e1; subst e3
  have e4 : (l ++ [p]).length = l.length + 1 := by simp
  rw [e4]
  exact ⟨A, c, rfl, hc, hrd, hb⟩
set_option maxHeartbeats 1000000 in
set_option maxRecDepth 100000 in
theorem less_main (w : World) (A : Option Addr) (c : Nat) (l : List S32) (hr : Kd.C k32 w A l.length l) (hc : l.length ≤ c) (p : S32) (A6 : Option Addr) (c6 : Nat) (l6 : p.f6.length ≤ c6) (h6 : Kd.C k56 w A6 p.f6.length p.f6) (n : Int) (hf : fewP l = true) :
    Calls Try.prog 5 #[.slice A l.length c, .agg #[.int .i64 p.f0, .int .i64 p.f1, .int .i64 p.f2, .int .i64 p.f3, .int .i64 p.f4, .int .i64 p.f5, .slice A6 p.f6.length c6], .int .i64 n] w fun e w' => e = .returned (.bool true) ∧ Below w.heap.size w w' := by
  have HR := Lib.hid hr
  have HC := Lib.hid hc
  have HF := Lib.hid (fun (W : World) (hC : Kd.C k32 W A l.length l) => few_c hC hc)
  rw [hf] at HF
  have HE := Lib.hid (fewP_true hf)
  have HL : l.length ≤ 60 := HE.out.1
  have HM := Lib.hid (ofP_more l p)
  have HB : Hid (∀ n : Int, n ≤ ofP l → ∀ q ∈ l, barsP n q.f0 = false) := Lib.hid fun n hn q hq => not_barred hn hq
  have H6 := Lib.hid h6
  have L6 := Lib.hid l6
  have hin := ofP_in l
  have hO := Lib.hid (fun (W : World) (hC : Kd.C k32 W A l.length l) => of_c hC hc (by omega))
  clear hf hr hc h6 l6
  go_enter Try.func5, Try.ntmps5
  go_wp2_with fail
  have hb1 : Below w.heap.size w (w.alloc (.cells #[.int .i64 p.f0, .int .i64 p.f1, .int .i64 p.f2, .int .i64 p.f3, .int .i64 p.f4, .int .i64 p.f5, .slice A6 p.f6.length c6] 32)) := (Below.refl _ _).alloc (Nat.le_refl _) _
  have HZ : Hid (Blk (w.alloc (.cells #[.int .i64 p.f0, .int .i64 p.f1, .int .i64 p.f2, .int .i64 p.f3, .int .i64 p.f4, .int .i64 p.f5, .slice A6 p.f6.length c6] 32)) w.heap.size (fc p A6 c6) 32) := Lib.hid (Blk.new w (fc p A6 c6) 32)
  refine (HF.out _ (Kd.C_below HR.out hb1)).mono ?_
  rintro e w1 ⟨rfl, hb2⟩
  have HZ1 := Lib.hid (HZ.out.below hb2 (by simp))
  have hb3 := link hb1 hb2
  clear hb1 hb2 HZ
  go_wp2_with fail
  refine (hO.out _ (Kd.C_below HR.out hb3)).mono ?_
  rintro e w2 ⟨rfl, hb4⟩
  have HZ2 := Lib.hid (HZ1.out.below hb4 HZ1.out.lt)
  have hb5 := link hb3 hb4
  clear hb3 hb4 HZ1
  have C2 := Kd.C_below HR.out hb5
  obtain ⟨ys, hR, hY, h1⟩ := flat32 C2
  have HYS := Lib.hid hR
  have HY := Lib.hid hY
  have H1 := Lib.hid h1
  have C2 := Lib.hid C2
  clear hR hY h1
  generalize ofP l = x at *
  go_upto_region 4 with (fail)
  go_cut [8] (fun v8 wr => LsR w2 wr (l.length + 1) (ys ++ fc p A6 c6) v8)
  case first =>
   have hN : Hid (ys.length = l.length * 7) := Lib.hid HYS.out.1
   have facts := fun (W : World) (h : Blk W w.heap.size (fc p A6 c6) 32) => (⟨h.cell 0, h.cell 1, h.cell 2, h.cell 3, h.cell 4, h.cell 5, h.cell 6⟩ : W.cell? ⟨w.heap.size, 0, none⟩ = some (.int .i64 p.f0) ∧ W.cell? ⟨w.heap.size, 1, none⟩ = some (.int .i64 p.f1) ∧ W.cell? ⟨w.heap.size, 2, none⟩ = some (.int .i64 p.f2) ∧ W.cell? ⟨w.heap.size, 3, none⟩ = some (.int .i64 p.f3) ∧ W.cell? ⟨w.heap.size, 4, none⟩ = some (.int .i64 p.f4) ∧ W.cell? ⟨w.heap.size, 5, none⟩ = some (.int .i64 p.f5) ∧ W.cell? ⟨w.heap.size, 6, none⟩ = some (.slice A6 p.f6.length c6))
   have FX := Lib.hid facts
   clear facts
   have hb0 : Below w2.heap.size w2 (w2.alloc (.cells #[] 32)).drew := ((Below.refl w2.heap.size w2).alloc (Nat.le_refl _) _).drew
   have fa := FX.out w2.drew HZ2.out.drew
   have fb := FX.out _ (HZ2.out.below hb0 HZ2.out.lt)
   obtain ⟨a0, a1, a2, a3, a4, a5, a6⟩ := fa
   obtain ⟨b0, b1, b2, b3, b4, b5, b6⟩ := fb
   have ho1 : (w2.alloc (.cells #[] 32)).ownsRow w2.heap.size 32 7 (.slice (some ⟨w2.heap.size, 0, none⟩) 0 0) 0 [] := World.ownsRow_lit (base := w2.heap.size) (e := 32) (size := 7) w2 #[] 0 (by simp) (by simp [maxLen]) (by simp)
   have ho3 : ((w2.alloc (.cells #[.int .i64 p.f0, .int .i64 p.f1, .int .i64 p.f2, .int .i64 p.f3, .int .i64 p.f4, .int .i64 p.f5, .slice A6 p.f6.length c6] 32)).alloc (.cells #[] 32)).ownsRow w2.heap.size 32 7 (.slice (some ⟨w2.heap.size + 1, 0, none⟩) 0 0) 0 [] := by
     have := World.ownsRow_lit (base := w2.heap.size) (e := 32) (size := 7) (w2.alloc (.cells #[.int .i64 p.f0, .int .i64 p.f1, .int .i64 p.f2, .int .i64 p.f3, .int .i64 p.f4, .int .i64 p.f5, .slice A6 p.f6.length c6] 32)) #[] 0 (by simp) (by simp [maxLen]) (by simp)
     simpa using this
   have hb2 : Below w2.heap.size w2 ((w2.alloc (.cells #[] 32)).alloc (.cells #[.int .i64 p.f0, .int .i64 p.f1, .int .i64 p.f2, .int .i64 p.f3, .int .i64 p.f4, .int .i64 p.f5, .slice A6 p.f6.length c6] 32)).drew := (((Below.refl w2.heap.size w2).alloc (Nat.le_refl _) _).alloc (by simp) _).drew
   have hb3 : Below w2.heap.size w2 ((w2.alloc (.cells #[.int .i64 p.f0, .int .i64 p.f1, .int .i64 p.f2, .int .i64 p.f3, .int .i64 p.f4, .int .i64 p.f5, .slice A6 p.f6.length c6] 32)).alloc (.cells #[] 32)).drew := (((Below.refl w2.heap.size w2).alloc (Nat.le_refl _) _).alloc (by simp) _).drew
   have hc2 : Cells ((w2.alloc (.cells #[] 32)).alloc (.cells #[.int .i64 p.f0, .int .i64 p.f1, .int .i64 p.f2, .int .i64 p.f3, .int .i64 p.f4, .int .i64 p.f5, .slice A6 p.f6.length c6] 32)).drew (some ⟨w2.heap.size + 1, 0, none⟩) [.int .i64 p.f0, .int .i64 p.f1, .int .i64 p.f2, .int .i64 p.f3, .int .i64 p.f4, .int .i64 p.f5, .slice A6 p.f6.length c6] := by
     have := Cells.new (w2.alloc (.cells #[] 32)) [.int .i64 p.f0, .int .i64 p.f1, .int .i64 p.f2, .int .i64 p.f3, .int .i64 p.f4, .int .i64 p.f5, .slice A6 p.f6.length c6] 32
     rw [World.size_alloc] at this
     exact this
   have hc3 : Cells ((w2.alloc (.cells #[.int .i64 p.f0, .int .i64 p.f1, .int .i64 p.f2, .int .i64 p.f3, .int .i64 p.f4, .int .i64 p.f5, .slice A6 p.f6.length c6] 32)).alloc (.cells #[] 32)).drew (some ⟨w2.heap.size, 0, none⟩) [.int .i64 p.f0, .int .i64 p.f1, .int .i64 p.f2, .int .i64 p.f3, .int .i64 p.f4, .int .i64 p.f5, .slice A6 p.f6.length c6] :=
     (Cells.new w2 [.int .i64 p.f0, .int .i64 p.f1, .int .i64 p.f2, .int .i64 p.f3, .int .i64 p.f4, .int .i64 p.f5, .slice A6 p.f6.length c6] 32).below (((Below.refl _ _).alloc (Nat.le_refl _) _).drew)
   have ho2 := ho1.alloc (.cells #[.int .i64 p.f0, .int .i64 p.f1, .int .i64 p.f2, .int .i64 p.f3, .int .i64 p.f4, .int .i64 p.f5, .slice A6 p.f6.length c6] 32)
   have HO1 := Lib.hid ho1; clear ho1
   have HO2 := Lib.hid ho2; clear ho2
   have HO3 := Lib.hid ho3; clear ho3
   have HB0 := Lib.hid hb0; clear hb0
   have HB2 := Lib.hid hb2; clear hb2
   have HB3 := Lib.hid hb3; clear hb3
   have HC2 := Lib.hid hc2; clear hc2
   have HC3 := Lib.hid hc3; clear hc3
   have HV1 : Hid (∀ u ∈ [.int .i64 p.f0, .int .i64 p.f1, .int .i64 p.f2, .int .i64 p.f3, .int .i64 p.f4, .int .i64 p.f5, .slice A6 p.f6.length c6], Value.oneCell' u = true) := Lib.hid (by
     intro u hu
     simp only [List.mem_cons, List.mem_nil_iff, or_false] at hu
     rcases hu with rfl | rfl | rfl | rfl | rfl | rfl | rfl <;> rfl)
   have HFI : Hid (∀ (W : World) (v : Value) (A3 : Option Addr) (c3 : Nat), W.ownsRow w2.heap.size 32 7 (.slice A3 (l.length + 1) c3) (l.length + 1) (ys ++ fc p A6 c6) → Below w2.heap.size w2 W → l.length + 1 ≤ c3 → LsR w2 W (l.length + 1) (ys ++ fc p A6 c6) (.slice A3 (l.length + 1) c3)) := Lib.hid fun W v A3 c3 ho hb hc => ⟨A3, c3, rfl, hc, ho, hb⟩
   generalize l.length = k at *
   go_region_law (first
     | (refine step_appK (w0 := w2) w2.heap.size rfl (.tmp 16) (.tmp 17) 25 32 (.agg #[(.int .i64 0), (.int .i64 0), (.int .i64 0), (.int .i64 0), (.int .i64 0), (.int .i64 0), (.slice none 0 0)]) 7 72 rfl Try.underlying25 info32 rfl (by decide) (by decide) (.slice (some ⟨w2.heap.size, 0, none⟩) 0 0) [] ys A 0 k c rfl rfl hN.out HO1.out (HY.out.below HB0.out) H1.out HB0.out (by simp) (by omega) ?_; intro A2 c2 w3 hown hb2 hg hat hc2; simp only [Nat.zero_add, List.nil_append] at hown hc2; obtain ⟨d0, d1, d2, d3, d4, d5, d6⟩ := FX.out _ (HZ2.out.below hb2 HZ2.out.lt))
     | (refine step_appK (w0 := w2) w2.heap.size rfl (.tmp 16) (.tmp 17) 25 32 (.agg #[(.int .i64 0), (.int .i64 0), (.int .i64 0), (.int .i64 0), (.int .i64 0), (.int .i64 0), (.slice none 0 0)]) 7 72 rfl Try.underlying25 info32 rfl (by decide) (by decide) (.slice (some ⟨w2.heap.size, 0, none⟩) 0 0) [] ys A 0 k c rfl rfl hN.out HO2.out (HY.out.below HB2.out) H1.out HB2.out HB2.out.size (by omega) ?_; intro A2 c2 w3 hown hb2 hg hat hc2; simp only [Nat.zero_add, List.nil_append] at hown hc2; have hcc := HC2.out.grown hg (by simp) (by simp [Value.ownBlock]))
     | (refine step_appK (w0 := w2) w2.heap.size rfl (.tmp 16) (.tmp 17) 25 32 (.agg #[(.int .i64 0), (.int .i64 0), (.int .i64 0), (.int .i64 0), (.int .i64 0), (.int .i64 0), (.slice none 0 0)]) 7 72 rfl Try.underlying25 info32 rfl (by decide) (by decide) (.slice (some ⟨w2.heap.size + 1, 0, none⟩) 0 0) [] ys A 0 k c rfl rfl hN.out HO3.out (HY.out.below HB3.out) H1.out HB3.out HB3.out.size (by omega) ?_; intro A2 c2 w3 hown hb2 hg hat hc2; simp only [Nat.zero_add, List.nil_append] at hown hc2; have hcc := HC3.out.grown hg (by simp; omega) (by simp [Value.ownBlock]))
     | (refine step_appK (w0 := w2) w2.heap.size rfl (.tmp 18) (.tmp 20) 25 32 (.agg #[(.int .i64 0), (.int .i64 0), (.int .i64 0), (.int .i64 0), (.int .i64 0), (.int .i64 0), (.slice none 0 0)]) 7 72 rfl Try.underlying25 info32 rfl (by decide) (by decide) (.slice A2 k c2) ys [.int .i64 p.f0, .int .i64 p.f1, .int .i64 p.f2, .int .i64 p.f3, .int .i64 p.f4, .int .i64 p.f5, .slice A6 p.f6.length c6] (some ⟨w3.heap.size, 0, none⟩) k 1 1 rfl rfl rfl (hown.alloc _) (Cells.new _ [.int .i64 p.f0, .int .i64 p.f1, .int .i64 p.f2, .int .i64 p.f3, .int .i64 p.f4, .int .i64 p.f5, .slice A6 p.f6.length c6] _) HV1.out (hb2.alloc hb2.size _) (by have := hb2.size; simp; omega) (by omega) ?_; intro A3 c3 w4 hown3 hb3 hg3 hat3 hc3)
     | (refine step_appK (w0 := w2) w2.heap.size rfl (.tmp 18) (.tmp 20) 25 32 (.agg #[(.int .i64 0), (.int .i64 0), (.int .i64 0), (.int .i64 0), (.int .i64 0), (.int .i64 0), (.slice none 0 0)]) 7 72 rfl Try.underlying25 info32 rfl (by decide) (by decide) (.slice A2 k c2) ys [.int .i64 p.f0, .int .i64 p.f1, .int .i64 p.f2, .int .i64 p.f3, .int .i64 p.f4, .int .i64 p.f5, .slice A6 p.f6.length c6] (some ⟨w2.heap.size + 1, 0, none⟩) k 1 1 rfl rfl rfl hown hcc HV1.out hb2 hb2.size (by omega) ?_; intro A3 c3 w4 hown3 hb3 hg3 hat3 hc3)
     | (refine step_appK (w0 := w2) w2.heap.size rfl (.tmp 18) (.tmp 20) 25 32 (.agg #[(.int .i64 0), (.int .i64 0), (.int .i64 0), (.int .i64 0), (.int .i64 0), (.int .i64 0), (.slice none 0 0)]) 7 72 rfl Try.underlying25 info32 rfl (by decide) (by decide) (.slice A2 k c2) ys [.int .i64 p.f0, .int .i64 p.f1, .int .i64 p.f2, .int .i64 p.f3, .int .i64 p.f4, .int .i64 p.f5, .slice A6 p.f6.length c6] (some ⟨w2.heap.size, 0, none⟩) k 1 1 rfl rfl rfl hown hcc HV1.out hb2 hb2.size (by omega) ?_; intro A3 c3 w4 hown3 hb3 hg3 hat3 hc3))
   all_goals
     go_wp2
     go_meet
     case rel => exact HFI.out _ (.int .i64 0) _ _ hown3 hb3 hc3
  case rest =>
    obtain ⟨A3, c3, rfl, hc3, hC3, hb6⟩ := hcut.row HYS.out L6.out (Kd.C_below H6.out hb5)
    have HZ3 := Lib.hid (HZ2.out.below hb6 HZ2.out.lt)
    have hb7 := link hb5 hb6
    have hin2 := ofP_in [p]
    have hll : (l ++ [p]).length ≤ 140737488355328 := by simp; omega
    have HALL := Lib.hid (fun (W : World) (hb : Below wc.heap.size wc W) => (of_c (Kd.C_below hC3 hb) hc3 hll).mono fun e w' ⟨h, k⟩ => (⟨h, link hb k, k⟩ : _ ∧ Below wc.heap.size wc w' ∧ Below W.heap.size W w'))
    have HONE : Hid (∀ (W : World) (g : Nat), Below wc.heap.size wc W → W.heap[g]? = some (.cells #[.int .i64 p.f0, .int .i64 p.f1, .int .i64 p.f2, .int .i64 p.f3, .int .i64 p.f4, .int .i64 p.f5, .slice A6 p.f6.length c6] 32 (0, 0)) → Calls Try.prog 15 #[.slice (some ⟨g, 0, none⟩) 1 1] W fun e w' => e = .returned (.int .i64 (ofP [p])) ∧ Below wc.heap.size wc w') := Lib.hid fun W g hb hg =>
      (of_c (l := [p]) (c := 1) (one_laid hg L6.out (Kd.C_below H6.out (link hb7 hb))) (by simp) (by simp)).mono fun e w' ⟨h, k⟩ => ⟨h, link hb k⟩
    have FX := Lib.hid (fun (W : World) (hb : Below wc.heap.size wc W) => by
      have h := HZ3.out.below hb HZ3.out.lt
      exact (⟨h.cell 0, h.cell 1, h.cell 2, h.cell 3, h.cell 4, h.cell 5, h.cell 6⟩ : W.cell? ⟨w.heap.size, 0, none⟩ = some (.int .i64 p.f0) ∧ W.cell? ⟨w.heap.size, 1, none⟩ = some (.int .i64 p.f1) ∧ W.cell? ⟨w.heap.size, 2, none⟩ = some (.int .i64 p.f2) ∧ W.cell? ⟨w.heap.size, 3, none⟩ = some (.int .i64 p.f3) ∧ W.cell? ⟨w.heap.size, 4, none⟩ = some (.int .i64 p.f4) ∧ W.cell? ⟨w.heap.size, 5, none⟩ = some (.int .i64 p.f5) ∧ W.cell? ⟨w.heap.size, 6, none⟩ = some (.slice A6 p.f6.length c6)))
    rw [HM.out, mn_min] at HALL
    have hgt : decide (x < min x (ofP [p])) = false := by simp; omega
    clear hcut hb5 hb6 hc3 hC3
    generalize ofP [p] = y at *
    generalize (l ++ [p]).length = m at *
    go_wp2_with fail
    go_upto_region 5 with (fail)
    go_cut [35] (fun v35 wr => v35 = .bool false ∧ Below w.heap.size w wr)
    case first =>
      go_region_with (first
        | (go_at_call 15; ((with_reducible refine (HALL.out _ (by repeat (first | (with_reducible assumption) | exact Below.refl _ _ | apply below_drew | apply below_alloc))).mono ?_); rintro e w5 ⟨rfl, hbA, hbL⟩; obtain ⟨d0, d1, d2, d3, d4, d5, d6⟩ := FX.out _ hbA))
        | (go_at_call 15; ((with_reducible refine (HONE.out _ _ (by repeat (first | (with_reducible assumption) | exact Below.refl _ _ | apply below_drew | apply below_alloc)) (by first | exact heap_alloc_new _ _ | exact (hbL.block _ (by simp)).trans (heap_alloc_new _ _))).mono ?_); rintro e w6 ⟨rfl, hbB⟩)))
      all_goals
        go_wp2
        go_meet
        case rel => first | exact ⟨rfl, link hb7 hbB⟩ | exact ⟨rfl, link hb7 hbA⟩
    case rest =>
      obtain ⟨rfl, hb8⟩ := hcut
      clear HONE HALL FX HZ3 hgt hb7
      have hbn : Hid (∀ (k : Nat), k < l.length → ∃ ad, A = some ad ∧ (∀ W, Below w.heap.size w W → W.cell? (ad.add (k * 7)) = some (.int .i64 (rd_T32 l (k : Int)).f0)) ∧ barsP x (rd_T32 l (k : Int)).f0 = false ∧ (n ≤ x → barsP n (rd_T32 l (k : Int)).f0 = false)) := Lib.hid fun k hk => by
        obtain ⟨ad, A6, c6, e, h0, _⟩ := at_T32 HR.out (k : Int) (by omega) (by omega)
        rw [Int.toNat_natCast] at h0
        have hm : rd_T32 l (k : Int) ∈ l := by rw [rd32 hk]; exact List.getElem_mem hk
        exact ⟨ad, e, fun W hb => pw_cell_below hb h0, HB.out x (Int.le_refl _) _ hm, fun hn => HB.out n hn _ hm⟩
      go_wp2_with fail
      go_loopw [9] (fun v9 wr => ∃ k : Nat, k ≤ l.length ∧ v9 = .int .i64 k ∧ Below w.heap.size w wr) (fun v9 _ => l.length - (intOf v9).toNat)
      case atStart => exact ⟨0, by omega, rfl, hb8⟩
      case round =>
        clear hb8
        obtain ⟨k, hk, rfl, hbr⟩ := hrel
        by_cases hlt : k < l.length
        · obtain ⟨ad, rfl, hcell, hn1, hn2⟩ := hbn.out k hlt
          have g0 := hcell _ hbr
          have hlti : (k : Int) < l.length := by omega
          generalize (rd_T32 l (k : Int)).f0 = q at *
          have HC := Lib.hid hcell
          have HX := Lib.hid (bars_c x q)
          rw [hn1] at HX
          by_cases hnx : n ≤ x
          · have HY := Lib.hid (bars_c n q)
            rw [hn2 hnx] at HY
            have hd : decide (n ≤ x) = true := decide_eq_true hnx
            clear hn1 hn2 hcell hnx
            go_wp2_with fail
            refine (HX.out _).mono ?_
            rintro e w5 ⟨rfl, hb5⟩
            have hbr5 := link hbr hb5
            have g5 := HC.out _ hbr5
            go_wp2_with fail
            refine (HY.out _).mono ?_
            rintro e w6 ⟨rfl, hb6⟩
            have hbr6 := link hbr5 hb6
            go_wp2
            go_roundw
            case rel => exact ⟨k + 1, by omega, by go_num, hbr6⟩
            case measure => simp [intOf]; omega
          · have hd : decide (n ≤ x) = false := decide_eq_false hnx
            clear hn1 hn2 hcell hnx
            go_wp2_with fail
            refine (HX.out _).mono ?_
            rintro e w5 ⟨rfl, hb5⟩
            have hbr5 := link hbr hb5
            go_wp2
            go_roundw
            case rel => exact ⟨k + 1, by omega, by go_num, hbr5⟩
            case measure => simp [intOf]; omega
        · have hlti : ¬ ((k : Int) < l.length) := by omega
          obtain ⟨hi0, hi4⟩ := hin
          have hd0 : decide (x ≥ 0) = true := decide_eq_true hi0
          go_wp2_with fail
          refine (works _).mono ?_
          rintro e w6 ⟨rfl, hb6⟩
          go_wp2
          go_ret
          exact ⟨rfl, link hbr hb6⟩


theorem opens_LevelLess_0 (W : World) : Opens Try.prog W 25 (fun (l : List S32) cs => ∃ A c, cs = [.slice A l.length c] ∧ l.length ≤ c ∧ Kd.C k32 W A l.length l) := opens_findings W
theorem opens_LevelLess_1 (W : World) : Opens Try.prog W 32 (k32.K W) := opens_finding W
set_option maxHeartbeats 1000000 in
set_option maxRecDepth 100000 in
theorem walk_LevelLess (w : World) (A : Option Addr) (c : Nat) (l : List S32) (hr : Kd.C k32 w A l.length l) (hc : l.length ≤ c) (cs : Array Value) (p : S32) (hp : k32.K w p cs.toList) (n : Int) (_hn : (Lit.int .i64 n).wf = true) :
    Calls Try.prog 5 #[.slice A l.length c, .agg cs, .int .i64 n] w fun e w' => e = .returned (.bool true) ∧ Below w.heap.size w w' := by
  obtain ⟨A6, c6, e, l6, h6⟩ := k32_open hp
  obtain ⟨cs⟩ := cs
  cases e
  cases hf : fewP l with
  | true => exact less_main w A c l hr hc p A6 c6 l6 h6 n hf
  | false =>
    have hb1 : Below w.heap.size w (w.alloc (.cells #[.int .i64 p.f0, .int .i64 p.f1, .int .i64 p.f2, .int .i64 p.f3, .int .i64 p.f4, .int .i64 p.f5, .slice A6 p.f6.length c6] 32)) := (Below.refl _ _).alloc (Nat.le_refl _) _
    have HF := Lib.hid (few_c (Kd.C_below hr hb1) hc)
    rw [hf] at HF
    clear hf hr hc hp l6 h6
    go_enter Try.func5, Try.ntmps5
    go_wp2_with fail
    refine HF.out.mono ?_
    rintro e w1 ⟨rfl, hb2⟩
    have hb3 := link hb1 hb2
    clear hb1 hb2
    go_wp2_with fail
    refine (works _).mono ?_
    rintro e w2 ⟨rfl, hb4⟩
    go_wp2
    go_ret
    exact ⟨rfl, link hb3 hb4⟩
end Go.Proofs.Ytkjddfmhledckaa
