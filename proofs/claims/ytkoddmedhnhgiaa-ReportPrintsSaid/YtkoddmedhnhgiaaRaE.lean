/- RpN RpO RpX5 RpQ RpR RpS of this seat, one behind the other. -/
import Derived.Test.YtkoddmedhnhgiaaRaA
import Derived.Test.YtkoddmedhnhgiaaPReportBackx3
import Derived.Test.YtkoddmedhnhgiaaPReportBackx0
import Derived.Test.YtkoddmedhnhgiaaPReportBackx4
import Derived.Test.YtkoddmedhnhgiaaPReportBackx9
import Derived.Test.YtkoddmedhnhgiaaRaD
import Derived.Test.YtkoddmedhnhgiaaRaB
/- report.Same: arrays of six numbers that are alike. -/
set_option linter.unusedSimpArgs false
namespace Go.Proofs.Ytkoddmedhnhgiaa.Rp
open Go.RowKit Go.Lib Go.Proofs.Ytkoddmedhnhgiaa.PReportBack Go.Proofs.YtkoddmedhnhgiaaW.PrintWords Go.Proofs.YtkoddmedhnhgiaaW.PrintLast
set_option linter.unusedVariables false

theorem loop_all {P : Program} {w : World} (body : Nat → Option Bool × Unit → Sem (ForInStep (Option Bool × Unit))) (r : Nat → Bool) : ∀ (is : List Nat), (∀ i ∈ is, (body i (none, ())).run P w = .ok (if r i = false then .done (some false, ()) else .yield (none, ())) w) →
    (forIn is ((none : Option Bool), ()) body).run P w = .ok (if is.all r = true then (none, ()) else (some false, ())) w
  | [], _ => by simp [Sem.run_pure]
  | i :: is, h => by
    have h1 := h i (List.mem_cons_self)
    rw [List.forIn_cons, Sem.run_bind, h1, Result.andThen_ok]
    cases hr : r i with
    | false => simp [hr, Sem.run_pure]
    | true =>
      have ih := loop_all body r is (fun j hj => h j (List.mem_cons_of_mem _ hj))
      simp [hr, ih]
/-- Numbers that are alike. -/
def alike (l m : List Int) : Bool := decide (l = m)
theorem eqSix (d : Nat) (w : World) (x0 y0 : Int) (x1 y1 : Int) (x2 y2 : Int) (x3 y3 : Int) (x4 y4 : Int) (x5 y5 : Int) :
    (Op.equalIn (d + 2) 46 (.agg #[.int .i64 x0, .int .i64 x1, .int .i64 x2, .int .i64 x3, .int .i64 x4, .int .i64 x5]) (.agg #[.int .i64 y0, .int .i64 y1, .int .i64 y2, .int .i64 y3, .int .i64 y4, .int .i64 y5])).run Try.prog w = .ok (alike [x0, x1, x2, x3, x4, x5] [y0, y1, y2, y3, y4, y5]) w := by
  unfold alike
  have hI : ∀ (a b : Int) (w : World), (Op.equalIn (d + 1) 3 (.int .i64 a) (.int .i64 b)).run Try.prog w = .ok (a == b) w := fun a b w => by go_simp
  have hs : (sizeOf 3).run Try.prog w = .ok 1 w := by go_simp
  have hp : ∀ (a b c d e f : Int) (i : Nat), i < 6 → (part 3 #[.int .i64 a, .int .i64 b, .int .i64 c, .int .i64 d, .int .i64 e, .int .i64 f] i).run Try.prog w = .ok (.int .i64 ([a, b, c, d, e, f].getD i 0)) w := by
    intro a b c d e f i hi
    rcases (by omega : i = 0 ∨ i = 1 ∨ i = 2 ∨ i = 3 ∨ i = 4 ∨ i = 5) with rfl | rfl | rfl | rfl | rfl | rfl <;> (go_simp; try rfl)
  rw [Op.equalIn]
  simp only [Sem.run_bind, run_underlying Try.underlying46, Result.andThen_ok, hs, Std.Legacy.Range.forIn_eq_forIn_range', Std.Legacy.Range.size, Nat.sub_zero, Nat.add_one_sub_one, Nat.div_one]
  rw [loop_all _ (fun i => ([x0, x1, x2, x3, x4, x5].getD i 0) == ([y0, y1, y2, y3, y4, y5].getD i 0)) _ (by
    intro i hi
    have hi6 : i < 6 := by simp at hi; omega
    simp only [Sem.run_bind, Nat.mul_one, hp _ _ _ _ _ _ i hi6, hI, Result.andThen_ok]
    cases (([x0, x1, x2, x3, x4, x5].getD i 0) == ([y0, y1, y2, y3, y4, y5].getD i 0)) <;> simp [Sem.run_pure])]
  have e : (List.range' 0 6 1).all (fun i => ([x0, x1, x2, x3, x4, x5].getD i 0) == ([y0, y1, y2, y3, y4, y5].getD i 0)) = decide ([x0, x1, x2, x3, x4, x5] = [y0, y1, y2, y3, y4, y5]) := by
    rw [Bool.eq_iff_iff, decide_eq_true_iff]
    simp [List.range']
  rw [e]
  cases decide ([x0, x1, x2, x3, x4, x5] = [y0, y1, y2, y3, y4, y5]) <;> simp [Sem.run_pure]
end Go.Proofs.Ytkoddmedhnhgiaa.Rp

/- report.Same: edges, findings that are alike. Printed by wip/gen/rpo.py. -/
set_option linter.unusedSimpArgs false
namespace Go.Proofs.Ytkoddmedhnhgiaa.Rp
open Go.RowKit Go.Lib Go.Proofs.Ytkoddmedhnhgiaa.PReportBack Go.Proofs.YtkoddmedhnhgiaaW.PrintWords Go.Proofs.YtkoddmedhnhgiaaW.PrintLast
set_option linter.unusedVariables false

/-- Two rows are alike, element by element. -/
def eqL {α : Type} (R : α → α → Bool) : List α → List α → Bool
  | [], [] => true
  | x :: xs, y :: ys => R x y && eqL R xs ys
  | _, _ => false
def eqE (x y : Ed) : Bool := alike (nE x) (nE y)
def eqF (x y : Fi) : Bool := alike (nF x) (nF y) && eqL eqE x.f6 y.f6
section
variable {α : Type} {R : α → α → Bool}
theorem eqL_len : ∀ {xs ys : List α}, xs.length ≠ ys.length → eqL R xs ys = false
  | [], [], h => absurd rfl h
  | [], _ :: _, _ => rfl
  | _ :: _, [], _ => rfl
  | x :: xs, y :: ys, h => by
    unfold eqL
    rw [eqL_len (xs := xs) (ys := ys) (fun e => h (by simp [e])), Bool.and_false]
theorem eqL_drop {xs ys : List α} {k : Nat} (hx : k < xs.length) (hy : k < ys.length) : eqL R (xs.drop k) (ys.drop k) = (R xs[k] ys[k] && eqL R (xs.drop (k + 1)) (ys.drop (k + 1))) := by
  rw [List.drop_eq_getElem_cons hx, List.drop_eq_getElem_cons hy]
  rfl
theorem eqL_end {xs ys : List α} {k : Nat} (h : xs.length = ys.length) (hk : xs.length ≤ k) : eqL R (xs.drop k) (ys.drop k) = true := by
  rw [List.drop_eq_nil_of_le hk, List.drop_eq_nil_of_le (by omega)]
  rfl
theorem eqL_iff (hR : ∀ x y, R x y = true ↔ x = y) : ∀ {xs ys : List α}, eqL R xs ys = true ↔ xs = ys
  | [], [] => by simp [eqL]
  | [], _ :: _ => by simp [eqL]
  | _ :: _, [] => by simp [eqL]
  | x :: xs, y :: ys => by rw [eqL, Bool.and_eq_true, hR, eqL_iff hR, List.cons.injEq]
end
theorem alike_iff {l m : List Int} : alike l m = true ↔ l = m := decide_eq_true_iff
theorem eqE_iff (x y : Ed) : eqE x y = true ↔ x = y := by
  obtain ⟨a, b, c, d, e, f⟩ := x
  obtain ⟨a', b', c', d', e', f'⟩ := y
  unfold eqE
  rw [alike_iff]
  simp [nE]
theorem eqF_iff (x y : Fi) : eqF x y = true ↔ x = y := by
  obtain ⟨a, b, c, d, e, f, g⟩ := x
  obtain ⟨a', b', c', d', e', f', g'⟩ := y
  unfold eqF
  rw [Bool.and_eq_true, alike_iff, eqL_iff eqE_iff]
  simp [nF]
  constructor
  · rintro ⟨⟨h1, h2, h3, h4, h5, h6⟩, h7⟩; exact ⟨h1, h2, h3, h4, h5, h6, h7⟩
  · rintro ⟨h1, h2, h3, h4, h5, h6, h7⟩; exact ⟨⟨h1, h2, h3, h4, h5, h6⟩, h7⟩
theorem rd49 {l : List Ed} {i : Nat} (h : i < l.length) : rd_T49 l (i : Int) = l[i] := by
  simp [rd_T49, List.getD_eq_getElem?_getD, List.getElem?_eq_getElem h]
theorem rd44 {l : List Fi} {i : Nat} (h : i < l.length) : rd_T44 l (i : Int) = l[i] := by
  simp [rd_T44, List.getD_eq_getElem?_getD, List.getElem?_eq_getElem h]
theorem wrapS {i n : Nat} (h : i < n) (hn : n ≤ big) : wrap64 ((i : Int) + 1) = ((i + 1 : Nat) : Int) := by unfold big at hn; unfold wrap64; omega
theorem edge_b (x y : Ed) : (!((x.f0) == (y.f0)) || (!((x.f1) == (y.f1)) || (!((x.f2) == (y.f2)) || (!((x.f3) == (y.f3)) || (!((x.f4) == (y.f4)) || (!((x.f5) == (y.f5)))))))) = !eqE x y := by
  obtain ⟨a, b, c, d, e, f⟩ := x
  obtain ⟨a', b', c', d', e', f'⟩ := y
  rw [Bool.eq_iff_iff]
  unfold eqE
  rw [Bool.not_eq_true', ← Bool.not_eq_true, alike_iff]
  simp [nE]
  constructor
  · intro h h1 h2 h3 h4 h5
    rcases h with h | h | h | h | h | h
    · exact absurd h1 h
    · exact absurd h2 h
    · exact absurd h3 h
    · exact absurd h4 h
    · exact absurd h5 h
    · exact h
  · intro h
    by_cases h1 : a = a'
    · by_cases h2 : b = b'
      · by_cases h3 : c = c'
        · by_cases h4 : d = d'
          · by_cases h5 : e = e'
            · exact .inr (.inr (.inr (.inr (.inr (h h1 h2 h3 h4 h5)))))
            · exact .inr (.inr (.inr (.inr (.inl h5))))
          · exact .inr (.inr (.inr (.inl h4)))
        · exact .inr (.inr (.inl h3))
      · exact .inr (.inl h2)
    · exact .inl h1
theorem edge_l0 {l m : List Ed} (hlm : l.length = m.length) (hb : l.length ≤ big) : ∀ (n k : Nat), l.length - k < n → k ≤ l.length → api_Edge.l0 n l m (l.length : Int) (k : Int) = some (eqL eqE (l.drop k) (m.drop k))
  | 0, _, h, _ => absurd h (Nat.not_lt_zero _)
  | n + 1, k, h, hk => by
    unfold api_Edge.l0
    by_cases hlt : k < l.length
    · have hm : k < m.length := by omega
      rw [if_pos (show (k : Int) < (l.length : Int) by omega), if_pos (show (0 : Int) ≤ k by omega), if_pos (show (k : Int) < (l.length : Int) by omega), if_pos (show (k : Int) < (m.length : Int) by omega), rd49 hlt, rd49 hm, edge_b, eqL_drop hlt hm]
      cases hq : eqE l[k] m[k] with
      | true => rw [if_neg (by simp), wrapS hlt hb, edge_l0 hlm hb n (k + 1) (by omega) (by omega), Bool.true_and]
      | false => rw [if_pos (by simp), Bool.false_and]
    · rw [if_neg (show ¬ (k : Int) < (l.length : Int) by omega), eqL_end hlm (by omega)]
theorem edge_f {l m : List Ed} (hb : l.length ≤ big) : api_Edge.f (l.length + 1) l m = some (eqL eqE l m) := by
  unfold api_Edge.f
  by_cases h : l.length = m.length
  · rw [if_pos (by omega)]
    have := edge_l0 h hb (l.length + 1) 0 (by omega) (by omega)
    simpa using this
  · rw [if_neg (by omega), eqL_len h]
theorem ints_f {l m : List Int} (hb : l.length ≤ big) : ∃ k, slices_Equal_int_int.f k l m = some (alike l m) := by
  have key : l.length = m.length → ∀ (n k : Nat), l.length - k < n → k ≤ l.length → slices_Equal_int_int.l0 n l m (l.length : Int) (k : Int) = some (alike (l.drop k) (m.drop k)) := by
    intro hlm n
    induction n with
    | zero => intro k h; exact absurd h (Nat.not_lt_zero _)
    | succ n ih =>
      intro k h hk
      unfold slices_Equal_int_int.l0
      by_cases hlt : k < l.length
      · have hm : k < m.length := by omega
        have ih1 := ih (k + 1) (by omega) (by omega)
        rw [← wrapS hlt hb] at ih1
        simp only [show (k : Int) < (l.length : Int) by omega, show (0 : Int) ≤ k by omega, show (k : Int) < (m.length : Int) by omega, if_true, rdI hlt, rdI hm, ih1]
        unfold alike
        rw [List.drop_eq_getElem_cons hlt, List.drop_eq_getElem_cons hm]
        generalize l[k] = a
        generalize m[k] = b
        generalize l.drop (k + 1) = L
        generalize m.drop (k + 1) = M
        by_cases hq : a = b
        · simp [hq]
        · simp [hq]
      · rw [if_neg (show ¬ (k : Int) < (l.length : Int) by omega), List.drop_eq_nil_of_le (by omega), List.drop_eq_nil_of_le (by omega)]
        rfl
  refine ⟨l.length + 1, ?_⟩
  unfold slices_Equal_int_int.f
  by_cases h : l.length = m.length
  · rw [if_pos (by omega)]
    have := key h (l.length + 1) 0 (by omega) (by omega)
    simpa using this
  · rw [if_neg (by omega)]
    unfold alike
    rw [decide_eq_false (fun e => h (by rw [e]))]
def RgSfT.T : Bool × List (List Nat × List Nat) := (true, [([], []), ([0], [0]), ([], []), ([2, 1], [2]), ([1, 3], [1, 3]), ([4, 3], [4]), ([5], [5]), ([6, 5], [5, 6]), ([5], [5]), ([8, 5], [5, 8]), ([7, 9, 5, 5], [5, 7, 9]), ([5, 10], [5, 10]), ([11, 10, 0, 1, 2, 3, 4, 5, 6, 7, 8, 9, 10, 11], [11])])
def RgSfT.B : List Nat := [0, 1, 0, 7, 15, 31, 63, 127, 63, 319, 1023, 2047, 4095]
theorem RgSfT.tab : rtab .any (opsOf Try.f43 1) = RgSfT.T := by kernel_rfl
theorem RgSfT.bits : waitsOk RgSfT.T.2 RgSfT.B = true := by kernel_rfl
def RgSfF.T : Bool × List (List Nat × List Nat) := (true, [([], []), ([0], [0]), ([], []), ([2, 1], [2]), ([1, 3], [1, 3]), ([4, 3], [4]), ([5], [5]), ([6, 5], [5, 6]), ([5], [5]), ([8, 5], [5, 8]), ([7, 9, 5, 5], [5, 7, 9]), ([5, 10], [5, 10]), ([11, 10, 0, 1, 2, 3, 4, 5, 6, 7, 8, 9, 10, 11], [11])])
def RgSfF.B : List Nat := [0, 1, 0, 7, 15, 31, 63, 127, 63, 319, 1023, 2047, 4095]
theorem RgSfF.tab : rtab .any (opsOf Try.f43 1) = RgSfF.T := by kernel_rfl
theorem RgSfF.bits : waitsOk RgSfF.T.2 RgSfF.B = true := by kernel_rfl
attribute [local go_sem high] eqSix
set_option maxHeartbeats 8000000 in
set_option maxRecDepth 100000 in
theorem sameF_c (w : World) (x y : Fi) (A B : Option Addr) (c d : Nat) (hc : x.f6.length ≤ c) (hd : y.f6.length ≤ d) (hx : Kd.C k49 w A x.f6.length x.f6) (hy : Kd.C k49 w B y.f6.length y.f6) (hb : x.f6.length ≤ big) :
    Calls Try.prog 43 #[.agg (cF x (.slice A x.f6.length c)), .agg (cF y (.slice B y.f6.length d))] w fun e w' => e = .returned (.bool (eqF x y)) ∧ Below w.heap.size w w' := by
  have hox := fun W => ofF_c x (.slice A x.f6.length c) W
  have hoy := fun W => ofF_c y (.slice B y.f6.length d) W
  have hee : ∀ W, Below w.heap.size w W → Calls Try.prog 61 #[.slice A x.f6.length c, .slice B y.f6.length d] W fun e w' => e = .returned (.bool (eqL eqE x.f6 y.f6)) ∧ Below W.heap.size W w' := fun W hW =>
    (api_Edge.calls (x.f6.length + 1) A c x.f6 B d y.f6 _ W (Kd.C_below hx hW) hc (Kd.C_below hy hW) hd (edge_f hb)).mono fun e w' ⟨h1, h2⟩ => ⟨h1, drawn_bel h2⟩
  obtain ⟨x0, x1, x2, x3, x4, x5, x6⟩ := x
  obtain ⟨y0, y1, y2, y3, y4, y5, y6⟩ := y
  unfold cF six nF at *
  unfold eqF nF
  simp only at *
  generalize x6.length = n6 at *
  generalize y6.length = m6 at *
  generalize eqL eqE x6 y6 = q at *
  clear hx hy hb hc hd
  obtain ⟨w2, hw2⟩ : ∃ w2, w2 = (w.alloc (.cells #[.int .i64 x0, .int .i64 x1, .int .i64 x2, .int .i64 x3, .int .i64 x4, .int .i64 x5, .slice A n6 c] 44)).alloc (.cells #[.int .i64 y0, .int .i64 y1, .int .i64 y2, .int .i64 y3, .int .i64 y4, .int .i64 y5, .slice B m6 d] 44) := ⟨_, rfl⟩
  have HB2 : Hid (Below w.heap.size w w2) := Lib.hid (by rw [hw2]; exact ((Below.refl _ _).alloc (Nat.le_refl _) _).alloc (by simp) _)
  have hbx : Blk w2 w.heap.size [.int .i64 x0, .int .i64 x1, .int .i64 x2, .int .i64 x3, .int .i64 x4, .int .i64 x5, .slice A n6 c] 44 := by rw [hw2]; exact (Blk.new w _ _).alloc _
  have hby : Blk w2 (w.heap.size + 1) [.int .i64 y0, .int .i64 y1, .int .i64 y2, .int .i64 y3, .int .i64 y4, .int .i64 y5, .slice B m6 d] 44 := by
    have h := Blk.new (w.alloc (.cells #[.int .i64 x0, .int .i64 x1, .int .i64 x2, .int .i64 x3, .int .i64 x4, .int .i64 x5, .slice A n6 c] 44)) [.int .i64 y0, .int .i64 y1, .int .i64 y2, .int .i64 y3, .int .i64 y4, .int .i64 y5, .slice B m6 d] 44
    rw [World.size_alloc] at h
    rw [hw2]; exact h
  have FX : Hid (∀ W, Below w2.heap.size w2 W → W.cell? ⟨w.heap.size, 0, none⟩ = some (.int .i64 x0) ∧ W.cell? ⟨w.heap.size, 1, none⟩ = some (.int .i64 x1) ∧ W.cell? ⟨w.heap.size, 2, none⟩ = some (.int .i64 x2) ∧ W.cell? ⟨w.heap.size, 3, none⟩ = some (.int .i64 x3) ∧ W.cell? ⟨w.heap.size, 4, none⟩ = some (.int .i64 x4) ∧ W.cell? ⟨w.heap.size, 5, none⟩ = some (.int .i64 x5) ∧ W.cell? ⟨w.heap.size, 6, none⟩ = some (.slice A n6 c) ∧
      W.cell? ⟨w.heap.size + 1, 0, none⟩ = some (.int .i64 y0) ∧ W.cell? ⟨w.heap.size + 1, 1, none⟩ = some (.int .i64 y1) ∧ W.cell? ⟨w.heap.size + 1, 2, none⟩ = some (.int .i64 y2) ∧ W.cell? ⟨w.heap.size + 1, 3, none⟩ = some (.int .i64 y3) ∧ W.cell? ⟨w.heap.size + 1, 4, none⟩ = some (.int .i64 y4) ∧ W.cell? ⟨w.heap.size + 1, 5, none⟩ = some (.int .i64 y5) ∧ W.cell? ⟨w.heap.size + 1, 6, none⟩ = some (.slice B m6 d)) := Lib.hid fun W hW => by
    have h1 := hbx.below hW hbx.lt
    have h2 := hby.below hW hby.lt
    exact ⟨(h1.cell 0).trans rfl, (h1.cell 1).trans rfl, (h1.cell 2).trans rfl, (h1.cell 3).trans rfl, (h1.cell 4).trans rfl, (h1.cell 5).trans rfl, (h1.cell 6).trans rfl, (h2.cell 0).trans rfl, (h2.cell 1).trans rfl, (h2.cell 2).trans rfl, (h2.cell 3).trans rfl, (h2.cell 4).trans rfl, (h2.cell 5).trans rfl, (h2.cell 6).trans rfl⟩
  have HOX : Hid (∀ W, Below w2.heap.size w2 W → Calls Try.prog 18 #[.agg #[.int .i64 x0, .int .i64 x1, .int .i64 x2, .int .i64 x3, .int .i64 x4, .int .i64 x5, .slice A n6 c]] W fun e w' => e = .returned (.agg #[.int .i64 x0, .int .i64 x1, .int .i64 x2, .int .i64 x3, .int .i64 x4, .int .i64 x5]) ∧ Below w2.heap.size w2 w') := Lib.hid fun W hW => (hox W).mono fun e w' ⟨h1, h2⟩ => ⟨h1, hW.trans (h2.mono hW.size)⟩
  have HOY : Hid (∀ W, Below w2.heap.size w2 W → Calls Try.prog 18 #[.agg #[.int .i64 y0, .int .i64 y1, .int .i64 y2, .int .i64 y3, .int .i64 y4, .int .i64 y5, .slice B m6 d]] W fun e w' => e = .returned (.agg #[.int .i64 y0, .int .i64 y1, .int .i64 y2, .int .i64 y3, .int .i64 y4, .int .i64 y5]) ∧ Below w2.heap.size w2 w') := Lib.hid fun W hW => (hoy W).mono fun e w' ⟨h1, h2⟩ => ⟨h1, hW.trans (h2.mono hW.size)⟩
  have HEE : Hid (∀ W, Below w2.heap.size w2 W → Calls Try.prog 61 #[.slice A n6 c, .slice B m6 d] W fun e w' => e = .returned (.bool q) ∧ Below w2.heap.size w2 w') := Lib.hid fun W hW => (hee W (HB2.out.trans (hW.mono HB2.out.size))).mono fun e w' ⟨h1, h2⟩ => ⟨h1, hW.trans (h2.mono hW.size)⟩
  clear hox hoy hee hbx hby
  cases hq : alike [x0, x1, x2, x3, x4, x5] [y0, y1, y2, y3, y4, y5] with
  | true =>
    rw [Bool.true_and]
    go_enter Try.func43, Try.ntmps43
    go_wp2_with fail
    rw [← hw2]
    clear hw2
    refine start_ (n := 13) (S := fun W => Below w2.heap.size w2 W) (ds := []) #[false, false, false, false, false, false, false, false, false, false, false, false, false] (by kernel_rfl) rfl rfl (Below.refl w2.heap.size w2).drew (fun hHeld => ?_)
    refine with_tabW RgSfT.tab RgSfT.bits (fun HT_ HW_ => ?_)
    refine take_ (i := 0) (N := some 5) (v := ?_) (a' := ?_) #[true, false, false, false, false, false, false, false, false, false, false, false, false] rfl rfl (take_ofW HT_.out HW_.out (by kernel_rfl)) (fun _ _ _ h => h) (Or.inl ⟨by rfl, ?_⟩) hHeld ?_ ?_
    rotate_left
    · intro w' hW
      obtain ⟨a0_, a1_, a2_, a3_, a4_, a5_, a6_, b0_, b1_, b2_, b3_, b4_, b5_, b6_⟩ := FX.out w' hW
      go_simp
      with_reducible rfl
    rotate_left
    · simp only [Act.put, List.setIfInBounds_toArray, List.set_cons_zero, List.set_cons_succ, i64_w, i32_w]
      rfl
    refine take_ (i := 2) (N := some 7) (v := ?_) (a' := ?_) #[true, false, true, false, false, false, false, false, false, false, false, false, false] rfl rfl (take_ofW HT_.out HW_.out (by kernel_rfl)) (fun _ _ _ h => h) (Or.inl ⟨by rfl, ?_⟩) hHeld ?_ ?_
    rotate_left
    · intro w' hW
      obtain ⟨a0_, a1_, a2_, a3_, a4_, a5_, a6_, b0_, b1_, b2_, b3_, b4_, b5_, b6_⟩ := FX.out w' hW
      go_simp
      with_reducible rfl
    rotate_left
    · simp only [Act.put, List.setIfInBounds_toArray, List.set_cons_zero, List.set_cons_succ, i64_w, i32_w]
      rfl
    refine one_ (i := 1) (N := some 6) #[true, true, true, false, false, false, false, false, false, false, false, false, false] rfl rfl (one_of HT_.out (by kernel_rfl)) (by decide) (fun K hK => ?_)
    refine goes_ Try.func18 (by kernel_rfl) rfl #[.agg #[.int .i64 x0, .int .i64 x1, .int .i64 x2, .int .i64 x3, .int .i64 x4, .int .i64 x5, .slice A n6 c]] (by rfl) rfl rfl (by (try simp only [List.map_toArray, List.map_cons, List.map_nil]); first | done | rfl) ?_
    refine (HOX.out _ hHeld).mono ?_
    rintro e_ w_1 ⟨rfl, hH_⟩
    refine ⟨_, rfl, ?_⟩
    refine hK.out _ _ hH_ (fun hHeld => ?_)
    clear hK K hH_
    refine norm_ (a' := ?_) ?_ ?_
    rotate_left
    · show Act.put _ (some 6) _ = _
      simp only [Act.put, List.setIfInBounds_toArray, List.set_cons_zero, List.set_cons_succ, i64_w, i32_w]
      rfl
    refine one_ (i := 3) (N := some 8) #[true, true, true, true, false, false, false, false, false, false, false, false, false] rfl rfl (one_of HT_.out (by kernel_rfl)) (by decide) (fun K hK => ?_)
    refine goes_ Try.func18 (by kernel_rfl) rfl #[.agg #[.int .i64 y0, .int .i64 y1, .int .i64 y2, .int .i64 y3, .int .i64 y4, .int .i64 y5, .slice B m6 d]] (by rfl) rfl rfl (by (try simp only [List.map_toArray, List.map_cons, List.map_nil]); first | done | rfl) ?_
    refine (HOY.out _ hHeld).mono ?_
    rintro e_ w_2 ⟨rfl, hH_⟩
    refine ⟨_, rfl, ?_⟩
    refine hK.out _ _ hH_ (fun hHeld => ?_)
    clear hK K hH_
    refine norm_ (a' := ?_) ?_ ?_
    rotate_left
    · show Act.put _ (some 8) _ = _
      simp only [Act.put, List.setIfInBounds_toArray, List.set_cons_zero, List.set_cons_succ, i64_w, i32_w]
      rfl
    refine pure_ (i := 4) (N := some 9) (v := ?_) (a' := ?_) #[true, true, true, true, true, false, false, false, false, false, false, false, false] rfl rfl (any_of HT_.out (by kernel_rfl)) (fun _ _ _ h => h) (Or.inl ⟨by rfl, ?_⟩) ?_ ?_
    rotate_left
    · intro w'
      go_simp
      with_reducible rfl
    rotate_left
    · simp only [Act.put, List.setIfInBounds_toArray, List.set_cons_zero, List.set_cons_succ, i64_w, i32_w]
      rfl
    refine pure_ (i := 5) (N := some 10) (v := ?_) (a' := ?_) #[true, true, true, true, true, true, false, false, false, false, false, false, false] rfl rfl (any_of HT_.out (by kernel_rfl)) (fun _ _ _ h => h) (Or.inl ⟨by rfl, ?_⟩) ?_ ?_
    rotate_left
    · intro w'
      go_simp
      with_reducible rfl
    rotate_left
    · simp only [Act.put, List.setIfInBounds_toArray, List.set_cons_zero, List.set_cons_succ, i64_w, i32_w]
      rfl
    refine pure_ (i := 6) (N := some 11) (v := ?_) (a' := ?_) #[true, true, true, true, true, true, true, false, false, false, false, false, false] rfl rfl (any_of HT_.out (by kernel_rfl)) (fun _ _ _ h => h) (Or.inl ⟨by rfl, ?_⟩) ?_ ?_
    rotate_left
    · intro w'
      go_simp
      with_reducible rfl
    rotate_left
    · simp only [Act.put, List.setIfInBounds_toArray, List.set_cons_zero, List.set_cons_succ, i64_w, i32_w]
      rfl
    refine take_ (i := 7) (N := some 12) (v := ?_) (a' := ?_) #[true, true, true, true, true, true, true, true, false, false, false, false, false] rfl rfl (take_ofW HT_.out HW_.out (by kernel_rfl)) (fun _ _ _ h => h) (Or.inl ⟨by rfl, ?_⟩) hHeld ?_ ?_
    rotate_left
    · intro w' hW
      obtain ⟨a0_, a1_, a2_, a3_, a4_, a5_, a6_, b0_, b1_, b2_, b3_, b4_, b5_, b6_⟩ := FX.out w' hW
      go_simp
      with_reducible rfl
    rotate_left
    · simp only [Act.put, List.setIfInBounds_toArray, List.set_cons_zero, List.set_cons_succ, i64_w, i32_w]
      rfl
    refine pure_ (i := 8) (N := some 13) (v := ?_) (a' := ?_) #[true, true, true, true, true, true, true, true, true, false, false, false, false] rfl rfl (any_of HT_.out (by kernel_rfl)) (fun _ _ _ h => h) (Or.inl ⟨by rfl, ?_⟩) ?_ ?_
    rotate_left
    · intro w'
      go_simp
      with_reducible rfl
    rotate_left
    · simp only [Act.put, List.setIfInBounds_toArray, List.set_cons_zero, List.set_cons_succ, i64_w, i32_w]
      rfl
    refine take_ (i := 9) (N := some 14) (v := ?_) (a' := ?_) #[true, true, true, true, true, true, true, true, true, true, false, false, false] rfl rfl (take_ofW HT_.out HW_.out (by kernel_rfl)) (fun _ _ _ h => h) (Or.inl ⟨by rfl, ?_⟩) hHeld ?_ ?_
    rotate_left
    · intro w' hW
      obtain ⟨a0_, a1_, a2_, a3_, a4_, a5_, a6_, b0_, b1_, b2_, b3_, b4_, b5_, b6_⟩ := FX.out w' hW
      go_simp
      with_reducible rfl
    rotate_left
    · simp only [Act.put, List.setIfInBounds_toArray, List.set_cons_zero, List.set_cons_succ, i64_w, i32_w]
      rfl
    refine one_ (i := 10) (N := some 15) #[true, true, true, true, true, true, true, true, true, true, true, false, false] rfl rfl (one_of HT_.out (by kernel_rfl)) (by decide) (fun K hK => ?_)
    refine goes_ Try.func61 (by kernel_rfl) rfl #[.slice A n6 c, .slice B m6 d] (by rfl) rfl rfl (by (try simp only [List.map_toArray, List.map_cons, List.map_nil]); first | done | rfl) ?_
    refine (HEE.out _ hHeld).mono ?_
    rintro e_ w_3 ⟨rfl, hH_⟩
    refine ⟨_, rfl, ?_⟩
    refine hK.out _ _ hH_ (fun hHeld => ?_)
    clear hK K hH_
    refine norm_ (a' := ?_) ?_ ?_
    rotate_left
    · show Act.put _ (some 15) _ = _
      simp only [Act.put, List.setIfInBounds_toArray, List.set_cons_zero, List.set_cons_succ, i64_w, i32_w]
      rfl
    refine pure_ (i := 11) (N := some 16) (v := ?_) (a' := ?_) #[true, true, true, true, true, true, true, true, true, true, true, true, false] rfl rfl (any_of HT_.out (by kernel_rfl)) (fun _ _ _ h => h) (Or.inl ⟨by rfl, ?_⟩) ?_ ?_
    rotate_left
    · intro w'
      go_simp
      with_reducible rfl
    rotate_left
    · simp only [Act.put, List.setIfInBounds_toArray, List.set_cons_zero, List.set_cons_succ, i64_w, i32_w]
      rfl
    refine pure_ (i := 12) (N := some 4) (v := ?_) (a' := ?_) #[true, true, true, true, true, true, true, true, true, true, true, true, true] rfl rfl (any_of HT_.out (by kernel_rfl)) (fun _ _ _ h => h) (Or.inl ⟨by rfl, ?_⟩) ?_ ?_
    rotate_left
    · intro w'
      go_simp
      with_reducible rfl
    rotate_left
    · simp only [Act.put, List.setIfInBounds_toArray, List.set_cons_zero, List.set_cons_succ, i64_w, i32_w]
      rfl
    refine done_ (done_of HT_.out (by kernel_rfl)) ?_
    go_wp2
    go_ret
    exact ⟨rfl, HB2.out.trans (hHeld.mono HB2.out.size)⟩
  | false =>
    rw [Bool.false_and]
    go_enter Try.func43, Try.ntmps43
    go_wp2_with fail
    rw [← hw2]
    clear hw2
    refine start_ (n := 13) (S := fun W => Below w2.heap.size w2 W) (ds := []) #[false, false, false, false, false, false, false, false, false, false, false, false, false] (by kernel_rfl) rfl rfl (Below.refl w2.heap.size w2).drew (fun hHeld => ?_)
    refine with_tabW RgSfF.tab RgSfF.bits (fun HT_ HW_ => ?_)
    refine take_ (i := 0) (N := some 5) (v := ?_) (a' := ?_) #[true, false, false, false, false, false, false, false, false, false, false, false, false] rfl rfl (take_ofW HT_.out HW_.out (by kernel_rfl)) (fun _ _ _ h => h) (Or.inl ⟨by rfl, ?_⟩) hHeld ?_ ?_
    rotate_left
    · intro w' hW
      obtain ⟨a0_, a1_, a2_, a3_, a4_, a5_, a6_, b0_, b1_, b2_, b3_, b4_, b5_, b6_⟩ := FX.out w' hW
      go_simp
      with_reducible rfl
    rotate_left
    · simp only [Act.put, List.setIfInBounds_toArray, List.set_cons_zero, List.set_cons_succ, i64_w, i32_w]
      rfl
    refine take_ (i := 2) (N := some 7) (v := ?_) (a' := ?_) #[true, false, true, false, false, false, false, false, false, false, false, false, false] rfl rfl (take_ofW HT_.out HW_.out (by kernel_rfl)) (fun _ _ _ h => h) (Or.inl ⟨by rfl, ?_⟩) hHeld ?_ ?_
    rotate_left
    · intro w' hW
      obtain ⟨a0_, a1_, a2_, a3_, a4_, a5_, a6_, b0_, b1_, b2_, b3_, b4_, b5_, b6_⟩ := FX.out w' hW
      go_simp
      with_reducible rfl
    rotate_left
    · simp only [Act.put, List.setIfInBounds_toArray, List.set_cons_zero, List.set_cons_succ, i64_w, i32_w]
      rfl
    refine one_ (i := 1) (N := some 6) #[true, true, true, false, false, false, false, false, false, false, false, false, false] rfl rfl (one_of HT_.out (by kernel_rfl)) (by decide) (fun K hK => ?_)
    refine goes_ Try.func18 (by kernel_rfl) rfl #[.agg #[.int .i64 x0, .int .i64 x1, .int .i64 x2, .int .i64 x3, .int .i64 x4, .int .i64 x5, .slice A n6 c]] (by rfl) rfl rfl (by (try simp only [List.map_toArray, List.map_cons, List.map_nil]); first | done | rfl) ?_
    refine (HOX.out _ hHeld).mono ?_
    rintro e_ w_1 ⟨rfl, hH_⟩
    refine ⟨_, rfl, ?_⟩
    refine hK.out _ _ hH_ (fun hHeld => ?_)
    clear hK K hH_
    refine norm_ (a' := ?_) ?_ ?_
    rotate_left
    · show Act.put _ (some 6) _ = _
      simp only [Act.put, List.setIfInBounds_toArray, List.set_cons_zero, List.set_cons_succ, i64_w, i32_w]
      rfl
    refine one_ (i := 3) (N := some 8) #[true, true, true, true, false, false, false, false, false, false, false, false, false] rfl rfl (one_of HT_.out (by kernel_rfl)) (by decide) (fun K hK => ?_)
    refine goes_ Try.func18 (by kernel_rfl) rfl #[.agg #[.int .i64 y0, .int .i64 y1, .int .i64 y2, .int .i64 y3, .int .i64 y4, .int .i64 y5, .slice B m6 d]] (by rfl) rfl rfl (by (try simp only [List.map_toArray, List.map_cons, List.map_nil]); first | done | rfl) ?_
    refine (HOY.out _ hHeld).mono ?_
    rintro e_ w_2 ⟨rfl, hH_⟩
    refine ⟨_, rfl, ?_⟩
    refine hK.out _ _ hH_ (fun hHeld => ?_)
    clear hK K hH_
    refine norm_ (a' := ?_) ?_ ?_
    rotate_left
    · show Act.put _ (some 8) _ = _
      simp only [Act.put, List.setIfInBounds_toArray, List.set_cons_zero, List.set_cons_succ, i64_w, i32_w]
      rfl
    refine pure_ (i := 4) (N := some 9) (v := ?_) (a' := ?_) #[true, true, true, true, true, false, false, false, false, false, false, false, false] rfl rfl (any_of HT_.out (by kernel_rfl)) (fun _ _ _ h => h) (Or.inl ⟨by rfl, ?_⟩) ?_ ?_
    rotate_left
    · intro w'
      go_simp
      with_reducible rfl
    rotate_left
    · simp only [Act.put, List.setIfInBounds_toArray, List.set_cons_zero, List.set_cons_succ, i64_w, i32_w]
      rfl
    refine pure_ (i := 5) (N := some 10) (v := ?_) (a' := ?_) #[true, true, true, true, true, true, false, false, false, false, false, false, false] rfl rfl (any_of HT_.out (by kernel_rfl)) (fun _ _ _ h => h) (Or.inl ⟨by rfl, ?_⟩) ?_ ?_
    rotate_left
    · intro w'
      go_simp
      with_reducible rfl
    rotate_left
    · simp only [Act.put, List.setIfInBounds_toArray, List.set_cons_zero, List.set_cons_succ, i64_w, i32_w]
      rfl
    refine pure_ (i := 6) (N := some 11) (v := undef) (a' := ?_) #[true, true, true, true, true, true, true, false, false, false, false, false, false] rfl rfl (any_of HT_.out (by kernel_rfl)) (fun _ _ _ h => h) (Or.inr ⟨by rfl, rfl⟩) ?_ ?_
    rotate_left
    · simp only [Act.put, List.setIfInBounds_toArray, List.set_cons_zero, List.set_cons_succ, i64_w, i32_w]
      rfl
    refine pure_ (i := 7) (N := some 12) (v := undef) (a' := ?_) #[true, true, true, true, true, true, true, true, false, false, false, false, false] rfl rfl (any_of HT_.out (by kernel_rfl)) (fun _ _ _ h => h) (Or.inr ⟨by rfl, rfl⟩) ?_ ?_
    rotate_left
    · simp only [Act.put, List.setIfInBounds_toArray, List.set_cons_zero, List.set_cons_succ, i64_w, i32_w]
      rfl
    refine pure_ (i := 8) (N := some 13) (v := undef) (a' := ?_) #[true, true, true, true, true, true, true, true, true, false, false, false, false] rfl rfl (any_of HT_.out (by kernel_rfl)) (fun _ _ _ h => h) (Or.inr ⟨by rfl, rfl⟩) ?_ ?_
    rotate_left
    · simp only [Act.put, List.setIfInBounds_toArray, List.set_cons_zero, List.set_cons_succ, i64_w, i32_w]
      rfl
    refine pure_ (i := 9) (N := some 14) (v := undef) (a' := ?_) #[true, true, true, true, true, true, true, true, true, true, false, false, false] rfl rfl (any_of HT_.out (by kernel_rfl)) (fun _ _ _ h => h) (Or.inr ⟨by rfl, rfl⟩) ?_ ?_
    rotate_left
    · simp only [Act.put, List.setIfInBounds_toArray, List.set_cons_zero, List.set_cons_succ, i64_w, i32_w]
      rfl
    refine pure_ (i := 10) (N := some 15) (v := undef) (a' := ?_) #[true, true, true, true, true, true, true, true, true, true, true, false, false] rfl rfl (any_of HT_.out (by kernel_rfl)) (fun _ _ _ h => h) (Or.inr ⟨by rfl, rfl⟩) ?_ ?_
    rotate_left
    · simp only [Act.put, List.setIfInBounds_toArray, List.set_cons_zero, List.set_cons_succ, i64_w, i32_w]
      rfl
    refine pure_ (i := 11) (N := some 16) (v := ?_) (a' := ?_) #[true, true, true, true, true, true, true, true, true, true, true, true, false] rfl rfl (any_of HT_.out (by kernel_rfl)) (fun _ _ _ h => h) (Or.inl ⟨by rfl, ?_⟩) ?_ ?_
    rotate_left
    · intro w'
      go_simp
      with_reducible rfl
    rotate_left
    · simp only [Act.put, List.setIfInBounds_toArray, List.set_cons_zero, List.set_cons_succ, i64_w, i32_w]
      rfl
    refine pure_ (i := 12) (N := some 4) (v := ?_) (a' := ?_) #[true, true, true, true, true, true, true, true, true, true, true, true, true] rfl rfl (any_of HT_.out (by kernel_rfl)) (fun _ _ _ h => h) (Or.inl ⟨by rfl, ?_⟩) ?_ ?_
    rotate_left
    · intro w'
      go_simp
      with_reducible rfl
    rotate_left
    · simp only [Act.put, List.setIfInBounds_toArray, List.set_cons_zero, List.set_cons_succ, i64_w, i32_w]
      rfl
    refine done_ (done_of HT_.out (by kernel_rfl)) ?_
    go_wp2
    go_ret
    exact ⟨rfl, HB2.out.trans (hHeld.mono HB2.out.size)⟩
set_option maxHeartbeats 4000000 in
set_option maxRecDepth 100000 in
theorem equalF_c (w : World) (l m : List Fi) (A B : Option Addr) (c d : Nat) (hl : Kd.C k44 w A l.length l) (hm : Kd.C k44 w B m.length m) (hb : l.length ≤ big) (hbs : ∀ o ∈ l, o.f6.length ≤ big) :
    Calls Try.prog 42 #[.slice A l.length c, .slice B m.length d, .func (.func 43) #[] #[]] w fun e w' => e = .returned (.bool (eqL eqF l m)) ∧ Below w.heap.size w w' := by
  have e63 : ∀ args w, (callFunc 43 args).run Try.prog w = .ok (.enter 43 args) w := Go.Proofs.enters_of Try.func43 (by kernel_rfl) rfl
  by_cases hlen : l.length = m.length
  · have HR := Lib.hid hl
    have HM := Lib.hid hm
    have HS := Lib.hid hbs
    obtain ⟨N, hN⟩ : ∃ N, l.length = N := ⟨_, rfl⟩
    have hNb : N ≤ 1152921504606846976 := by rw [← hN]; exact hb
    have HN := Lib.hid hN
    have HN2 : Hid (m.length = N) := Lib.hid (by omega)
    rw [hN] at HR
    rw [HN2.out] at HM
    clear hl hm hb hN hlen hbs
    rw [HN.out, HN2.out]
    obtain ⟨D, hD⟩ : ∃ D, eqL eqF l m = D := ⟨_, rfl⟩
    have HD := Lib.hid hD
    rw [hD]
    clear hD
    go_enter Try.func42, Try.ntmps42
    go_wp2
    go_loopw [7, 8, 9, 17] (fun _ _ _ v17 wr => ∃ k : Nat, k ≤ N ∧ v17 = .int .i64 k ∧ Aside (eqL eqF (l.drop k) (m.drop k) = D ∧ Below w.heap.size w wr)) (fun _ _ _ v17 _ => N - (intOf v17).toNat)
    case atStart => exact ⟨0, by omega, rfl, HD.out, Below.refl _ _⟩
    case round =>
      obtain ⟨k, hk, rfl, HA⟩ := hrel
      by_cases hlt : k < N
      · have hkl : k < l.length := by rw [HN.out]; exact hlt
        have hkm : k < m.length := by rw [HN2.out]; exact hlt
        have hlti : (k : Int) < N := by omega
        obtain ⟨ad, A3, c3, rfl, x0, x1, x2, x3, x4, x5, x6, xl, xh⟩ := at_T44 HR.out (k : Int) (by omega) (by omega)
        obtain ⟨bd, B3, d3, rfl, y0, y1, y2, y3, y4, y5, y6, yl, yh⟩ := at_T44 HM.out (k : Int) (by omega) (by omega)
        rw [rd44 hkl] at x0 x1 x2 x3 x4 x5 x6 xl xh
        rw [rd44 hkm] at y0 y1 y2 y3 y4 y5 y6 yl yh
        rw [Int.toNat_natCast] at x0 x1 x2 x3 x4 x5 x6 y0 y1 y2 y3 y4 y5 y6
        replace x0 := pw_cell_below HA.out.2 x0
        replace x1 := pw_cell_below HA.out.2 x1
        replace x2 := pw_cell_below HA.out.2 x2
        replace x3 := pw_cell_below HA.out.2 x3
        replace x4 := pw_cell_below HA.out.2 x4
        replace x5 := pw_cell_below HA.out.2 x5
        replace x6 := pw_cell_below HA.out.2 x6
        replace y0 := fun o => pw_cell_below (below_alloc HA.out.2 o) y0
        replace y1 := fun o => pw_cell_below (below_alloc HA.out.2 o) y1
        replace y2 := fun o => pw_cell_below (below_alloc HA.out.2 o) y2
        replace y3 := fun o => pw_cell_below (below_alloc HA.out.2 o) y3
        replace y4 := fun o => pw_cell_below (below_alloc HA.out.2 o) y4
        replace y5 := fun o => pw_cell_below (below_alloc HA.out.2 o) y5
        replace y6 := fun o => pw_cell_below (below_alloc HA.out.2 o) y6
        have HE := Lib.hid HA.out.1
        rw [eqL_drop hkl hkm] at HE
        have HBW := Lib.hid HA.out.2
        have HC := Lib.hid (fun (W : World) (hW : Below w.heap.size w W) => sameF_c W l[k] m[k] A3 B3 c3 d3 xl yl (Kd.C_below xh hW) (Kd.C_below yh hW) (HS.out _ (List.getElem_mem hkl)))
        unfold cF at HC
        clear xh yh xl yl
        clear HA
        cases hxy : eqF l[k] m[k] with
        | true =>
          rw [hxy] at HC HE
          rw [Bool.true_and] at HE
          clear hxy
          generalize l[k] = x at *
          generalize m[k] = y at *
          go_wp2_with fail
          refine (HC.out _ (by repeat (first | exact HBW.out | apply below_alloc))).mono ?_
          rintro e w1 ⟨rfl, hb1⟩
          have HB1 := Lib.hid (link (below_alloc (below_alloc HBW.out _) _) hb1)
          clear hb1
          go_wp2
          go_roundw
          case rel => exact ⟨k + 1, by omega, by go_num, HE.out, HB1.out⟩
          case measure => simp [intOf]; omega
        | false =>
          rw [hxy] at HC HE
          rw [Bool.false_and] at HE
          clear hxy
          generalize l[k] = x at *
          generalize m[k] = y at *
          go_wp2_with fail
          refine (HC.out _ (by repeat (first | exact HBW.out | apply below_alloc))).mono ?_
          rintro e w1 ⟨rfl, hb1⟩
          have HB1 := Lib.hid (link (below_alloc (below_alloc HBW.out _) _) hb1)
          clear hb1
          go_wp2
          go_ret
          exact ⟨by rw [← HE.out]; rfl, HB1.out⟩
      · have hlti : ¬ (k : Int) < N := by omega
        have HE := Lib.hid HA.out
        have hfin : eqL eqF (l.drop k) (m.drop k) = true := eqL_end (by rw [HN.out, HN2.out]) (by rw [HN.out]; omega)
        rw [hfin] at HE
        clear hfin HA
        go_wp2
        go_ret
        exact ⟨by rw [← HE.out.1]; rfl, HE.out.2⟩
  · have e := eqL_len (R := eqF) hlen
    have hne : ((l.length : Int) != (m.length : Int)) = true := by simp; omega
    rw [e]
    generalize l.length = n1 at *
    generalize m.length = n2 at *
    clear hl hm
    go_enter Try.func42, Try.ntmps42
    go_wp2
    go_ret
    exact ⟨rfl, Below.refl _ _⟩
/-- Two reports are alike. -/
def eqRep (lv : Int) (fs : List Fi) (o : List Int) (lv' : Int) (fs' : List Fi) (o' : List Int) : Bool := decide (lv = lv') && (eqL eqF fs fs' && alike o o')
set_option maxHeartbeats 4000000 in
set_option maxRecDepth 100000 in
theorem same_c (w : World) (lv lv' : Int) (fs fs' : List Fi) (o o' : List Int) (A1 A2 B1 B2 : Option Addr) (c1 c2 d1 d2 : Nat) (h1 : Kd.C k44 w A1 fs.length fs) (h2 : (Kd.int .i64).C w A2 o.length o) (g1 : Kd.C k44 w B1 fs'.length fs') (g2 : (Kd.int .i64).C w B2 o'.length o') (hc2 : o.length ≤ c2) (hd2 : o'.length ≤ d2) (hb : fs.length ≤ big) (hbs : ∀ f ∈ fs, f.f6.length ≤ big) (hbo : o.length ≤ big) :
    Calls Try.prog 16 #[.agg #[.int .i64 lv, .slice A1 fs.length c1, .slice A2 o.length c2], .agg #[.int .i64 lv', .slice B1 fs'.length d1, .slice B2 o'.length d2]] w fun e w' => e = .returned (.bool (eqRep lv fs o lv' fs' o')) ∧ Below w.heap.size w w' := by
  have HB : Hid (Below w.heap.size w ((w.alloc (.cells #[.int .i64 lv, .slice A1 fs.length c1, .slice A2 o.length c2] 25)).alloc (.cells #[.int .i64 lv', .slice B1 fs'.length d1, .slice B2 o'.length d2] 25))) := Lib.hid (((Below.refl _ _).alloc (Nat.le_refl _) _).alloc (by simp) _)
  have HE := Lib.hid (fun (W : World) (hW : Below w.heap.size w W) => equalF_c W fs fs' A1 B1 c1 d1 (Kd.C_below h1 hW) (Kd.C_below g1 hW) hb hbs)
  have HI : Hid (∀ W, Below w.heap.size w W → Calls Try.prog 44 #[.slice A2 o.length c2, .slice B2 o'.length d2] W fun e w' => e = .returned (.bool (alike o o')) ∧ Below W.heap.size W w') := Lib.hid (fun W hW => by
    obtain ⟨k, hk⟩ := ints_f (l := o) (m := o') hbo
    exact (slices_Equal_int_int.calls k A2 c2 o B2 d2 o' _ W (Kd.C_below h2 hW) hc2 (Kd.C_below g2 hW) hd2 hk).mono fun e w' ⟨h1, h2⟩ => ⟨h1, drawn_bel h2⟩)
  unfold eqRep
  clear h1 h2 g1 g2 hc2 hd2 hb hbs hbo
  generalize fs.length = n1 at *
  generalize fs'.length = n2 at *
  generalize o.length = m1 at *
  generalize o'.length = m2 at *
  generalize eqL eqF fs fs' = q1 at *
  generalize alike o o' = q2 at *
  by_cases hl : lv = lv'
  · subst hl
    rw [decide_eq_true rfl, Bool.true_and]
    cases q1 with
    | true =>
      rw [Bool.true_and]
      go_enter Try.func16, Try.ntmps16
      go_wp2_with fail
      refine (HE.out _ HB.out).mono ?_
      rintro e w1 ⟨rfl, hb1⟩
      have y0 := fun (b j : Nat) (v : Value) (h : World.cell? ((w.alloc (.cells #[.int .i64 lv, .slice A1 n1 c1, .slice A2 m1 c2] 25)).alloc (.cells #[.int .i64 lv, .slice B1 n2 d1, .slice B2 m2 d2] 25)) ⟨b, j, none⟩ = some v) => pw_cell_below hb1 h
      have z1 := y0 w.heap.size 2 (.slice A2 m1 c2) ((((Blk.new w [.int .i64 lv, .slice A1 n1 c1, .slice A2 m1 c2] 25).alloc _).cell 2).trans rfl)
      have z2 := y0 (w.heap.size + 1) 2 (.slice B2 m2 d2) (by have h := ((Blk.new (w.alloc (.cells #[.int .i64 lv, .slice A1 n1 c1, .slice A2 m1 c2] 25)) [.int .i64 lv, .slice B1 n2 d1, .slice B2 m2 d2] 25).cell 2).trans rfl; rw [World.size_alloc] at h; exact h)
      have HB1 := Lib.hid (link HB.out hb1)
      clear y0 hb1
      go_wp2_with fail
      refine (HI.out _ HB1.out).mono ?_
      rintro e w2 ⟨rfl, hb2⟩
      go_wp2
      go_ret
      exact ⟨rfl, link HB1.out hb2⟩
    | false =>
      rw [Bool.false_and]
      go_enter Try.func16, Try.ntmps16
      go_wp2_with fail
      refine (HE.out _ HB.out).mono ?_
      rintro e w1 ⟨rfl, hb1⟩
      go_wp2
      go_ret
      exact ⟨rfl, link HB.out hb1⟩
  · have hd : (lv == lv') = false := by simp [hl]
    rw [decide_eq_false hl, Bool.false_and]
    clear hl
    go_enter Try.func16, Try.ntmps16
    go_wp2
    go_ret
    exact ⟨rfl, HB.out⟩
end Go.Proofs.Ytkoddmedhnhgiaa.Rp

/- The reference's Print: printed by the kit's print.sh for ReportPrints, taken over. -/
namespace Go.Proofs.Ytkoddmedhnhgiaa.PReportBack
open Go.RowKit Go.Proofs.YtkoddmedhnhgiaaW.PrintWords Go.Proofs.YtkoddmedhnhgiaaW.PrintLast Go.Proofs.YtkoddmedhnhgiaaW.PrintMore
attribute [local go_sem] max2_int min2_int max_two min_two max_three min_three max_four min_four   -- for this text's walks alone
set_option linter.unusedVariables false
set_option linter.unusedSimpArgs false

/-! ### coronerref01_Print: function 46 -/
mutual
def coronerref01_Print.j0 : Nat → Int → Bool → Option (ByteArray × Int)
  | 0, _, _ => none
  | k + 1, x0, x10 => if x10 = true then (some ((⟨#[]⟩ : ByteArray), 2)) else (coronerref01_Print.l0 k x0 (⟨#[]⟩ : ByteArray))
def coronerref01_Print.l0 : Nat → Int → ByteArray → Option (ByteArray × Int)
  | 0, _, _ => none
  | k + 1, x0, x4 => if x0 > 9 then (if 0 ≤ (Int.tmod x0 10) then (if (Int.tmod x0 10) ≤ (wrap64 ((Int.tmod x0 10) + 1)) then (if (wrap64 ((Int.tmod x0 10) + 1)) ≤ 10 then (if ((⟨#[48, 49, 50, 51, 52, 53, 54, 55, 56, 57]⟩ : ByteArray).extract ((Int.tmod x0 10) : Int).toNat ((wrap64 ((Int.tmod x0 10) + 1)) : Int).toNat).size + x4.size ≤ 9223372036854775807 then (coronerref01_Print.l0 k (wrap64 (Int.tdiv x0 10)) (((⟨#[48, 49, 50, 51, 52, 53, 54, 55, 56, 57]⟩ : ByteArray).extract ((Int.tmod x0 10) : Int).toNat ((wrap64 ((Int.tmod x0 10) + 1)) : Int).toNat) ++ x4)) else (none)) else (none)) else (none)) else (none)) else (if 0 ≤ x0 then (if x0 ≤ (wrap64 (x0 + 1)) then (if (wrap64 (x0 + 1)) ≤ 10 then (if ((⟨#[48, 49, 50, 51, 52, 53, 54, 55, 56, 57]⟩ : ByteArray).extract (x0 : Int).toNat ((wrap64 (x0 + 1)) : Int).toNat).size + x4.size ≤ 9223372036854775807 then (some (((⟨#[48, 49, 50, 51, 52, 53, 54, 55, 56, 57]⟩ : ByteArray).extract (x0 : Int).toNat ((wrap64 (x0 + 1)) : Int).toNat) ++ x4, 0)) else (none)) else (none)) else (none)) else (none))
end
def coronerref01_Print.f (k : Nat) (a0 : Int) : Option (ByteArray × Int) := if a0 < 0 then (coronerref01_Print.j0 k a0 true) else (coronerref01_Print.j0 k a0 (decide (a0 > 2147483647)))
theorem coronerref01_Print.mono_l : ∀ k, (∀ y0 y1, LeO (coronerref01_Print.j0 k y0 y1) (coronerref01_Print.j0 (k + 1) y0 y1)) ∧ (∀ y0 y1, LeO (coronerref01_Print.l0 k y0 y1) (coronerref01_Print.l0 (k + 1) y0 y1))
  | 0 => ⟨fun _ _ r h => by simp [coronerref01_Print.j0] at h, fun _ _ r h => by simp [coronerref01_Print.l0] at h⟩
  | k + 1 => by
    obtain ⟨ih0, ih1⟩ := coronerref01_Print.mono_l k
    refine ⟨?_, ?_⟩
    · intro y0 y1
      unfold coronerref01_Print.j0
      repeat' first
      | (with_reducible exact ih0 _ _)
      | (with_reducible exact ih1 _ _)
      | (with_reducible exact LeO.refl _)
      | (with_reducible exact LeO.none _)
      | (with_reducible refine LeO.ite ?_ ?_)
      | (with_reducible refine LeO.bind ?_ (fun _ => ?_))
      | exact ih0 _ _
      | exact ih1 _ _
      | exact LeO.none _
      | refine LeO.ite ?_ ?_
      | refine LeO.bind ?_ (fun _ => ?_)
    · intro y0 y1
      unfold coronerref01_Print.l0
      repeat' first
      | (with_reducible exact ih0 _ _)
      | (with_reducible exact ih1 _ _)
      | (with_reducible exact LeO.refl _)
      | (with_reducible exact LeO.none _)
      | (with_reducible refine LeO.ite ?_ ?_)
      | (with_reducible refine LeO.bind ?_ (fun _ => ?_))
      | exact ih0 _ _
      | exact ih1 _ _
      | exact LeO.none _
      | refine LeO.ite ?_ ?_
      | refine LeO.bind ?_ (fun _ => ?_)
theorem coronerref01_Print.mono : ∀ a0 k, LeO (coronerref01_Print.f k a0) (coronerref01_Print.f (k + 1) a0) := by
  intro a0 k
  obtain ⟨ih0, ih1⟩ := coronerref01_Print.mono_l k
  unfold coronerref01_Print.f
  repeat' first
      | (with_reducible exact ih0 _ _)
      | (with_reducible exact ih1 _ _)
      | (with_reducible exact LeO.refl _)
      | (with_reducible exact LeO.none _)
      | (with_reducible refine LeO.ite ?_ ?_)
      | (with_reducible refine LeO.bind ?_ (fun _ => ?_))
      | exact ih0 _ _
      | exact ih1 _ _
      | exact LeO.none _
      | refine LeO.ite ?_ ?_
      | refine LeO.bind ?_ (fun _ => ?_)
set_option maxHeartbeats 8000000 in
set_option maxRecDepth 100000 in
theorem coronerref01_Print.calls (k : Nat) (a0 : Int) (r1 : ByteArray) (r2 : Int) (w : World) (h : coronerref01_Print.f k a0 = some (r1, r2)) :
    Calls Try.prog 46 #[.int .i64 a0] w fun e w' => e = .returned (.tuple #[.string r1, .int .i64 r2]) ∧ Drawn0 w w' := by
  have H : (if a0 < 0 then (coronerref01_Print.j0 k a0 true) else (coronerref01_Print.j0 k a0 (decide (a0 > 2147483647)))) = some (r1, r2) := h
  clear h
  have HC2 := Aside0.mk H
  clear H
  go_enter Try.func46, Try.ntmps46
  go_upto_region 1 with (fail)
  go_cut [10] (fun v10 wc => ∃ (kq : Nat) (x10_1 : Bool), v10 = .bool x10_1 ∧ Aside0 (coronerref01_Print.j0 kq a0 x10_1 = some (r1, r2)) ∧ Aside0 (kq ≤ k) ∧ Drawn0 w wc)
  case first =>
    have H := HC2.out
    clear HC2
    by_cases c3 : a0 < 0
    · rw [if_pos c3] at H
      have c3b0 : decide (a0 < 0) = true := decide_eq_true c3
      clear c3
      (first | rw [c3b0] | (simp only [i64_w, i32_w]; rw [c3b0]) | skip)
      have H' := Aside0.mk H
      clear H
      go_wp2
      go_meet
      case rel => exact ⟨_, (true), (by first | rfl | (simp; done) | (simp [*]; done)), H', ⟨by first | omega | exact Nat.le_refl _⟩, by repeat (first | exact Drawn0.refl _ | apply Drawn0.step)⟩
    · rw [if_neg c3] at H
      have c3b0 : decide (a0 < 0) = false := decide_eq_false c3
      clear c3
      (first | rw [c3b0] | (simp only [i64_w, i32_w]; rw [c3b0]) | skip)
      have H' := Aside0.mk H
      clear H
      go_wp2
      go_meet
      case rel => exact ⟨_, (decide (a0 > 2147483647)), (by first | rfl | (simp; done) | (simp [*]; done)), H', ⟨by first | omega | exact Nat.le_refl _⟩, by repeat (first | exact Drawn0.refl _ | apply Drawn0.step)⟩
  case rest =>
    clear HC2
    try clear p2
    try clear c3
    try clear c3b0
    obtain ⟨kq, x10_1, rfl, HA, HJ1, ⟨mc1, rfl⟩⟩ := hcut
    cases kq with
    | zero => exact absurd HA.out (by simp [coronerref01_Print.j0])
    | succ kj1 =>
      have H := HA.out
      clear HA
      simp only [coronerref01_Print.j0] at H
      by_cases c4 : x10_1 = true
      · subst c4
        have H1 : (some ((⟨#[]⟩ : ByteArray), 2)) = some (r1, r2) := by rw [if_pos rfl] at H; exact H
        clear H
        have H := H1
        clear H1
        simp only [Option.some.injEq, Prod.mk.injEq] at H
        obtain ⟨rfl, rfl⟩ := H
        go_wp2
        go_ret2
        exact ⟨by first | rfl | (simp; done) | (simp [*]; done), by repeat (first | exact Drawn0.refl _ | apply Drawn0.step)⟩
      · replace c4 := Bool.eq_false_iff.mpr c4
        subst c4
        have H1 : (coronerref01_Print.l0 kj1 a0 (⟨#[]⟩ : ByteArray)) = some (r1, r2) := by rw [if_neg (show ¬ (false = true) by decide)] at H; exact H
        clear H
        have H := H1
        clear H1
        have H' := Aside0.mk H
        clear H
        go_wp2
        go_loopg [0, 4] kj1 (fun kq v0 v4 w' => ∃ (x0_2 : Int) (x4_2 : ByteArray), v0 = .int .i64 x0_2 ∧ v4 = .string x4_2 ∧ Aside0 (coronerref01_Print.l0 kq x0_2 x4_2 = some (r1, r2)) ∧ Aside0 (kq ≤ kj1) ∧ Drawn0 w w')
        case atStart => exact ⟨(a0), ((⟨#[]⟩ : ByteArray)), (by first | rfl | (simp; done) | (simp [*]; done)), (by first | rfl | (simp; done) | (simp [*]; done)), H', ⟨Nat.le_refl _⟩, by repeat (first | exact Drawn0.refl _ | apply Drawn0.step)⟩
        case round =>
          clear H'
          try clear c1
          try clear p2
          try clear c3
          try clear c3b0
          try clear c4
          try clear p2
          obtain ⟨x0_2, x4_2, rfl, rfl, HA, HK2, ⟨m2, rfl⟩⟩ := hrel
          cases gk with
          | zero => exact absurd HA.out (by simp [coronerref01_Print.l0])
          | succ k2 =>
            have H := HA.out
            clear HA
            simp only [coronerref01_Print.l0] at H
            by_cases c5 : x0_2 > 9
            · rw [if_pos c5] at H
              have c5b0 : decide (9 < x0_2) = true := decide_eq_true c5
              clear c5
              obtain ⟨ji6, hji6⟩ : ∃ j_ : Int, (Int.tmod x0_2 10) = j_ := ⟨_, rfl⟩
              replace H : (if 0 ≤ (ji6) then (if (ji6) ≤ (wrap64 ((ji6) + 1)) then (if (wrap64 ((ji6) + 1)) ≤ 10 then (if ((⟨#[48, 49, 50, 51, 52, 53, 54, 55, 56, 57]⟩ : ByteArray).extract ((ji6) : Int).toNat ((wrap64 ((ji6) + 1)) : Int).toNat).size + x4_2.size ≤ 9223372036854775807 then (coronerref01_Print.l0 k2 (wrap64 (Int.tdiv x0_2 10)) (((⟨#[48, 49, 50, 51, 52, 53, 54, 55, 56, 57]⟩ : ByteArray).extract ((ji6) : Int).toNat ((wrap64 ((ji6) + 1)) : Int).toNat) ++ x4_2)) else (none)) else (none)) else (none)) else (none)) = some (r1, r2) := by first | (rw [hji6] at H; exact H) | (simp only [hji6] at H ⊢; exact H)
              by_cases c7 : 0 ≤ (ji6)
              · rw [if_pos c7] at H
                have c7b0 := eq_true c7
                have c7b1 : decide (0 ≤ (ji6)) = true := decide_eq_true c7
                clear c7
                by_cases c8 : (ji6) ≤ (wrap64 ((ji6) + 1))
                · rw [if_pos c8] at H
                  have c8b0 := eq_true c8
                  have c8b1 : decide ((ji6) ≤ (wrap64 ((ji6) + 1))) = true := decide_eq_true c8
                  by_cases c9 : (wrap64 ((ji6) + 1)) ≤ 10
                  · rw [if_pos c9] at H
                    have c9b0 := eq_true c9
                    have c9b1 : decide ((wrap64 ((ji6) + 1)) ≤ 10) = true := decide_eq_true c9
                    by_cases c10 : ((⟨#[48, 49, 50, 51, 52, 53, 54, 55, 56, 57]⟩ : ByteArray).extract ((ji6) : Int).toNat ((wrap64 ((ji6) + 1)) : Int).toNat).size + x4_2.size ≤ 9223372036854775807
                    · rw [if_pos c10] at H
                      have c10b0 := eq_true c10
                      have c10b1 : decide (((⟨#[48, 49, 50, 51, 52, 53, 54, 55, 56, 57]⟩ : ByteArray).extract ((ji6) : Int).toNat ((wrap64 ((ji6) + 1)) : Int).toNat).size + x4_2.size ≤ 9223372036854775807) = true := decide_eq_true c10
                      try have c10b2 : (9223372036854775807 < ((⟨#[48, 49, 50, 51, 52, 53, 54, 55, 56, 57]⟩ : ByteArray).extract ((ji6) : Int).toNat ((wrap64 ((ji6) + 1)) : Int).toNat).size + x4_2.size) = False := eq_false (Nat.not_lt.2 c10)
                      have H' := Aside0.mk H
                      clear H
                      go_wp2
                      go_roundg k2
                      case measure => have := HJ1.out; have := HK2.out; omega
                      case rel => exact ⟨(wrap64 (Int.tdiv x0_2 10)), (((⟨#[48, 49, 50, 51, 52, 53, 54, 55, 56, 57]⟩ : ByteArray).extract ((ji6) : Int).toNat ((wrap64 ((ji6) + 1)) : Int).toNat) ++ x4_2), (by first | rfl | (simp; done) | (simp [*]; done)), (by first | rfl | (simp; done) | (simp only [← hji6] <;> (first | rfl | simp)) | (simp [*]; done)), H', ⟨by have := HJ1.out; have := HK2.out; omega⟩, by repeat (first | exact Drawn0.refl _ | apply Drawn0.step)⟩
                    · rw [if_neg c10] at H
                      exact absurd H (by simp)
                  · rw [if_neg c9] at H
                    exact absurd H (by simp)
                · rw [if_neg c8] at H
                  exact absurd H (by simp)
              · rw [if_neg c7] at H
                exact absurd H (by simp)
            · rw [if_neg c5] at H
              have c5b0 : decide (9 < x0_2) = false := decide_eq_false c5
              clear c5
              by_cases c11 : 0 ≤ x0_2
              · rw [if_pos c11] at H
                have c11b0 := eq_true c11
                have c11b1 : decide (0 ≤ x0_2) = true := decide_eq_true c11
                clear c11
                by_cases c12 : x0_2 ≤ (wrap64 (x0_2 + 1))
                · rw [if_pos c12] at H
                  have c12b0 := eq_true c12
                  have c12b1 : decide (x0_2 ≤ (wrap64 (x0_2 + 1))) = true := decide_eq_true c12
                  by_cases c13 : (wrap64 (x0_2 + 1)) ≤ 10
                  · rw [if_pos c13] at H
                    have c13b0 := eq_true c13
                    have c13b1 : decide ((wrap64 (x0_2 + 1)) ≤ 10) = true := decide_eq_true c13
                    by_cases c14 : ((⟨#[48, 49, 50, 51, 52, 53, 54, 55, 56, 57]⟩ : ByteArray).extract (x0_2 : Int).toNat ((wrap64 (x0_2 + 1)) : Int).toNat).size + x4_2.size ≤ 9223372036854775807
                    · rw [if_pos c14] at H
                      have c14b0 := eq_true c14
                      have c14b1 : decide (((⟨#[48, 49, 50, 51, 52, 53, 54, 55, 56, 57]⟩ : ByteArray).extract (x0_2 : Int).toNat ((wrap64 (x0_2 + 1)) : Int).toNat).size + x4_2.size ≤ 9223372036854775807) = true := decide_eq_true c14
                      try have c14b2 : (9223372036854775807 < ((⟨#[48, 49, 50, 51, 52, 53, 54, 55, 56, 57]⟩ : ByteArray).extract (x0_2 : Int).toNat ((wrap64 (x0_2 + 1)) : Int).toNat).size + x4_2.size) = False := eq_false (Nat.not_lt.2 c14)
                      simp only [Option.some.injEq, Prod.mk.injEq] at H
                      obtain ⟨rfl, rfl⟩ := H
                      go_wp2
                      go_ret2
                      exact ⟨by first | rfl | (simp; done) | (simp [*]; done), by repeat (first | exact Drawn0.refl _ | apply Drawn0.step)⟩
                    · rw [if_neg c14] at H
                      exact absurd H (by simp)
                  · rw [if_neg c13] at H
                    exact absurd H (by simp)
                · rw [if_neg c12] at H
                  exact absurd H (by simp)
              · rw [if_neg c11] at H
                exact absurd H (by simp)

/-! ### coronerref31_line: function 20 -/
def coronerref31_line.l0 : Nat → List Int → ByteArray → Int → Option (ByteArray)
  | 0, _, _, _ => none
  | k + 1, x1, x5, x6 => if x6 < (x1.length : Int) then (if 0 ≤ x6 then (if (rd x1 x6) ≥ 0 then ((coronerref01_Print.f k (rd x1 x6)).bind fun bt168 => (if x5.size + 1 ≤ 9223372036854775807 then (if (x5 ++ (⟨#[32]⟩ : ByteArray)).size + bt168.1.size ≤ 9223372036854775807 then (coronerref31_line.l0 k x1 ((x5 ++ (⟨#[32]⟩ : ByteArray)) ++ bt168.1) (wrap64 (x6 + 1))) else (none)) else (none))) else (if x5.size + 1 ≤ 9223372036854775807 then (if (x5 ++ (⟨#[32]⟩ : ByteArray)).size + 1 ≤ 9223372036854775807 then (coronerref31_line.l0 k x1 ((x5 ++ (⟨#[32]⟩ : ByteArray)) ++ (⟨#[45]⟩ : ByteArray)) (wrap64 (x6 + 1))) else (none)) else (none))) else (none)) else (if x5.size + 1 ≤ 9223372036854775807 then (some (x5 ++ (⟨#[10]⟩ : ByteArray))) else (none))
def coronerref31_line.f (k : Nat) (a0 : ByteArray) (l1 : List Int) : Option (ByteArray) := coronerref31_line.l0 k l1 a0 0
theorem coronerref31_line.mono_l : ∀ k, (∀ y0 y1 y2, LeO (coronerref31_line.l0 k y0 y1 y2) (coronerref31_line.l0 (k + 1) y0 y1 y2))
  | 0 => fun _ _ _ r h => by simp [coronerref31_line.l0] at h
  | k + 1 => by
    have ih0 := coronerref31_line.mono_l k
    · intro y0 y1 y2
      unfold coronerref31_line.l0
      repeat' first
      | (with_reducible exact ih0 _ _ _)
      | (with_reducible exact coronerref01_Print.mono _ _)
      | (with_reducible exact LeO.refl _)
      | (with_reducible exact LeO.none _)
      | (with_reducible refine LeO.ite ?_ ?_)
      | (with_reducible refine LeO.bind ?_ (fun _ => ?_))
      | exact ih0 _ _ _
      | exact coronerref01_Print.mono _ _
      | exact LeO.none _
      | refine LeO.ite ?_ ?_
      | refine LeO.bind ?_ (fun _ => ?_)
theorem coronerref31_line.mono : ∀ a0 a1 k, LeO (coronerref31_line.f k a0 a1) (coronerref31_line.f (k + 1) a0 a1) := by
  intro a0 a1 k
  have ih0 := coronerref31_line.mono_l k
  unfold coronerref31_line.f
  repeat' first
      | (with_reducible exact ih0 _ _ _)
      | (with_reducible exact coronerref01_Print.mono _ _)
      | (with_reducible exact LeO.refl _)
      | (with_reducible exact LeO.none _)
      | (with_reducible refine LeO.ite ?_ ?_)
      | (with_reducible refine LeO.bind ?_ (fun _ => ?_))
      | exact ih0 _ _ _
      | exact coronerref01_Print.mono _ _
      | exact LeO.none _
      | refine LeO.ite ?_ ?_
      | refine LeO.bind ?_ (fun _ => ?_)
set_option maxHeartbeats 8000000 in
set_option maxRecDepth 100000 in
theorem coronerref31_line.calls (k : Nat) (a0 : ByteArray) (A1 : Option Addr) (c1 : Nat) (l1 : List Int) (r : ByteArray) (w : World) (hr1 : Kd.C (Kd.int .i64) w A1 l1.length l1) (hc1 : l1.length ≤ c1) (h : coronerref31_line.f k a0 l1 = some r) :
    Calls Try.prog 20 #[.string a0, .slice A1 l1.length c1] w fun e w' => e = .returned (.string r) ∧ Drawn0 w w' := by
  have HR1 := Aside0.mk hr1
  have HC1 := Aside0.mk hc1
  clear hr1 hc1
  have H : (coronerref31_line.l0 k l1 a0 0) = some r := h
  clear h
  have H' := Aside0.mk H
  clear H
  go_enter Try.func20, Try.ntmps20
  go_wp2
  go_loopg [5, 6] k (fun kq v5 v6 w' => ∃ (x5_1 : ByteArray) (x6_1 : Int), v5 = .string x5_1 ∧ v6 = .int .i64 x6_1 ∧ Aside0 (coronerref31_line.l0 kq l1 x5_1 x6_1 = some r) ∧ Aside0 (kq ≤ k) ∧ Drawn0 w w')
  case atStart => exact ⟨(a0), (0), (by first | rfl | (simp; done) | (simp [*]; done)), (by first | rfl | (simp; done) | (simp [*]; done)), H', ⟨Nat.le_refl _⟩, by repeat (first | exact Drawn0.refl _ | apply Drawn0.step)⟩
  case round =>
    clear H'
    try clear c1
    try clear c2
    try clear p2
    obtain ⟨x5_1, x6_1, rfl, rfl, HA, HK1, ⟨m1, rfl⟩⟩ := hrel
    cases gk with
    | zero => exact absurd HA.out (by simp [coronerref31_line.l0])
    | succ k1 =>
      have H := HA.out
      clear HA
      simp only [coronerref31_line.l0] at H
      by_cases c3 : x6_1 < (l1.length : Int)
      · rw [if_pos c3] at H
        have c3b0 : decide (x6_1 < (l1.length : Int)) = true := decide_eq_true c3
        clear c3
        by_cases c4 : 0 ≤ x6_1
        · rw [if_pos c4] at H
          have c4b0 : decide (0 ≤ x6_1) = true := decide_eq_true c4
          clear c4
          by_cases c5 : (rd l1 x6_1) ≥ 0
          · rw [if_pos c5] at H
            have c5b0 : decide (0 ≤ (rd l1 x6_1)) = true := decide_eq_true c5
            clear c5
            replace H := Option.bind_eq_some_iff.mp H
            obtain ⟨⟨t168, t169⟩, A60, H⟩ := H
            replace H : (if x5_1.size + 1 ≤ 9223372036854775807 then (if (x5_1 ++ (⟨#[32]⟩ : ByteArray)).size + t168.size ≤ 9223372036854775807 then (coronerref31_line.l0 k1 l1 ((x5_1 ++ (⟨#[32]⟩ : ByteArray)) ++ t168) (wrap64 (x6_1 + 1))) else (none)) else (none)) = some r := H
            have A6 := Aside0.mk A60
            clear A60
            by_cases c7 : x5_1.size + 1 ≤ 9223372036854775807
            · rw [if_pos c7] at H
              have c7b0 := eq_true c7
              have c7b1 : decide (x5_1.size + 1 ≤ 9223372036854775807) = true := decide_eq_true c7
              try have c7b2 : (9223372036854775807 < x5_1.size + 1) = False := eq_false (Nat.not_lt.2 c7)
              by_cases c8 : (x5_1 ++ (⟨#[32]⟩ : ByteArray)).size + t168.size ≤ 9223372036854775807
              · rw [if_pos c8] at H
                have c8b0 := eq_true c8
                have c8b1 : decide ((x5_1 ++ (⟨#[32]⟩ : ByteArray)).size + t168.size ≤ 9223372036854775807) = true := decide_eq_true c8
                try have c8b2 : (9223372036854775807 < (x5_1 ++ (⟨#[32]⟩ : ByteArray)).size + t168.size) = False := eq_false (Nat.not_lt.2 c8)
                have H' := Aside0.mk H
                clear H
                have p166 : 0 ≤ (x6_1 : Int) := of_decide_eq_true (by first | (with_reducible assumption) | assumption)
                have q166 : x6_1 < (l1.length : Int) := of_decide_eq_true (by first | (with_reducible assumption) | assumption)
                obtain ⟨ad166, e166, hx166_0⟩ := Kd.at_int HR1.out x6_1 p166 q166
                cases e166
                replace p166 := eq_true p166
                replace q166 := eq_true q166
                have p167 : 0 ≤ (x6_1 : Int) := of_decide_eq_true (by first | (with_reducible assumption) | assumption)
                have q167 : x6_1 < (l1.length : Int) := of_decide_eq_true (by first | (with_reducible assumption) | assumption)
                obtain ⟨ad167, e167, hx167_0⟩ := Kd.at_int HR1.out x6_1 p167 q167
                obtain rfl : ad166 = ad167 := (by injection e167)
                replace p167 := eq_true p167
                replace q167 := eq_true q167
                go_wp2_with (first | ((with_reducible refine gate_callee (f := 46) rfl ?_); refine goesL_ (some 25) rfl rfl Try.func46 (by kernel_rfl) rfl #[.int .i64 (rd l1 x6_1)] rfl (by (try simp only [List.map_toArray, List.map_cons, List.map_nil]); first | done | rfl | (simp only [List.length_drop, List.length_take]; rfl)) ?_; (with_reducible refine (coronerref01_Print.calls k1 (rd l1 x6_1) t168 t169 _ A6.out).mono ?_); rintro e w' ⟨rfl, ⟨nd, rfl⟩⟩; refine ⟨_, rfl, ?_⟩))
                go_roundg k1
                case measure => have := HK1.out; omega
                case rel => exact ⟨((x5_1 ++ (⟨#[32]⟩ : ByteArray)) ++ t168), (wrap64 (x6_1 + 1)), (by first | rfl | (simp; done) | (simp [*]; done)), (by first | rfl | (simp; done) | (simp [*]; done)), H', ⟨by have := HK1.out; omega⟩, by repeat (first | exact Drawn0.refl _ | apply Drawn0.step)⟩
              · rw [if_neg c8] at H
                exact absurd H (by simp)
            · rw [if_neg c7] at H
              exact absurd H (by simp)
          · rw [if_neg c5] at H
            have c5b0 : decide (0 ≤ (rd l1 x6_1)) = false := decide_eq_false c5
            clear c5
            by_cases c9 : x5_1.size + 1 ≤ 9223372036854775807
            · rw [if_pos c9] at H
              have c9b0 := eq_true c9
              have c9b1 : decide (x5_1.size + 1 ≤ 9223372036854775807) = true := decide_eq_true c9
              try have c9b2 : (9223372036854775807 < x5_1.size + 1) = False := eq_false (Nat.not_lt.2 c9)
              by_cases c10 : (x5_1 ++ (⟨#[32]⟩ : ByteArray)).size + 1 ≤ 9223372036854775807
              · rw [if_pos c10] at H
                have c10b0 := eq_true c10
                have c10b1 : decide ((x5_1 ++ (⟨#[32]⟩ : ByteArray)).size + 1 ≤ 9223372036854775807) = true := decide_eq_true c10
                try have c10b2 : (9223372036854775807 < (x5_1 ++ (⟨#[32]⟩ : ByteArray)).size + 1) = False := eq_false (Nat.not_lt.2 c10)
                have cz10 : x5_1.size + 1 + 1 ≤ 9223372036854775807 := by have h_ := c10; rw [ByteArray.size_append] at h_; exact h_
                have c10b3 : (9223372036854775807 < x5_1.size + 1 + 1) = False := eq_false (Nat.not_lt.2 cz10)
                have c10b4 : (9223372036854775807 < x5_1.size + (1 + 1)) = False := eq_false (Nat.not_lt.2 cz10)
                have c10b5 : (9223372036854775807 < x5_1.size + 2) = False := eq_false (Nat.not_lt.2 cz10)
                have H' := Aside0.mk H
                clear H
                have p166 : 0 ≤ (x6_1 : Int) := of_decide_eq_true (by first | (with_reducible assumption) | assumption)
                have q166 : x6_1 < (l1.length : Int) := of_decide_eq_true (by first | (with_reducible assumption) | assumption)
                obtain ⟨ad166, e166, hx166_0⟩ := Kd.at_int HR1.out x6_1 p166 q166
                cases e166
                replace p166 := eq_true p166
                replace q166 := eq_true q166
                go_wp2
                go_roundg k1
                case measure => have := HK1.out; omega
                case rel => exact ⟨((x5_1 ++ (⟨#[32]⟩ : ByteArray)) ++ (⟨#[45]⟩ : ByteArray)), (wrap64 (x6_1 + 1)), (by first | rfl | (simp; done) | (simp [*]; done)), (by first | rfl | (simp; done) | (simp [*]; done)), H', ⟨by have := HK1.out; omega⟩, by repeat (first | exact Drawn0.refl _ | apply Drawn0.step)⟩
              · rw [if_neg c10] at H
                exact absurd H (by simp)
            · rw [if_neg c9] at H
              exact absurd H (by simp)
        · rw [if_neg c4] at H
          exact absurd H (by simp)
      · rw [if_neg c3] at H
        have c3b0 : decide (x6_1 < (l1.length : Int)) = false := decide_eq_false c3
        clear c3
        by_cases c11 : x5_1.size + 1 ≤ 9223372036854775807
        · rw [if_pos c11] at H
          have c11b0 := eq_true c11
          have c11b1 : decide (x5_1.size + 1 ≤ 9223372036854775807) = true := decide_eq_true c11
          try have c11b2 : (9223372036854775807 < x5_1.size + 1) = False := eq_false (Nat.not_lt.2 c11)
          obtain rfl := Option.some.inj H
          go_wp2
          go_ret
          exact ⟨by first | rfl | (simp; done) | (simp [*]; done), by repeat (first | exact Drawn0.refl _ | apply Drawn0.step)⟩
        · rw [if_neg c11] at H
          exact absurd H (by simp)

/-! ### coronerref31_Print: function 10 -/
mutual
def coronerref31_Print.l0 : Nat → ByteArray → Int → Int → List (S44) → List Int → Option (ByteArray × Int)
  | 0, _, _, _, _, _ => none
  | k + 1, x4, x5, x171000, x171001, x171002 => if x5 < (x171001.length : Int) then (if 0 ≤ x5 then ((coronerref31_finding.f ((rd_T44 x171001 x5).f0) ((rd_T44 x171001 x5).f1) ((rd_T44 x171001 x5).f2) ((rd_T44 x171001 x5).f3) ((rd_T44 x171001 x5).f4) ((rd_T44 x171001 x5).f5) ((rd_T44 x171001 x5).f6)).bind fun t178 => ((coronerref31_line.f k (⟨#[102]⟩ : ByteArray) t178).bind fun t181 => (if x4.size + t181.size ≤ 9223372036854775807 then (coronerref31_Print.l1 k (x4 ++ t181) x5 0 x171000 x171001 x171002) else (none)))) else (none)) else ((coronerref31_line.f k (⟨#[111]⟩ : ByteArray) x171002).bind fun t176 => (if x4.size + t176.size ≤ 9223372036854775807 then (some (x4 ++ t176, 0)) else (none)))
def coronerref31_Print.l1 : Nat → ByteArray → Int → Int → Int → List (S44) → List Int → Option (ByteArray × Int)
  | 0, _, _, _, _, _, _ => none
  | k + 1, x4, x5, x6, x171000, x171001, x171002 => if 0 ≤ x5 then (if x5 < (x171001.length : Int) then (if x6 < (((rd_T44 x171001 x5).f6).length : Int) then (if 0 ≤ x6 then ((coronerref31_edge.f ((rd_T49 ((rd_T44 x171001 x5).f6) x6).f0) ((rd_T49 ((rd_T44 x171001 x5).f6) x6).f1) ((rd_T49 ((rd_T44 x171001 x5).f6) x6).f2) ((rd_T49 ((rd_T44 x171001 x5).f6) x6).f3) ((rd_T49 ((rd_T44 x171001 x5).f6) x6).f4) ((rd_T49 ((rd_T44 x171001 x5).f6) x6).f5)).bind fun t185 => ((coronerref31_line.f k (⟨#[101]⟩ : ByteArray) t185).bind fun t188 => (if x4.size + t188.size ≤ 9223372036854775807 then (coronerref31_Print.l1 k (x4 ++ t188) x5 (wrap64 (x6 + 1)) x171000 x171001 x171002) else (none)))) else (none)) else (coronerref31_Print.l0 k x4 (wrap64 (x5 + 1)) x171000 x171001 x171002)) else (none)) else (none)
end
def coronerref31_Print.f (k : Nat) (a0_0 : Int) (l0_1 : List (S44)) (l0_2 : List Int) : Option (ByteArray × Int) := (coronerref31_Check.f k a0_0 l0_1 l0_2).bind fun t171 => (if t171 = 0 then ((coronerref31_line.f k (⟨#[108]⟩ : ByteArray) (([a0_0] : List Int))).bind fun t175 => (coronerref31_Print.l0 k t175 0 a0_0 l0_1 l0_2)) else (some ((⟨#[]⟩ : ByteArray), 2)))
theorem coronerref31_Print.mono_l : ∀ k, (∀ y0 y1 y2 y3 y4, LeO (coronerref31_Print.l0 k y0 y1 y2 y3 y4) (coronerref31_Print.l0 (k + 1) y0 y1 y2 y3 y4)) ∧ (∀ y0 y1 y2 y3 y4 y5, LeO (coronerref31_Print.l1 k y0 y1 y2 y3 y4 y5) (coronerref31_Print.l1 (k + 1) y0 y1 y2 y3 y4 y5))
  | 0 => ⟨fun _ _ _ _ _ r h => by simp [coronerref31_Print.l0] at h, fun _ _ _ _ _ _ r h => by simp [coronerref31_Print.l1] at h⟩
  | k + 1 => by
    obtain ⟨ih0, ih1⟩ := coronerref31_Print.mono_l k
    refine ⟨?_, ?_⟩
    · intro y0 y1 y2 y3 y4
      unfold coronerref31_Print.l0
      repeat' first
      | (with_reducible exact ih0 _ _ _ _ _)
      | (with_reducible exact ih1 _ _ _ _ _ _)
      | (with_reducible exact coronerref31_Check.mono _ _ _ _)
      | (with_reducible exact coronerref31_line.mono _ _ _)
      | (with_reducible exact LeO.refl _)
      | (with_reducible exact LeO.none _)
      | (with_reducible refine LeO.ite ?_ ?_)
      | (with_reducible refine LeO.bind ?_ (fun _ => ?_))
      | exact ih0 _ _ _ _ _
      | exact ih1 _ _ _ _ _ _
      | exact coronerref31_Check.mono _ _ _ _
      | exact coronerref31_line.mono _ _ _
      | exact LeO.none _
      | refine LeO.ite ?_ ?_
      | refine LeO.bind ?_ (fun _ => ?_)
    · intro y0 y1 y2 y3 y4 y5
      unfold coronerref31_Print.l1
      repeat' first
      | (with_reducible exact ih0 _ _ _ _ _)
      | (with_reducible exact ih1 _ _ _ _ _ _)
      | (with_reducible exact coronerref31_Check.mono _ _ _ _)
      | (with_reducible exact coronerref31_line.mono _ _ _)
      | (with_reducible exact LeO.refl _)
      | (with_reducible exact LeO.none _)
      | (with_reducible refine LeO.ite ?_ ?_)
      | (with_reducible refine LeO.bind ?_ (fun _ => ?_))
      | exact ih0 _ _ _ _ _
      | exact ih1 _ _ _ _ _ _
      | exact coronerref31_Check.mono _ _ _ _
      | exact coronerref31_line.mono _ _ _
      | exact LeO.none _
      | refine LeO.ite ?_ ?_
      | refine LeO.bind ?_ (fun _ => ?_)
theorem coronerref31_Print.mono : ∀ a0 a1 a2 k, LeO (coronerref31_Print.f k a0 a1 a2) (coronerref31_Print.f (k + 1) a0 a1 a2) := by
  intro a0 a1 a2 k
  obtain ⟨ih0, ih1⟩ := coronerref31_Print.mono_l k
  unfold coronerref31_Print.f
  repeat' first
      | (with_reducible exact ih0 _ _ _ _ _)
      | (with_reducible exact ih1 _ _ _ _ _ _)
      | (with_reducible exact coronerref31_Check.mono _ _ _ _)
      | (with_reducible exact coronerref31_line.mono _ _ _)
      | (with_reducible exact LeO.refl _)
      | (with_reducible exact LeO.none _)
      | (with_reducible refine LeO.ite ?_ ?_)
      | (with_reducible refine LeO.bind ?_ (fun _ => ?_))
      | exact ih0 _ _ _ _ _
      | exact ih1 _ _ _ _ _ _
      | exact coronerref31_Check.mono _ _ _ _
      | exact coronerref31_line.mono _ _ _
      | exact LeO.none _
      | refine LeO.ite ?_ ?_
      | refine LeO.bind ?_ (fun _ => ?_)
set_option maxHeartbeats 8000000 in
set_option maxRecDepth 100000 in
theorem coronerref31_Print.calls (k : Nat) (a0_0 : Int) (A0_1 : Option Addr) (c0_1 : Nat) (l0_1 : List (S44)) (A0_2 : Option Addr) (c0_2 : Nat) (l0_2 : List Int) (r1 : ByteArray) (r2 : Int) (w : World) (hr0_1 : Kd.C k44 w A0_1 l0_1.length l0_1) (hc0_1 : l0_1.length ≤ c0_1) (hr0_2 : Kd.C (Kd.int .i64) w A0_2 l0_2.length l0_2) (hc0_2 : l0_2.length ≤ c0_2) (h : coronerref31_Print.f k a0_0 l0_1 l0_2 = some (r1, r2)) :
    Calls Try.prog 10 #[.agg #[.int .i64 a0_0, .slice A0_1 l0_1.length c0_1, .slice A0_2 l0_2.length c0_2]] w fun e w' => e = .returned (.tuple #[.string r1, .int .i64 r2]) ∧ Below w.heap.size w w' := by
  have hu25 := Try.underlying25
  have hu44 := Try.underlying44
  have hu49 := Try.underlying49
  have HR0_1 := Aside0.mk hr0_1
  have HC0_1 := Aside0.mk hc0_1
  clear hr0_1 hc0_1
  have HR0_2 := Aside0.mk hr0_2
  have HC0_2 := Aside0.mk hc0_2
  clear hr0_2 hc0_2
  have HB := Aside0.mk (Below.refl w.heap.size w)
  have H : ((coronerref31_Check.f k a0_0 l0_1 l0_2).bind fun t171 => (if t171 = 0 then ((coronerref31_line.f k (⟨#[108]⟩ : ByteArray) (([a0_0] : List Int))).bind fun t175 => (coronerref31_Print.l0 k t175 0 a0_0 l0_1 l0_2)) else (some ((⟨#[]⟩ : ByteArray), 2)))) = some (r1, r2) := h
  clear h
  replace H := Option.bind_eq_some_iff.mp H
  obtain ⟨t171, A20, H⟩ := H
  replace H : (if t171 = 0 then ((coronerref31_line.f k (⟨#[108]⟩ : ByteArray) (([a0_0] : List Int))).bind fun t175 => (coronerref31_Print.l0 k t175 0 a0_0 l0_1 l0_2)) else (some ((⟨#[]⟩ : ByteArray), 2))) = some (r1, r2) := H
  have A2 := Aside0.mk A20
  clear A20
  by_cases c3 : t171 = 0
  · rw [if_pos c3] at H
    have c3b0 : (t171 == 0) = true := beq_iff_eq.mpr c3
    have c3b1 : (t171 != 0) = false := bne_eq_false_iff_eq.mpr c3
    clear c3
    obtain ⟨y172, hy172⟩ : ∃ y_ : List Int, y_ = (([a0_0] : List Int)) := ⟨_, rfl⟩
    replace H : ((coronerref31_line.f k (⟨#[108]⟩ : ByteArray) y172).bind fun t175 => (coronerref31_Print.l0 k t175 0 a0_0 l0_1 l0_2)) = some (r1, r2) := by first | (rw [hy172]; with_reducible exact H) | (have H2_ := (Option.bind_some _ _).symm.trans H; rw [hy172]; with_reducible exact H2_) | (have H2_ := (Option.bind_some _ _).symm.trans H; with_reducible exact H2_) | with_reducible exact H | (rw [hy172]; exact H) | exact H
    have Ny172 := Aside0.mk hy172
    clear hy172
    replace H := Option.bind_eq_some_iff.mp H
    obtain ⟨t175, A40, H⟩ := H
    replace H : (coronerref31_Print.l0 k t175 0 a0_0 l0_1 l0_2) = some (r1, r2) := H
    have A4 := Aside0.mk A40
    clear A40
    have H' := Aside0.mk H
    clear H
    go_enter Try.func10, Try.ntmps10
    go_wp2_with (first | ((with_reducible refine gate_dst (N := 1) rfl ?_); refine box_event ?hg (N := 1) ?hd (cs := #[.int .i64 a0_0, .slice A0_1 l0_1.length c0_1, .slice A0_2 l0_2.length c0_2]) (t := 25) ?hr ?_; (case hd => rfl); (case hg => rfl); (case hr => first | (go_simp; done) | (go_simp; rfl)); intro gb170 hg w5 hbox hb; have n0_ := Aside0.mk (below_step (by repeat (first | (with_reducible first | exact HB.out | apply below_alloc | apply pw_below_drewN | apply below_drew1) | exact HB.out)) hb); have n1_ := Aside0.mk (hbox); have n2_ := Aside0.mk ((by rw [hg]; exact (below_size (by repeat (first | (with_reducible first | exact HB.out | apply below_alloc | apply pw_below_drewN | apply below_drew1) | exact HB.out))) : w.heap.size ≤ gb170)); have n3_ := Aside0.mk ((by rw [hg]; exact (below_size (by repeat (first | (with_reducible first | exact HB.out | apply below_alloc | apply pw_below_drewN | apply below_drew1) | exact HB.out))) : w.heap.size ≤ gb170)); clear HB; have HB := n0_; have BK170 := n1_; have GW170 := n2_; have GE170 := n3_; clear n0_ n1_ n2_ n3_; clear hb hbox hg; have hcz6_0 : w5.cell? ⟨gb170, 0, none⟩ = some (.int .i64 a0_0) := (blk_cell BK170.out 0).trans rfl; have hcz6_1 : w5.cell? ⟨gb170, 1, none⟩ = some (.slice A0_1 l0_1.length c0_1) := (blk_cell BK170.out 1).trans rfl; have hcz6_2 : w5.cell? ⟨gb170, 2, none⟩ = some (.slice A0_2 l0_2.length c0_2) := (blk_cell BK170.out 2).trans rfl; have hfz6_0 := blk_frozen BK170.out 0; have hfz6_1 := blk_frozen BK170.out 1; have hfz6_2 := blk_frozen BK170.out 2) | ((with_reducible refine gate_callee (f := 15) rfl ?_); refine goesL_ (some 8) rfl rfl Try.func15 (by kernel_rfl) rfl #[.agg #[.int .i64 a0_0, .slice A0_1 l0_1.length c0_1, .slice A0_2 l0_2.length c0_2]] rfl (by (try simp only [List.map_toArray, List.map_cons, List.map_nil]); first | done | rfl | (simp only [List.length_drop, List.length_take]; rfl)) ?_; (with_reducible refine (coronerref31_Check.calls k a0_0 _ _ l0_1 _ _ l0_2 t171 _ ?side1 ?side2 ?side3 ?side4 A2.out).mono ?_); (case side1 => repeat (first | exact (Kd.C_below HR0_1.out HB.out) | (with_reducible refine Kd.C_alloc ?_ _) | (with_reducible refine Kd.C_drewN ?_ _) | (with_reducible refine Kd.C_drew ?_))); (case side2 => exact HC0_1.out); (case side3 => repeat (first | exact (Kd.C_below HR0_2.out HB.out) | (with_reducible refine Kd.C_alloc ?_ _) | (with_reducible refine Kd.C_drewN ?_ _) | (with_reducible refine Kd.C_drew ?_))); (case side4 => exact HC0_2.out); rintro e w7 ⟨rfl, hb⟩; refine ⟨_, rfl, ?_⟩; have n0_ := Aside0.mk (blk_below (g := gb170) (o := .cells #[.int .i64 a0_0, .slice A0_1 l0_1.length c0_1, .slice A0_2 l0_2.length c0_2] 25 (0, 0)) (by (with_reducible repeat (first | refine blk_drewN ?_ _ | refine blk_drew ?_ | refine blk_alloc ?_ _)); exact BK170.out) hb); have n1_ := Aside0.mk (below_step (by repeat (first | (with_reducible first | exact HB.out | apply below_alloc | apply pw_below_drewN | apply below_drew1 | refine below_set ?_ GE170.out) | exact HB.out)) hb); clear BK170; clear HB; have BK170 := n0_; have HB := n1_; clear n0_ n1_; (try clear hb); (try clear hb2); (try clear hk); (try clear hi); have hcz8_0 : w7.cell? ⟨gb170, 0, none⟩ = some (.int .i64 a0_0) := (blk_cell BK170.out 0).trans rfl; have hcz8_1 : w7.cell? ⟨gb170, 1, none⟩ = some (.slice A0_1 l0_1.length c0_1) := (blk_cell BK170.out 1).trans rfl; have hcz8_2 : w7.cell? ⟨gb170, 2, none⟩ = some (.slice A0_2 l0_2.length c0_2) := (blk_cell BK170.out 2).trans rfl; have hfz8_0 := blk_frozen BK170.out 0; have hfz8_1 := blk_frozen BK170.out 1; have hfz8_2 := blk_frozen BK170.out 2) | ((with_reducible refine gate_dst (N := 12) rfl ?_); refine Kd.R_lit (Kd.int .i64) _ 3 ?hg (N := 12) ?hd (xs := ([a0_0] : List Int)) (inner := [.int .i64 a0_0]) (ok := fun _ => True) (okp := fun _ => True) ?hr ?hp (fun _ hk => hk) trivial (Below.refl _ _) (Nat.le_refl _) (by simp) ?_; (case hd => rfl); (case hg => rfl); (case hr => first | (go_simp; done) | (go_simp; rfl)); (case hp => exact (Reps.one (show Kd.M (Kd.int .i64) _ _ _ a0_0 [.int .i64 a0_0] from rfl) (Reps.none _ _))); intro v173 w9 ho10 hb hg_ hnew_; clear hg_ hnew_; (first | rw [← Ny172.out] at ho10 | (simp only [Int.reduceToNat] at ho10; rw [← Ny172.out] at ho10)); have n0_ := Aside0.mk (Kd.R_lower ho10 (below_size (by repeat (first | (with_reducible first | exact HB.out | apply below_alloc | apply pw_below_drewN | apply below_drew1 | refine below_set ?_ GE170.out) | exact HB.out)))); have n1_ := Aside0.mk (blk_below (g := gb170) (o := .cells #[.int .i64 a0_0, .slice A0_1 l0_1.length c0_1, .slice A0_2 l0_2.length c0_2] 25 (0, 0)) (by (with_reducible repeat (first | refine blk_drewN ?_ _ | refine blk_drew ?_ | refine blk_alloc ?_ _)); exact BK170.out) hb); have n2_ := Aside0.mk (below_step (by repeat (first | (with_reducible first | exact HB.out | apply below_alloc | apply pw_below_drewN | apply below_drew1 | refine below_set ?_ GE170.out) | exact HB.out)) hb); clear BK170; clear HB; have HO174 := n0_; have BK170 := n1_; have HB := n2_; clear n0_ n1_ n2_; clear hb ho10; obtain ⟨Ao11, co11, eo11⟩ := Kd.R_slice HO174.out; subst eo11) | ((with_reducible refine gate_callee (f := 20) rfl ?_); refine goesL_ (some 13) rfl rfl Try.func20 (by kernel_rfl) rfl #[.string (⟨#[108]⟩ : ByteArray), .slice Ao11 y172.length co11] rfl (by (try simp only [List.map_toArray, List.map_cons, List.map_nil]); first | done | rfl | (simp only [List.length_drop, List.length_take]; rfl)) ?_; (with_reducible refine (coronerref31_line.calls k (⟨#[108]⟩ : ByteArray) _ _ y172 t175 _ ?side1 ?side2 A4.out).mono ?_); (case side1 => repeat (first | exact (Kd.R_reads' HO174.out).2.2 | (with_reducible refine Kd.C_alloc ?_ _) | (with_reducible refine Kd.C_drewN ?_ _) | (with_reducible refine Kd.C_drew ?_))); (case side2 => exact (Kd.R_reads' HO174.out).2.1); rintro e w' ⟨rfl, ⟨nd, rfl⟩⟩; refine ⟨_, rfl, ?_⟩))
    go_loopg [4, 5] k (fun kq v4 v5 w' => ∃ (x4_1 : ByteArray) (x5_1 : Int), v4 = .string x4_1 ∧ v5 = .int .i64 x5_1 ∧ Aside0 (coronerref31_Print.l0 kq x4_1 x5_1 a0_0 l0_1 l0_2 = some (r1, r2)) ∧ Aside0 (kq ≤ k) ∧ Aside0 (w'.heap[gb170]? = some (.cells #[.int .i64 a0_0, (.slice A0_1 l0_1.length c0_1), (.slice A0_2 l0_2.length c0_2)] 25 (0, 0))) ∧ Aside0 (Below w.heap.size w w'))
    case atStart => exact ⟨(t175), (0), (by first | rfl | (simp; done) | (simp [*]; done)), (by first | rfl | (simp; done) | (simp [*]; done)), H', ⟨Nat.le_refl _⟩, ⟨by (with_reducible repeat (first | refine blk_drewN ?_ _ | refine blk_drew ?_ | refine blk_alloc ?_ _)); exact BK170.out⟩, ⟨by repeat (first | (with_reducible first | exact HB.out | apply below_alloc | apply pw_below_drewN | apply below_drew1 | refine below_set ?_ GE170.out) | exact HB.out)⟩⟩
    case round =>
      clear H'
      try clear c1
      try clear c2
      try clear p2
      try clear c3
      try clear c3b0
      try clear c3b1
      try clear c10
      try clear hcz6_0
      try clear hcz6_1
      try clear hcz6_2
      try clear hcz8_0
      try clear hcz8_1
      try clear hcz8_2
      try clear hfz6_0
      try clear hfz6_1
      try clear hfz6_2
      try clear hfz8_0
      try clear hfz8_1
      try clear hfz8_2
      obtain ⟨x4_1, x5_1, rfl, rfl, HA, HK1, BK170, HB⟩ := hrel
      cases gk with
      | zero => exact absurd HA.out (by simp [coronerref31_Print.l0])
      | succ k1 =>
        have H := HA.out
        clear HA
        simp only [coronerref31_Print.l0] at H
        by_cases c12 : x5_1 < (l0_1.length : Int)
        · rw [if_pos c12] at H
          have c12b0 : decide (x5_1 < (l0_1.length : Int)) = true := decide_eq_true c12
          clear c12
          by_cases c13 : 0 ≤ x5_1
          · rw [if_pos c13] at H
            have c13b0 : decide (0 ≤ x5_1) = true := decide_eq_true c13
            clear c13
            replace H := Option.bind_eq_some_iff.mp H
            obtain ⟨t178, A140, H⟩ := H
            replace H : ((coronerref31_line.f k1 (⟨#[102]⟩ : ByteArray) t178).bind fun t181 => (if x4_1.size + t181.size ≤ 9223372036854775807 then (coronerref31_Print.l1 k1 (x4_1 ++ t181) x5_1 0 a0_0 l0_1 l0_2) else (none))) = some (r1, r2) := H
            have A14 := Aside0.mk A140
            clear A140
            replace H := Option.bind_eq_some_iff.mp H
            obtain ⟨t181, A150, H⟩ := H
            replace H : (if x4_1.size + t181.size ≤ 9223372036854775807 then (coronerref31_Print.l1 k1 (x4_1 ++ t181) x5_1 0 a0_0 l0_1 l0_2) else (none)) = some (r1, r2) := H
            have A15 := Aside0.mk A150
            clear A150
            by_cases c16 : x4_1.size + t181.size ≤ 9223372036854775807
            · rw [if_pos c16] at H
              have c16b0 := eq_true c16
              have c16b1 : decide (x4_1.size + t181.size ≤ 9223372036854775807) = true := decide_eq_true c16
              try have c16b2 : (9223372036854775807 < x4_1.size + t181.size) = False := eq_false (Nat.not_lt.2 c16)
              have H' := Aside0.mk H
              clear H
              have hcz17_0 : wr.cell? ⟨gb170, 0, none⟩ = some (.int .i64 a0_0) := (blk_cell BK170.out 0).trans rfl
              have hcz17_1 : wr.cell? ⟨gb170, 1, none⟩ = some (.slice A0_1 l0_1.length c0_1) := (blk_cell BK170.out 1).trans rfl
              have hcz17_2 : wr.cell? ⟨gb170, 2, none⟩ = some (.slice A0_2 l0_2.length c0_2) := (blk_cell BK170.out 2).trans rfl
              have hfz17_0 := blk_frozen BK170.out 0
              have hfz17_1 := blk_frozen BK170.out 1
              have hfz17_2 := blk_frozen BK170.out 2
              have p177 : 0 ≤ (x5_1 : Int) := of_decide_eq_true (by first | (with_reducible assumption) | assumption)
              have q177 : x5_1 < (l0_1.length : Int) := of_decide_eq_true (by first | (with_reducible assumption) | assumption)
              obtain ⟨ad177, A177_6, c177_6, e177, hx177_0, hx177_1, hx177_2, hx177_3, hx177_4, hx177_5, hx177_6, hl177_6, hi177_6⟩ := at_T44 HR0_1.out x5_1 p177 q177
              cases e177
              replace hx177_0 := (HB.out.cell (World.block_lt_of_cell? w _ hx177_0)).trans hx177_0
              replace hx177_1 := (HB.out.cell (World.block_lt_of_cell? w _ hx177_1)).trans hx177_1
              replace hx177_2 := (HB.out.cell (World.block_lt_of_cell? w _ hx177_2)).trans hx177_2
              replace hx177_3 := (HB.out.cell (World.block_lt_of_cell? w _ hx177_3)).trans hx177_3
              replace hx177_4 := (HB.out.cell (World.block_lt_of_cell? w _ hx177_4)).trans hx177_4
              replace hx177_5 := (HB.out.cell (World.block_lt_of_cell? w _ hx177_5)).trans hx177_5
              replace hx177_6 := (HB.out.cell (World.block_lt_of_cell? w _ hx177_6)).trans hx177_6
              have HR177_6 := Aside0.mk hi177_6
              have HC177_6 := Aside0.mk hl177_6
              clear hi177_6 hl177_6
              replace p177 := eq_true p177
              replace q177 := eq_true q177
              go_wp2_with (first | ((with_reducible refine gate_callee (f := 21) rfl ?_); refine goesL_ (some 27) rfl rfl Try.func21 (by kernel_rfl) rfl #[.agg #[.int .i64 ((rd_T44 l0_1 x5_1).f0), .int .i64 ((rd_T44 l0_1 x5_1).f1), .int .i64 ((rd_T44 l0_1 x5_1).f2), .int .i64 ((rd_T44 l0_1 x5_1).f3), .int .i64 ((rd_T44 l0_1 x5_1).f4), .int .i64 ((rd_T44 l0_1 x5_1).f5), .slice A177_6 ((rd_T44 l0_1 x5_1).f6).length c177_6]] rfl (by (try simp only [List.map_toArray, List.map_cons, List.map_nil]); first | done | rfl | (simp only [List.length_drop, List.length_take]; rfl)) ?_; (with_reducible refine (coronerref31_finding.calls ((rd_T44 l0_1 x5_1).f0) ((rd_T44 l0_1 x5_1).f1) ((rd_T44 l0_1 x5_1).f2) ((rd_T44 l0_1 x5_1).f3) ((rd_T44 l0_1 x5_1).f4) ((rd_T44 l0_1 x5_1).f5) _ _ ((rd_T44 l0_1 x5_1).f6) t178 _ ?side1 ?side2 A14.out).mono ?_); (case side1 => repeat (first | exact (Kd.C_below HR177_6.out HB.out) | (with_reducible refine Kd.C_alloc ?_ _) | (with_reducible refine Kd.C_drewN ?_ _) | (with_reducible refine Kd.C_drew ?_))); (case side2 => exact HC177_6.out); rintro e w18 ⟨v179, rfl, ho0, hb⟩; refine ⟨_, rfl, ?_⟩; have n0_ := Aside0.mk (Kd.R_lower ho0 (below_size (by repeat (first | (with_reducible first | exact HB.out | apply below_alloc | apply pw_below_drewN | apply below_drew1 | refine below_set ?_ GE170.out) | exact HB.out)))); have n1_ := Aside0.mk (blk_below (g := gb170) (o := .cells #[.int .i64 a0_0, .slice (some ad177) l0_1.length c0_1, .slice A0_2 l0_2.length c0_2] 25 (0, 0)) (by (with_reducible repeat (first | refine blk_drewN ?_ _ | refine blk_drew ?_ | refine blk_alloc ?_ _)); exact BK170.out) hb); have n2_ := Aside0.mk (below_step (by repeat (first | (with_reducible first | exact HB.out | apply below_alloc | apply pw_below_drewN | apply below_drew1 | refine below_set ?_ GE170.out) | exact HB.out)) hb); clear BK170; clear HB; have HO180 := n0_; have BK170 := n1_; have HB := n2_; clear n0_ n1_ n2_; (try clear hb); (try clear hb2); (try clear hk); (try clear hi); (try clear ho0); obtain ⟨Ao19, co19, eo19⟩ := Kd.R_slice HO180.out; subst eo19) | ((with_reducible refine gate_callee (f := 20) rfl ?_); refine goesL_ (some 28) rfl rfl Try.func20 (by kernel_rfl) rfl #[.string (⟨#[102]⟩ : ByteArray), .slice Ao19 t178.length co19] rfl (by (try simp only [List.map_toArray, List.map_cons, List.map_nil]); first | done | rfl | (simp only [List.length_drop, List.length_take]; rfl)) ?_; (with_reducible refine (coronerref31_line.calls k1 (⟨#[102]⟩ : ByteArray) _ _ t178 t181 _ ?side1 ?side2 A15.out).mono ?_); (case side1 => repeat (first | exact (Kd.R_reads' HO180.out).2.2 | (with_reducible refine Kd.C_alloc ?_ _) | (with_reducible refine Kd.C_drewN ?_ _) | (with_reducible refine Kd.C_drew ?_))); (case side2 => exact (Kd.R_reads' HO180.out).2.1); rintro e w' ⟨rfl, ⟨nd, rfl⟩⟩; refine ⟨_, rfl, ?_⟩))
              go_loopg [4, 6] k1 (fun kq v4 v6 w' => ∃ (x4_2 : ByteArray) (x6_2 : Int), v4 = .string x4_2 ∧ v6 = .int .i64 x6_2 ∧ Aside0 (coronerref31_Print.l1 kq x4_2 x5_1 x6_2 a0_0 l0_1 l0_2 = some (r1, r2)) ∧ Aside0 (kq ≤ k1) ∧ Aside0 (w'.heap[gb170]? = some (.cells #[.int .i64 a0_0, (.slice (some ad177) l0_1.length c0_1), (.slice A0_2 l0_2.length c0_2)] 25 (0, 0))) ∧ Aside0 (Below w.heap.size w w'))
              case atStart => exact ⟨(x4_1 ++ t181), (0), (by first | rfl | (simp; done) | (simp [*]; done)), (by first | rfl | (simp; done) | (simp [*]; done)), H', ⟨Nat.le_refl _⟩, ⟨by (with_reducible repeat (first | refine blk_drewN ?_ _ | refine blk_drew ?_ | refine blk_alloc ?_ _)); exact BK170.out⟩, ⟨by repeat (first | (with_reducible first | exact HB.out | apply below_alloc | apply pw_below_drewN | apply below_drew1 | refine below_set ?_ GE170.out) | exact HB.out)⟩⟩
              case round =>
                clear H'
                try clear c1
                try clear p1
                try clear q1
                try clear hx1
                try clear c2
                try clear p2
                try clear c3
                try clear c3b0
                try clear c3b1
                try clear c10
                try clear c12
                try clear c12b0
                try clear c13
                try clear c13b0
                try clear c15
                try clear c16
                try clear c16b0
                try clear c16b1
                try clear c16b2
                try clear c17
                try clear p17
                try clear q17
                try clear hx17
                try clear hcz17_0
                try clear hcz17_1
                try clear hcz17_2
                try clear hcz6_0
                try clear hcz6_1
                try clear hcz6_2
                try clear hcz8_0
                try clear hcz8_1
                try clear hcz8_2
                try clear hfz17_0
                try clear hfz17_1
                try clear hfz17_2
                try clear hfz6_0
                try clear hfz6_1
                try clear hfz6_2
                try clear hfz8_0
                try clear hfz8_1
                try clear hfz8_2
                try clear hx177_0
                try clear hx177_1
                try clear hx177_2
                try clear hx177_3
                try clear hx177_4
                try clear hx177_5
                try clear hx177_6
                try clear p177
                try clear p2
                try clear q177
                obtain ⟨x4_2, x6_2, rfl, rfl, HA, HK2, BK170, HB⟩ := hrel
                cases gk with
                | zero => exact absurd HA.out (by simp [coronerref31_Print.l1])
                | succ k2 =>
                  have H := HA.out
                  clear HA
                  simp only [coronerref31_Print.l1] at H
                  by_cases c20 : 0 ≤ x5_1
                  · rw [if_pos c20] at H
                    have c20b0 : decide (0 ≤ x5_1) = true := decide_eq_true c20
                    clear c20
                    by_cases c21 : x5_1 < (l0_1.length : Int)
                    · rw [if_pos c21] at H
                      have c21b0 : decide (x5_1 < (l0_1.length : Int)) = true := decide_eq_true c21
                      clear c21
                      by_cases c22 : x6_2 < (((rd_T44 l0_1 x5_1).f6).length : Int)
                      · rw [if_pos c22] at H
                        have c22b0 : decide (x6_2 < (((rd_T44 l0_1 x5_1).f6).length : Int)) = true := decide_eq_true c22
                        clear c22
                        by_cases c23 : 0 ≤ x6_2
                        · rw [if_pos c23] at H
                          have c23b0 : decide (0 ≤ x6_2) = true := decide_eq_true c23
                          clear c23
                          replace H := Option.bind_eq_some_iff.mp H
                          obtain ⟨t185, A240, H⟩ := H
                          replace H : ((coronerref31_line.f k2 (⟨#[101]⟩ : ByteArray) t185).bind fun t188 => (if x4_2.size + t188.size ≤ 9223372036854775807 then (coronerref31_Print.l1 k2 (x4_2 ++ t188) x5_1 (wrap64 (x6_2 + 1)) a0_0 l0_1 l0_2) else (none))) = some (r1, r2) := H
                          have A24 := Aside0.mk A240
                          clear A240
                          replace H := Option.bind_eq_some_iff.mp H
                          obtain ⟨t188, A250, H⟩ := H
                          replace H : (if x4_2.size + t188.size ≤ 9223372036854775807 then (coronerref31_Print.l1 k2 (x4_2 ++ t188) x5_1 (wrap64 (x6_2 + 1)) a0_0 l0_1 l0_2) else (none)) = some (r1, r2) := H
                          have A25 := Aside0.mk A250
                          clear A250
                          by_cases c26 : x4_2.size + t188.size ≤ 9223372036854775807
                          · rw [if_pos c26] at H
                            have c26b0 := eq_true c26
                            have c26b1 : decide (x4_2.size + t188.size ≤ 9223372036854775807) = true := decide_eq_true c26
                            try have c26b2 : (9223372036854775807 < x4_2.size + t188.size) = False := eq_false (Nat.not_lt.2 c26)
                            have H' := Aside0.mk H
                            clear H
                            have hcz27_0 : wr.cell? ⟨gb170, 0, none⟩ = some (.int .i64 a0_0) := (blk_cell BK170.out 0).trans rfl
                            have hcz27_1 : wr.cell? ⟨gb170, 1, none⟩ = some (.slice (some ad177) l0_1.length c0_1) := (blk_cell BK170.out 1).trans rfl
                            have hcz27_2 : wr.cell? ⟨gb170, 2, none⟩ = some (.slice A0_2 l0_2.length c0_2) := (blk_cell BK170.out 2).trans rfl
                            have hfz27_0 := blk_frozen BK170.out 0
                            have hfz27_1 := blk_frozen BK170.out 1
                            have hfz27_2 := blk_frozen BK170.out 2
                            have p182 : 0 ≤ (x5_1 : Int) := of_decide_eq_true (by first | (with_reducible assumption) | assumption)
                            have q182 : x5_1 < (l0_1.length : Int) := of_decide_eq_true (by first | (with_reducible assumption) | assumption)
                            obtain ⟨ad182, A182_6, c182_6, e182, hx182_0, hx182_1, hx182_2, hx182_3, hx182_4, hx182_5, hx182_6, hl182_6, hi182_6⟩ := at_T44 HR0_1.out x5_1 p182 q182
                            obtain rfl : ad177 = ad182 := (by injection e182)
                            replace hx182_0 := (HB.out.cell (World.block_lt_of_cell? w _ hx182_0)).trans hx182_0
                            replace hx182_1 := (HB.out.cell (World.block_lt_of_cell? w _ hx182_1)).trans hx182_1
                            replace hx182_2 := (HB.out.cell (World.block_lt_of_cell? w _ hx182_2)).trans hx182_2
                            replace hx182_3 := (HB.out.cell (World.block_lt_of_cell? w _ hx182_3)).trans hx182_3
                            replace hx182_4 := (HB.out.cell (World.block_lt_of_cell? w _ hx182_4)).trans hx182_4
                            replace hx182_5 := (HB.out.cell (World.block_lt_of_cell? w _ hx182_5)).trans hx182_5
                            replace hx182_6 := (HB.out.cell (World.block_lt_of_cell? w _ hx182_6)).trans hx182_6
                            have HR182_6 := Aside0.mk hi182_6
                            have HC182_6 := Aside0.mk hl182_6
                            clear hi182_6 hl182_6
                            replace p182 := eq_true p182
                            replace q182 := eq_true q182
                            have p183 : 0 ≤ (x5_1 : Int) := of_decide_eq_true (by first | (with_reducible assumption) | assumption)
                            have q183 : x5_1 < (l0_1.length : Int) := of_decide_eq_true (by first | (with_reducible assumption) | assumption)
                            obtain ⟨ad183, A183_6, c183_6, e183, hx183_0, hx183_1, hx183_2, hx183_3, hx183_4, hx183_5, hx183_6, hl183_6, hi183_6⟩ := at_T44 HR0_1.out x5_1 p183 q183
                            obtain rfl : ad177 = ad183 := (by injection e183)
                            replace hx183_0 := (HB.out.cell (World.block_lt_of_cell? w _ hx183_0)).trans hx183_0
                            replace hx183_1 := (HB.out.cell (World.block_lt_of_cell? w _ hx183_1)).trans hx183_1
                            replace hx183_2 := (HB.out.cell (World.block_lt_of_cell? w _ hx183_2)).trans hx183_2
                            replace hx183_3 := (HB.out.cell (World.block_lt_of_cell? w _ hx183_3)).trans hx183_3
                            replace hx183_4 := (HB.out.cell (World.block_lt_of_cell? w _ hx183_4)).trans hx183_4
                            replace hx183_5 := (HB.out.cell (World.block_lt_of_cell? w _ hx183_5)).trans hx183_5
                            replace hx183_6 := (HB.out.cell (World.block_lt_of_cell? w _ hx183_6)).trans hx183_6
                            have HR183_6 := Aside0.mk hi183_6
                            have HC183_6 := Aside0.mk hl183_6
                            clear hi183_6 hl183_6
                            replace p183 := eq_true p183
                            replace q183 := eq_true q183
                            have ea_ := Option.some.inj (hx182_6.symm.trans hx183_6)
                            injection ea_ with ea_ en_ ec_
                            subst ea_
                            subst ec_
                            clear en_
                            have p184 : 0 ≤ (x6_2 : Int) := of_decide_eq_true (by first | (with_reducible assumption) | assumption)
                            have q184 : x6_2 < (((rd_T44 l0_1 x5_1).f6).length : Int) := of_decide_eq_true (by first | (with_reducible assumption) | assumption)
                            obtain ⟨ad184, e184, hx184_0, hx184_1, hx184_2, hx184_3, hx184_4, hx184_5⟩ := at_T49 HR183_6.out x6_2 p184 q184
                            cases e184
                            replace hx184_0 := (HB.out.cell (World.block_lt_of_cell? w _ hx184_0)).trans hx184_0
                            replace hx184_1 := (HB.out.cell (World.block_lt_of_cell? w _ hx184_1)).trans hx184_1
                            replace hx184_2 := (HB.out.cell (World.block_lt_of_cell? w _ hx184_2)).trans hx184_2
                            replace hx184_3 := (HB.out.cell (World.block_lt_of_cell? w _ hx184_3)).trans hx184_3
                            replace hx184_4 := (HB.out.cell (World.block_lt_of_cell? w _ hx184_4)).trans hx184_4
                            replace hx184_5 := (HB.out.cell (World.block_lt_of_cell? w _ hx184_5)).trans hx184_5
                            replace p184 := eq_true p184
                            replace q184 := eq_true q184
                            go_wp2_with (first | ((with_reducible refine gate_callee (f := 22) rfl ?_); refine goesL_ (some 51) rfl rfl Try.func22 (by kernel_rfl) rfl #[.agg #[.int .i64 ((rd_T49 ((rd_T44 l0_1 x5_1).f6) x6_2).f0), .int .i64 ((rd_T49 ((rd_T44 l0_1 x5_1).f6) x6_2).f1), .int .i64 ((rd_T49 ((rd_T44 l0_1 x5_1).f6) x6_2).f2), .int .i64 ((rd_T49 ((rd_T44 l0_1 x5_1).f6) x6_2).f3), .int .i64 ((rd_T49 ((rd_T44 l0_1 x5_1).f6) x6_2).f4), .int .i64 ((rd_T49 ((rd_T44 l0_1 x5_1).f6) x6_2).f5)]] rfl (by (try simp only [List.map_toArray, List.map_cons, List.map_nil]); first | done | rfl | (simp only [List.length_drop, List.length_take]; rfl)) ?_; (with_reducible refine (coronerref31_edge.calls ((rd_T49 ((rd_T44 l0_1 x5_1).f6) x6_2).f0) ((rd_T49 ((rd_T44 l0_1 x5_1).f6) x6_2).f1) ((rd_T49 ((rd_T44 l0_1 x5_1).f6) x6_2).f2) ((rd_T49 ((rd_T44 l0_1 x5_1).f6) x6_2).f3) ((rd_T49 ((rd_T44 l0_1 x5_1).f6) x6_2).f4) ((rd_T49 ((rd_T44 l0_1 x5_1).f6) x6_2).f5) t185 _ A24.out).mono ?_); rintro e w28 ⟨v186, rfl, ho0, hb⟩; refine ⟨_, rfl, ?_⟩; have n0_ := Aside0.mk (Kd.R_lower ho0 (below_size (by repeat (first | (with_reducible first | exact HB.out | apply below_alloc | apply pw_below_drewN | apply below_drew1 | refine below_set ?_ GE170.out) | exact HB.out)))); have n1_ := Aside0.mk (blk_below (g := gb170) (o := .cells #[.int .i64 a0_0, .slice (some ad177) l0_1.length c0_1, .slice A0_2 l0_2.length c0_2] 25 (0, 0)) (by (with_reducible repeat (first | refine blk_drewN ?_ _ | refine blk_drew ?_ | refine blk_alloc ?_ _)); exact BK170.out) hb); have n2_ := Aside0.mk (below_step (by repeat (first | (with_reducible first | exact HB.out | apply below_alloc | apply pw_below_drewN | apply below_drew1 | refine below_set ?_ GE170.out) | exact HB.out)) hb); clear BK170; clear HB; have HO187 := n0_; have BK170 := n1_; have HB := n2_; clear n0_ n1_ n2_; (try clear hb); (try clear hb2); (try clear hk); (try clear hi); (try clear ho0); obtain ⟨Ao29, co29, eo29⟩ := Kd.R_slice HO187.out; subst eo29) | ((with_reducible refine gate_callee (f := 20) rfl ?_); refine goesL_ (some 52) rfl rfl Try.func20 (by kernel_rfl) rfl #[.string (⟨#[101]⟩ : ByteArray), .slice Ao29 t185.length co29] rfl (by (try simp only [List.map_toArray, List.map_cons, List.map_nil]); first | done | rfl | (simp only [List.length_drop, List.length_take]; rfl)) ?_; (with_reducible refine (coronerref31_line.calls k2 (⟨#[101]⟩ : ByteArray) _ _ t185 t188 _ ?side1 ?side2 A25.out).mono ?_); (case side1 => repeat (first | exact (Kd.R_reads' HO187.out).2.2 | (with_reducible refine Kd.C_alloc ?_ _) | (with_reducible refine Kd.C_drewN ?_ _) | (with_reducible refine Kd.C_drew ?_))); (case side2 => exact (Kd.R_reads' HO187.out).2.1); rintro e w' ⟨rfl, ⟨nd, rfl⟩⟩; refine ⟨_, rfl, ?_⟩))
                            go_roundg k2
                            case measure => have := HK1.out; have := HK2.out; omega
                            case rel => exact ⟨(x4_2 ++ t188), (wrap64 (x6_2 + 1)), (by first | rfl | (simp; done) | (simp [*]; done)), (by first | rfl | (simp; done) | (simp [*]; done)), H', ⟨by have := HK1.out; have := HK2.out; omega⟩, ⟨by (with_reducible repeat (first | refine blk_drewN ?_ _ | refine blk_drew ?_ | refine blk_alloc ?_ _)); exact BK170.out⟩, ⟨by repeat (first | (with_reducible first | exact HB.out | apply below_alloc | apply pw_below_drewN | apply below_drew1 | refine below_set ?_ GE170.out) | exact HB.out)⟩⟩
                          · rw [if_neg c26] at H
                            exact absurd H (by simp)
                        · rw [if_neg c23] at H
                          exact absurd H (by simp)
                      · rw [if_neg c22] at H
                        have c22b0 : decide (x6_2 < (((rd_T44 l0_1 x5_1).f6).length : Int)) = false := decide_eq_false c22
                        clear c22
                        have H' := Aside0.mk H
                        clear H
                        have hcz30_0 : wr.cell? ⟨gb170, 0, none⟩ = some (.int .i64 a0_0) := (blk_cell BK170.out 0).trans rfl
                        have hcz30_1 : wr.cell? ⟨gb170, 1, none⟩ = some (.slice (some ad177) l0_1.length c0_1) := (blk_cell BK170.out 1).trans rfl
                        have hcz30_2 : wr.cell? ⟨gb170, 2, none⟩ = some (.slice A0_2 l0_2.length c0_2) := (blk_cell BK170.out 2).trans rfl
                        have hfz30_0 := blk_frozen BK170.out 0
                        have hfz30_1 := blk_frozen BK170.out 1
                        have hfz30_2 := blk_frozen BK170.out 2
                        have p182 : 0 ≤ (x5_1 : Int) := of_decide_eq_true (by first | (with_reducible assumption) | assumption)
                        have q182 : x5_1 < (l0_1.length : Int) := of_decide_eq_true (by first | (with_reducible assumption) | assumption)
                        obtain ⟨ad182, A182_6, c182_6, e182, hx182_0, hx182_1, hx182_2, hx182_3, hx182_4, hx182_5, hx182_6, hl182_6, hi182_6⟩ := at_T44 HR0_1.out x5_1 p182 q182
                        obtain rfl : ad177 = ad182 := (by injection e182)
                        replace hx182_0 := (HB.out.cell (World.block_lt_of_cell? w _ hx182_0)).trans hx182_0
                        replace hx182_1 := (HB.out.cell (World.block_lt_of_cell? w _ hx182_1)).trans hx182_1
                        replace hx182_2 := (HB.out.cell (World.block_lt_of_cell? w _ hx182_2)).trans hx182_2
                        replace hx182_3 := (HB.out.cell (World.block_lt_of_cell? w _ hx182_3)).trans hx182_3
                        replace hx182_4 := (HB.out.cell (World.block_lt_of_cell? w _ hx182_4)).trans hx182_4
                        replace hx182_5 := (HB.out.cell (World.block_lt_of_cell? w _ hx182_5)).trans hx182_5
                        replace hx182_6 := (HB.out.cell (World.block_lt_of_cell? w _ hx182_6)).trans hx182_6
                        have HR182_6 := Aside0.mk hi182_6
                        have HC182_6 := Aside0.mk hl182_6
                        clear hi182_6 hl182_6
                        replace p182 := eq_true p182
                        replace q182 := eq_true q182
                        go_wp2
                        go_roundg k2
                        case measure => have := HK1.out; have := HK2.out; omega
                        case rel => exact ⟨(x4_2), (wrap64 (x5_1 + 1)), (by first | rfl | (simp; done) | (simp [*]; done)), (by first | rfl | (simp; done) | (simp [*]; done)), H', ⟨by have := HK1.out; have := HK2.out; omega⟩, ⟨by (with_reducible repeat (first | refine blk_drewN ?_ _ | refine blk_drew ?_ | refine blk_alloc ?_ _)); exact BK170.out⟩, ⟨by repeat (first | (with_reducible first | exact HB.out | apply below_alloc | apply pw_below_drewN | apply below_drew1 | refine below_set ?_ GE170.out) | exact HB.out)⟩⟩
                    · rw [if_neg c21] at H
                      exact absurd H (by simp)
                  · rw [if_neg c20] at H
                    exact absurd H (by simp)
            · rw [if_neg c16] at H
              exact absurd H (by simp)
          · rw [if_neg c13] at H
            exact absurd H (by simp)
        · rw [if_neg c12] at H
          have c12b0 : decide (x5_1 < (l0_1.length : Int)) = false := decide_eq_false c12
          clear c12
          replace H := Option.bind_eq_some_iff.mp H
          obtain ⟨t176, A310, H⟩ := H
          replace H : (if x4_1.size + t176.size ≤ 9223372036854775807 then (some (x4_1 ++ t176, 0)) else (none)) = some (r1, r2) := H
          have A31 := Aside0.mk A310
          clear A310
          by_cases c32 : x4_1.size + t176.size ≤ 9223372036854775807
          · rw [if_pos c32] at H
            have c32b0 := eq_true c32
            have c32b1 : decide (x4_1.size + t176.size ≤ 9223372036854775807) = true := decide_eq_true c32
            try have c32b2 : (9223372036854775807 < x4_1.size + t176.size) = False := eq_false (Nat.not_lt.2 c32)
            simp only [Option.some.injEq, Prod.mk.injEq] at H
            obtain ⟨rfl, rfl⟩ := H
            have hcz33_0 : wr.cell? ⟨gb170, 0, none⟩ = some (.int .i64 a0_0) := (blk_cell BK170.out 0).trans rfl
            have hcz33_1 : wr.cell? ⟨gb170, 1, none⟩ = some (.slice A0_1 l0_1.length c0_1) := (blk_cell BK170.out 1).trans rfl
            have hcz33_2 : wr.cell? ⟨gb170, 2, none⟩ = some (.slice A0_2 l0_2.length c0_2) := (blk_cell BK170.out 2).trans rfl
            have hfz33_0 := blk_frozen BK170.out 0
            have hfz33_1 := blk_frozen BK170.out 1
            have hfz33_2 := blk_frozen BK170.out 2
            go_wp2_with (first | ((with_reducible refine gate_callee (f := 20) rfl ?_); refine goesL_ (some 57) rfl rfl Try.func20 (by kernel_rfl) rfl #[.string (⟨#[111]⟩ : ByteArray), .slice A0_2 l0_2.length c0_2] rfl (by (try simp only [List.map_toArray, List.map_cons, List.map_nil]); first | done | rfl | (simp only [List.length_drop, List.length_take]; rfl)) ?_; (with_reducible refine (coronerref31_line.calls k1 (⟨#[111]⟩ : ByteArray) _ _ l0_2 t176 _ ?side1 ?side2 A31.out).mono ?_); (case side1 => repeat (first | exact (Kd.C_below HR0_2.out HB.out) | (with_reducible refine Kd.C_alloc ?_ _) | (with_reducible refine Kd.C_drewN ?_ _) | (with_reducible refine Kd.C_drew ?_))); (case side2 => exact HC0_2.out); rintro e w' ⟨rfl, ⟨nd, rfl⟩⟩; refine ⟨_, rfl, ?_⟩))
            go_ret2
            exact ⟨by first | rfl | (simp [errW_none, errW_some] <;> rfl) | (simp [*, errW_none, errW_some] <;> rfl), by repeat (first | (with_reducible first | exact HB.out | apply below_alloc | apply pw_below_drewN | apply below_drew1 | refine below_set ?_ GE170.out) | exact HB.out)⟩
          · rw [if_neg c32] at H
            exact absurd H (by simp)
  · rw [if_neg c3] at H
    have c3b0 : (t171 == 0) = false := beq_eq_false_iff_ne.mpr c3
    have c3b1 : (t171 != 0) = true := bne_iff_ne.mpr c3
    simp only [Option.some.injEq, Prod.mk.injEq] at H
    obtain ⟨rfl, rfl⟩ := H
    go_enter Try.func10, Try.ntmps10
    go_wp2_with (first | ((with_reducible refine gate_dst (N := 1) rfl ?_); refine box_event ?hg (N := 1) ?hd (cs := #[.int .i64 a0_0, .slice A0_1 l0_1.length c0_1, .slice A0_2 l0_2.length c0_2]) (t := 25) ?hr ?_; (case hd => rfl); (case hg => rfl); (case hr => first | (go_simp; done) | (go_simp; rfl)); intro gb170 hg w34 hbox hb; have n0_ := Aside0.mk (below_step (by repeat (first | (with_reducible first | exact HB.out | apply below_alloc | apply pw_below_drewN | apply below_drew1) | exact HB.out)) hb); have n1_ := Aside0.mk (hbox); have n2_ := Aside0.mk ((by rw [hg]; exact (below_size (by repeat (first | (with_reducible first | exact HB.out | apply below_alloc | apply pw_below_drewN | apply below_drew1) | exact HB.out))) : w.heap.size ≤ gb170)); have n3_ := Aside0.mk ((by rw [hg]; exact (below_size (by repeat (first | (with_reducible first | exact HB.out | apply below_alloc | apply pw_below_drewN | apply below_drew1) | exact HB.out))) : w.heap.size ≤ gb170)); clear HB; have HB := n0_; have BK170 := n1_; have GW170 := n2_; have GE170 := n3_; clear n0_ n1_ n2_ n3_; clear hb hbox hg; have hcz35_0 : w34.cell? ⟨gb170, 0, none⟩ = some (.int .i64 a0_0) := (blk_cell BK170.out 0).trans rfl; have hcz35_1 : w34.cell? ⟨gb170, 1, none⟩ = some (.slice A0_1 l0_1.length c0_1) := (blk_cell BK170.out 1).trans rfl; have hcz35_2 : w34.cell? ⟨gb170, 2, none⟩ = some (.slice A0_2 l0_2.length c0_2) := (blk_cell BK170.out 2).trans rfl; have hfz35_0 := blk_frozen BK170.out 0; have hfz35_1 := blk_frozen BK170.out 1; have hfz35_2 := blk_frozen BK170.out 2) | ((with_reducible refine gate_callee (f := 15) rfl ?_); refine goesL_ (some 8) rfl rfl Try.func15 (by kernel_rfl) rfl #[.agg #[.int .i64 a0_0, .slice A0_1 l0_1.length c0_1, .slice A0_2 l0_2.length c0_2]] rfl (by (try simp only [List.map_toArray, List.map_cons, List.map_nil]); first | done | rfl | (simp only [List.length_drop, List.length_take]; rfl)) ?_; (with_reducible refine (coronerref31_Check.calls k a0_0 _ _ l0_1 _ _ l0_2 t171 _ ?side1 ?side2 ?side3 ?side4 A2.out).mono ?_); (case side1 => repeat (first | exact (Kd.C_below HR0_1.out HB.out) | (with_reducible refine Kd.C_alloc ?_ _) | (with_reducible refine Kd.C_drewN ?_ _) | (with_reducible refine Kd.C_drew ?_))); (case side2 => exact HC0_1.out); (case side3 => repeat (first | exact (Kd.C_below HR0_2.out HB.out) | (with_reducible refine Kd.C_alloc ?_ _) | (with_reducible refine Kd.C_drewN ?_ _) | (with_reducible refine Kd.C_drew ?_))); (case side4 => exact HC0_2.out); rintro e w36 ⟨rfl, hb⟩; refine ⟨_, rfl, ?_⟩; have n0_ := Aside0.mk (blk_below (g := gb170) (o := .cells #[.int .i64 a0_0, .slice A0_1 l0_1.length c0_1, .slice A0_2 l0_2.length c0_2] 25 (0, 0)) (by (with_reducible repeat (first | refine blk_drewN ?_ _ | refine blk_drew ?_ | refine blk_alloc ?_ _)); exact BK170.out) hb); have n1_ := Aside0.mk (below_step (by repeat (first | (with_reducible first | exact HB.out | apply below_alloc | apply pw_below_drewN | apply below_drew1 | refine below_set ?_ GE170.out) | exact HB.out)) hb); clear BK170; clear HB; have BK170 := n0_; have HB := n1_; clear n0_ n1_; (try clear hb); (try clear hb2); (try clear hk); (try clear hi)))
    go_ret2
    exact ⟨by first | rfl | (simp [errW_none, errW_some] <;> rfl) | (simp [*, errW_none, errW_some] <;> rfl), by repeat (first | (with_reducible first | exact HB.out | apply below_alloc | apply pw_below_drewN | apply below_drew1 | refine below_set ?_ GE170.out) | exact HB.out)⟩

-- NOT PRINTED: function 3 (coronerlaw31_ReportPrints)

end Go.Proofs.Ytkoddmedhnhgiaa.PReportBack

/- The reference's Check, Print, Few, Same of a report, plainly. -/
set_option linter.unusedSimpArgs false
namespace Go.Proofs.Ytkoddmedhnhgiaa.Rp
open Go.RowKit Go.Proofs.Ytkoddmedhnhgiaa.PReportBack Go.Proofs.YtkoddmedhnhgiaaW.PrintWords
set_option linter.unusedVariables false

theorem nE_le (x : Ed) (n : Nat) (h : 6 ≤ n) : (nE x).length ≤ n := h
theorem nF_le (x : Fi) (n : Nat) (h : 6 ≤ n) : (nF x).length ≤ n := h
theorem rmay_ev (l : List Int) (hl : l.length ≤ big) : ∀ (d i : Nat), i + d = l.length → Ev (fun k => coronerref31_may.l0 k l (i : Int)) ((l.drop i).all okR)
  | 0, i, h => by
    rw [List.drop_eq_nil_of_le (by omega)]
    exact Ev.step (f := fun _ => some true) (fun k => by simp only [coronerref31_may.l0]; rw [if_neg (by omega)]) (Ev.now _)
  | d + 1, i, h => by
    have hlt : i < l.length := by omega
    have ih := rmay_ev l hl d (i + 1) (by omega)
    have hs : ∀ k, coronerref31_may.l0 (k + 1) l (i : Int) = if l[i] < -1 then some false else if l[i] > 2147483647 then some false else coronerref31_may.l0 k l ((i + 1 : Nat) : Int) := fun k => by
      simp only [coronerref31_may.l0]
      rw [if_pos (by omega), if_pos (by omega), rdI hlt, wrapS hlt hl]
    rw [List.drop_eq_getElem_cons hlt, List.all_cons]
    by_cases h1 : l[i] < -1
    · have e : okR l[i] = false := by rw [← Bool.not_eq_true, okR_iff]; omega
      rw [e, Bool.false_and]
      exact Ev.step (f := fun _ => some false) (fun k => by rw [hs, if_pos h1]) (Ev.now _)
    · by_cases h2 : l[i] > 2147483647
      · have e : okR l[i] = false := by rw [← Bool.not_eq_true, okR_iff]; omega
        rw [e, Bool.false_and]
        exact Ev.step (f := fun _ => some false) (fun k => by rw [hs, if_neg h1, if_pos h2]) (Ev.now _)
      · have e : okR l[i] = true := okR_iff.2 (by omega)
        rw [e, Bool.true_and]
        exact Ev.step (fun k => by rw [hs, if_neg h1, if_neg h2]) ih
theorem may_ev (l : List Int) (hl : l.length ≤ big) : Ev (fun k => coronerref31_may.f k l) (l.all okR) := rmay_ev l hl l.length 0 (by omega)
def okI (b : Bool) : Int := if b = true then 0 else 2
section
variable {lv : Int} {fs : List Fi} {o : List Int}
theorem rchk_l1 (hl : fs.length ≤ big) (i : Nat) (hi : i < fs.length) (f : Fi) (hc : f.f6.length ≤ big) (R : Int) (hR : Ev (fun k => coronerref31_Check.l0 k ((i + 1 : Nat) : Int) lv fs o) R) : ∀ (d j : Nat), j + d = f.f6.length →
    Ev (fun k => coronerref31_Check.l1 k (i : Int) (j : Int) lv fs o f.f0 f.f1 f.f2 f.f3 f.f4 f.f5 f.f6) (if (f.f6.drop j).all mayE = true then R else 2)
  | 0, j, h => by
    rw [List.drop_eq_nil_of_le (by omega), List.all_nil, if_pos rfl]
    refine Ev.step (fun k => ?_) hR
    simp only [coronerref31_Check.l1]
    rw [if_neg (by omega), wrapS hi hl]
  | d + 1, j, h => by
    have hlt : j < f.f6.length := by omega
    have ih := rchk_l1 hl i hi f hc R hR d (j + 1) (by omega)
    rw [List.drop_eq_getElem_cons hlt, List.all_cons]
    refine Ev.step (f := fun k => (coronerref31_may.f k (nE f.f6[j])).bind fun t => if t = true then coronerref31_Check.l1 k (i : Int) ((j + 1 : Nat) : Int) lv fs o f.f0 f.f1 f.f2 f.f3 f.f4 f.f5 f.f6 else some 2) (fun k => ?_) ?_
    · simp only [coronerref31_Check.l1]
      rw [if_pos (by omega), if_pos (by omega), rd49 hlt, wrapS hlt hc]
      rfl
    · refine Ev.bind (may_ev _ (nE_le _ _ (by decide))) ?_
      show Ev (fun k => if mayE f.f6[j] = true then _ else _) _
      cases mayE f.f6[j] with
      | true => rw [Bool.true_and]; exact ih
      | false => rw [Bool.false_and]; exact Ev.now _
theorem rchk_l0 (hl : fs.length ≤ big) (hc : ∀ f ∈ fs, f.f6.length ≤ big) : ∀ (d i : Nat), i + d = fs.length → Ev (fun k => coronerref31_Check.l0 k (i : Int) lv fs o) (okI ((fs.drop i).all mayF))
  | 0, i, h => by
    rw [List.drop_eq_nil_of_le (by omega)]
    exact Ev.step (f := fun _ => some 0) (fun k => by simp only [coronerref31_Check.l0]; rw [if_neg (by omega)]) (Ev.now _)
  | d + 1, i, h => by
    have hlt : i < fs.length := by omega
    have hcf := hc _ (List.getElem_mem hlt)
    have ih := rchk_l0 hl hc d (i + 1) (by omega)
    have h1 := rchk_l1 (lv := lv) (o := o) hl i hlt fs[i] hcf _ ih fs[i].f6.length 0 (by omega)
    rw [List.drop_zero] at h1
    have hj : ∀ b : Bool, Ev (fun k => coronerref31_Check.j2 k (i : Int) b lv fs o fs[i].f0 fs[i].f1 fs[i].f2 fs[i].f3 fs[i].f4 fs[i].f5 fs[i].f6) (if b = true then 2 else if fs[i].f6.all mayE = true then okI ((fs.drop (i + 1)).all mayF) else 2) := fun b => by
      cases b with
      | true => exact Ev.step (f := fun _ => some 2) (fun k => by simp only [coronerref31_Check.j2]; rw [if_pos trivial]) (Ev.now _)
      | false => exact Ev.step (fun k => by simp only [coronerref31_Check.j2]; rw [if_neg (by decide)]; rfl) h1
    rw [List.drop_eq_getElem_cons hlt, List.all_cons]
    refine Ev.step (f := fun k => (coronerref31_may.f k (nF fs[i])).bind fun t => if t = true then coronerref31_Check.j2 k (i : Int) (decide ((fs[i].f6.length : Int) > 1024)) lv fs o fs[i].f0 fs[i].f1 fs[i].f2 fs[i].f3 fs[i].f4 fs[i].f5 fs[i].f6 else coronerref31_Check.j2 k (i : Int) true lv fs o fs[i].f0 fs[i].f1 fs[i].f2 fs[i].f3 fs[i].f4 fs[i].f5 fs[i].f6) (fun k => ?_) ?_
    · simp only [coronerref31_Check.l0]
      rw [if_pos (by omega), if_pos (by omega), rd44 hlt]
      rfl
    · refine Ev.bind (may_ev _ (nF_le _ _ (by decide))) ?_
      unfold mayF
      cases hn : (nF fs[i]).all okR with
      | false => exact Ev.congr (fun k => if_neg (by decide)) (hj true)
      | true =>
        rw [Bool.true_and]
        refine Ev.congr (fun k => if_pos rfl) ?_
        have h2 := hj (decide ((fs[i].f6.length : Int) > 1024))
        by_cases hlen : fs[i].f6.length ≤ 1024
        · rw [decide_eq_true hlen, Bool.true_and]
          have e : decide ((fs[i].f6.length : Int) > 1024) = false := decide_eq_false (by omega)
          rw [e, if_neg (by decide)] at h2
          rw [e]
          cases hm : fs[i].f6.all mayE with
          | true => rw [hm, if_pos rfl] at h2; rw [Bool.true_and]; exact h2
          | false => rw [hm, if_neg (by decide)] at h2; rw [Bool.false_and]; exact h2
        · rw [decide_eq_false hlen, Bool.false_and, Bool.false_and]
          have e : decide ((fs[i].f6.length : Int) > 1024) = true := decide_eq_true (by omega)
          rw [e, if_pos rfl] at h2
          rw [e]
          exact h2
theorem rchk_ev (lv : Int) (fs : List Fi) (o : List Int) (hl : fs.length ≤ big) (ho : o.length ≤ big) (hc : ∀ f ∈ fs, f.f6.length ≤ big) : Ev (fun k => coronerref31_Check.f k lv fs o) (chk lv fs o) := by
  have hj : ∀ b : Bool, Ev (fun k => coronerref31_Check.j0 k b lv fs o) (if b = true then 2 else okI (fs.all mayF)) := fun b => by
    cases b with
    | true => exact Ev.step (f := fun _ => some 2) (fun k => by simp only [coronerref31_Check.j0]; rw [if_pos trivial]) (Ev.now _)
    | false =>
      have h := rchk_l0 (lv := lv) (o := o) hl hc fs.length 0 (by omega)
      rw [List.drop_zero] at h
      exact Ev.step (fun k => by simp only [coronerref31_Check.j0]; rw [if_neg (by decide)]; rfl) h
  have hno : okRep lv fs o = false → chk lv fs o = 2 := fun h => by unfold chk; rw [h]; rfl
  unfold coronerref31_Check.f
  by_cases h1 : lv < 0
  · rw [hno (by unfold okRep; rw [decide_eq_false (by omega)]; rfl)]
    exact Ev.congr (fun k => if_pos h1) (hj true)
  · by_cases h2 : lv > 4
    · rw [hno (by unfold okRep; rw [decide_eq_false (by omega)]; rfl)]
      exact Ev.congr (fun k => by rw [if_neg h1, if_pos h2]) (hj true)
    · by_cases h3 : fs.length ≤ 1024
      · by_cases h4 : o.length ≤ 1024
        · refine Ev.congr (f := fun k => (coronerref31_may.f k o).bind fun t => coronerref31_Check.j0 k (!t) lv fs o) (fun k => by rw [if_neg h1, if_neg h2, if_neg (by omega), if_neg (by omega)]) ?_
          refine Ev.bind (may_ev _ ho) ?_
          have h5 := hj (!o.all okR)
          unfold chk okRep
          rw [decide_eq_true (show 0 ≤ lv ∧ lv ≤ 4 by omega), decide_eq_true h3, decide_eq_true h4]
          cases hb : o.all okR with
          | true => rw [hb] at h5; exact h5
          | false => rw [hb] at h5; exact h5
        · rw [hno (by unfold okRep; rw [decide_eq_false h4]; simp)]
          exact Ev.congr (fun k => by rw [if_neg h1, if_neg h2, if_neg (by omega), if_pos (by omega)]) (hj true)
      · rw [hno (by unfold okRep; rw [decide_eq_false h3]; simp)]
        exact Ev.congr (fun k => by rw [if_neg h1, if_neg h2, if_pos (by omega)]) (hj true)
end
/-! ### Texts -/
theorem tm1 (m : Nat) : Int.tmod (m : Int) 10 = ((m % 10 : Nat) : Int) := rfl
theorem td1 (m : Nat) : Int.tdiv (m : Int) 10 = ((m / 10 : Nat) : Int) := rfl
theorem wr1 (m : Nat) (h : m ≤ 2147483647) : wrap64 ((m : Nat) : Int) = ((m : Nat) : Int) := by unfold wrap64; omega
theorem wr2 (m : Nat) (h : m ≤ 2147483647) : wrap64 ((m : Nat) + 1 : Int) = ((m + 1 : Nat) : Int) := by unfold wrap64; omega
theorem dig_size (m : Nat) (hm : m < 10) : ((⟨#[48, 49, 50, 51, 52, 53, 54, 55, 56, 57]⟩ : ByteArray).extract m (m + 1)).size = 1 := by
  have hc : m = 0 ∨ m = 1 ∨ m = 2 ∨ m = 3 ∨ m = 4 ∨ m = 5 ∨ m = 6 ∨ m = 7 ∨ m = 8 ∨ m = 9 := by omega
  rcases hc with rfl | rfl | rfl | rfl | rfl | rfl | rfl | rfl | rfl | rfl <;> rfl
theorem rprint_on (m : Nat) (hm : m ≤ 2147483647) (h9 : 9 < m) (s : ByteArray) (hs : s.size ≤ 10) (r : Nat) : coronerref01_Print.l0 (r + 1) (m : Int) s = coronerref01_Print.l0 r ((m / 10 : Nat) : Int) ((⟨#[48, 49, 50, 51, 52, 53, 54, 55, 56, 57]⟩ : ByteArray).extract (m % 10) (m % 10 + 1) ++ s) := by
  have hz1 := dig_size (m % 10) (Nat.mod_lt _ (by omega))
  have hlt : m % 10 < 10 := Nat.mod_lt _ (by omega)
  simp only [coronerref01_Print.l0]
  rw [if_pos (by omega), tm1, td1, wr2 (m % 10) (by omega), wr1 (m / 10) (by omega), Int.toNat_natCast, Int.toNat_natCast, if_pos (by omega), if_pos (by omega), if_pos (by omega), if_pos (by omega)]
theorem rprint_end (m : Nat) (h9 : m ≤ 9) (s : ByteArray) (hs : s.size ≤ 10) (r : Nat) : coronerref01_Print.l0 (r + 1) (m : Int) s = some ((⟨#[48, 49, 50, 51, 52, 53, 54, 55, 56, 57]⟩ : ByteArray).extract m (m + 1) ++ s, 0) := by
  have hz1 := dig_size m (by omega)
  simp only [coronerref01_Print.l0]
  rw [if_neg (by omega), wr2 m (by omega), Int.toNat_natCast, Int.toNat_natCast, if_pos (by omega), if_pos (by omega), if_pos (by omega), if_pos (by omega)]
theorem rprint_loop (n : Nat) (hn : n ≤ 2147483647) : ∀ (d k : Nat), k + d = wd n → k < wd n → Ev (fun r => coronerref01_Print.l0 r ((n / 10 ^ k : Nat) : Int) (strOfNums (low k n))) (strOfNums (low (wd n) n), 0)
  | 0, k, hd, hk => absurd hk (by omega)
  | d + 1, k, hd, hk => by
    have hm : n / 10 ^ k ≤ 2147483647 := Nat.le_trans (Nat.div_le_self _ _) hn
    have hs : (strOfNums (low k n)).size ≤ 10 := by rw [str_size, low_length]; have := wd_le hn; omega
    have hdiv := div_pow n k
    have hmore := lt_wd (k + 1) n
    have hlow : low (k + 1) n = ((n / 10 ^ k % 10 + 48 : Nat) : Int) :: low k n := rfl
    have hdig := str_digit (n / 10 ^ k % 10) (Nat.mod_lt _ (by omega)) (low k n)
    by_cases h9 : 9 < n / 10 ^ k
    · have hk1 : k + 1 < wd n := hmore.2 (.inr (by rw [← hdiv]; exact Nat.div_pos (by omega) (by omega)))
      have ih := rprint_loop n hn d (k + 1) (by omega) hk1
      rw [← hdiv, hlow, ← hdig] at ih
      exact Ev.step (fun r => rprint_on _ hm h9 _ hs r) ih
    · have hk1 : k + 1 = wd n := by
        rcases Nat.lt_or_ge (k + 1) (wd n) with h | h
        · rcases hmore.1 h with h | h
          · omega
          · rw [← hdiv] at h
            have : n / 10 ^ k / 10 = 0 := Nat.div_eq_of_lt (by omega)
            omega
        · omega
      have hm10 : n / 10 ^ k % 10 = n / 10 ^ k := Nat.mod_eq_of_lt (by omega)
      rw [hm10] at hdig hlow
      rw [← hk1, hlow, ← hdig]
      exact Ev.step (f := fun _ => some _) (fun r => rprint_end _ (by omega) _ hs r) (Ev.now _)
theorem rprint_ev {n : Int} (h : 0 ≤ n ∧ n ≤ 2147483647) : Ev (fun r => coronerref01_Print.f r n) (strOfNums (numS n), 0) := by
  have hl := rprint_loop n.toNat (by omega) (wd n.toNat) 0 (by omega) (wd_pos _)
  rw [Nat.pow_zero, Nat.div_one, Int.toNat_of_nonneg h.1] at hl
  refine Ev.congr (f := fun r => coronerref01_Print.j0 r n (decide (n > 2147483647))) (fun r => ?_) (Ev.step (fun r => ?_) hl)
  · unfold coronerref01_Print.f; rw [if_neg (by omega)]
  · simp only [coronerref01_Print.j0]; rw [if_neg (by simp; omega)]; rfl
theorem str_lit (a b : List Int) (s : ByteArray) (h : s = strOfNums b) : strOfNums a ++ s = strOfNums (a ++ b) := by rw [h, str_append]
/-- A line's text. -/
theorem rline_ev (l : List Int) (hok : l.all okR = true) (hl : l.length ≤ big) : ∀ (d i : Nat) (x : List Int), i + d = l.length → x.length + (numsT (l.drop i)).length + 1 ≤ big →
    Ev (fun k => coronerref31_line.l0 k l (strOfNums x) (i : Int)) (strOfNums (x ++ numsT (l.drop i) ++ [10]))
  | 0, i, x, h, hb => by
    unfold big at *
    rw [List.drop_eq_nil_of_le (by omega)] at hb ⊢
    have e : x ++ numsT [] ++ [10] = x ++ [10] := by simp [numsT]
    rw [e]
    refine Ev.step (f := fun _ => some _) (fun k => ?_) (Ev.now _)
    simp only [coronerref31_line.l0]
    rw [if_neg (by omega), if_pos (by rw [str_size]; omega), show strOfNums x ++ (⟨#[10]⟩ : ByteArray) = strOfNums (x ++ [10]) from str_lit x [10] _ rfl]
  | d + 1, i, x, h, hb => by
    have hlt : i < l.length := by omega
    have hn : okR l[i] = true := List.all_eq_true.1 hok _ (List.getElem_mem hlt)
    obtain ⟨hn1, hn2⟩ := okR_iff.1 hn
    have hnl := numT_len (n := l[i]) hn2
    have ed : numsT (l.drop i) = 32 :: numT l[i] ++ numsT (l.drop (i + 1)) := by rw [List.drop_eq_getElem_cons hlt]; rfl
    rw [ed] at hb ⊢
    simp only [List.length_append, List.length_cons] at hb
    have ih := rline_ev l hok hl d (i + 1) (x ++ (32 :: numT l[i])) (by omega) (by simp only [List.length_append, List.length_cons]; omega)
    have e3 : x ++ 32 :: numT l[i] ++ numsT (l.drop (i + 1)) ++ [10] = x ++ (32 :: numT l[i] ++ numsT (l.drop (i + 1))) ++ [10] := by simp
    rw [e3] at ih
    have e1 : strOfNums x ++ (⟨#[32]⟩ : ByteArray) = strOfNums (x ++ [32]) := str_lit _ [32] _ rfl
    have e2 : strOfNums (x ++ [32]) ++ strOfNums (numT l[i]) = strOfNums (x ++ 32 :: numT l[i]) := by rw [str_append]; simp
    unfold big at *
    by_cases h0 : 0 ≤ l[i]
    · have et : numT l[i] = numS l[i] := by unfold numT; rw [if_neg (by omega)]
      refine Ev.step (f := fun k => (coronerref01_Print.f k l[i]).bind fun bt => if (strOfNums x ++ (⟨#[32]⟩ : ByteArray)).size + bt.1.size ≤ 9223372036854775807 then coronerref31_line.l0 k l ((strOfNums x ++ (⟨#[32]⟩ : ByteArray)) ++ bt.1) ((i + 1 : Nat) : Int) else none) (fun k => ?_) ?_
      · simp only [coronerref31_line.l0]
        rw [if_pos (by omega), if_pos (by omega), rdI hlt, if_pos h0, wrapS hlt (by unfold big; omega)]
        simp only [if_pos (show (strOfNums x).size + 1 ≤ 9223372036854775807 by rw [str_size]; omega)]
      · refine Ev.bind (rprint_ev ⟨h0, hn2⟩) ?_
        rw [← et, e1, e2]
        exact Ev.congr (fun k => if_pos (by rw [str_size, str_size, List.length_append, List.length_singleton]; omega)) ih
    · have et : numT l[i] = [45] := by unfold numT; rw [if_pos (by omega)]
      refine Ev.step (f := fun k => coronerref31_line.l0 k l (strOfNums (x ++ 32 :: numT l[i])) ((i + 1 : Nat) : Int)) (fun k => ?_) ih
      have e4 : (⟨#[45]⟩ : ByteArray) = strOfNums (numT l[i]) := by rw [et]; rfl
      simp only [coronerref31_line.l0]
      rw [if_pos (by omega), if_pos (by omega), rdI hlt, if_neg (by omega), wrapS hlt (by unfold big; omega), if_pos (by rw [str_size]; omega), e1, if_pos (by rw [str_size, List.length_append, List.length_singleton]; omega), e4, e2]
theorem line_ev (c : Int) (s : ByteArray) (hs : s = strOfNums [c]) (l : List Int) (hok : l.all okR = true) (hl : l.length ≤ 1000000) : Ev (fun k => coronerref31_line.f k s l) (strOfNums (lineT c l)) := by
  have h := numsT_len l hok
  have := rline_ev l hok (by unfold big; omega) l.length 0 [c] (by omega) (by unfold big; simp only [List.drop_zero, List.length_singleton]; omega)
  rw [hs]
  exact this
section
variable {lv : Int} {fs : List Fi} {o : List Int}
theorem rprint_l1 (hl : fs.length ≤ big) (i : Nat) (hi : i < fs.length) (hm : mayF fs[i] = true) (R : ByteArray × Int) : ∀ (d j : Nat) (x : List Int), j + d = fs[i].f6.length → x.length + ((fs[i].f6.drop j).flatMap fun e => lineT 101 (nE e)).length ≤ big →
    Ev (fun k => coronerref31_Print.l0 k (strOfNums (x ++ (fs[i].f6.drop j).flatMap fun e => lineT 101 (nE e))) ((i + 1 : Nat) : Int) lv fs o) R →
    Ev (fun k => coronerref31_Print.l1 k (strOfNums x) (i : Int) (j : Int) lv fs o) R
  | 0, j, x, h, hb, hR => by
    rw [List.drop_eq_nil_of_le (by omega), List.flatMap_nil, List.append_nil] at hR
    refine Ev.step (fun k => ?_) hR
    simp only [coronerref31_Print.l1]
    rw [if_pos (by omega), if_pos (by omega), rd44 hi, if_neg (by omega), wrapS hi hl]
  | d + 1, j, x, h, hb, hR => by
    have hlt : j < fs[i].f6.length := by omega
    have hme := (mayF_iff.1 hm).2.2 _ (List.getElem_mem hlt)
    have hlc := (mayF_iff.1 hm).2.1
    have hln := edgeT_len hme
    rw [List.drop_eq_getElem_cons hlt, List.flatMap_cons] at hR hb
    rw [List.length_append] at hb
    have ih := rprint_l1 hl i hi hm R d (j + 1) (x ++ lineT 101 (nE fs[i].f6[j])) (by omega) (by rw [List.length_append]; omega) (by rw [List.append_assoc]; exact hR)
    unfold big at hb hl
    refine Ev.step (f := fun k => (coronerref31_line.f k (⟨#[101]⟩ : ByteArray) (nE fs[i].f6[j])).bind fun t => if (strOfNums x).size + t.size ≤ 9223372036854775807 then coronerref31_Print.l1 k (strOfNums x ++ t) (i : Int) ((j + 1 : Nat) : Int) lv fs o else none) (fun k => ?_) ?_
    · simp only [coronerref31_Print.l1]
      rw [if_pos (by omega), if_pos (by omega), rd44 hi, if_pos (by omega), if_pos (by omega), rd49 hlt, wrapS hlt (by unfold big; omega)]
      rfl
    · refine Ev.bind (line_ev 101 _ rfl _ hme (nE_le _ _ (by decide))) ?_
      rw [str_append]
      exact Ev.congr (fun k => if_pos (by rw [str_size, str_size]; omega)) ih
theorem rprint_l0 (hl : fs.length ≤ big) (hm : ∀ f ∈ fs, mayF f = true) (ho : o.all okR = true) (hol : o.length ≤ 1000000) : ∀ (d i : Nat) (x : List Int), i + d = fs.length → x.length + ((fs.drop i).flatMap findT).length + (lineT 111 o).length ≤ big →
    Ev (fun k => coronerref31_Print.l0 k (strOfNums x) (i : Int) lv fs o) (strOfNums (x ++ (fs.drop i).flatMap findT ++ lineT 111 o), 0)
  | 0, i, x, h, hb => by
    unfold big at *
    rw [List.drop_eq_nil_of_le (by omega)] at hb ⊢
    rw [List.flatMap_nil, List.append_nil]
    refine Ev.step (f := fun k => (coronerref31_line.f k (⟨#[111]⟩ : ByteArray) o).bind fun t => if (strOfNums x).size + t.size ≤ 9223372036854775807 then some (strOfNums x ++ t, 0) else none) (fun k => ?_) ?_
    · simp only [coronerref31_Print.l0]
      rw [if_neg (by omega)]
    · refine Ev.bind (line_ev 111 _ rfl _ ho hol) ?_
      rw [str_append]
      exact Ev.congr (f := fun _ => some _) (fun k => if_pos (by rw [str_size, str_size]; omega)) (Ev.now _)
  | d + 1, i, x, h, hb => by
    have hlt : i < fs.length := by omega
    have hmf := hm _ (List.getElem_mem hlt)
    obtain ⟨hn, hlc, hes⟩ := mayF_iff.1 hmf
    have ed : (fs.drop i).flatMap findT = lineT 102 (nF fs[i]) ++ (fs[i].f6.flatMap fun x => lineT 101 (nE x)) ++ (fs.drop (i + 1)).flatMap findT := by rw [List.drop_eq_getElem_cons hlt, List.flatMap_cons]; rfl
    rw [ed] at hb ⊢
    simp only [List.length_append] at hb
    have ih := rprint_l0 hl hm ho hol d (i + 1) (x ++ lineT 102 (nF fs[i]) ++ (fs[i].f6.flatMap fun x => lineT 101 (nE x))) (by omega) (by simp only [List.length_append]; omega)
    have e3 : x ++ lineT 102 (nF fs[i]) ++ (fs[i].f6.flatMap fun x => lineT 101 (nE x)) ++ (fs.drop (i + 1)).flatMap findT ++ lineT 111 o = x ++ (lineT 102 (nF fs[i]) ++ (fs[i].f6.flatMap fun x => lineT 101 (nE x)) ++ (fs.drop (i + 1)).flatMap findT) ++ lineT 111 o := by simp only [List.append_assoc]
    rw [e3] at ih
    have h1 := rprint_l1 (lv := lv) (o := o) hl i hlt hmf _ fs[i].f6.length 0 (x ++ lineT 102 (nF fs[i])) (by omega) (by rw [List.drop_zero, List.length_append]; omega) (by rw [List.drop_zero]; exact ih)
    unfold big at hb
    refine Ev.step (f := fun k => (coronerref31_line.f k (⟨#[102]⟩ : ByteArray) (nF fs[i])).bind fun t => if (strOfNums x).size + t.size ≤ 9223372036854775807 then coronerref31_Print.l1 k (strOfNums x ++ t) (i : Int) 0 lv fs o else none) (fun k => ?_) ?_
    · simp only [coronerref31_Print.l0]
      rw [if_pos (by omega), if_pos (by omega), rd44 hlt]
      rfl
    · refine Ev.bind (line_ev 102 _ rfl _ hn (nF_le _ _ (by decide))) ?_
      rw [str_append]
      exact Ev.congr (fun k => if_pos (by rw [str_size, str_size]; omega)) h1
theorem repT_len {lv : Int} {fs : List Fi} {o : List Int} (h : okRep lv fs o = true) : (repT lv fs o).length ≤ 90000000 := by
  obtain ⟨h1, h2, h3, h4, h5⟩ := okRep_iff.1 h
  have a := outT_len (lv := lv) (okR_iff.2 (by omega)) h5 h2 fs.length
  have b := lineT_len 111 o h4
  unfold outT at a
  rw [List.take_length] at a
  unfold repT
  rw [List.length_append]
  omega
theorem rprt_ev (lv : Int) (fs : List Fi) (o : List Int) (hl : fs.length ≤ big) (ho : o.length ≤ big) (hc : ∀ f ∈ fs, f.f6.length ≤ big) : Ev (fun k => coronerref31_Print.f k lv fs o) (if okRep lv fs o = true then strOfNums (repT lv fs o) else (⟨#[]⟩ : ByteArray), chk lv fs o) := by
  unfold coronerref31_Print.f
  refine Ev.bind (rchk_ev lv fs o hl ho hc) ?_
  unfold chk
  by_cases h : okRep lv fs o = true
  · obtain ⟨h1, h2, h3, h4, h5⟩ := okRep_iff.1 h
    have hb := repT_len h
    rw [if_pos h, if_pos h]
    refine Ev.congr (fun k => if_pos rfl) ?_
    refine Ev.bind (line_ev 108 _ rfl [lv] (by rw [List.all_cons, okR_iff.2 (by omega)]; rfl) (by simp)) ?_
    have := rprint_l0 (lv := lv) hl h5 h4 (by omega) fs.length 0 (lineT 108 [lv]) (by omega) (by
      rw [List.drop_zero]
      unfold repT at hb
      rw [List.length_append, List.length_append] at hb
      unfold big
      omega)
    rw [List.drop_zero] at this
    exact this
  · rw [if_neg h, if_neg h]
    exact Ev.congr (f := fun _ => some _) (fun k => if_neg (by decide)) (Ev.now _)
end
end Go.Proofs.Ytkoddmedhnhgiaa.Rp

/- The law's example. -/
set_option linter.unusedSimpArgs false
namespace Go.Proofs.Ytkoddmedhnhgiaa.Rp
open Go.RowKit Go.Lib Go.Proofs.Ytkoddmedhnhgiaa.PReportBack Go.Proofs.YtkoddmedhnhgiaaW.PrintWords
set_option linter.unusedVariables false

def tx : List Int := [108, 32, 52, 10, 111, 32, 50, 32, 49, 10]
set_option maxRecDepth 100000 in
theorem par1 : parR tx = (4, [], [2, 1], 0, 0) := by kernel_rfl
set_option maxRecDepth 100000 in
theorem rep1 : strOfNums (repT 4 [] [2, 1]) = (⟨#[108, 32, 52, 10, 111, 32, 50, 32, 49, 10]⟩ : ByteArray) := by kernel_rfl
theorem ok1 : okRep 4 [] [2, 1] = true := by kernel_rfl
theorem chk5 : chk 5 [] [] = 2 := by kernel_rfl
theorem same1 : eqRep 4 [] [2, 1] 4 [] [2, 1] = true := by kernel_rfl
theorem nil_C {α : Type} (d : Kd α) (W : World) : Kd.C d W none 0 [] := ⟨rfl, by decide, fun h => absurd h (by decide)⟩
/-- Parse of bytes that a text laid. -/
theorem parse_laid (W : World) (l : List Int) (hb : Bytes l) (hl : l.length ≤ 100000000) :
    Calls Try.prog 12 #[.slice (some ⟨W.heap.size, 0, none⟩) l.length l.length] (W.alloc (.cells (nums .u8 l).toArray 5 (l.length, l.length + 1)))
      fun r w' => ∃ A1 c1 A2 c2, r = .returned (.tuple #[.agg #[.int .i64 (parR l).1, .slice A1 (parR l).2.1.length c1, .slice A2 (parR l).2.2.1.length c2], .int .i64 (parR l).2.2.2.1, .int .i64 (parR l).2.2.2.2]) ∧ (parR l).2.1.length ≤ c1 ∧ (parR l).2.2.1.length ≤ c2 ∧ Kd.C k44 w' A1 (parR l).2.1.length (parR l).2.1 ∧ (Kd.int .i64).C w' A2 (parR l).2.2.1.length (parR l).2.2.1 ∧ Below W.heap.size W w' := by
  have hC : Kd.C (Kd.int .u8) (W.alloc (.cells (nums .u8 l).toArray 5 (l.length, l.length + 1))) (some ⟨W.heap.size, 0, none⟩) l.length l := C_laid (t := 5) (fz := (l.length, l.length + 1)) l (by omega) (alloc_at _ _)
  refine (parse_c _ _ l l.length hC (Nat.le_refl _) hb hl).mono ?_
  rintro r w' ⟨vF, vO, h1, h2, h3, h4⟩
  obtain ⟨A1, c1, rfl, hc1, hr1⟩ := Kd.S_reads h2
  obtain ⟨A2, c2, rfl, hc2, hr2⟩ := Kd.R_reads h3
  exact ⟨A1, c1, A2, c2, h1, hc1, hc2, hr1, hr2, ((Below.refl _ _).alloc (Nat.le_refl _) _).trans (h4.mono (by simp))⟩
theorem parse_tx (W : World) : Calls Try.prog 12 #[.slice (some ⟨W.heap.size, 0, none⟩) 10 10] (W.alloc (.cells #[.int .u8 108, .int .u8 32, .int .u8 52, .int .u8 10, .int .u8 111, .int .u8 32, .int .u8 50, .int .u8 32, .int .u8 49, .int .u8 10] 5 (10, 11)))
      fun r w' => ∃ A1 c1 A2 c2, r = .returned (.tuple #[.agg #[.int .i64 4, .slice A1 0 c1, .slice A2 2 c2], .int .i64 0, .int .i64 0]) ∧ 2 ≤ c2 ∧ Kd.C k44 w' A1 0 [] ∧ (Kd.int .i64).C w' A2 2 [2, 1] ∧ Below W.heap.size W w' := by
  refine (parse_laid W tx (by unfold Bytes; decide) (by decide)).mono ?_
  rw [par1]
  rintro r w' ⟨A1, c1, A2, c2, h1, h2, h3, h4, h5, h6⟩
  exact ⟨A1, c1, A2, c2, h1, h3, h4, h5, h6⟩
theorem two_laid (W : World) (g : Nat) (h : Blk W g [.int .i64 2, .int .i64 1] 3) : (Kd.int .i64).C W (some ⟨g, 0, none⟩) 2 [2, 1] := by
  refine ⟨rfl, by decide, fun _ => ⟨_, rfl, fun j p hj => ?_⟩⟩
  have hc : j = 0 ∨ j = 1 := by have := (List.getElem?_eq_some_iff.1 hj).1; simp at this; omega
  have hw : ∀ (i : Nat) (v : Value), [v][i]? = some v → i = 0 := fun i v hv => by have := (List.getElem?_eq_some_iff.1 hv).1; simp at this; omega
  rcases hc with rfl | rfl
  · cases hj
    refine ⟨[.int .i64 2], rfl, rfl, fun i u hu => ?_⟩
    obtain rfl : i = 0 := by have := (List.getElem?_eq_some_iff.1 hu).1; simp at this; omega
    cases hu
    exact (h.cell 0).trans rfl
  · cases hj
    refine ⟨[.int .i64 1], rfl, rfl, fun i u hu => ?_⟩
    obtain rfl : i = 0 := by have := (List.getElem?_eq_some_iff.1 hu).1; simp at this; omega
    cases hu
    exact (h.cell 1).trans rfl
set_option maxRecDepth 100000 in
set_option maxHeartbeats 4000000 in
theorem works_c (w : World) : Calls Try.prog 8 #[] w fun e w' => e = .returned (.bool true) ∧ Below w.heap.size w w' := by
  have kc := fun (w : World) (C : Array Value) (n c : Nat) => Lib.run_convert_bytes_const (P := Try.prog) w 34 5 C n c Try.underlying34 Try.underlying5
  obtain ⟨w2, hw2⟩ : ∃ w2, w2 = (w.alloc (.cells #[.int .i64 2, .int .i64 1] 3)).alloc (.cells #[.int .i64 4, .slice none 0 0, .slice (some ⟨w.heap.size, 0, none⟩) 2 2] 25) := ⟨_, rfl⟩
  have HB2 : Hid (Below w.heap.size w w2) := Lib.hid (by rw [hw2]; exact ((Below.refl _ _).alloc (Nat.le_refl _) _).alloc (by simp) _)
  have b1 : Blk w2 w.heap.size [.int .i64 2, .int .i64 1] 3 := by rw [hw2]; exact (Blk.new w _ _).alloc _
  have b2 : Blk w2 (w.heap.size + 1) [.int .i64 4, .slice none 0 0, .slice (some ⟨w.heap.size, 0, none⟩) 2 2] 25 := by
    have h := Blk.new (w.alloc (.cells #[.int .i64 2, .int .i64 1] 3)) [.int .i64 4, .slice none 0 0, .slice (some ⟨w.heap.size, 0, none⟩) 2 2] 25
    rw [World.size_alloc] at h
    rw [hw2]; exact h
  have HL := Lib.hid (fun (W : World) (hW : Below w2.heap.size w2 W) => two_laid W w.heap.size (b1.below hW b1.lt))
  have HX := Lib.hid (fun (W : World) (hW : Below w2.heap.size w2 W) => b2.below hW b2.lt)
  have HPR : Hid (∀ W, Below w2.heap.size w2 W → Calls Try.prog 9 #[.agg #[.int .i64 4, .slice none 0 0, .slice (some ⟨w.heap.size, 0, none⟩) 2 2]] W fun e w' => e = .returned (.tuple #[.string (⟨#[108, 32, 52, 10, 111, 32, 50, 32, 49, 10]⟩ : ByteArray), .int .i64 0]) ∧ Below w2.heap.size w2 w') := Lib.hid (fun W hW => by
    refine (print_rc 4 [] [2, 1] none 0 (some ⟨w.heap.size, 0, none⟩) 2 W (nil_C _ _) (HL.out W hW) (by decide) (by decide)).mono ?_
    rintro e w' ⟨h1, h2⟩
    rw [if_pos ok1, rep1] at h1
    exact ⟨h1, hW.trans (h2.mono hW.size)⟩)
  clear b1 b2
  go_enter Try.func8, Try.ntmps8
  have t0 := ((HX.out w2 (Below.refl _ _)).cell 0).trans rfl
  have t1 := ((HX.out w2 (Below.refl _ _)).cell 1).trans rfl
  have t2 := ((HX.out w2 (Below.refl _ _)).cell 2).trans rfl
  rw [hw2] at t0 t1 t2
  go_wp2_with fail
  rw [← hw2]
  refine (HPR.out w2 (Below.refl _ _)).mono ?_
  rintro r w3 ⟨rfl, hb3⟩
  have HB3 := Lib.hid hb3
  clear t0 t1 t2 hb3 hw2
  go_wp2_with fail
  refine (parse_tx w3).mono ?_
  rintro r w4 ⟨A1, c1, A2, c2, rfl, hc2, hF, hO, hb4⟩
  have HB4 := Lib.hid (HB3.out.trans (hb4.mono HB3.out.size))
  have HF := Lib.hid hF
  have HO := Lib.hid hO
  have HC2 := Lib.hid hc2
  clear hb4 hF hO hc2 kc HB3 HPR
  obtain ⟨w5, hw5⟩ : ∃ w5, w5 = w4.alloc (.cells #[.int .i64 4, .slice A1 0 c1, .slice A2 2 c2] 25) := ⟨_, rfl⟩
  have hb5 : Below w4.heap.size w4 w5 := by rw [hw5]; exact (Below.refl _ _).alloc (Nat.le_refl _) _
  have HB5 := Lib.hid hb5
  have HB52 := Lib.hid (HB4.out.trans (hb5.mono HB4.out.size))
  have q0 := ((HX.out w5 HB52.out).cell 0).trans rfl
  have q1 := ((HX.out w5 HB52.out).cell 1).trans rfl
  have q2 := ((HX.out w5 HB52.out).cell 2).trans rfl
  have HS : Hid (Calls Try.prog 16 #[.agg #[.int .i64 4, .slice A1 0 c1, .slice A2 2 c2], .agg #[.int .i64 4, .slice none 0 0, .slice (some ⟨w.heap.size, 0, none⟩) 2 2]] w5 fun e w' => e = .returned (.bool true) ∧ Below w5.heap.size w5 w') := Lib.hid (by
    have h := same_c w5 4 4 [] [] [2, 1] [2, 1] A1 A2 none (some ⟨w.heap.size, 0, none⟩) c1 c2 0 2 (Kd.C_below HF.out HB5.out) (Kd.C_below HO.out HB5.out) (nil_C _ _) (HL.out w5 HB52.out) HC2.out (Nat.le_refl 2) (by unfold big; simp) (by simp) (by unfold big; simp)
    rw [same1] at h
    exact h)
  clear hb5
  have HCK : Hid (∀ W, Calls Try.prog 11 #[.agg #[.int .i64 5, .slice none 0 0, .slice none 0 0]] W fun e w' => e = .returned (.int .i64 2) ∧ Below W.heap.size W w') := Lib.hid (fun W => by
    have h := check_c 5 [] [] none 0 none 0 W (nil_C _ _) (nil_C _ _) (by decide) (by decide)
    rw [chk5] at h
    exact h)
  have z0 : w5.cell? ⟨w4.heap.size, 0, none⟩ = some (.int .i64 4) := by rw [hw5]; exact ((Blk.new w4 _ _).cell 0).trans rfl
  have z1 : w5.cell? ⟨w4.heap.size, 1, none⟩ = some (.slice A1 0 c1) := by rw [hw5]; exact ((Blk.new w4 _ _).cell 1).trans rfl
  have z2 : w5.cell? ⟨w4.heap.size, 2, none⟩ = some (.slice A2 2 c2) := by rw [hw5]; exact ((Blk.new w4 _ _).cell 2).trans rfl
  rw [hw5] at q0 q1 q2 z0 z1 z2
  go_wp2_with fail
  rw [← hw5]
  refine HS.out.mono ?_
  rintro r w6 ⟨rfl, hb6⟩
  have HB6 := Lib.hid hb6
  clear q0 q1 q2 z0 z1 z2 hb6 hw5
  go_wp2_with fail
  refine (HCK.out w6).mono ?_
  rintro r w7 ⟨rfl, hb7⟩
  have HB7 := Lib.hid hb7
  clear hb7
  go_wp2
  go_ret
  exact ⟨rfl, link (link (link HB2.out HB52.out) HB6.out) HB7.out⟩
end Go.Proofs.Ytkoddmedhnhgiaa.Rp

/- Reports that come in; the reference's functions as callees; few. -/
set_option linter.unusedSimpArgs false
namespace Go.Proofs.Ytkoddmedhnhgiaa.Rp
open Go.Shelf Go.RowKit Go.Lib Go.Proofs.Ytkoddmedhnhgiaa.PReportBack Go.Proofs.YtkoddmedhnhgiaaW.PrintWords
set_option linter.unusedVariables false

theorem six_of {fs : Array Field} {a b c d e f : Field} (h : fs = #[a, b, c, d, e, f]) {p : Nat → Field → Prop} (h0 : p 0 a) (h1 : p 1 b) (h2 : p 2 c) (h3 : p 3 d) (h4 : p 4 e) (h5 : p 5 f) : ∀ (i : Nat) (x : Field), fs[i]? = some x → p i x := by
  subst h
  intro i x hx
  match i, hx with
  | 0, hx => simp at hx; subst hx; exact h0
  | 1, hx => simp at hx; subst hx; exact h1
  | 2, hx => simp at hx; subst hx; exact h2
  | 3, hx => simp at hx; subst hx; exact h3
  | 4, hx => simp at hx; subst hx; exact h4
  | 5, hx => simp at hx; subst hx; exact h5
  | k + 6, hx => simp at hx
theorem seven_of {fs : Array Field} {a b c d e f g : Field} (h : fs = #[a, b, c, d, e, f, g]) {p : Nat → Field → Prop} (h0 : p 0 a) (h1 : p 1 b) (h2 : p 2 c) (h3 : p 3 d) (h4 : p 4 e) (h5 : p 5 f) (h6 : p 6 g) : ∀ (i : Nat) (x : Field), fs[i]? = some x → p i x := by
  subst h
  intro i x hx
  match i, hx with
  | 0, hx => simp at hx; subst hx; exact h0
  | 1, hx => simp at hx; subst hx; exact h1
  | 2, hx => simp at hx; subst hx; exact h2
  | 3, hx => simp at hx; subst hx; exact h3
  | 4, hx => simp at hx; subst hx; exact h4
  | 5, hx => simp at hx; subst hx; exact h5
  | 6, hx => simp at hx; subst hx; exact h6
  | k + 7, hx => simp at hx
theorem list6 {α : Type} {cs : List α} (h : cs.length = 6) : ∃ a b c d e f, cs = [a, b, c, d, e, f] := by
  match cs, h with
  | [a, b, c, d, e, f], _ => exact ⟨a, b, c, d, e, f, rfl⟩
theorem list7 {α : Type} {cs : List α} (h : cs.length = 7) : ∃ a b c d e f g, cs = [a, b, c, d, e, f, g] := by
  match cs, h with
  | [a, b, c, d, e, f, g], _ => exact ⟨a, b, c, d, e, f, g, rfl⟩
theorem list3 {α : Type} {cs : List α} (h : cs.length = 3) : ∃ a b c, cs = [a, b, c] := by
  match cs, h with
  | [a, b, c], _ => exact ⟨a, b, c, rfl⟩
theorem opens_edge (W : World) : Opens Try.prog W 49 (k49.K W) := by
  refine Opens.imp (opens_row (p := fun _ v => ∃ n : Int, v = .int .i64 n ∧ (Lit.int .i64 n).wf = true)
    Try.underlying49 (by kernel_rfl) (six_of rfl ⟨rfl, by kernel_rfl⟩ ⟨rfl, by kernel_rfl⟩ ⟨rfl, by kernel_rfl⟩ ⟨rfl, by kernel_rfl⟩ ⟨rfl, by kernel_rfl⟩ ⟨rfl, by kernel_rfl⟩)
    (six_of rfl (cells_int Try.underlying3) (cells_int Try.underlying3) (cells_int Try.underlying3) (cells_int Try.underlying3) (cells_int Try.underlying3) (cells_int Try.underlying3))) ?_
  rintro _ cs ⟨hl, hp⟩
  obtain ⟨a, b, c, d, e, f, rfl⟩ := list6 hl
  obtain ⟨x0, rfl, _⟩ := hp 0 _ rfl
  obtain ⟨x1, rfl, _⟩ := hp 1 _ rfl
  obtain ⟨x2, rfl, _⟩ := hp 2 _ rfl
  obtain ⟨x3, rfl, _⟩ := hp 3 _ rfl
  obtain ⟨x4, rfl, _⟩ := hp 4 _ rfl
  obtain ⟨x5, rfl, _⟩ := hp 5 _ rfl
  exact ⟨⟨x0, x1, x2, x3, x4, x5⟩, k49_mk W _⟩
def SlE (W : World) (v : Value) : Prop := ∃ (l : List S49) (A : Option Addr) (c : Nat), v = .slice A l.length c ∧ l.length ≤ c ∧ ReadsRow (k49.K W) 6 W A l.length l
theorem opens_finding (W : World) : Opens Try.prog W 44 (k44.K W) := by
  refine Opens.imp (opens_row (p := fun i v => match i with | 6 => SlE W v | _ => ∃ n : Int, v = .int .i64 n ∧ (Lit.int .i64 n).wf = true)
    Try.underlying44 (by kernel_rfl) (seven_of rfl ⟨rfl, by kernel_rfl⟩ ⟨rfl, by kernel_rfl⟩ ⟨rfl, by kernel_rfl⟩ ⟨rfl, by kernel_rfl⟩ ⟨rfl, by kernel_rfl⟩ ⟨rfl, by kernel_rfl⟩ ⟨rfl, by kernel_rfl⟩)
    (seven_of rfl (cells_int Try.underlying3) (cells_int Try.underlying3) (cells_int Try.underlying3) (cells_int Try.underlying3) (cells_int Try.underlying3) (cells_int Try.underlying3) (cells_slice Try.underlying42 (by kernel_rfl) (opens_edge W)))) ?_
  rintro _ cs ⟨hl, hp⟩
  obtain ⟨a, b, c, d, e, f, g, rfl⟩ := list7 hl
  obtain ⟨x0, rfl, _⟩ := hp 0 _ rfl
  obtain ⟨x1, rfl, _⟩ := hp 1 _ rfl
  obtain ⟨x2, rfl, _⟩ := hp 2 _ rfl
  obtain ⟨x3, rfl, _⟩ := hp 3 _ rfl
  obtain ⟨x4, rfl, _⟩ := hp 4 _ rfl
  obtain ⟨x5, rfl, _⟩ := hp 5 _ rfl
  obtain ⟨l6, A6, c6, rfl, h6, g6⟩ := hp 6 _ rfl
  exact ⟨⟨x0, x1, x2, x3, x4, x5, l6⟩, k44_mk W _ h6 g6⟩
def SlF (W : World) (v : Value) : Prop := ∃ (l : List S44) (A : Option Addr) (c : Nat), v = .slice A l.length c ∧ l.length ≤ c ∧ ReadsRow (k44.K W) 7 W A l.length l
def SlI (W : World) (v : Value) : Prop := ∃ (l : List Int) (A : Option Addr) (c : Nat), v = .slice A l.length c ∧ l.length ≤ c ∧ ReadsRow ((Kd.int .i64).K W) 1 W A l.length l
/-- A report, read. -/
def RpK (W : World) (x : Int × List Fi × List Int) (cs : List Value) : Prop := ∃ A1 c1 A2 c2, cs = [.int .i64 x.1, .slice A1 x.2.1.length c1, .slice A2 x.2.2.length c2] ∧ x.2.1.length ≤ c1 ∧ x.2.2.length ≤ c2 ∧ Kd.C k44 W A1 x.2.1.length x.2.1 ∧ (Kd.int .i64).C W A2 x.2.2.length x.2.2
theorem opens_ints (W : World) : Opens Try.prog W 3 ((Kd.int .i64).K W) := Opens.imp (opens_int Try.underlying3) (by rintro n cs ⟨rfl, _⟩; exact ⟨n, rfl⟩)
theorem opens_report (W : World) : Opens Try.prog W 25 (RpK W) := by
  refine Opens.imp (opens_row (p := fun i v => match i with | 0 => ∃ n : Int, v = .int .i64 n ∧ (Lit.int .i64 n).wf = true | 1 => SlF W v | _ => SlI W v)
    Try.underlying25 (by kernel_rfl) (three rfl ⟨rfl, by kernel_rfl⟩ ⟨rfl, by kernel_rfl⟩ ⟨rfl, by kernel_rfl⟩)
    (three rfl (cells_int Try.underlying3) (cells_slice Try.underlying22 (by kernel_rfl) (opens_finding W)) (cells_slice Try.underlying23 (by kernel_rfl) (opens_ints W)))) ?_
  rintro _ cs ⟨hl, hp⟩
  obtain ⟨a, b, c, rfl⟩ := list3 hl
  obtain ⟨x0, rfl, _⟩ := hp 0 _ rfl
  obtain ⟨l1, A1, c1, rfl, h1, g1⟩ := hp 1 _ rfl
  obtain ⟨l2, A2, c2, rfl, h2, g2⟩ := hp 2 _ rfl
  exact ⟨(x0, l1, l2), A1, c1, A2, c2, rfl, h1, h2, g1, g2⟩

/-! ### Few -/
def fewP (fs : List Fi) (o : List Int) : Bool := decide (fs.length ≤ 60) && decide (o.length ≤ 300) && fs.all (fun f => decide (f.f6.length ≤ 100))
theorem fewP_iff {fs : List Fi} {o : List Int} : fewP fs o = true ↔ fs.length ≤ 60 ∧ o.length ≤ 300 ∧ ∀ f ∈ fs, f.f6.length ≤ 100 := by
  unfold fewP
  rw [Bool.and_eq_true, Bool.and_eq_true, decide_eq_true_eq, decide_eq_true_eq, List.all_eq_true]
  simp only [decide_eq_true_eq]
  exact ⟨fun ⟨⟨a, b⟩, c⟩ => ⟨a, b, c⟩, fun ⟨a, b, c⟩ => ⟨⟨a, b⟩, c⟩⟩
theorem few_l0 (lv : Int) (fs : List Fi) (o : List Int) (hl : fs.length ≤ big) : ∀ (d i : Nat), i + d = fs.length → Ev (fun k => coronerref31_Few.l0 k (i : Int) lv fs o) ((fs.drop i).all (fun f => decide (f.f6.length ≤ 100)))
  | 0, i, h => by
    rw [List.drop_eq_nil_of_le (by omega)]
    exact Ev.step (f := fun _ => some true) (fun k => by simp only [coronerref31_Few.l0]; rw [if_neg (by omega)]) (Ev.now _)
  | d + 1, i, h => by
    have hlt : i < fs.length := by omega
    have ih := few_l0 lv fs o hl d (i + 1) (by omega)
    rw [List.drop_eq_getElem_cons hlt, List.all_cons]
    have hs : ∀ k, coronerref31_Few.l0 (k + 1) (i : Int) lv fs o = if (fs[i].f6.length : Int) > 100 then some false else coronerref31_Few.l0 k ((i + 1 : Nat) : Int) lv fs o := fun k => by
      simp only [coronerref31_Few.l0]
      rw [if_pos (by omega), if_pos (by omega), rd44 hlt, wrapS hlt hl]
    by_cases h1 : fs[i].f6.length ≤ 100
    · rw [decide_eq_true h1, Bool.true_and]
      exact Ev.step (fun k => by rw [hs, if_neg (by omega)]) ih
    · rw [decide_eq_false h1, Bool.false_and]
      exact Ev.step (f := fun _ => some false) (fun k => by rw [hs, if_pos (by omega)]) (Ev.now _)
theorem few_ev (lv : Int) (fs : List Fi) (o : List Int) : Ev (fun k => coronerref31_Few.f k lv fs o) (fewP fs o) := by
  have ht : Ev (fun k => coronerref31_Few.j0 k true lv fs o) false := Ev.step (f := fun _ => some false) (fun k => by simp only [coronerref31_Few.j0]; rw [if_pos trivial]) (Ev.now _)
  unfold coronerref31_Few.f fewP
  by_cases h1 : fs.length ≤ 60
  · by_cases h2 : o.length ≤ 300
    · have h := few_l0 lv fs o (by unfold big; omega) fs.length 0 (by omega)
      rw [List.drop_zero] at h
      rw [decide_eq_true h1, decide_eq_true h2, Bool.true_and, Bool.true_and]
      refine Ev.congr (f := fun k => coronerref31_Few.j0 k false lv fs o) (fun k => by rw [if_neg (by omega), decide_eq_false (by omega)]) (Ev.step (fun k => ?_) h)
      simp only [coronerref31_Few.j0]
      rw [if_neg (by decide)]; rfl
    · rw [decide_eq_false h2, Bool.and_false, Bool.false_and]
      exact Ev.congr (fun k => by rw [if_neg (by omega), decide_eq_true (by omega)]) ht
  · rw [decide_eq_false h1, Bool.false_and, Bool.false_and]
    exact Ev.congr (fun k => by rw [if_pos (by omega)]) ht
section
variable {lv : Int} {fs : List Fi} {o : List Int} {A1 A2 : Option Addr} {c1 c2 : Nat}
theorem few_c (w : World) (h1 : Kd.C k44 w A1 fs.length fs) (g1 : fs.length ≤ c1) (h2 : (Kd.int .i64).C w A2 o.length o) (g2 : o.length ≤ c2) :
    Calls Try.prog 7 #[.agg #[.int .i64 lv, .slice A1 fs.length c1, .slice A2 o.length c2]] w fun e w' => e = .returned (.bool (fewP fs o)) ∧ Below w.heap.size w w' := by
  obtain ⟨K, hK⟩ := (few_ev lv fs o).rounds
  exact coronerref31_Few.calls K lv A1 c1 fs A2 c2 o _ w h1 g1 h2 g2 hK
theorem rprt_c (w : World) (h1 : Kd.C k44 w A1 fs.length fs) (g1 : fs.length ≤ c1) (h2 : (Kd.int .i64).C w A2 o.length o) (g2 : o.length ≤ c2) (hl : fs.length ≤ big) (ho : o.length ≤ big) (hc : ∀ f ∈ fs, f.f6.length ≤ big) :
    Calls Try.prog 10 #[.agg #[.int .i64 lv, .slice A1 fs.length c1, .slice A2 o.length c2]] w fun e w' => e = .returned (.tuple #[.string (if okRep lv fs o = true then strOfNums (repT lv fs o) else (⟨#[]⟩ : ByteArray)), .int .i64 (chk lv fs o)]) ∧ Below w.heap.size w w' := by
  obtain ⟨K, hK⟩ := (rprt_ev lv fs o hl ho hc).rounds
  exact coronerref31_Print.calls K lv A1 c1 fs A2 c2 o _ _ w h1 g1 h2 g2 hK
theorem rchk_c (w : World) (h1 : Kd.C k44 w A1 fs.length fs) (g1 : fs.length ≤ c1) (h2 : (Kd.int .i64).C w A2 o.length o) (g2 : o.length ≤ c2) (hl : fs.length ≤ big) (ho : o.length ≤ big) (hc : ∀ f ∈ fs, f.f6.length ≤ big) :
    Calls Try.prog 15 #[.agg #[.int .i64 lv, .slice A1 fs.length c1, .slice A2 o.length c2]] w fun e w' => e = .returned (.int .i64 (chk lv fs o)) ∧ Below w.heap.size w w' := by
  obtain ⟨K, hK⟩ := (rchk_ev lv fs o hl ho hc).rounds
  exact coronerref31_Check.calls K lv A1 c1 fs A2 c2 o _ w h1 g1 h2 g2 hK
/-- Print, its answer in one form. -/
theorem prt_c (w : World) (h1 : Kd.C k44 w A1 fs.length fs) (h2 : (Kd.int .i64).C w A2 o.length o) (hl : fs.length ≤ 1000000000) (ho : o.length ≤ 1000000000) :
    Calls Try.prog 9 #[.agg #[.int .i64 lv, .slice A1 fs.length c1, .slice A2 o.length c2]] w fun e w' => e = .returned (.tuple #[.string (if okRep lv fs o = true then strOfNums (repT lv fs o) else (⟨#[]⟩ : ByteArray)), .int .i64 (chk lv fs o)]) ∧ Below w.heap.size w w' := by
  refine (print_rc lv fs o A1 c1 A2 c2 w h1 h2 hl ho).mono ?_
  rintro e w' ⟨he, hb⟩
  refine ⟨?_, hb⟩
  rw [he]
  unfold chk
  split <;> rfl
end
end Go.Proofs.Ytkoddmedhnhgiaa.Rp
