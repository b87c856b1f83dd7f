/- Printed by shake.py. -/
import Derived.Test.YtkoddmedhnhgiaaRg27
import Derived.Test.YtkoddmedhnhgiaaRg28
import Derived.Test.YtkoddmedhnhgiaaRg21
import Derived.Test.YtkoddmedhnhgiaaRg29
import Derived.Test.YtkoddmedhnhgiaaRg30
import Derived.Test.YtkoddmedhnhgiaaRg31
import Derived.Test.YtkoddmedhnhgiaaRg26
set_option linter.unusedSimpArgs false
namespace Go.Proofs.Ytkoddmedhnhgiaa.Rp
open Go.RowKit Go.Lib Go.Proofs.Ytkoddmedhnhgiaa.PReportBack Go.Proofs.YtkoddmedhnhgiaaW.PrintWords Go.Proofs.YtkoddmedhnhgiaaW.PrintLast
set_option linter.unusedVariables false
theorem loop_all {P : Program} {w : World} (body : Nat → Option Bool × Unit → Sem (ForInStep (Option Bool × Unit))) (r : Nat → Bool) : ∀ (is : List Nat), (∀ i ∈ is, (body i (none, ())).run P w = .ok (if r i = false then .done (some false, ()) else .yield (none, ())) w) →
 (forIn is ((none : Option Bool), ()) body).run P w = .ok (if is.all r = true then (none, ()) else (some false, ())) w
 | [], _ => by simp [Sem.run_pure]
 | i :: is, h => by
  have h1 := h i (List.mem_cons_self)
  rw [List.forIn_cons, Sem.run_bind, h1, Result.andThen_ok]
  cases hr : r i with
  | false => simp [hr, Sem.run_pure]
  | true =>
   have ih := loop_all body r is (fun j hj => h j (List.mem_cons_of_mem _ hj))
   simp [hr, ih]
def alike (l m : List Int) : Bool := decide (l = m)
theorem eqSix (d : Nat) (w : World) (x0 y0 : Int) (x1 y1 : Int) (x2 y2 : Int) (x3 y3 : Int) (x4 y4 : Int) (x5 y5 : Int) :
 (Op.equalIn (d + 2) 46 (.agg #[.int .i64 x0, .int .i64 x1, .int .i64 x2, .int .i64 x3, .int .i64 x4, .int .i64 x5]) (.agg #[.int .i64 y0, .int .i64 y1, .int .i64 y2, .int .i64 y3, .int .i64 y4, .int .i64 y5])).run Try.prog w = .ok (alike [x0, x1, x2, x3, x4, x5] [y0, y1, y2, y3, y4, y5]) w := by
 unfold alike
 have hI : ∀ (a b : Int) (w : World), (Op.equalIn (d + 1) 3 (.int .i64 a) (.int .i64 b)).run Try.prog w = .ok (a == b) w := fun a b w => by go_simp
 have hs : (sizeOf 3).run Try.prog w = .ok 1 w := by go_simp
 have hp : ∀ (a b c d e f : Int) (i : Nat), i < 6 → (part 3 #[.int .i64 a, .int .i64 b, .int .i64 c, .int .i64 d, .int .i64 e, .int .i64 f] i).run Try.prog w = .ok (.int .i64 ([a, b, c, d, e, f].getD i 0)) w := by
  intro a b c d e f i hi
  rcases (by omega : i = 0 ∨ i = 1 ∨ i = 2 ∨ i = 3 ∨ i = 4 ∨ i = 5) with rfl | rfl | rfl | rfl | rfl | rfl <;> (go_simp; try rfl)
 rw [Op.equalIn]
 simp only [Sem.run_bind, run_underlying Try.underlying46, Result.andThen_ok, hs, Std.Legacy.Range.forIn_eq_forIn_range', Std.Legacy.Range.size, Nat.sub_zero, Nat.add_one_sub_one, Nat.div_one]
 rw [loop_all _ (fun i => ([x0, x1, x2, x3, x4, x5].getD i 0) == ([y0, y1, y2, y3, y4, y5].getD i 0)) _ (by
  intro i hi
  have hi6 : i < 6 := by simp at hi; omega
  simp only [Sem.run_bind, Nat.mul_one, hp _ _ _ _ _ _ i hi6, hI, Result.andThen_ok]
  cases (([x0, x1, x2, x3, x4, x5].getD i 0) == ([y0, y1, y2, y3, y4, y5].getD i 0)) <;> simp [Sem.run_pure])]
 have e : (List.range' 0 6 1).all (fun i => ([x0, x1, x2, x3, x4, x5].getD i 0) == ([y0, y1, y2, y3, y4, y5].getD i 0)) = decide ([x0, x1, x2, x3, x4, x5] = [y0, y1, y2, y3, y4, y5]) := by
  rw [Bool.eq_iff_iff, decide_eq_true_iff]
  simp [List.range']
 rw [e]
 cases decide ([x0, x1, x2, x3, x4, x5] = [y0, y1, y2, y3, y4, y5]) <;> simp [Sem.run_pure]
end Go.Proofs.Ytkoddmedhnhgiaa.Rp
set_option linter.unusedSimpArgs false
namespace Go.Proofs.Ytkoddmedhnhgiaa.Rp
open Go.RowKit Go.Lib Go.Proofs.Ytkoddmedhnhgiaa.PReportBack Go.Proofs.YtkoddmedhnhgiaaW.PrintWords Go.Proofs.YtkoddmedhnhgiaaW.PrintLast
set_option linter.unusedVariables false
def eqL {α : Type} (R : α → α → Bool) : List α → List α → Bool
 | [], [] => true
 | x :: xs, y :: ys => R x y && eqL R xs ys
 | _, _ => false
def eqE (x y : Ed) : Bool := alike (nE x) (nE y)
def eqF (x y : Fi) : Bool := alike (nF x) (nF y) && eqL eqE x.f6 y.f6
section
variable {α : Type} {R : α → α → Bool}
theorem eqL_len : ∀ {xs ys : List α}, xs.length ≠ ys.length → eqL R xs ys = false
 | [], [], h => absurd rfl h
 | [], _ :: _, _ => rfl
 | _ :: _, [], _ => rfl
 | x :: xs, y :: ys, h => by
  unfold eqL
  rw [eqL_len (xs := xs) (ys := ys) (fun e => h (by simp [e])), Bool.and_false]
theorem eqL_drop {xs ys : List α} {k : Nat} (hx : k < xs.length) (hy : k < ys.length) : eqL R (xs.drop k) (ys.drop k) = (R xs[k] ys[k] && eqL R (xs.drop (k + 1)) (ys.drop (k + 1))) := by
 rw [List.drop_eq_getElem_cons hx, List.drop_eq_getElem_cons hy]
 rfl
theorem eqL_end {xs ys : List α} {k : Nat} (h : xs.length = ys.length) (hk : xs.length ≤ k) : eqL R (xs.drop k) (ys.drop k) = true := by
 rw [List.drop_eq_nil_of_le hk, List.drop_eq_nil_of_le (by omega)]
 rfl
theorem eqL_iff (hR : ∀ x y, R x y = true ↔ x = y) : ∀ {xs ys : List α}, eqL R xs ys = true ↔ xs = ys
 | [], [] => by simp [eqL]
 | [], _ :: _ => by simp [eqL]
 | _ :: _, [] => by simp [eqL]
 | x :: xs, y :: ys => by rw [eqL, Bool.and_eq_true, hR, eqL_iff hR, List.cons.injEq]
end
theorem alike_iff {l m : List Int} : alike l m = true ↔ l = m := decide_eq_true_iff
theorem eqE_iff (x y : Ed) : eqE x y = true ↔ x = y := by
 obtain ⟨a, b, c, d, e, f⟩ := x
 obtain ⟨a', b', c', d', e', f'⟩ := y
 unfold eqE
 rw [alike_iff]
 simp [nE]
theorem eqF_iff (x y : Fi) : eqF x y = true ↔ x = y := by
 obtain ⟨a, b, c, d, e, f, g⟩ := x
 obtain ⟨a', b', c', d', e', f', g'⟩ := y
 unfold eqF
 rw [Bool.and_eq_true, alike_iff, eqL_iff eqE_iff]
 simp [nF]
 constructor
 ·rintro ⟨⟨h1, h2, h3, h4, h5, h6⟩, h7⟩; exact ⟨h1, h2, h3, h4, h5, h6, h7⟩
 ·rintro ⟨h1, h2, h3, h4, h5, h6, h7⟩; exact ⟨⟨h1, h2, h3, h4, h5, h6⟩, h7⟩
theorem rd49 {l : List Ed} {i : Nat} (h : i < l.length) : rd_T49 l (i : Int) = l[i] := by
 simp [rd_T49, List.getD_eq_getElem?_getD, List.getElem?_eq_getElem h]
theorem rd44 {l : List Fi} {i : Nat} (h : i < l.length) : rd_T44 l (i : Int) = l[i] := by
 simp [rd_T44, List.getD_eq_getElem?_getD, List.getElem?_eq_getElem h]
theorem wrapS {i n : Nat} (h : i < n) (hn : n ≤ big) : wrap64 ((i : Int) + 1) = ((i + 1 : Nat) : Int) := by unfold big at hn; unfold wrap64; omega
theorem edge_b (x y : Ed) : (!((x.f0) == (y.f0)) || (!((x.f1) == (y.f1)) || (!((x.f2) == (y.f2)) || (!((x.f3) == (y.f3)) || (!((x.f4) == (y.f4)) || (!((x.f5) == (y.f5)))))))) = !eqE x y := by
 obtain ⟨a, b, c, d, e, f⟩ := x
 obtain ⟨a', b', c', d', e', f'⟩ := y
 rw [Bool.eq_iff_iff]
 unfold eqE
 rw [Bool.not_eq_true', ← Bool.not_eq_true, alike_iff]
 simp [nE]
 constructor
 ·intro h h1 h2 h3 h4 h5
  rcases h with h | h | h | h | h | h
  ·exact absurd h1 h
  ·exact absurd h2 h
  ·exact absurd h3 h
  ·exact absurd h4 h
  ·exact absurd h5 h
  ·exact h
 ·intro h
  by_cases h1 : a = a'
  ·by_cases h2 : b = b'
   ·by_cases h3 : c = c'
    ·by_cases h4 : d = d'
     ·by_cases h5 : e = e'
      ·exact .inr (.inr (.inr (.inr (.inr (h h1 h2 h3 h4 h5)))))
      ·exact .inr (.inr (.inr (.inr (.inl h5))))
     ·exact .inr (.inr (.inr (.inl h4)))
    ·exact .inr (.inr (.inl h3))
   ·exact .inr (.inl h2)
  ·exact .inl h1
theorem edge_l0 {l m : List Ed} (hlm : l.length = m.length) (hb : l.length ≤ big) : ∀ (n k : Nat), l.length - k < n → k ≤ l.length → api_Edge.l0 n l m (l.length : Int) (k : Int) = some (eqL eqE (l.drop k) (m.drop k))
 | 0, _, h, _ => absurd h (Nat.not_lt_zero _)
 | n + 1, k, h, hk => by
  unfold api_Edge.l0
  by_cases hlt : k < l.length
  ·have hm : k < m.length := by omega
   rw [if_pos (show (k : Int) < (l.length : Int) by omega), if_pos (show (0 : Int) ≤ k by omega), if_pos (show (k : Int) < (l.length : Int) by omega), if_pos (show (k : Int) < (m.length : Int) by omega), rd49 hlt, rd49 hm, edge_b, eqL_drop hlt hm]
   cases hq : eqE l[k] m[k] with
   | true => rw [if_neg (by simp), wrapS hlt hb, edge_l0 hlm hb n (k + 1) (by omega) (by omega), Bool.true_and]
   | false => rw [if_pos (by simp), Bool.false_and]
  ·rw [if_neg (show ¬ (k : Int) < (l.length : Int) by omega), eqL_end hlm (by omega)]
theorem edge_f {l m : List Ed} (hb : l.length ≤ big) : api_Edge.f (l.length + 1) l m = some (eqL eqE l m) := by
 unfold api_Edge.f
 by_cases h : l.length = m.length
 ·rw [if_pos (by omega)]
  have := edge_l0 h hb (l.length + 1) 0 (by omega) (by omega)
  simpa using this
 ·rw [if_neg (by omega), eqL_len h]
theorem ints_f {l m : List Int} (hb : l.length ≤ big) : ∃ k, slices_Equal_int_int.f k l m = some (alike l m) := by
 have key : l.length = m.length → ∀ (n k : Nat), l.length - k < n → k ≤ l.length → slices_Equal_int_int.l0 n l m (l.length : Int) (k : Int) = some (alike (l.drop k) (m.drop k)) := by
  intro hlm n
  induction n with
  | zero => intro k h; exact absurd h (Nat.not_lt_zero _)
  | succ n ih =>
   intro k h hk
   unfold slices_Equal_int_int.l0
   by_cases hlt : k < l.length
   ·have hm : k < m.length := by omega
    have ih1 := ih (k + 1) (by omega) (by omega)
    rw [← wrapS hlt hb] at ih1
    simp only [show (k : Int) < (l.length : Int) by omega, show (0 : Int) ≤ k by omega, show (k : Int) < (m.length : Int) by omega, if_true, rdI hlt, rdI hm, ih1]
    unfold alike
    rw [List.drop_eq_getElem_cons hlt, List.drop_eq_getElem_cons hm]
    generalize l[k] = a
    generalize m[k] = b
    generalize l.drop (k + 1) = L
    generalize m.drop (k + 1) = M
    by_cases hq : a = b
    ·simp [hq]
    ·simp [hq]
   ·rw [if_neg (show ¬ (k : Int) < (l.length : Int) by omega), List.drop_eq_nil_of_le (by omega), List.drop_eq_nil_of_le (by omega)]
    rfl
 refine ⟨l.length + 1, ?_⟩
 unfold slices_Equal_int_int.f
 by_cases h : l.length = m.length
 ·rw [if_pos (by omega)]
  have := key h (l.length + 1) 0 (by omega) (by omega)
  simpa using this
 ·rw [if_neg (by omega)]
  unfold alike
  rw [decide_eq_false (fun e => h (by rw [e]))]
def RgSfT.T : Bool × List (List Nat × List Nat) := (true, [([], []), ([0], [0]), ([], []), ([2, 1], [2]), ([1, 3], [1, 3]), ([4, 3], [4]), ([5], [5]), ([6, 5], [5, 6]), ([5], [5]), ([8, 5], [5, 8]), ([7, 9, 5, 5], [5, 7, 9]), ([5, 10], [5, 10]), ([11, 10, 0, 1, 2, 3, 4, 5, 6, 7, 8, 9, 10, 11], [11])])
def RgSfT.B : List Nat := [0, 1, 0, 7, 15, 31, 63, 127, 63, 319, 1023, 2047, 4095]
theorem RgSfT.tab : rtab .any (opsOf Try.f43 1) = RgSfT.T := by kernel_rfl
theorem RgSfT.bits : waitsOk RgSfT.T.2 RgSfT.B = true := by kernel_rfl
def RgSfF.T : Bool × List (List Nat × List Nat) := (true, [([], []), ([0], [0]), ([], []), ([2, 1], [2]), ([1, 3], [1, 3]), ([4, 3], [4]), ([5], [5]), ([6, 5], [5, 6]), ([5], [5]), ([8, 5], [5, 8]), ([7, 9, 5, 5], [5, 7, 9]), ([5, 10], [5, 10]), ([11, 10, 0, 1, 2, 3, 4, 5, 6, 7, 8, 9, 10, 11], [11])])
def RgSfF.B : List Nat := [0, 1, 0, 7, 15, 31, 63, 127, 63, 319, 1023, 2047, 4095]
theorem RgSfF.tab : rtab .any (opsOf Try.f43 1) = RgSfF.T := by kernel_rfl
theorem RgSfF.bits : waitsOk RgSfF.T.2 RgSfF.B = true := by kernel_rfl
attribute [local go_sem high] eqSix
set_option maxHeartbeats 8000000 in
set_option maxRecDepth 100000 in
theorem sameF_c (w : World) (x y : Fi) (A B : Option Addr) (c d : Nat) (hc : x.f6.length ≤ c) (hd : y.f6.length ≤ d) (hx : Kd.C k49 w A x.f6.length x.f6) (hy : Kd.C k49 w B y.f6.length y.f6) (hb : x.f6.length ≤ big) :
 Calls Try.prog 43 #[.agg (cF x (.slice A x.f6.length c)), .agg (cF y (.slice B y.f6.length d))] w fun e w' => e = .returned (.bool (eqF x y)) ∧ Below w.heap.size w w' := by
 have hox := fun W => ofF_c x (.slice A x.f6.length c) W
 have hoy := fun W => ofF_c y (.slice B y.f6.length d) W
 have hee : ∀ W, Below w.heap.size w W → Calls Try.prog 61 #[.slice A x.f6.length c, .slice B y.f6.length d] W fun e w' => e = .returned (.bool (eqL eqE x.f6 y.f6)) ∧ Below W.heap.size W w' := fun W hW =>
  (api_Edge.calls (x.f6.length + 1) A c x.f6 B d y.f6 _ W (Kd.C_below hx hW) hc (Kd.C_below hy hW) hd (edge_f hb)).mono fun e w' ⟨h1, h2⟩ => ⟨h1, drawn_bel h2⟩
 obtain ⟨x0, x1, x2, x3, x4, x5, x6⟩ := x
 obtain ⟨y0, y1, y2, y3, y4, y5, y6⟩ := y
 unfold cF six nF at *
 unfold eqF nF
 simp only at *
 generalize x6.length = n6 at *
 generalize y6.length = m6 at *
 generalize eqL eqE x6 y6 = q at *
 clear hx hy hb hc hd
 obtain ⟨w2, hw2⟩ : ∃ w2, w2 = (w.alloc (.cells #[.int .i64 x0, .int .i64 x1, .int .i64 x2, .int .i64 x3, .int .i64 x4, .int .i64 x5, .slice A n6 c] 44)).alloc (.cells #[.int .i64 y0, .int .i64 y1, .int .i64 y2, .int .i64 y3, .int .i64 y4, .int .i64 y5, .slice B m6 d] 44) := ⟨_, rfl⟩
 have HB2 : Hid (Below w.heap.size w w2) := Lib.hid (by rw [hw2]; exact ((Below.refl _ _).alloc (Nat.le_refl _) _).alloc (by simp) _)
 have hbx : Blk w2 w.heap.size [.int .i64 x0, .int .i64 x1, .int .i64 x2, .int .i64 x3, .int .i64 x4, .int .i64 x5, .slice A n6 c] 44 := by rw [hw2]; exact (Blk.new w _ _).alloc _
 have hby : Blk w2 (w.heap.size + 1) [.int .i64 y0, .int .i64 y1, .int .i64 y2, .int .i64 y3, .int .i64 y4, .int .i64 y5, .slice B m6 d] 44 := by
  have h := Blk.new (w.alloc (.cells #[.int .i64 x0, .int .i64 x1, .int .i64 x2, .int .i64 x3, .int .i64 x4, .int .i64 x5, .slice A n6 c] 44)) [.int .i64 y0, .int .i64 y1, .int .i64 y2, .int .i64 y3, .int .i64 y4, .int .i64 y5, .slice B m6 d] 44
  rw [World.size_alloc] at h
  rw [hw2]; exact h
 have FX : Hid (∀ W, Below w2.heap.size w2 W → W.cell? ⟨w.heap.size, 0, none⟩ = some (.int .i64 x0) ∧ W.cell? ⟨w.heap.size, 1, none⟩ = some (.int .i64 x1) ∧ W.cell? ⟨w.heap.size, 2, none⟩ = some (.int .i64 x2) ∧ W.cell? ⟨w.heap.size, 3, none⟩ = some (.int .i64 x3) ∧ W.cell? ⟨w.heap.size, 4, none⟩ = some (.int .i64 x4) ∧ W.cell? ⟨w.heap.size, 5, none⟩ = some (.int .i64 x5) ∧ W.cell? ⟨w.heap.size, 6, none⟩ = some (.slice A n6 c) ∧
  W.cell? ⟨w.heap.size + 1, 0, none⟩ = some (.int .i64 y0) ∧ W.cell? ⟨w.heap.size + 1, 1, none⟩ = some (.int .i64 y1) ∧ W.cell? ⟨w.heap.size + 1, 2, none⟩ = some (.int .i64 y2) ∧ W.cell? ⟨w.heap.size + 1, 3, none⟩ = some (.int .i64 y3) ∧ W.cell? ⟨w.heap.size + 1, 4, none⟩ = some (.int .i64 y4) ∧ W.cell? ⟨w.heap.size + 1, 5, none⟩ = some (.int .i64 y5) ∧ W.cell? ⟨w.heap.size + 1, 6, none⟩ = some (.slice B m6 d)) := Lib.hid fun W hW => by
  have h1 := hbx.below hW hbx.lt
  have h2 := hby.below hW hby.lt
  exact ⟨(h1.cell 0).trans rfl, (h1.cell 1).trans rfl, (h1.cell 2).trans rfl, (h1.cell 3).trans rfl, (h1.cell 4).trans rfl, (h1.cell 5).trans rfl, (h1.cell 6).trans rfl, (h2.cell 0).trans rfl, (h2.cell 1).trans rfl, (h2.cell 2).trans rfl, (h2.cell 3).trans rfl, (h2.cell 4).trans rfl, (h2.cell 5).trans rfl, (h2.cell 6).trans rfl⟩
 have HOX : Hid (∀ W, Below w2.heap.size w2 W → Calls Try.prog 18 #[.agg #[.int .i64 x0, .int .i64 x1, .int .i64 x2, .int .i64 x3, .int .i64 x4, .int .i64 x5, .slice A n6 c]] W fun e w' => e = .returned (.agg #[.int .i64 x0, .int .i64 x1, .int .i64 x2, .int .i64 x3, .int .i64 x4, .int .i64 x5]) ∧ Below w2.heap.size w2 w') := Lib.hid fun W hW => (hox W).mono fun e w' ⟨h1, h2⟩ => ⟨h1, hW.trans (h2.mono hW.size)⟩
 have HOY : Hid (∀ W, Below w2.heap.size w2 W → Calls Try.prog 18 #[.agg #[.int .i64 y0, .int .i64 y1, .int .i64 y2, .int .i64 y3, .int .i64 y4, .int .i64 y5, .slice B m6 d]] W fun e w' => e = .returned (.agg #[.int .i64 y0, .int .i64 y1, .int .i64 y2, .int .i64 y3, .int .i64 y4, .int .i64 y5]) ∧ Below w2.heap.size w2 w') := Lib.hid fun W hW => (hoy W).mono fun e w' ⟨h1, h2⟩ => ⟨h1, hW.trans (h2.mono hW.size)⟩
 have HEE : Hid (∀ W, Below w2.heap.size w2 W → Calls Try.prog 61 #[.slice A n6 c, .slice B m6 d] W fun e w' => e = .returned (.bool q) ∧ Below w2.heap.size w2 w') := Lib.hid fun W hW => (hee W (HB2.out.trans (hW.mono HB2.out.size))).mono fun e w' ⟨h1, h2⟩ => ⟨h1, hW.trans (h2.mono hW.size)⟩
 clear hox hoy hee hbx hby
 cases hq : alike [x0, x1, x2, x3, x4, x5] [y0, y1, y2, y3, y4, y5] with
 | true =>
  rw [Bool.true_and]
  go_enter Try.func43, Try.ntmps43
  go_wp2_with fail
  rw [← hw2]
  clear hw2
  refine start_ (n := 13) (S := fun W => Below w2.heap.size w2 W) (ds := []) #[false, false, false, false, false, false, false, false, false, false, false, false, false] (by kernel_rfl) rfl rfl (Below.refl w2.heap.size w2).drew (fun hHeld => ?_)
  refine with_tabW RgSfT.tab RgSfT.bits (fun HT_ HW_ => ?_)
  refine take_ (i := 0) (N := some 5) (v := ?_) (a' := ?_) #[true, false, false, false, false, false, false, false, false, false, false, false, false] rfl rfl (take_ofW HT_.out HW_.out (by kernel_rfl)) (fun _ _ _ h => h) (Or.inl ⟨by rfl, ?_⟩) hHeld ?_ ?_
  rotate_left
  ·intro w' hW
   obtain ⟨a0_, a1_, a2_, a3_, a4_, a5_, a6_, b0_, b1_, b2_, b3_, b4_, b5_, b6_⟩ := FX.out w' hW
   go_simp
   with_reducible rfl
  rotate_left
  ·simp only [Act.put, List.setIfInBounds_toArray, List.set_cons_zero, List.set_cons_succ, i64_w, i32_w]
   rfl
  refine take_ (i := 2) (N := some 7) (v := ?_) (a' := ?_) #[true, false, true, false, false, false, false, false, false, false, false, false, false] rfl rfl (take_ofW HT_.out HW_.out (by kernel_rfl)) (fun _ _ _ h => h) (Or.inl ⟨by rfl, ?_⟩) hHeld ?_ ?_
  rotate_left
  ·intro w' hW
   obtain ⟨a0_, a1_, a2_, a3_, a4_, a5_, a6_, b0_, b1_, b2_, b3_, b4_, b5_, b6_⟩ := FX.out w' hW
   go_simp
   with_reducible rfl
  rotate_left
  ·simp only [Act.put, List.setIfInBounds_toArray, List.set_cons_zero, List.set_cons_succ, i64_w, i32_w]
   rfl
  refine one_ (i := 1) (N := some 6) #[true, true, true, false, false, false, false, false, false, false, false, false, false] rfl rfl (one_of HT_.out (by kernel_rfl)) (by decide) (fun K hK => ?_)
  refine goes_ Try.func18 (by kernel_rfl) rfl #[.agg #[.int .i64 x0, .int .i64 x1, .int .i64 x2, .int .i64 x3, .int .i64 x4, .int .i64 x5, .slice A n6 c]] (by rfl) rfl rfl (by (try simp only [List.map_toArray, List.map_cons, List.map_nil]); first | done | rfl) ?_
  refine (HOX.out _ hHeld).mono ?_
  rintro e_ w_1 ⟨rfl, hH_⟩
  refine ⟨_, rfl, ?_⟩
  refine hK.out _ _ hH_ (fun hHeld => ?_)
  clear hK K hH_
  refine norm_ (a' := ?_) ?_ ?_
  rotate_left
  ·show Act.put _ (some 6) _ = _
   simp only [Act.put, List.setIfInBounds_toArray, List.set_cons_zero, List.set_cons_succ, i64_w, i32_w]
   rfl
  refine one_ (i := 3) (N := some 8) #[true, true, true, true, false, false, false, false, false, false, false, false, false] rfl rfl (one_of HT_.out (by kernel_rfl)) (by decide) (fun K hK => ?_)
  refine goes_ Try.func18 (by kernel_rfl) rfl #[.agg #[.int .i64 y0, .int .i64 y1, .int .i64 y2, .int .i64 y3, .int .i64 y4, .int .i64 y5, .slice B m6 d]] (by rfl) rfl rfl (by (try simp only [List.map_toArray, List.map_cons, List.map_nil]); first | done | rfl) ?_
  refine (HOY.out _ hHeld).mono ?_
  rintro e_ w_2 ⟨rfl, hH_⟩
  refine ⟨_, rfl, ?_⟩
  refine hK.out _ _ hH_ (fun hHeld => ?_)
  clear hK K hH_
  refine norm_ (a' := ?_) ?_ ?_
  rotate_left
  ·show Act.put _ (some 8) _ = _
   simp only [Act.put, List.setIfInBounds_toArray, List.set_cons_zero, List.set_cons_succ, i64_w, i32_w]
   rfl
  refine pure_ (i := 4) (N := some 9) (v := ?_) (a' := ?_) #[true, true, true, true, true, false, false, false, false, false, false, false, false] rfl rfl (any_of HT_.out (by kernel_rfl)) (fun _ _ _ h => h) (Or.inl ⟨by rfl, ?_⟩) ?_ ?_
  rotate_left
  ·intro w'
   go_simp
   with_reducible rfl
  rotate_left
  ·simp only [Act.put, List.setIfInBounds_toArray, List.set_cons_zero, List.set_cons_succ, i64_w, i32_w]
   rfl
  refine pure_ (i := 5) (N := some 10) (v := ?_) (a' := ?_) #[true, true, true, true, true, true, false, false, false, false, false, false, false] rfl rfl (any_of HT_.out (by kernel_rfl)) (fun _ _ _ h => h) (Or.inl ⟨by rfl, ?_⟩) ?_ ?_
  rotate_left
  ·intro w'
   go_simp
   with_reducible rfl
  rotate_left
  ·simp only [Act.put, List.setIfInBounds_toArray, List.set_cons_zero, List.set_cons_succ, i64_w, i32_w]
   rfl
  refine pure_ (i := 6) (N := some 11) (v := ?_) (a' := ?_) #[true, true, true, true, true, true, true, false, false, false, false, false, false] rfl rfl (any_of HT_.out (by kernel_rfl)) (fun _ _ _ h => h) (Or.inl ⟨by rfl, ?_⟩) ?_ ?_
  rotate_left
  ·intro w'
   go_simp
   with_reducible rfl
  rotate_left
  ·simp only [Act.put, List.setIfInBounds_toArray, List.set_cons_zero, List.set_cons_succ, i64_w, i32_w]
   rfl
  refine take_ (i := 7) (N := some 12) (v := ?_) (a' := ?_) #[true, true, true, true, true, true, true, true, false, false, false, false, false] rfl rfl (take_ofW HT_.out HW_.out (by kernel_rfl)) (fun _ _ _ h => h) (Or.inl ⟨by rfl, ?_⟩) hHeld ?_ ?_
  rotate_left
  ·intro w' hW
   obtain ⟨a0_, a1_, a2_, a3_, a4_, a5_, a6_, b0_, b1_, b2_, b3_, b4_, b5_, b6_⟩ := FX.out w' hW
   go_simp
   with_reducible rfl
  rotate_left
  ·simp only [Act.put, List.setIfInBounds_toArray, List.set_cons_zero, List.set_cons_succ, i64_w, i32_w]
   rfl
  refine pure_ (i := 8) (N := some 13) (v := ?_) (a' := ?_) #[true, true, true, true, true, true, true, true, true, false, false, false, false] rfl rfl (any_of HT_.out (by kernel_rfl)) (fun _ _ _ h => h) (Or.inl ⟨by rfl, ?_⟩) ?_ ?_
  rotate_left
  ·intro w'
   go_simp
   with_reducible rfl
  rotate_left
  ·simp only [Act.put, List.setIfInBounds_toArray, List.set_cons_zero, List.set_cons_succ, i64_w, i32_w]
   rfl
  refine take_ (i := 9) (N := some 14) (v := ?_) (a' := ?_) #[true, true, true, true, true, true, true, true, true, true, false, false, false] rfl rfl (take_ofW HT_.out HW_.out (by kernel_rfl)) (fun _ _ _ h => h) (Or.inl ⟨by rfl, ?_⟩) hHeld ?_ ?_
  rotate_left
  ·intro w' hW
   obtain ⟨a0_, a1_, a2_, a3_, a4_, a5_, a6_, b0_, b1_, b2_, b3_, b4_, b5_, b6_⟩ := FX.out w' hW
   go_simp
   with_reducible rfl
  rotate_left
  ·simp only [Act.put, List.setIfInBounds_toArray, List.set_cons_zero, List.set_cons_succ, i64_w, i32_w]
   rfl
  refine one_ (i := 10) (N := some 15) #[true, true, true, true, true, true, true, true, true, true, true, false, false] rfl rfl (one_of HT_.out (by kernel_rfl)) (by decide) (fun K hK => ?_)
  refine goes_ Try.func61 (by kernel_rfl) rfl #[.slice A n6 c, .slice B m6 d] (by rfl) rfl rfl (by (try simp only [List.map_toArray, List.map_cons, List.map_nil]); first | done | rfl) ?_
  refine (HEE.out _ hHeld).mono ?_
  rintro e_ w_3 ⟨rfl, hH_⟩
  refine ⟨_, rfl, ?_⟩
  refine hK.out _ _ hH_ (fun hHeld => ?_)
  clear hK K hH_
  refine norm_ (a' := ?_) ?_ ?_
  rotate_left
  ·show Act.put _ (some 15) _ = _
   simp only [Act.put, List.setIfInBounds_toArray, List.set_cons_zero, List.set_cons_succ, i64_w, i32_w]
   rfl
  refine pure_ (i := 11) (N := some 16) (v := ?_) (a' := ?_) #[true, true, true, true, true, true, true, true, true, true, true, true, false] rfl rfl (any_of HT_.out (by kernel_rfl)) (fun _ _ _ h => h) (Or.inl ⟨by rfl, ?_⟩) ?_ ?_
  rotate_left
  ·intro w'
   go_simp
   with_reducible rfl
  rotate_left
  ·simp only [Act.put, List.setIfInBounds_toArray, List.set_cons_zero, List.set_cons_succ, i64_w, i32_w]
   rfl
  refine pure_ (i := 12) (N := some 4) (v := ?_) (a' := ?_) #[true, true, true, true, true, true, true, true, true, true, true, true, true] rfl rfl (any_of HT_.out (by kernel_rfl)) (fun _ _ _ h => h) (Or.inl ⟨by rfl, ?_⟩) ?_ ?_
  rotate_left
  ·intro w'
   go_simp
   with_reducible rfl
  rotate_left
  ·simp only [Act.put, List.setIfInBounds_toArray, List.set_cons_zero, List.set_cons_succ, i64_w, i32_w]
   rfl
  refine done_ (done_of HT_.out (by kernel_rfl)) ?_
  go_wp2
  go_ret
  exact ⟨rfl, HB2.out.trans (hHeld.mono HB2.out.size)⟩
 | false =>
  rw [Bool.false_and]
  go_enter Try.func43, Try.ntmps43
  go_wp2_with fail
  rw [← hw2]
  clear hw2
  refine start_ (n := 13) (S := fun W => Below w2.heap.size w2 W) (ds := []) #[false, false, false, false, false, false, false, false, false, false, false, false, false] (by kernel_rfl) rfl rfl (Below.refl w2.heap.size w2).drew (fun hHeld => ?_)
  refine with_tabW RgSfF.tab RgSfF.bits (fun HT_ HW_ => ?_)
  refine take_ (i := 0) (N := some 5) (v := ?_) (a' := ?_) #[true, false, false, false, false, false, false, false, false, false, false, false, false] rfl rfl (take_ofW HT_.out HW_.out (by kernel_rfl)) (fun _ _ _ h => h) (Or.inl ⟨by rfl, ?_⟩) hHeld ?_ ?_
  rotate_left
  ·intro w' hW
   obtain ⟨a0_, a1_, a2_, a3_, a4_, a5_, a6_, b0_, b1_, b2_, b3_, b4_, b5_, b6_⟩ := FX.out w' hW
   go_simp
   with_reducible rfl
  rotate_left
  ·simp only [Act.put, List.setIfInBounds_toArray, List.set_cons_zero, List.set_cons_succ, i64_w, i32_w]
   rfl
  refine take_ (i := 2) (N := some 7) (v := ?_) (a' := ?_) #[true, false, true, false, false, false, false, false, false, false, false, false, false] rfl rfl (take_ofW HT_.out HW_.out (by kernel_rfl)) (fun _ _ _ h => h) (Or.inl ⟨by rfl, ?_⟩) hHeld ?_ ?_
  rotate_left
  ·intro w' hW
   obtain ⟨a0_, a1_, a2_, a3_, a4_, a5_, a6_, b0_, b1_, b2_, b3_, b4_, b5_, b6_⟩ := FX.out w' hW
   go_simp
   with_reducible rfl
  rotate_left
  ·simp only [Act.put, List.setIfInBounds_toArray, List.set_cons_zero, List.set_cons_succ, i64_w, i32_w]
   rfl
  refine one_ (i := 1) (N := some 6) #[true, true, true, false, false, false, false, false, false, false, false, false, false] rfl rfl (one_of HT_.out (by kernel_rfl)) (by decide) (fun K hK => ?_)
  refine goes_ Try.func18 (by kernel_rfl) rfl #[.agg #[.int .i64 x0, .int .i64 x1, .int .i64 x2, .int .i64 x3, .int .i64 x4, .int .i64 x5, .slice A n6 c]] (by rfl) rfl rfl (by (try simp only [List.map_toArray, List.map_cons, List.map_nil]); first | done | rfl) ?_
  refine (HOX.out _ hHeld).mono ?_
  rintro e_ w_1 ⟨rfl, hH_⟩
  refine ⟨_, rfl, ?_⟩
  refine hK.out _ _ hH_ (fun hHeld => ?_)
  clear hK K hH_
  refine norm_ (a' := ?_) ?_ ?_
  rotate_left
  ·show Act.put _ (some 6) _ = _
   simp only [Act.put, List.setIfInBounds_toArray, List.set_cons_zero, List.set_cons_succ, i64_w, i32_w]
   rfl
  refine one_ (i := 3) (N := some 8) #[true, true, true, true, false, false, false, false, false, false, false, false, false] rfl rfl (one_of HT_.out (by kernel_rfl)) (by decide) (fun K hK => ?_)
  refine goes_ Try.func18 (by kernel_rfl) rfl #[.agg #[.int .i64 y0, .int .i64 y1, .int .i64 y2, .int .i64 y3, .int .i64 y4, .int .i64 y5, .slice B m6 d]] (by rfl) rfl rfl (by (try simp only [List.map_toArray, List.map_cons, List.map_nil]); first | done | rfl) ?_
  refine (HOY.out _ hHeld).mono ?_
  rintro e_ w_2 ⟨rfl, hH_⟩
  refine ⟨_, rfl, ?_⟩
  refine hK.out _ _ hH_ (fun hHeld => ?_)
  clear hK K hH_
  refine norm_ (a' := ?_) ?_ ?_
  rotate_left
  ·show Act.put _ (some 8) _ = _
   simp only [Act.put, List.setIfInBounds_toArray, List.set_cons_zero, List.set_cons_succ, i64_w, i32_w]
   rfl
  refine pure_ (i := 4) (N := some 9) (v := ?_) (a' := ?_) #[true, true, true, true, true, false, false, false, false, false, false, false, false] rfl rfl (any_of HT_.out (by kernel_rfl)) (fun _ _ _ h => h) (Or.inl ⟨by rfl, ?_⟩) ?_ ?_
  rotate_left
  ·intro w'
   go_simp
   with_reducible rfl
  rotate_left
  ·simp only [Act.put, List.setIfInBounds_toArray, List.set_cons_zero, List.set_cons_succ, i64_w, i32_w]
   rfl
  refine pure_ (i := 5) (N := some 10) (v := ?_) (a' := ?_) #[true, true, true, true, true, true, false, false, false, false, false, false, false] rfl rfl (any_of HT_.out (by kernel_rfl)) (fun _ _ _ h => h) (Or.inl ⟨by rfl, ?_⟩) ?_ ?_
  rotate_left
  ·intro w'
   go_simp
   with_reducible rfl
  rotate_left
  ·simp only [Act.put, List.setIfInBounds_toArray, List.set_cons_zero, List.set_cons_succ, i64_w, i32_w]
   rfl
  refine pure_ (i := 6) (N := some 11) (v := undef) (a' := ?_) #[true, true, true, true, true, true, true, false, false, false, false, false, false] rfl rfl (any_of HT_.out (by kernel_rfl)) (fun _ _ _ h => h) (Or.inr ⟨by rfl, rfl⟩) ?_ ?_
  rotate_left
  ·simp only [Act.put, List.setIfInBounds_toArray, List.set_cons_zero, List.set_cons_succ, i64_w, i32_w]
   rfl
  refine pure_ (i := 7) (N := some 12) (v := undef) (a' := ?_) #[true, true, true, true, true, true, true, true, false, false, false, false, false] rfl rfl (any_of HT_.out (by kernel_rfl)) (fun _ _ _ h => h) (Or.inr ⟨by rfl, rfl⟩) ?_ ?_
  rotate_left
  ·simp only [Act.put, List.setIfInBounds_toArray, List.set_cons_zero, List.set_cons_succ, i64_w, i32_w]
   rfl
  refine pure_ (i := 8) (N := some 13) (v := undef) (a' := ?_) #[true, true, true, true, true, true, true, true, true, false, false, false, false] rfl rfl (any_of HT_.out (by kernel_rfl)) (fun _ _ _ h => h) (Or.inr ⟨by rfl, rfl⟩) ?_ ?_
  rotate_left
  ·simp only [Act.put, List.setIfInBounds_toArray, List.set_cons_zero, List.set_cons_succ, i64_w, i32_w]
   rfl
  refine pure_ (i := 9) (N := some 14) (v := undef) (a' := ?_) #[true, true, true, true, true, true, true, true, true, true, false, false, false] rfl rfl (any_of HT_.out (by kernel_rfl)) (fun _ _ _ h => h) (Or.inr ⟨by rfl, rfl⟩) ?_ ?_
  rotate_left
  ·simp only [Act.put, List.setIfInBounds_toArray, List.set_cons_zero, List.set_cons_succ, i64_w, i32_w]
   rfl
  refine pure_ (i := 10) (N := some 15) (v := undef) (a' := ?_) #[true, true, true, true, true, true, true, true, true, true, true, false, false] rfl rfl (any_of HT_.out (by kernel_rfl)) (fun _ _ _ h => h) (Or.inr ⟨by rfl, rfl⟩) ?_ ?_
  rotate_left
  ·simp only [Act.put, List.setIfInBounds_toArray, List.set_cons_zero, List.set_cons_succ, i64_w, i32_w]
   rfl
  refine pure_ (i := 11) (N := some 16) (v := ?_) (a' := ?_) #[true, true, true, true, true, true, true, true, true, true, true, true, false] rfl rfl (any_of HT_.out (by kernel_rfl)) (fun _ _ _ h => h) (Or.inl ⟨by rfl, ?_⟩) ?_ ?_
  rotate_left
  ·intro w'
   go_simp
   with_reducible rfl
  rotate_left
  ·simp only [Act.put, List.setIfInBounds_toArray, List.set_cons_zero, List.set_cons_succ, i64_w, i32_w]
   rfl
  refine pure_ (i := 12) (N := some 4) (v := ?_) (a' := ?_) #[true, true, true, true, true, true, true, true, true, true, true, true, true] rfl rfl (any_of HT_.out (by kernel_rfl)) (fun _ _ _ h => h) (Or.inl ⟨by rfl, ?_⟩) ?_ ?_
  rotate_left
  ·intro w'
   go_simp
   with_reducible rfl
  rotate_left
  ·simp only [Act.put, List.setIfInBounds_toArray, List.set_cons_zero, List.set_cons_succ, i64_w, i32_w]
   rfl
  refine done_ (done_of HT_.out (by kernel_rfl)) ?_
  go_wp2
  go_ret
  exact ⟨rfl, HB2.out.trans (hHeld.mono HB2.out.size)⟩
set_option maxHeartbeats 4000000 in
set_option maxRecDepth 100000 in
theorem equalF_c (w : World) (l m : List Fi) (A B : Option Addr) (c d : Nat) (hl : Kd.C k44 w A l.length l) (hm : Kd.C k44 w B m.length m) (hb : l.length ≤ big) (hbs : ∀ o ∈ l, o.f6.length ≤ big) :
 Calls Try.prog 42 #[.slice A l.length c, .slice B m.length d, .func (.func 43) #[] #[]] w fun e w' => e = .returned (.bool (eqL eqF l m)) ∧ Below w.heap.size w w' := by
 have e63 : ∀ args w, (callFunc 43 args).run Try.prog w = .ok (.enter 43 args) w := Go.Proofs.enters_of Try.func43 (by kernel_rfl) rfl
 by_cases hlen : l.length = m.length
 ·have HR := Lib.hid hl
  have HM := Lib.hid hm
  have HS := Lib.hid hbs
  obtain ⟨N, hN⟩ : ∃ N, l.length = N := ⟨_, rfl⟩
  have hNb : N ≤ 1152921504606846976 := by rw [← hN]; exact hb
  have HN := Lib.hid hN
  have HN2 : Hid (m.length = N) := Lib.hid (by omega)
  rw [hN] at HR
  rw [HN2.out] at HM
  clear hl hm hb hN hlen hbs
  rw [HN.out, HN2.out]
  obtain ⟨D, hD⟩ : ∃ D, eqL eqF l m = D := ⟨_, rfl⟩
  have HD := Lib.hid hD
  rw [hD]
  clear hD
  go_enter Try.func42, Try.ntmps42
  go_wp2
  go_loopw [7, 8, 9, 17] (fun _ _ _ v17 wr => ∃ k : Nat, k ≤ N ∧ v17 = .int .i64 k ∧ Aside (eqL eqF (l.drop k) (m.drop k) = D ∧ Below w.heap.size w wr)) (fun _ _ _ v17 _ => N - (intOf v17).toNat)
  case atStart => exact ⟨0, by omega, rfl, HD.out, Below.refl _ _⟩
  case round =>
   obtain ⟨k, hk, rfl, HA⟩ := hrel
   by_cases hlt : k < N
   ·have hkl : k < l.length := by rw [HN.out]; exact hlt
    have hkm : k < m.length := by rw [HN2.out]; exact hlt
    have hlti : (k : Int) < N := by omega
    obtain ⟨ad, A3, c3, rfl, x0, x1, x2, x3, x4, x5, x6, xl, xh⟩ := at_T44 HR.out (k : Int) (by omega) (by omega)
    obtain ⟨bd, B3, d3, rfl, y0, y1, y2, y3, y4, y5, y6, yl, yh⟩ := at_T44 HM.out (k : Int) (by omega) (by omega)
    rw [rd44 hkl] at x0 x1 x2 x3 x4 x5 x6 xl xh
    rw [rd44 hkm] at y0 y1 y2 y3 y4 y5 y6 yl yh
    rw [Int.toNat_natCast] at x0 x1 x2 x3 x4 x5 x6 y0 y1 y2 y3 y4 y5 y6
    replace x0 := pw_cell_below HA.out.2 x0
    replace x1 := pw_cell_below HA.out.2 x1
    replace x2 := pw_cell_below HA.out.2 x2
    replace x3 := pw_cell_below HA.out.2 x3
    replace x4 := pw_cell_below HA.out.2 x4
    replace x5 := pw_cell_below HA.out.2 x5
    replace x6 := pw_cell_below HA.out.2 x6
    replace y0 := fun o => pw_cell_below (below_alloc HA.out.2 o) y0
    replace y1 := fun o => pw_cell_below (below_alloc HA.out.2 o) y1
    replace y2 := fun o => pw_cell_below (below_alloc HA.out.2 o) y2
    replace y3 := fun o => pw_cell_below (below_alloc HA.out.2 o) y3
    replace y4 := fun o => pw_cell_below (below_alloc HA.out.2 o) y4
    replace y5 := fun o => pw_cell_below (below_alloc HA.out.2 o) y5
    replace y6 := fun o => pw_cell_below (below_alloc HA.out.2 o) y6
    have HE := Lib.hid HA.out.1
    rw [eqL_drop hkl hkm] at HE
    have HBW := Lib.hid HA.out.2
    have HC := Lib.hid (fun (W : World) (hW : Below w.heap.size w W) => sameF_c W l[k] m[k] A3 B3 c3 d3 xl yl (Kd.C_below xh hW) (Kd.C_below yh hW) (HS.out _ (List.getElem_mem hkl)))
    unfold cF at HC
    clear xh yh xl yl
    clear HA
    cases hxy : eqF l[k] m[k] with
    | true =>
     rw [hxy] at HC HE
     rw [Bool.true_and] at HE
     clear hxy
     generalize l[k] = x at *
     generalize m[k] = y at *
     go_wp2_with fail
     refine (HC.out _ (by repeat (first | exact HBW.out | apply below_alloc))).mono ?_
     rintro e w1 ⟨rfl, hb1⟩
     have HB1 := Lib.hid (link (below_alloc (below_alloc HBW.out _) _) hb1)
     clear hb1
     go_wp2
     go_roundw
     case rel => exact ⟨k + 1, by omega, by go_num, HE.out, HB1.out⟩
     case measure => simp [intOf]; omega
    | false =>
     rw [hxy] at HC HE
     rw [Bool.false_and] at HE
     clear hxy
     generalize l[k] = x at *
     generalize m[k] = y at *
     go_wp2_with fail
     refine (HC.out _ (by repeat (first | exact HBW.out | apply below_alloc))).mono ?_
     rintro e w1 ⟨rfl, hb1⟩
     have HB1 := Lib.hid (link (below_alloc (below_alloc HBW.out _) _) hb1)
     clear hb1
     go_wp2
     go_ret
     exact ⟨by rw [← HE.out]; rfl, HB1.out⟩
   ·have hlti : ¬ (k : Int) < N := by omega
    have HE := Lib.hid HA.out
    have hfin : eqL eqF (l.drop k) (m.drop k) = true := eqL_end (by rw [HN.out, HN2.out]) (by rw [HN.out]; omega)
    rw [hfin] at HE
    clear hfin HA
    go_wp2
    go_ret
    exact ⟨by rw [← HE.out.1]; rfl, HE.out.2⟩
 ·have e := eqL_len (R := eqF) hlen
  have hne : ((l.length : Int) != (m.length : Int)) = true := by simp; omega
  rw [e]
  generalize l.length = n1 at *
  generalize m.length = n2 at *
  clear hl hm
  go_enter Try.func42, Try.ntmps42
  go_wp2
  go_ret
  exact ⟨rfl, Below.refl _ _⟩
def eqRep (lv : Int) (fs : List Fi) (o : List Int) (lv' : Int) (fs' : List Fi) (o' : List Int) : Bool := decide (lv = lv') && (eqL eqF fs fs' && alike o o')
set_option maxHeartbeats 4000000 in
set_option maxRecDepth 100000 in
theorem same_c (w : World) (lv lv' : Int) (fs fs' : List Fi) (o o' : List Int) (A1 A2 B1 B2 : Option Addr) (c1 c2 d1 d2 : Nat) (h1 : Kd.C k44 w A1 fs.length fs) (h2 : (Kd.int .i64).C w A2 o.length o) (g1 : Kd.C k44 w B1 fs'.length fs') (g2 : (Kd.int .i64).C w B2 o'.length o') (hc2 : o.length ≤ c2) (hd2 : o'.length ≤ d2) (hb : fs.length ≤ big) (hbs : ∀ f ∈ fs, f.f6.length ≤ big) (hbo : o.length ≤ big) :
 Calls Try.prog 16 #[.agg #[.int .i64 lv, .slice A1 fs.length c1, .slice A2 o.length c2], .agg #[.int .i64 lv', .slice B1 fs'.length d1, .slice B2 o'.length d2]] w fun e w' => e = .returned (.bool (eqRep lv fs o lv' fs' o')) ∧ Below w.heap.size w w' := by
 have HB : Hid (Below w.heap.size w ((w.alloc (.cells #[.int .i64 lv, .slice A1 fs.length c1, .slice A2 o.length c2] 25)).alloc (.cells #[.int .i64 lv', .slice B1 fs'.length d1, .slice B2 o'.length d2] 25))) := Lib.hid (((Below.refl _ _).alloc (Nat.le_refl _) _).alloc (by simp) _)
 have HE := Lib.hid (fun (W : World) (hW : Below w.heap.size w W) => equalF_c W fs fs' A1 B1 c1 d1 (Kd.C_below h1 hW) (Kd.C_below g1 hW) hb hbs)
 have HI : Hid (∀ W, Below w.heap.size w W → Calls Try.prog 44 #[.slice A2 o.length c2, .slice B2 o'.length d2] W fun e w' => e = .returned (.bool (alike o o')) ∧ Below W.heap.size W w') := Lib.hid (fun W hW => by
  obtain ⟨k, hk⟩ := ints_f (l := o) (m := o') hbo
  exact (slices_Equal_int_int.calls k A2 c2 o B2 d2 o' _ W (Kd.C_below h2 hW) hc2 (Kd.C_below g2 hW) hd2 hk).mono fun e w' ⟨h1, h2⟩ => ⟨h1, drawn_bel h2⟩)
 unfold eqRep
 clear h1 h2 g1 g2 hc2 hd2 hb hbs hbo
 generalize fs.length = n1 at *
 generalize fs'.length = n2 at *
 generalize o.length = m1 at *
 generalize o'.length = m2 at *
 generalize eqL eqF fs fs' = q1 at *
 generalize alike o o' = q2 at *
 by_cases hl : lv = lv'
 ·subst hl
  rw [decide_eq_true rfl, Bool.true_and]
  cases q1 with
  | true =>
   rw [Bool.true_and]
   go_enter Try.func16, Try.ntmps16
   go_wp2_with fail
   refine (HE.out _ HB.out).mono ?_
   rintro e w1 ⟨rfl, hb1⟩
   have y0 := fun (b j : Nat) (v : Value) (h : World.cell? ((w.alloc (.cells #[.int .i64 lv, .slice A1 n1 c1, .slice A2 m1 c2] 25)).alloc (.cells #[.int .i64 lv, .slice B1 n2 d1, .slice B2 m2 d2] 25)) ⟨b, j, none⟩ = some v) => pw_cell_below hb1 h
   have z1 := y0 w.heap.size 2 (.slice A2 m1 c2) ((((Blk.new w [.int .i64 lv, .slice A1 n1 c1, .slice A2 m1 c2] 25).alloc _).cell 2).trans rfl)
   have z2 := y0 (w.heap.size + 1) 2 (.slice B2 m2 d2) (by have h := ((Blk.new (w.alloc (.cells #[.int .i64 lv, .slice A1 n1 c1, .slice A2 m1 c2] 25)) [.int .i64 lv, .slice B1 n2 d1, .slice B2 m2 d2] 25).cell 2).trans rfl; rw [World.size_alloc] at h; exact h)
   have HB1 := Lib.hid (link HB.out hb1)
   clear y0 hb1
   go_wp2_with fail
   refine (HI.out _ HB1.out).mono ?_
   rintro e w2 ⟨rfl, hb2⟩
   go_wp2
   go_ret
   exact ⟨rfl, link HB1.out hb2⟩
  | false =>
   rw [Bool.false_and]
   go_enter Try.func16, Try.ntmps16
   go_wp2_with fail
   refine (HE.out _ HB.out).mono ?_
   rintro e w1 ⟨rfl, hb1⟩
   go_wp2
   go_ret
   exact ⟨rfl, link HB.out hb1⟩
 ·have hd : (lv == lv') = false := by simp [hl]
  rw [decide_eq_false hl, Bool.false_and]
  clear hl
  go_enter Try.func16, Try.ntmps16
  go_wp2
  go_ret
  exact ⟨rfl, HB.out⟩
end Go.Proofs.Ytkoddmedhnhgiaa.Rp
namespace Go.Proofs.Ytkoddmedhnhgiaa.PReportBack
open Go.RowKit Go.Proofs.YtkoddmedhnhgiaaW.PrintWords Go.Proofs.YtkoddmedhnhgiaaW.PrintLast Go.Proofs.YtkoddmedhnhgiaaW.PrintMore
attribute [local go_sem] max2_int min2_int max_two min_two max_three min_three max_four min_four
set_option linter.unusedVariables false
set_option linter.unusedSimpArgs false
mutual
def coronerref01_Print.j0 : Nat → Int → Bool → Option (ByteArray × Int)
 | 0, _, _ => none
 | k + 1, x0, x10 => if x10 = true then (some ((⟨#[]⟩ : ByteArray), 2)) else (coronerref01_Print.l0 k x0 (⟨#[]⟩ : ByteArray))
def coronerref01_Print.l0 : Nat → Int → ByteArray → Option (ByteArray × Int)
 | 0, _, _ => none
 | k + 1, x0, x4 => if x0 > 9 then (if 0 ≤ (Int.tmod x0 10) then (if (Int.tmod x0 10) ≤ (wrap64 ((Int.tmod x0 10) + 1)) then (if (wrap64 ((Int.tmod x0 10) + 1)) ≤ 10 then (if ((⟨#[48, 49, 50, 51, 52, 53, 54, 55, 56, 57]⟩ : ByteArray).extract ((Int.tmod x0 10) : Int).toNat ((wrap64 ((Int.tmod x0 10) + 1)) : Int).toNat).size + x4.size ≤ 9223372036854775807 then (coronerref01_Print.l0 k (wrap64 (Int.tdiv x0 10)) (((⟨#[48, 49, 50, 51, 52, 53, 54, 55, 56, 57]⟩ : ByteArray).extract ((Int.tmod x0 10) : Int).toNat ((wrap64 ((Int.tmod x0 10) + 1)) : Int).toNat) ++ x4)) else (none)) else (none)) else (none)) else (none)) else (if 0 ≤ x0 then (if x0 ≤ (wrap64 (x0 + 1)) then (if (wrap64 (x0 + 1)) ≤ 10 then (if ((⟨#[48, 49, 50, 51, 52, 53, 54, 55, 56, 57]⟩ : ByteArray).extract (x0 : Int).toNat ((wrap64 (x0 + 1)) : Int).toNat).size + x4.size ≤ 9223372036854775807 then (some (((⟨#[48, 49, 50, 51, 52, 53, 54, 55, 56, 57]⟩ : ByteArray).extract (x0 : Int).toNat ((wrap64 (x0 + 1)) : Int).toNat) ++ x4, 0)) else (none)) else (none)) else (none)) else (none))
end
def coronerref01_Print.f (k : Nat) (a0 : Int) : Option (ByteArray × Int) := if a0 < 0 then (coronerref01_Print.j0 k a0 true) else (coronerref01_Print.j0 k a0 (decide (a0 > 2147483647)))
theorem coronerref01_Print.mono_l : ∀ k, (∀ y0 y1, LeO (coronerref01_Print.j0 k y0 y1) (coronerref01_Print.j0 (k + 1) y0 y1)) ∧ (∀ y0 y1, LeO (coronerref01_Print.l0 k y0 y1) (coronerref01_Print.l0 (k + 1) y0 y1))
 | 0 => ⟨fun _ _ r h => by simp [coronerref01_Print.j0] at h, fun _ _ r h => by simp [coronerref01_Print.l0] at h⟩
 | k + 1 => by
  obtain ⟨ih0, ih1⟩ := coronerref01_Print.mono_l k
  refine ⟨?_, ?_⟩
  ·intro y0 y1
   unfold coronerref01_Print.j0
   repeat' first
   | (with_reducible exact ih0 _ _)
   | (with_reducible exact ih1 _ _)
   | (with_reducible exact LeO.refl _)
   | (with_reducible exact LeO.none _)
   | (with_reducible refine LeO.ite ?_ ?_)
   | (with_reducible refine LeO.bind ?_ (fun _ => ?_))
   | exact ih0 _ _
   | exact ih1 _ _
   | exact LeO.none _
   | refine LeO.ite ?_ ?_
   | refine LeO.bind ?_ (fun _ => ?_)
  ·intro y0 y1
   unfold coronerref01_Print.l0
   repeat' first
   | (with_reducible exact ih0 _ _)
   | (with_reducible exact ih1 _ _)
   | (with_reducible exact LeO.refl _)
   | (with_reducible exact LeO.none _)
   | (with_reducible refine LeO.ite ?_ ?_)
   | (with_reducible refine LeO.bind ?_ (fun _ => ?_))
   | exact ih0 _ _
   | exact ih1 _ _
   | exact LeO.none _
   | refine LeO.ite ?_ ?_
   | refine LeO.bind ?_ (fun _ => ?_)
theorem coronerref01_Print.mono : ∀ a0 k, LeO (coronerref01_Print.f k a0) (coronerref01_Print.f (k + 1) a0) := by
 intro a0 k
 obtain ⟨ih0, ih1⟩ := coronerref01_Print.mono_l k
 unfold coronerref01_Print.f
 repeat' first
  | (with_reducible exact ih0 _ _)
  | (with_reducible exact ih1 _ _)
  | (with_reducible exact LeO.refl _)
  | (with_reducible exact LeO.none _)
  | (with_reducible refine LeO.ite ?_ ?_)
  | (with_reducible refine LeO.bind ?_ (fun _ => ?_))
  | exact ih0 _ _
  | exact ih1 _ _
  | exact LeO.none _
  | refine LeO.ite ?_ ?_
  | refine LeO.bind ?_ (fun _ => ?_)
def coronerref31_line.l0 : Nat → List Int → ByteArray → Int → Option (ByteArray)
 | 0, _, _, _ => none
 | k + 1, x1, x5, x6 => if x6 < (x1.length : Int) then (if 0 ≤ x6 then (if (rd x1 x6) ≥ 0 then ((coronerref01_Print.f k (rd x1 x6)).bind fun bt168 => (if x5.size + 1 ≤ 9223372036854775807 then (if (x5 ++ (⟨#[32]⟩ : ByteArray)).size + bt168.1.size ≤ 9223372036854775807 then (coronerref31_line.l0 k x1 ((x5 ++ (⟨#[32]⟩ : ByteArray)) ++ bt168.1) (wrap64 (x6 + 1))) else (none)) else (none))) else (if x5.size + 1 ≤ 9223372036854775807 then (if (x5 ++ (⟨#[32]⟩ : ByteArray)).size + 1 ≤ 9223372036854775807 then (coronerref31_line.l0 k x1 ((x5 ++ (⟨#[32]⟩ : ByteArray)) ++ (⟨#[45]⟩ : ByteArray)) (wrap64 (x6 + 1))) else (none)) else (none))) else (none)) else (if x5.size + 1 ≤ 9223372036854775807 then (some (x5 ++ (⟨#[10]⟩ : ByteArray))) else (none))
def coronerref31_line.f (k : Nat) (a0 : ByteArray) (l1 : List Int) : Option (ByteArray) := coronerref31_line.l0 k l1 a0 0
theorem coronerref31_line.mono_l : ∀ k, (∀ y0 y1 y2, LeO (coronerref31_line.l0 k y0 y1 y2) (coronerref31_line.l0 (k + 1) y0 y1 y2))
 | 0 => fun _ _ _ r h => by simp [coronerref31_line.l0] at h
 | k + 1 => by
  have ih0 := coronerref31_line.mono_l k
  ·intro y0 y1 y2
   unfold coronerref31_line.l0
   repeat' first
   | (with_reducible exact ih0 _ _ _)
   | (with_reducible exact coronerref01_Print.mono _ _)
   | (with_reducible exact LeO.refl _)
   | (with_reducible exact LeO.none _)
   | (with_reducible refine LeO.ite ?_ ?_)
   | (with_reducible refine LeO.bind ?_ (fun _ => ?_))
   | exact ih0 _ _ _
   | exact coronerref01_Print.mono _ _
   | exact LeO.none _
   | refine LeO.ite ?_ ?_
   | refine LeO.bind ?_ (fun _ => ?_)
theorem coronerref31_line.mono : ∀ a0 a1 k, LeO (coronerref31_line.f k a0 a1) (coronerref31_line.f (k + 1) a0 a1) := by
 intro a0 a1 k
 have ih0 := coronerref31_line.mono_l k
 unfold coronerref31_line.f
 repeat' first
  | (with_reducible exact ih0 _ _ _)
  | (with_reducible exact coronerref01_Print.mono _ _)
  | (with_reducible exact LeO.refl _)
  | (with_reducible exact LeO.none _)
  | (with_reducible refine LeO.ite ?_ ?_)
  | (with_reducible refine LeO.bind ?_ (fun _ => ?_))
  | exact ih0 _ _ _
  | exact coronerref01_Print.mono _ _
  | exact LeO.none _
  | refine LeO.ite ?_ ?_
  | refine LeO.bind ?_ (fun _ => ?_)
mutual
def coronerref31_Print.l0 : Nat → ByteArray → Int → Int → List (S44) → List Int → Option (ByteArray × Int)
 | 0, _, _, _, _, _ => none
 | k + 1, x4, x5, x171000, x171001, x171002 => if x5 < (x171001.length : Int) then (if 0 ≤ x5 then ((coronerref31_finding.f ((rd_T44 x171001 x5).f0) ((rd_T44 x171001 x5).f1) ((rd_T44 x171001 x5).f2) ((rd_T44 x171001 x5).f3) ((rd_T44 x171001 x5).f4) ((rd_T44 x171001 x5).f5) ((rd_T44 x171001 x5).f6)).bind fun t178 => ((coronerref31_line.f k (⟨#[102]⟩ : ByteArray) t178).bind fun t181 => (if x4.size + t181.size ≤ 9223372036854775807 then (coronerref31_Print.l1 k (x4 ++ t181) x5 0 x171000 x171001 x171002) else (none)))) else (none)) else ((coronerref31_line.f k (⟨#[111]⟩ : ByteArray) x171002).bind fun t176 => (if x4.size + t176.size ≤ 9223372036854775807 then (some (x4 ++ t176, 0)) else (none)))
def coronerref31_Print.l1 : Nat → ByteArray → Int → Int → Int → List (S44) → List Int → Option (ByteArray × Int)
 | 0, _, _, _, _, _, _ => none
 | k + 1, x4, x5, x6, x171000, x171001, x171002 => if 0 ≤ x5 then (if x5 < (x171001.length : Int) then (if x6 < (((rd_T44 x171001 x5).f6).length : Int) then (if 0 ≤ x6 then ((coronerref31_edge.f ((rd_T49 ((rd_T44 x171001 x5).f6) x6).f0) ((rd_T49 ((rd_T44 x171001 x5).f6) x6).f1) ((rd_T49 ((rd_T44 x171001 x5).f6) x6).f2) ((rd_T49 ((rd_T44 x171001 x5).f6) x6).f3) ((rd_T49 ((rd_T44 x171001 x5).f6) x6).f4) ((rd_T49 ((rd_T44 x171001 x5).f6) x6).f5)).bind fun t185 => ((coronerref31_line.f k (⟨#[101]⟩ : ByteArray) t185).bind fun t188 => (if x4.size + t188.size ≤ 9223372036854775807 then (coronerref31_Print.l1 k (x4 ++ t188) x5 (wrap64 (x6 + 1)) x171000 x171001 x171002) else (none)))) else (none)) else (coronerref31_Print.l0 k x4 (wrap64 (x5 + 1)) x171000 x171001 x171002)) else (none)) else (none)
end
def coronerref31_Print.f (k : Nat) (a0_0 : Int) (l0_1 : List (S44)) (l0_2 : List Int) : Option (ByteArray × Int) := (coronerref31_Check.f k a0_0 l0_1 l0_2).bind fun t171 => (if t171 = 0 then ((coronerref31_line.f k (⟨#[108]⟩ : ByteArray) (([a0_0] : List Int))).bind fun t175 => (coronerref31_Print.l0 k t175 0 a0_0 l0_1 l0_2)) else (some ((⟨#[]⟩ : ByteArray), 2)))
theorem coronerref31_Print.mono_l : ∀ k, (∀ y0 y1 y2 y3 y4, LeO (coronerref31_Print.l0 k y0 y1 y2 y3 y4) (coronerref31_Print.l0 (k + 1) y0 y1 y2 y3 y4)) ∧ (∀ y0 y1 y2 y3 y4 y5, LeO (coronerref31_Print.l1 k y0 y1 y2 y3 y4 y5) (coronerref31_Print.l1 (k + 1) y0 y1 y2 y3 y4 y5))
 | 0 => ⟨fun _ _ _ _ _ r h => by simp [coronerref31_Print.l0] at h, fun _ _ _ _ _ _ r h => by simp [coronerref31_Print.l1] at h⟩
 | k + 1 => by
  obtain ⟨ih0, ih1⟩ := coronerref31_Print.mono_l k
  refine ⟨?_, ?_⟩
  ·intro y0 y1 y2 y3 y4
   unfold coronerref31_Print.l0
   repeat' first
   | (with_reducible exact ih0 _ _ _ _ _)
   | (with_reducible exact ih1 _ _ _ _ _ _)
   | (with_reducible exact coronerref31_Check.mono _ _ _ _)
   | (with_reducible exact coronerref31_line.mono _ _ _)
   | (with_reducible exact LeO.refl _)
   | (with_reducible exact LeO.none _)
   | (with_reducible refine LeO.ite ?_ ?_)
   | (with_reducible refine LeO.bind ?_ (fun _ => ?_))
   | exact ih0 _ _ _ _ _
   | exact ih1 _ _ _ _ _ _
   | exact coronerref31_Check.mono _ _ _ _
   | exact coronerref31_line.mono _ _ _
   | exact LeO.none _
   | refine LeO.ite ?_ ?_
   | refine LeO.bind ?_ (fun _ => ?_)
  ·intro y0 y1 y2 y3 y4 y5
   unfold coronerref31_Print.l1
   repeat' first
   | (with_reducible exact ih0 _ _ _ _ _)
   | (with_reducible exact ih1 _ _ _ _ _ _)
   | (with_reducible exact coronerref31_Check.mono _ _ _ _)
   | (with_reducible exact coronerref31_line.mono _ _ _)
   | (with_reducible exact LeO.refl _)
   | (with_reducible exact LeO.none _)
   | (with_reducible refine LeO.ite ?_ ?_)
   | (with_reducible refine LeO.bind ?_ (fun _ => ?_))
   | exact ih0 _ _ _ _ _
   | exact ih1 _ _ _ _ _ _
   | exact coronerref31_Check.mono _ _ _ _
   | exact coronerref31_line.mono _ _ _
   | exact LeO.none _
   | refine LeO.ite ?_ ?_
   | refine LeO.bind ?_ (fun _ => ?_)
theorem coronerref31_Print.mono : ∀ a0 a1 a2 k, LeO (coronerref31_Print.f k a0 a1 a2) (coronerref31_Print.f (k + 1) a0 a1 a2) := by
 intro a0 a1 a2 k
 obtain ⟨ih0, ih1⟩ := coronerref31_Print.mono_l k
 unfold coronerref31_Print.f
 repeat' first
  | (with_reducible exact ih0 _ _ _ _ _)
  | (with_reducible exact ih1 _ _ _ _ _ _)
  | (with_reducible exact coronerref31_Check.mono _ _ _ _)
  | (with_reducible exact coronerref31_line.mono _ _ _)
  | (with_reducible exact LeO.refl _)
  | (with_reducible exact LeO.none _)
  | (with_reducible refine LeO.ite ?_ ?_)
  | (with_reducible refine LeO.bind ?_ (fun _ => ?_))
  | exact ih0 _ _ _ _ _
  | exact ih1 _ _ _ _ _ _
  | exact coronerref31_Check.mono _ _ _ _
  | exact coronerref31_line.mono _ _ _
  | exact LeO.none _
  | refine LeO.ite ?_ ?_
  | refine LeO.bind ?_ (fun _ => ?_)
end Go.Proofs.Ytkoddmedhnhgiaa.PReportBack
set_option linter.unusedSimpArgs false
namespace Go.Proofs.Ytkoddmedhnhgiaa.Rp
open Go.RowKit Go.Proofs.Ytkoddmedhnhgiaa.PReportBack Go.Proofs.YtkoddmedhnhgiaaW.PrintWords
set_option linter.unusedVariables false
section
variable {lv : Int} {fs : List Fi} {o : List Int}
end
section
variable {lv : Int} {fs : List Fi} {o : List Int}
end
end Go.Proofs.Ytkoddmedhnhgiaa.Rp
set_option linter.unusedSimpArgs false
namespace Go.Proofs.Ytkoddmedhnhgiaa.Rp
open Go.RowKit Go.Lib Go.Proofs.Ytkoddmedhnhgiaa.PReportBack Go.Proofs.YtkoddmedhnhgiaaW.PrintWords
set_option linter.unusedVariables false
def tx : List Int := [108, 32, 52, 10, 111, 32, 50, 32, 49, 10]
set_option maxRecDepth 100000 in
theorem par1 : parR tx = (4, [], [2, 1], 0, 0) := by kernel_rfl
set_option maxRecDepth 100000 in
theorem rep1 : strOfNums (repT 4 [] [2, 1]) = (⟨#[108, 32, 52, 10, 111, 32, 50, 32, 49, 10]⟩ : ByteArray) := by kernel_rfl
theorem ok1 : okRep 4 [] [2, 1] = true := by kernel_rfl
theorem chk5 : chk 5 [] [] = 2 := by kernel_rfl
theorem same1 : eqRep 4 [] [2, 1] 4 [] [2, 1] = true := by kernel_rfl
theorem nil_C {α : Type} (d : Kd α) (W : World) : Kd.C d W none 0 [] := ⟨rfl, by decide, fun h => absurd h (by decide)⟩
theorem parse_laid (W : World) (l : List Int) (hb : Bytes l) (hl : l.length ≤ 100000000) :
 Calls Try.prog 12 #[.slice (some ⟨W.heap.size, 0, none⟩) l.length l.length] (W.alloc (.cells (nums .u8 l).toArray 5 (l.length, l.length + 1)))
  fun r w' => ∃ A1 c1 A2 c2, r = .returned (.tuple #[.agg #[.int .i64 (parR l).1, .slice A1 (parR l).2.1.length c1, .slice A2 (parR l).2.2.1.length c2], .int .i64 (parR l).2.2.2.1, .int .i64 (parR l).2.2.2.2]) ∧ (parR l).2.1.length ≤ c1 ∧ (parR l).2.2.1.length ≤ c2 ∧ Kd.C k44 w' A1 (parR l).2.1.length (parR l).2.1 ∧ (Kd.int .i64).C w' A2 (parR l).2.2.1.length (parR l).2.2.1 ∧ Below W.heap.size W w' := by
 have hC : Kd.C (Kd.int .u8) (W.alloc (.cells (nums .u8 l).toArray 5 (l.length, l.length + 1))) (some ⟨W.heap.size, 0, none⟩) l.length l := C_laid (t := 5) (fz := (l.length, l.length + 1)) l (by omega) (alloc_at _ _)
 refine (parse_c _ _ l l.length hC (Nat.le_refl _) hb hl).mono ?_
 rintro r w' ⟨vF, vO, h1, h2, h3, h4⟩
 obtain ⟨A1, c1, rfl, hc1, hr1⟩ := Kd.S_reads h2
 obtain ⟨A2, c2, rfl, hc2, hr2⟩ := Kd.R_reads h3
 exact ⟨A1, c1, A2, c2, h1, hc1, hc2, hr1, hr2, ((Below.refl _ _).alloc (Nat.le_refl _) _).trans (h4.mono (by simp))⟩
theorem parse_tx (W : World) : Calls Try.prog 12 #[.slice (some ⟨W.heap.size, 0, none⟩) 10 10] (W.alloc (.cells #[.int .u8 108, .int .u8 32, .int .u8 52, .int .u8 10, .int .u8 111, .int .u8 32, .int .u8 50, .int .u8 32, .int .u8 49, .int .u8 10] 5 (10, 11)))
 fun r w' => ∃ A1 c1 A2 c2, r = .returned (.tuple #[.agg #[.int .i64 4, .slice A1 0 c1, .slice A2 2 c2], .int .i64 0, .int .i64 0]) ∧ 2 ≤ c2 ∧ Kd.C k44 w' A1 0 [] ∧ (Kd.int .i64).C w' A2 2 [2, 1] ∧ Below W.heap.size W w' := by
 refine (parse_laid W tx (by unfold Bytes; decide) (by decide)).mono ?_
 rw [par1]
 rintro r w' ⟨A1, c1, A2, c2, h1, h2, h3, h4, h5, h6⟩
 exact ⟨A1, c1, A2, c2, h1, h3, h4, h5, h6⟩
theorem two_laid (W : World) (g : Nat) (h : Blk W g [.int .i64 2, .int .i64 1] 3) : (Kd.int .i64).C W (some ⟨g, 0, none⟩) 2 [2, 1] := by
 refine ⟨rfl, by decide, fun _ => ⟨_, rfl, fun j p hj => ?_⟩⟩
 have hc : j = 0 ∨ j = 1 := by have := (List.getElem?_eq_some_iff.1 hj).1; simp at this; omega
 have hw : ∀ (i : Nat) (v : Value), [v][i]? = some v → i = 0 := fun i v hv => by have := (List.getElem?_eq_some_iff.1 hv).1; simp at this; omega
 rcases hc with rfl | rfl
 ·cases hj
  refine ⟨[.int .i64 2], rfl, rfl, fun i u hu => ?_⟩
  obtain rfl : i = 0 := by have := (List.getElem?_eq_some_iff.1 hu).1; simp at this; omega
  cases hu
  exact (h.cell 0).trans rfl
 ·cases hj
  refine ⟨[.int .i64 1], rfl, rfl, fun i u hu => ?_⟩
  obtain rfl : i = 0 := by have := (List.getElem?_eq_some_iff.1 hu).1; simp at this; omega
  cases hu
  exact (h.cell 1).trans rfl
set_option maxRecDepth 100000 in
set_option maxHeartbeats 4000000 in
theorem works_c (w : World) : Calls Try.prog 8 #[] w fun e w' => e = .returned (.bool true) ∧ Below w.heap.size w w' := by
 have kc := fun (w : World) (C : Array Value) (n c : Nat) => Lib.run_convert_bytes_const (P := Try.prog) w 34 5 C n c Try.underlying34 Try.underlying5
 obtain ⟨w2, hw2⟩ : ∃ w2, w2 = (w.alloc (.cells #[.int .i64 2, .int .i64 1] 3)).alloc (.cells #[.int .i64 4, .slice none 0 0, .slice (some ⟨w.heap.size, 0, none⟩) 2 2] 25) := ⟨_, rfl⟩
 have HB2 : Hid (Below w.heap.size w w2) := Lib.hid (by rw [hw2]; exact ((Below.refl _ _).alloc (Nat.le_refl _) _).alloc (by simp) _)
 have b1 : Blk w2 w.heap.size [.int .i64 2, .int .i64 1] 3 := by rw [hw2]; exact (Blk.new w _ _).alloc _
 have b2 : Blk w2 (w.heap.size + 1) [.int .i64 4, .slice none 0 0, .slice (some ⟨w.heap.size, 0, none⟩) 2 2] 25 := by
  have h := Blk.new (w.alloc (.cells #[.int .i64 2, .int .i64 1] 3)) [.int .i64 4, .slice none 0 0, .slice (some ⟨w.heap.size, 0, none⟩) 2 2] 25
  rw [World.size_alloc] at h
  rw [hw2]; exact h
 have HL := Lib.hid (fun (W : World) (hW : Below w2.heap.size w2 W) => two_laid W w.heap.size (b1.below hW b1.lt))
 have HX := Lib.hid (fun (W : World) (hW : Below w2.heap.size w2 W) => b2.below hW b2.lt)
 have HPR : Hid (∀ W, Below w2.heap.size w2 W → Calls Try.prog 9 #[.agg #[.int .i64 4, .slice none 0 0, .slice (some ⟨w.heap.size, 0, none⟩) 2 2]] W fun e w' => e = .returned (.tuple #[.string (⟨#[108, 32, 52, 10, 111, 32, 50, 32, 49, 10]⟩ : ByteArray), .int .i64 0]) ∧ Below w2.heap.size w2 w') := Lib.hid (fun W hW => by
  refine (print_rc 4 [] [2, 1] none 0 (some ⟨w.heap.size, 0, none⟩) 2 W (nil_C _ _) (HL.out W hW) (by decide) (by decide)).mono ?_
  rintro e w' ⟨h1, h2⟩
  rw [if_pos ok1, rep1] at h1
  exact ⟨h1, hW.trans (h2.mono hW.size)⟩)
 clear b1 b2
 go_enter Try.func8, Try.ntmps8
 have t0 := ((HX.out w2 (Below.refl _ _)).cell 0).trans rfl
 have t1 := ((HX.out w2 (Below.refl _ _)).cell 1).trans rfl
 have t2 := ((HX.out w2 (Below.refl _ _)).cell 2).trans rfl
 rw [hw2] at t0 t1 t2
 go_wp2_with fail
 rw [← hw2]
 refine (HPR.out w2 (Below.refl _ _)).mono ?_
 rintro r w3 ⟨rfl, hb3⟩
 have HB3 := Lib.hid hb3
 clear t0 t1 t2 hb3 hw2
 go_wp2_with fail
 refine (parse_tx w3).mono ?_
 rintro r w4 ⟨A1, c1, A2, c2, rfl, hc2, hF, hO, hb4⟩
 have HB4 := Lib.hid (HB3.out.trans (hb4.mono HB3.out.size))
 have HF := Lib.hid hF
 have HO := Lib.hid hO
 have HC2 := Lib.hid hc2
 clear hb4 hF hO hc2 kc HB3 HPR
 obtain ⟨w5, hw5⟩ : ∃ w5, w5 = w4.alloc (.cells #[.int .i64 4, .slice A1 0 c1, .slice A2 2 c2] 25) := ⟨_, rfl⟩
 have hb5 : Below w4.heap.size w4 w5 := by rw [hw5]; exact (Below.refl _ _).alloc (Nat.le_refl _) _
 have HB5 := Lib.hid hb5
 have HB52 := Lib.hid (HB4.out.trans (hb5.mono HB4.out.size))
 have q0 := ((HX.out w5 HB52.out).cell 0).trans rfl
 have q1 := ((HX.out w5 HB52.out).cell 1).trans rfl
 have q2 := ((HX.out w5 HB52.out).cell 2).trans rfl
 have HS : Hid (Calls Try.prog 16 #[.agg #[.int .i64 4, .slice A1 0 c1, .slice A2 2 c2], .agg #[.int .i64 4, .slice none 0 0, .slice (some ⟨w.heap.size, 0, none⟩) 2 2]] w5 fun e w' => e = .returned (.bool true) ∧ Below w5.heap.size w5 w') := Lib.hid (by
  have h := same_c w5 4 4 [] [] [2, 1] [2, 1] A1 A2 none (some ⟨w.heap.size, 0, none⟩) c1 c2 0 2 (Kd.C_below HF.out HB5.out) (Kd.C_below HO.out HB5.out) (nil_C _ _) (HL.out w5 HB52.out) HC2.out (Nat.le_refl 2) (by unfold big; simp) (by simp) (by unfold big; simp)
  rw [same1] at h
  exact h)
 clear hb5
 have HCK : Hid (∀ W, Calls Try.prog 11 #[.agg #[.int .i64 5, .slice none 0 0, .slice none 0 0]] W fun e w' => e = .returned (.int .i64 2) ∧ Below W.heap.size W w') := Lib.hid (fun W => by
  have h := check_c 5 [] [] none 0 none 0 W (nil_C _ _) (nil_C _ _) (by decide) (by decide)
  rw [chk5] at h
  exact h)
 have z0 : w5.cell? ⟨w4.heap.size, 0, none⟩ = some (.int .i64 4) := by rw [hw5]; exact ((Blk.new w4 _ _).cell 0).trans rfl
 have z1 : w5.cell? ⟨w4.heap.size, 1, none⟩ = some (.slice A1 0 c1) := by rw [hw5]; exact ((Blk.new w4 _ _).cell 1).trans rfl
 have z2 : w5.cell? ⟨w4.heap.size, 2, none⟩ = some (.slice A2 2 c2) := by rw [hw5]; exact ((Blk.new w4 _ _).cell 2).trans rfl
 rw [hw5] at q0 q1 q2 z0 z1 z2
 go_wp2_with fail
 rw [← hw5]
 refine HS.out.mono ?_
 rintro r w6 ⟨rfl, hb6⟩
 have HB6 := Lib.hid hb6
 clear q0 q1 q2 z0 z1 z2 hb6 hw5
 go_wp2_with fail
 refine (HCK.out w6).mono ?_
 rintro r w7 ⟨rfl, hb7⟩
 have HB7 := Lib.hid hb7
 clear hb7
 go_wp2
 go_ret
 exact ⟨rfl, link (link (link HB2.out HB52.out) HB6.out) HB7.out⟩
end Go.Proofs.Ytkoddmedhnhgiaa.Rp
set_option linter.unusedSimpArgs false
namespace Go.Proofs.Ytkoddmedhnhgiaa.Rp
open Go.Shelf Go.RowKit Go.Lib Go.Proofs.Ytkoddmedhnhgiaa.PReportBack Go.Proofs.YtkoddmedhnhgiaaW.PrintWords
set_option linter.unusedVariables false
theorem six_of {fs : Array Field} {a b c d e f : Field} (h : fs = #[a, b, c, d, e, f]) {p : Nat → Field → Prop} (h0 : p 0 a) (h1 : p 1 b) (h2 : p 2 c) (h3 : p 3 d) (h4 : p 4 e) (h5 : p 5 f) : ∀ (i : Nat) (x : Field), fs[i]? = some x → p i x := by
 subst h
 intro i x hx
 match i, hx with
 | 0, hx => simp at hx; subst hx; exact h0
 | 1, hx => simp at hx; subst hx; exact h1
 | 2, hx => simp at hx; subst hx; exact h2
 | 3, hx => simp at hx; subst hx; exact h3
 | 4, hx => simp at hx; subst hx; exact h4
 | 5, hx => simp at hx; subst hx; exact h5
 | k + 6, hx => simp at hx
theorem seven_of {fs : Array Field} {a b c d e f g : Field} (h : fs = #[a, b, c, d, e, f, g]) {p : Nat → Field → Prop} (h0 : p 0 a) (h1 : p 1 b) (h2 : p 2 c) (h3 : p 3 d) (h4 : p 4 e) (h5 : p 5 f) (h6 : p 6 g) : ∀ (i : Nat) (x : Field), fs[i]? = some x → p i x := by
 subst h
 intro i x hx
 match i, hx with
 | 0, hx => simp at hx; subst hx; exact h0
 | 1, hx => simp at hx; subst hx; exact h1
 | 2, hx => simp at hx; subst hx; exact h2
 | 3, hx => simp at hx; subst hx; exact h3
 | 4, hx => simp at hx; subst hx; exact h4
 | 5, hx => simp at hx; subst hx; exact h5
 | 6, hx => simp at hx; subst hx; exact h6
 | k + 7, hx => simp at hx
theorem list6 {α : Type} {cs : List α} (h : cs.length = 6) : ∃ a b c d e f, cs = [a, b, c, d, e, f] := by
 match cs, h with
 | [a, b, c, d, e, f], _ => exact ⟨a, b, c, d, e, f, rfl⟩
theorem list7 {α : Type} {cs : List α} (h : cs.length = 7) : ∃ a b c d e f g, cs = [a, b, c, d, e, f, g] := by
 match cs, h with
 | [a, b, c, d, e, f, g], _ => exact ⟨a, b, c, d, e, f, g, rfl⟩
theorem list3 {α : Type} {cs : List α} (h : cs.length = 3) : ∃ a b c, cs = [a, b, c] := by
 match cs, h with
 | [a, b, c], _ => exact ⟨a, b, c, rfl⟩
theorem opens_edge (W : World) : Opens Try.prog W 49 (k49.K W) := by
 refine Opens.imp (opens_row (p := fun _ v => ∃ n : Int, v = .int .i64 n ∧ (Lit.int .i64 n).wf = true)
  Try.underlying49 (by kernel_rfl) (six_of rfl ⟨rfl, by kernel_rfl⟩ ⟨rfl, by kernel_rfl⟩ ⟨rfl, by kernel_rfl⟩ ⟨rfl, by kernel_rfl⟩ ⟨rfl, by kernel_rfl⟩ ⟨rfl, by kernel_rfl⟩)
  (six_of rfl (cells_int Try.underlying3) (cells_int Try.underlying3) (cells_int Try.underlying3) (cells_int Try.underlying3) (cells_int Try.underlying3) (cells_int Try.underlying3))) ?_
 rintro _ cs ⟨hl, hp⟩
 obtain ⟨a, b, c, d, e, f, rfl⟩ := list6 hl
 obtain ⟨x0, rfl, _⟩ := hp 0 _ rfl
 obtain ⟨x1, rfl, _⟩ := hp 1 _ rfl
 obtain ⟨x2, rfl, _⟩ := hp 2 _ rfl
 obtain ⟨x3, rfl, _⟩ := hp 3 _ rfl
 obtain ⟨x4, rfl, _⟩ := hp 4 _ rfl
 obtain ⟨x5, rfl, _⟩ := hp 5 _ rfl
 exact ⟨⟨x0, x1, x2, x3, x4, x5⟩, k49_mk W _⟩
def SlE (W : World) (v : Value) : Prop := ∃ (l : List S49) (A : Option Addr) (c : Nat), v = .slice A l.length c ∧ l.length ≤ c ∧ ReadsRow (k49.K W) 6 W A l.length l
theorem opens_finding (W : World) : Opens Try.prog W 44 (k44.K W) := by
 refine Opens.imp (opens_row (p := fun i v => match i with | 6 => SlE W v | _ => ∃ n : Int, v = .int .i64 n ∧ (Lit.int .i64 n).wf = true)
  Try.underlying44 (by kernel_rfl) (seven_of rfl ⟨rfl, by kernel_rfl⟩ ⟨rfl, by kernel_rfl⟩ ⟨rfl, by kernel_rfl⟩ ⟨rfl, by kernel_rfl⟩ ⟨rfl, by kernel_rfl⟩ ⟨rfl, by kernel_rfl⟩ ⟨rfl, by kernel_rfl⟩)
  (seven_of rfl (cells_int Try.underlying3) (cells_int Try.underlying3) (cells_int Try.underlying3) (cells_int Try.underlying3) (cells_int Try.underlying3) (cells_int Try.underlying3) (cells_slice Try.underlying42 (by kernel_rfl) (opens_edge W)))) ?_
 rintro _ cs ⟨hl, hp⟩
 obtain ⟨a, b, c, d, e, f, g, rfl⟩ := list7 hl
 obtain ⟨x0, rfl, _⟩ := hp 0 _ rfl
 obtain ⟨x1, rfl, _⟩ := hp 1 _ rfl
 obtain ⟨x2, rfl, _⟩ := hp 2 _ rfl
 obtain ⟨x3, rfl, _⟩ := hp 3 _ rfl
 obtain ⟨x4, rfl, _⟩ := hp 4 _ rfl
 obtain ⟨x5, rfl, _⟩ := hp 5 _ rfl
 obtain ⟨l6, A6, c6, rfl, h6, g6⟩ := hp 6 _ rfl
 exact ⟨⟨x0, x1, x2, x3, x4, x5, l6⟩, k44_mk W _ h6 g6⟩
def SlF (W : World) (v : Value) : Prop := ∃ (l : List S44) (A : Option Addr) (c : Nat), v = .slice A l.length c ∧ l.length ≤ c ∧ ReadsRow (k44.K W) 7 W A l.length l
def SlI (W : World) (v : Value) : Prop := ∃ (l : List Int) (A : Option Addr) (c : Nat), v = .slice A l.length c ∧ l.length ≤ c ∧ ReadsRow ((Kd.int .i64).K W) 1 W A l.length l
def RpK (W : World) (x : Int × List Fi × List Int) (cs : List Value) : Prop := ∃ A1 c1 A2 c2, cs = [.int .i64 x.1, .slice A1 x.2.1.length c1, .slice A2 x.2.2.length c2] ∧ x.2.1.length ≤ c1 ∧ x.2.2.length ≤ c2 ∧ Kd.C k44 W A1 x.2.1.length x.2.1 ∧ (Kd.int .i64).C W A2 x.2.2.length x.2.2
theorem opens_ints (W : World) : Opens Try.prog W 3 ((Kd.int .i64).K W) := Opens.imp (opens_int Try.underlying3) (by rintro n cs ⟨rfl, _⟩; exact ⟨n, rfl⟩)
theorem opens_report (W : World) : Opens Try.prog W 25 (RpK W) := by
 refine Opens.imp (opens_row (p := fun i v => match i with | 0 => ∃ n : Int, v = .int .i64 n ∧ (Lit.int .i64 n).wf = true | 1 => SlF W v | _ => SlI W v)
  Try.underlying25 (by kernel_rfl) (three rfl ⟨rfl, by kernel_rfl⟩ ⟨rfl, by kernel_rfl⟩ ⟨rfl, by kernel_rfl⟩)
  (three rfl (cells_int Try.underlying3) (cells_slice Try.underlying22 (by kernel_rfl) (opens_finding W)) (cells_slice Try.underlying23 (by kernel_rfl) (opens_ints W)))) ?_
 rintro _ cs ⟨hl, hp⟩
 obtain ⟨a, b, c, rfl⟩ := list3 hl
 obtain ⟨x0, rfl, _⟩ := hp 0 _ rfl
 obtain ⟨l1, A1, c1, rfl, h1, g1⟩ := hp 1 _ rfl
 obtain ⟨l2, A2, c2, rfl, h2, g2⟩ := hp 2 _ rfl
 exact ⟨(x0, l1, l2), A1, c1, A2, c2, rfl, h1, h2, g1, g2⟩
def fewP (fs : List Fi) (o : List Int) : Bool := decide (fs.length ≤ 60) && decide (o.length ≤ 300) && fs.all (fun f => decide (f.f6.length ≤ 100))
theorem fewP_iff {fs : List Fi} {o : List Int} : fewP fs o = true ↔ fs.length ≤ 60 ∧ o.length ≤ 300 ∧ ∀ f ∈ fs, f.f6.length ≤ 100 := by
 unfold fewP
 rw [Bool.and_eq_true, Bool.and_eq_true, decide_eq_true_eq, decide_eq_true_eq, List.all_eq_true]
 simp only [decide_eq_true_eq]
 exact ⟨fun ⟨⟨a, b⟩, c⟩ => ⟨a, b, c⟩, fun ⟨a, b, c⟩ => ⟨⟨a, b⟩, c⟩⟩
theorem few_l0 (lv : Int) (fs : List Fi) (o : List Int) (hl : fs.length ≤ big) : ∀ (d i : Nat), i + d = fs.length → Ev (fun k => coronerref31_Few.l0 k (i : Int) lv fs o) ((fs.drop i).all (fun f => decide (f.f6.length ≤ 100)))
 | 0, i, h => by
  rw [List.drop_eq_nil_of_le (by omega)]
  exact Ev.step (f := fun _ => some true) (fun k => by simp only [coronerref31_Few.l0]; rw [if_neg (by omega)]) (Ev.now _)
 | d + 1, i, h => by
  have hlt : i < fs.length := by omega
  have ih := few_l0 lv fs o hl d (i + 1) (by omega)
  rw [List.drop_eq_getElem_cons hlt, List.all_cons]
  have hs : ∀ k, coronerref31_Few.l0 (k + 1) (i : Int) lv fs o = if (fs[i].f6.length : Int) > 100 then some false else coronerref31_Few.l0 k ((i + 1 : Nat) : Int) lv fs o := fun k => by
   simp only [coronerref31_Few.l0]
   rw [if_pos (by omega), if_pos (by omega), rd44 hlt, wrapS hlt hl]
  by_cases h1 : fs[i].f6.length ≤ 100
  ·rw [decide_eq_true h1, Bool.true_and]
   exact Ev.step (fun k => by rw [hs, if_neg (by omega)]) ih
  ·rw [decide_eq_false h1, Bool.false_and]
   exact Ev.step (f := fun _ => some false) (fun k => by rw [hs, if_pos (by omega)]) (Ev.now _)
theorem few_ev (lv : Int) (fs : List Fi) (o : List Int) : Ev (fun k => coronerref31_Few.f k lv fs o) (fewP fs o) := by
 have ht : Ev (fun k => coronerref31_Few.j0 k true lv fs o) false := Ev.step (f := fun _ => some false) (fun k => by simp only [coronerref31_Few.j0]; rw [if_pos trivial]) (Ev.now _)
 unfold coronerref31_Few.f fewP
 by_cases h1 : fs.length ≤ 60
 ·by_cases h2 : o.length ≤ 300
  ·have h := few_l0 lv fs o (by unfold big; omega) fs.length 0 (by omega)
   rw [List.drop_zero] at h
   rw [decide_eq_true h1, decide_eq_true h2, Bool.true_and, Bool.true_and]
   refine Ev.congr (f := fun k => coronerref31_Few.j0 k false lv fs o) (fun k => by rw [if_neg (by omega), decide_eq_false (by omega)]) (Ev.step (fun k => ?_) h)
   simp only [coronerref31_Few.j0]
   rw [if_neg (by decide)]; rfl
  ·rw [decide_eq_false h2, Bool.and_false, Bool.false_and]
   exact Ev.congr (fun k => by rw [if_neg (by omega), decide_eq_true (by omega)]) ht
 ·rw [decide_eq_false h1, Bool.false_and, Bool.false_and]
  exact Ev.congr (fun k => by rw [if_pos (by omega)]) ht
section
variable {lv : Int} {fs : List Fi} {o : List Int} {A1 A2 : Option Addr} {c1 c2 : Nat}
theorem few_c (w : World) (h1 : Kd.C k44 w A1 fs.length fs) (g1 : fs.length ≤ c1) (h2 : (Kd.int .i64).C w A2 o.length o) (g2 : o.length ≤ c2) :
 Calls Try.prog 7 #[.agg #[.int .i64 lv, .slice A1 fs.length c1, .slice A2 o.length c2]] w fun e w' => e = .returned (.bool (fewP fs o)) ∧ Below w.heap.size w w' := by
 obtain ⟨K, hK⟩ := (few_ev lv fs o).rounds
 exact coronerref31_Few.calls K lv A1 c1 fs A2 c2 o _ w h1 g1 h2 g2 hK
theorem prt_c (w : World) (h1 : Kd.C k44 w A1 fs.length fs) (h2 : (Kd.int .i64).C w A2 o.length o) (hl : fs.length ≤ 1000000000) (ho : o.length ≤ 1000000000) :
 Calls Try.prog 9 #[.agg #[.int .i64 lv, .slice A1 fs.length c1, .slice A2 o.length c2]] w fun e w' => e = .returned (.tuple #[.string (if okRep lv fs o = true then strOfNums (repT lv fs o) else (⟨#[]⟩ : ByteArray)), .int .i64 (chk lv fs o)]) ∧ Below w.heap.size w w' := by
 refine (print_rc lv fs o A1 c1 A2 c2 w h1 h2 hl ho).mono ?_
 rintro e w' ⟨he, hb⟩
 refine ⟨?_, hb⟩
 rw [he]
 unfold chk
 split <;> rfl
end
end Go.Proofs.Ytkoddmedhnhgiaa.Rp
