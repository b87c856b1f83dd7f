/- Printed by shake.py. -/
import Derived.Test.YtkoddmedhnhgiaaRc27
import Derived.Test.YtkoddmedhnhgiaaRc28
import Derived.Test.YtkoddmedhnhgiaaRc21
import Derived.Test.YtkoddmedhnhgiaaRc29
import Derived.Test.YtkoddmedhnhgiaaRc30
import Derived.Test.YtkoddmedhnhgiaaRc31
import Derived.Test.YtkoddmedhnhgiaaRc32
import Derived.Test.YtkoddmedhnhgiaaRc26
set_option linter.unusedSimpArgs false
namespace Go.Proofs.Ytkoddmedhnhgiaa.Rp
open Go.RowKit Go.Lib Go.Proofs.Ytkoddmedhnhgiaa.PReportBack Go.Proofs.YtkoddmedhnhgiaaW.PrintWords Go.Proofs.YtkoddmedhnhgiaaW.PrintLast
set_option linter.unusedVariables false
theorem loop_all {P : Program} {w : World} (body : Nat → Option Bool × Unit → Sem (ForInStep (Option Bool × Unit))) (r : Nat → Bool) : ∀ (is : List Nat), (∀ i ∈ is, (body i (none, ())).run P w = .ok (if r i = false then .done (some false, ()) else .yield (none, ())) w) →
 (forIn is ((none : Option Bool), ()) body).run P w = .ok (if is.all r = true then (none, ()) else (some false, ())) w
 | [], _ => by simp [Sem.run_pure]
 | i :: is, h => by
  have h1 := h i (List.mem_cons_self)
  rw [List.forIn_cons, Sem.run_bind, h1, Result.andThen_ok]
  cases hr : r i with
  | false => simp [hr, Sem.run_pure]
  | true =>
   have ih := loop_all body r is (fun j hj => h j (List.mem_cons_of_mem _ hj))
   simp [hr, ih]
def alike (l m : List Int) : Bool := decide (l = m)
theorem eqSix (d : Nat) (w : World) (x0 y0 : Int) (x1 y1 : Int) (x2 y2 : Int) (x3 y3 : Int) (x4 y4 : Int) (x5 y5 : Int) :
 (Op.equalIn (d + 2) 46 (.agg #[.int .i64 x0, .int .i64 x1, .int .i64 x2, .int .i64 x3, .int .i64 x4, .int .i64 x5]) (.agg #[.int .i64 y0, .int .i64 y1, .int .i64 y2, .int .i64 y3, .int .i64 y4, .int .i64 y5])).run Try.prog w = .ok (alike [x0, x1, x2, x3, x4, x5] [y0, y1, y2, y3, y4, y5]) w := by
 unfold alike
 have hI : ∀ (a b : Int) (w : World), (Op.equalIn (d + 1) 3 (.int .i64 a) (.int .i64 b)).run Try.prog w = .ok (a == b) w := fun a b w => by go_simp
 have hs : (sizeOf 3).run Try.prog w = .ok 1 w := by go_simp
 have hp : ∀ (a b c d e f : Int) (i : Nat), i < 6 → (part 3 #[.int .i64 a, .int .i64 b, .int .i64 c, .int .i64 d, .int .i64 e, .int .i64 f] i).run Try.prog w = .ok (.int .i64 ([a, b, c, d, e, f].getD i 0)) w := by
  intro a b c d e f i hi
  rcases (by omega : i = 0 ∨ i = 1 ∨ i = 2 ∨ i = 3 ∨ i = 4 ∨ i = 5) with rfl | rfl | rfl | rfl | rfl | rfl <;> (go_simp; try rfl)
 rw [Op.equalIn]
 simp only [Sem.run_bind, run_underlying Try.underlying46, Result.andThen_ok, hs, Std.Legacy.Range.forIn_eq_forIn_range', Std.Legacy.Range.size, Nat.sub_zero, Nat.add_one_sub_one, Nat.div_one]
 rw [loop_all _ (fun i => ([x0, x1, x2, x3, x4, x5].getD i 0) == ([y0, y1, y2, y3, y4, y5].getD i 0)) _ (by
  intro i hi
  have hi6 : i < 6 := by simp at hi; omega
  simp only [Sem.run_bind, Nat.mul_one, hp _ _ _ _ _ _ i hi6, hI, Result.andThen_ok]
  cases (([x0, x1, x2, x3, x4, x5].getD i 0) == ([y0, y1, y2, y3, y4, y5].getD i 0)) <;> simp [Sem.run_pure])]
 have e : (List.range' 0 6 1).all (fun i => ([x0, x1, x2, x3, x4, x5].getD i 0) == ([y0, y1, y2, y3, y4, y5].getD i 0)) = decide ([x0, x1, x2, x3, x4, x5] = [y0, y1, y2, y3, y4, y5]) := by
  rw [Bool.eq_iff_iff, decide_eq_true_iff]
  simp [List.range']
 rw [e]
 cases decide ([x0, x1, x2, x3, x4, x5] = [y0, y1, y2, y3, y4, y5]) <;> simp [Sem.run_pure]
end Go.Proofs.Ytkoddmedhnhgiaa.Rp
set_option linter.unusedSimpArgs false
namespace Go.Proofs.Ytkoddmedhnhgiaa.Rp
open Go.RowKit Go.Lib Go.Proofs.Ytkoddmedhnhgiaa.PReportBack Go.Proofs.YtkoddmedhnhgiaaW.PrintWords Go.Proofs.YtkoddmedhnhgiaaW.PrintLast
set_option linter.unusedVariables false
def eqL {α : Type} (R : α → α → Bool) : List α → List α → Bool
 | [], [] => true
 | x :: xs, y :: ys => R x y && eqL R xs ys
 | _, _ => false
def eqE (x y : Ed) : Bool := alike (nE x) (nE y)
def eqF (x y : Fi) : Bool := alike (nF x) (nF y) && eqL eqE x.f6 y.f6
section
variable {α : Type} {R : α → α → Bool}
theorem eqL_len : ∀ {xs ys : List α}, xs.length ≠ ys.length → eqL R xs ys = false
 | [], [], h => absurd rfl h
 | [], _ :: _, _ => rfl
 | _ :: _, [], _ => rfl
 | x :: xs, y :: ys, h => by
  unfold eqL
  rw [eqL_len (xs := xs) (ys := ys) (fun e => h (by simp [e])), Bool.and_false]
theorem eqL_drop {xs ys : List α} {k : Nat} (hx : k < xs.length) (hy : k < ys.length) : eqL R (xs.drop k) (ys.drop k) = (R xs[k] ys[k] && eqL R (xs.drop (k + 1)) (ys.drop (k + 1))) := by
 rw [List.drop_eq_getElem_cons hx, List.drop_eq_getElem_cons hy]
 rfl
theorem eqL_end {xs ys : List α} {k : Nat} (h : xs.length = ys.length) (hk : xs.length ≤ k) : eqL R (xs.drop k) (ys.drop k) = true := by
 rw [List.drop_eq_nil_of_le hk, List.drop_eq_nil_of_le (by omega)]
 rfl
theorem eqL_iff (hR : ∀ x y, R x y = true ↔ x = y) : ∀ {xs ys : List α}, eqL R xs ys = true ↔ xs = ys
 | [], [] => by simp [eqL]
 | [], _ :: _ => by simp [eqL]
 | _ :: _, [] => by simp [eqL]
 | x :: xs, y :: ys => by rw [eqL, Bool.and_eq_true, hR, eqL_iff hR, List.cons.injEq]
end
theorem alike_iff {l m : List Int} : alike l m = true ↔ l = m := decide_eq_true_iff
theorem eqE_iff (x y : Ed) : eqE x y = true ↔ x = y := by
 obtain ⟨a, b, c, d, e, f⟩ := x
 obtain ⟨a', b', c', d', e', f'⟩ := y
 unfold eqE
 rw [alike_iff]
 simp [nE]
theorem eqF_iff (x y : Fi) : eqF x y = true ↔ x = y := by
 obtain ⟨a, b, c, d, e, f, g⟩ := x
 obtain ⟨a', b', c', d', e', f', g'⟩ := y
 unfold eqF
 rw [Bool.and_eq_true, alike_iff, eqL_iff eqE_iff]
 simp [nF]
 constructor
 ·rintro ⟨⟨h1, h2, h3, h4, h5, h6⟩, h7⟩; exact ⟨h1, h2, h3, h4, h5, h6, h7⟩
 ·rintro ⟨h1, h2, h3, h4, h5, h6, h7⟩; exact ⟨⟨h1, h2, h3, h4, h5, h6⟩, h7⟩
theorem rd49 {l : List Ed} {i : Nat} (h : i < l.length) : rd_T49 l (i : Int) = l[i] := by
 simp [rd_T49, List.getD_eq_getElem?_getD, List.getElem?_eq_getElem h]
theorem rd44 {l : List Fi} {i : Nat} (h : i < l.length) : rd_T44 l (i : Int) = l[i] := by
 simp [rd_T44, List.getD_eq_getElem?_getD, List.getElem?_eq_getElem h]
theorem wrapS {i n : Nat} (h : i < n) (hn : n ≤ big) : wrap64 ((i : Int) + 1) = ((i + 1 : Nat) : Int) := by unfold big at hn; unfold wrap64; omega
theorem edge_b (x y : Ed) : (!((x.f0) == (y.f0)) || (!((x.f1) == (y.f1)) || (!((x.f2) == (y.f2)) || (!((x.f3) == (y.f3)) || (!((x.f4) == (y.f4)) || (!((x.f5) == (y.f5)))))))) = !eqE x y := by
 obtain ⟨a, b, c, d, e, f⟩ := x
 obtain ⟨a', b', c', d', e', f'⟩ := y
 rw [Bool.eq_iff_iff]
 unfold eqE
 rw [Bool.not_eq_true', ← Bool.not_eq_true, alike_iff]
 simp [nE]
 constructor
 ·intro h h1 h2 h3 h4 h5
  rcases h with h | h | h | h | h | h
  ·exact absurd h1 h
  ·exact absurd h2 h
  ·exact absurd h3 h
  ·exact absurd h4 h
  ·exact absurd h5 h
  ·exact h
 ·intro h
  by_cases h1 : a = a'
  ·by_cases h2 : b = b'
   ·by_cases h3 : c = c'
    ·by_cases h4 : d = d'
     ·by_cases h5 : e = e'
      ·exact .inr (.inr (.inr (.inr (.inr (h h1 h2 h3 h4 h5)))))
      ·exact .inr (.inr (.inr (.inr (.inl h5))))
     ·exact .inr (.inr (.inr (.inl h4)))
    ·exact .inr (.inr (.inl h3))
   ·exact .inr (.inl h2)
  ·exact .inl h1
theorem edge_l0 {l m : List Ed} (hlm : l.length = m.length) (hb : l.length ≤ big) : ∀ (n k : Nat), l.length - k < n → k ≤ l.length → api_Edge.l0 n l m (l.length : Int) (k : Int) = some (eqL eqE (l.drop k) (m.drop k))
 | 0, _, h, _ => absurd h (Nat.not_lt_zero _)
 | n + 1, k, h, hk => by
  unfold api_Edge.l0
  by_cases hlt : k < l.length
  ·have hm : k < m.length := by omega
   rw [if_pos (show (k : Int) < (l.length : Int) by omega), if_pos (show (0 : Int) ≤ k by omega), if_pos (show (k : Int) < (l.length : Int) by omega), if_pos (show (k : Int) < (m.length : Int) by omega), rd49 hlt, rd49 hm, edge_b, eqL_drop hlt hm]
   cases hq : eqE l[k] m[k] with
   | true => rw [if_neg (by simp), wrapS hlt hb, edge_l0 hlm hb n (k + 1) (by omega) (by omega), Bool.true_and]
   | false => rw [if_pos (by simp), Bool.false_and]
  ·rw [if_neg (show ¬ (k : Int) < (l.length : Int) by omega), eqL_end hlm (by omega)]
theorem edge_f {l m : List Ed} (hb : l.length ≤ big) : api_Edge.f (l.length + 1) l m = some (eqL eqE l m) := by
 unfold api_Edge.f
 by_cases h : l.length = m.length
 ·rw [if_pos (by omega)]
  have := edge_l0 h hb (l.length + 1) 0 (by omega) (by omega)
  simpa using this
 ·rw [if_neg (by omega), eqL_len h]
theorem ints_f {l m : List Int} (hb : l.length ≤ big) : ∃ k, slices_Equal_int_int.f k l m = some (alike l m) := by
 have key : l.length = m.length → ∀ (n k : Nat), l.length - k < n → k ≤ l.length → slices_Equal_int_int.l0 n l m (l.length : Int) (k : Int) = some (alike (l.drop k) (m.drop k)) := by
  intro hlm n
  induction n with
  | zero => intro k h; exact absurd h (Nat.not_lt_zero _)
  | succ n ih =>
   intro k h hk
   unfold slices_Equal_int_int.l0
   by_cases hlt : k < l.length
   ·have hm : k < m.length := by omega
    have ih1 := ih (k + 1) (by omega) (by omega)
    rw [← wrapS hlt hb] at ih1
    simp only [show (k : Int) < (l.length : Int) by omega, show (0 : Int) ≤ k by omega, show (k : Int) < (m.length : Int) by omega, if_true, rdI hlt, rdI hm, ih1]
    unfold alike
    rw [List.drop_eq_getElem_cons hlt, List.drop_eq_getElem_cons hm]
    generalize l[k] = a
    generalize m[k] = b
    generalize l.drop (k + 1) = L
    generalize m.drop (k + 1) = M
    by_cases hq : a = b
    ·simp [hq]
    ·simp [hq]
   ·rw [if_neg (show ¬ (k : Int) < (l.length : Int) by omega), List.drop_eq_nil_of_le (by omega), List.drop_eq_nil_of_le (by omega)]
    rfl
 refine ⟨l.length + 1, ?_⟩
 unfold slices_Equal_int_int.f
 by_cases h : l.length = m.length
 ·rw [if_pos (by omega)]
  have := key h (l.length + 1) 0 (by omega) (by omega)
  simpa using this
 ·rw [if_neg (by omega)]
  unfold alike
  rw [decide_eq_false (fun e => h (by rw [e]))]
def RgSfT.T : Bool × List (List Nat × List Nat) := (true, [([], []), ([0], [0]), ([], []), ([2, 1], [2]), ([1, 3], [1, 3]), ([4, 3], [4]), ([5], [5]), ([6, 5], [5, 6]), ([5], [5]), ([8, 5], [5, 8]), ([7, 9, 5, 5], [5, 7, 9]), ([5, 10], [5, 10]), ([11, 10, 0, 1, 2, 3, 4, 5, 6, 7, 8, 9, 10, 11], [11])])
def RgSfT.B : List Nat := [0, 1, 0, 7, 15, 31, 63, 127, 63, 319, 1023, 2047, 4095]
theorem RgSfT.tab : rtab .any (opsOf Try.f43 1) = RgSfT.T := by kernel_rfl
theorem RgSfT.bits : waitsOk RgSfT.T.2 RgSfT.B = true := by kernel_rfl
def RgSfF.T : Bool × List (List Nat × List Nat) := (true, [([], []), ([0], [0]), ([], []), ([2, 1], [2]), ([1, 3], [1, 3]), ([4, 3], [4]), ([5], [5]), ([6, 5], [5, 6]), ([5], [5]), ([8, 5], [5, 8]), ([7, 9, 5, 5], [5, 7, 9]), ([5, 10], [5, 10]), ([11, 10, 0, 1, 2, 3, 4, 5, 6, 7, 8, 9, 10, 11], [11])])
def RgSfF.B : List Nat := [0, 1, 0, 7, 15, 31, 63, 127, 63, 319, 1023, 2047, 4095]
theorem RgSfF.tab : rtab .any (opsOf Try.f43 1) = RgSfF.T := by kernel_rfl
theorem RgSfF.bits : waitsOk RgSfF.T.2 RgSfF.B = true := by kernel_rfl
attribute [local go_sem high] eqSix
set_option maxHeartbeats 8000000 in
set_option maxRecDepth 100000 in
theorem sameF_c (w : World) (x y : Fi) (A B : Option Addr) (c d : Nat) (hc : x.f6.length ≤ c) (hd : y.f6.length ≤ d) (hx : Kd.C k49 w A x.f6.length x.f6) (hy : Kd.C k49 w B y.f6.length y.f6) (hb : x.f6.length ≤ big) :
 Calls Try.prog 43 #[.agg (cF x (.slice A x.f6.length c)), .agg (cF y (.slice B y.f6.length d))] w fun e w' => e = .returned (.bool (eqF x y)) ∧ Below w.heap.size w w' := by
 have hox := fun W => ofF_c x (.slice A x.f6.length c) W
 have hoy := fun W => ofF_c y (.slice B y.f6.length d) W
 have hee : ∀ W, Below w.heap.size w W → Calls Try.prog 61 #[.slice A x.f6.length c, .slice B y.f6.length d] W fun e w' => e = .returned (.bool (eqL eqE x.f6 y.f6)) ∧ Below W.heap.size W w' := fun W hW =>
  (api_Edge.calls (x.f6.length + 1) A c x.f6 B d y.f6 _ W (Kd.C_below hx hW) hc (Kd.C_below hy hW) hd (edge_f hb)).mono fun e w' ⟨h1, h2⟩ => ⟨h1, drawn_bel h2⟩
 obtain ⟨x0, x1, x2, x3, x4, x5, x6⟩ := x
 obtain ⟨y0, y1, y2, y3, y4, y5, y6⟩ := y
 unfold cF six nF at *
 unfold eqF nF
 simp only at *
 generalize x6.length = n6 at *
 generalize y6.length = m6 at *
 generalize eqL eqE x6 y6 = q at *
 clear hx hy hb hc hd
 obtain ⟨w2, hw2⟩ : ∃ w2, w2 = (w.alloc (.cells #[.int .i64 x0, .int .i64 x1, .int .i64 x2, .int .i64 x3, .int .i64 x4, .int .i64 x5, .slice A n6 c] 44)).alloc (.cells #[.int .i64 y0, .int .i64 y1, .int .i64 y2, .int .i64 y3, .int .i64 y4, .int .i64 y5, .slice B m6 d] 44) := ⟨_, rfl⟩
 have HB2 : Hid (Below w.heap.size w w2) := Lib.hid (by rw [hw2]; exact ((Below.refl _ _).alloc (Nat.le_refl _) _).alloc (by simp) _)
 have hbx : Blk w2 w.heap.size [.int .i64 x0, .int .i64 x1, .int .i64 x2, .int .i64 x3, .int .i64 x4, .int .i64 x5, .slice A n6 c] 44 := by rw [hw2]; exact (Blk.new w _ _).alloc _
 have hby : Blk w2 (w.heap.size + 1) [.int .i64 y0, .int .i64 y1, .int .i64 y2, .int .i64 y3, .int .i64 y4, .int .i64 y5, .slice B m6 d] 44 := by
  have h := Blk.new (w.alloc (.cells #[.int .i64 x0, .int .i64 x1, .int .i64 x2, .int .i64 x3, .int .i64 x4, .int .i64 x5, .slice A n6 c] 44)) [.int .i64 y0, .int .i64 y1, .int .i64 y2, .int .i64 y3, .int .i64 y4, .int .i64 y5, .slice B m6 d] 44
  rw [World.size_alloc] at h
  rw [hw2]; exact h
 have FX : Hid (∀ W, Below w2.heap.size w2 W → W.cell? ⟨w.heap.size, 0, none⟩ = some (.int .i64 x0) ∧ W.cell? ⟨w.heap.size, 1, none⟩ = some (.int .i64 x1) ∧ W.cell? ⟨w.heap.size, 2, none⟩ = some (.int .i64 x2) ∧ W.cell? ⟨w.heap.size, 3, none⟩ = some (.int .i64 x3) ∧ W.cell? ⟨w.heap.size, 4, none⟩ = some (.int .i64 x4) ∧ W.cell? ⟨w.heap.size, 5, none⟩ = some (.int .i64 x5) ∧ W.cell? ⟨w.heap.size, 6, none⟩ = some (.slice A n6 c) ∧
  W.cell? ⟨w.heap.size + 1, 0, none⟩ = some (.int .i64 y0) ∧ W.cell? ⟨w.heap.size + 1, 1, none⟩ = some (.int .i64 y1) ∧ W.cell? ⟨w.heap.size + 1, 2, none⟩ = some (.int .i64 y2) ∧ W.cell? ⟨w.heap.size + 1, 3, none⟩ = some (.int .i64 y3) ∧ W.cell? ⟨w.heap.size + 1, 4, none⟩ = some (.int .i64 y4) ∧ W.cell? ⟨w.heap.size + 1, 5, none⟩ = some (.int .i64 y5) ∧ W.cell? ⟨w.heap.size + 1, 6, none⟩ = some (.slice B m6 d)) := Lib.hid fun W hW => by
  have h1 := hbx.below hW hbx.lt
  have h2 := hby.below hW hby.lt
  exact ⟨(h1.cell 0).trans rfl, (h1.cell 1).trans rfl, (h1.cell 2).trans rfl, (h1.cell 3).trans rfl, (h1.cell 4).trans rfl, (h1.cell 5).trans rfl, (h1.cell 6).trans rfl, (h2.cell 0).trans rfl, (h2.cell 1).trans rfl, (h2.cell 2).trans rfl, (h2.cell 3).trans rfl, (h2.cell 4).trans rfl, (h2.cell 5).trans rfl, (h2.cell 6).trans rfl⟩
 have HOX : Hid (∀ W, Below w2.heap.size w2 W → Calls Try.prog 18 #[.agg #[.int .i64 x0, .int .i64 x1, .int .i64 x2, .int .i64 x3, .int .i64 x4, .int .i64 x5, .slice A n6 c]] W fun e w' => e = .returned (.agg #[.int .i64 x0, .int .i64 x1, .int .i64 x2, .int .i64 x3, .int .i64 x4, .int .i64 x5]) ∧ Below w2.heap.size w2 w') := Lib.hid fun W hW => (hox W).mono fun e w' ⟨h1, h2⟩ => ⟨h1, hW.trans (h2.mono hW.size)⟩
 have HOY : Hid (∀ W, Below w2.heap.size w2 W → Calls Try.prog 18 #[.agg #[.int .i64 y0, .int .i64 y1, .int .i64 y2, .int .i64 y3, .int .i64 y4, .int .i64 y5, .slice B m6 d]] W fun e w' => e = .returned (.agg #[.int .i64 y0, .int .i64 y1, .int .i64 y2, .int .i64 y3, .int .i64 y4, .int .i64 y5]) ∧ Below w2.heap.size w2 w') := Lib.hid fun W hW => (hoy W).mono fun e w' ⟨h1, h2⟩ => ⟨h1, hW.trans (h2.mono hW.size)⟩
 have HEE : Hid (∀ W, Below w2.heap.size w2 W → Calls Try.prog 61 #[.slice A n6 c, .slice B m6 d] W fun e w' => e = .returned (.bool q) ∧ Below w2.heap.size w2 w') := Lib.hid fun W hW => (hee W (HB2.out.trans (hW.mono HB2.out.size))).mono fun e w' ⟨h1, h2⟩ => ⟨h1, hW.trans (h2.mono hW.size)⟩
 clear hox hoy hee hbx hby
 cases hq : alike [x0, x1, x2, x3, x4, x5] [y0, y1, y2, y3, y4, y5] with
 | true =>
  rw [Bool.true_and]
  go_enter Try.func43, Try.ntmps43
  go_wp2_with fail
  rw [← hw2]
  clear hw2
  refine start_ (n := 13) (S := fun W => Below w2.heap.size w2 W) (ds := []) #[false, false, false, false, false, false, false, false, false, false, false, false, false] (by kernel_rfl) rfl rfl (Below.refl w2.heap.size w2).drew (fun hHeld => ?_)
  refine with_tabW RgSfT.tab RgSfT.bits (fun HT_ HW_ => ?_)
  refine take_ (i := 0) (N := some 5) (v := ?_) (a' := ?_) #[true, false, false, false, false, false, false, false, false, false, false, false, false] rfl rfl (take_ofW HT_.out HW_.out (by kernel_rfl)) (fun _ _ _ h => h) (Or.inl ⟨by rfl, ?_⟩) hHeld ?_ ?_
  rotate_left
  ·intro w' hW
   obtain ⟨a0_, a1_, a2_, a3_, a4_, a5_, a6_, b0_, b1_, b2_, b3_, b4_, b5_, b6_⟩ := FX.out w' hW
   go_simp
   with_reducible rfl
  rotate_left
  ·simp only [Act.put, List.setIfInBounds_toArray, List.set_cons_zero, List.set_cons_succ, i64_w, i32_w]
   rfl
  refine take_ (i := 2) (N := some 7) (v := ?_) (a' := ?_) #[true, false, true, false, false, false, false, false, false, false, false, false, false] rfl rfl (take_ofW HT_.out HW_.out (by kernel_rfl)) (fun _ _ _ h => h) (Or.inl ⟨by rfl, ?_⟩) hHeld ?_ ?_
  rotate_left
  ·intro w' hW
   obtain ⟨a0_, a1_, a2_, a3_, a4_, a5_, a6_, b0_, b1_, b2_, b3_, b4_, b5_, b6_⟩ := FX.out w' hW
   go_simp
   with_reducible rfl
  rotate_left
  ·simp only [Act.put, List.setIfInBounds_toArray, List.set_cons_zero, List.set_cons_succ, i64_w, i32_w]
   rfl
  refine one_ (i := 1) (N := some 6) #[true, true, true, false, false, false, false, false, false, false, false, false, false] rfl rfl (one_of HT_.out (by kernel_rfl)) (by decide) (fun K hK => ?_)
  refine goes_ Try.func18 (by kernel_rfl) rfl #[.agg #[.int .i64 x0, .int .i64 x1, .int .i64 x2, .int .i64 x3, .int .i64 x4, .int .i64 x5, .slice A n6 c]] (by rfl) rfl rfl (by (try simp only [List.map_toArray, List.map_cons, List.map_nil]); first | done | rfl) ?_
  refine (HOX.out _ hHeld).mono ?_
  rintro e_ w_1 ⟨rfl, hH_⟩
  refine ⟨_, rfl, ?_⟩
  refine hK.out _ _ hH_ (fun hHeld => ?_)
  clear hK K hH_
  refine norm_ (a' := ?_) ?_ ?_
  rotate_left
  ·show Act.put _ (some 6) _ = _
   simp only [Act.put, List.setIfInBounds_toArray, List.set_cons_zero, List.set_cons_succ, i64_w, i32_w]
   rfl
  refine one_ (i := 3) (N := some 8) #[true, true, true, true, false, false, false, false, false, false, false, false, false] rfl rfl (one_of HT_.out (by kernel_rfl)) (by decide) (fun K hK => ?_)
  refine goes_ Try.func18 (by kernel_rfl) rfl #[.agg #[.int .i64 y0, .int .i64 y1, .int .i64 y2, .int .i64 y3, .int .i64 y4, .int .i64 y5, .slice B m6 d]] (by rfl) rfl rfl (by (try simp only [List.map_toArray, List.map_cons, List.map_nil]); first | done | rfl) ?_
  refine (HOY.out _ hHeld).mono ?_
  rintro e_ w_2 ⟨rfl, hH_⟩
  refine ⟨_, rfl, ?_⟩
  refine hK.out _ _ hH_ (fun hHeld => ?_)
  clear hK K hH_
  refine norm_ (a' := ?_) ?_ ?_
  rotate_left
  ·show Act.put _ (some 8) _ = _
   simp only [Act.put, List.setIfInBounds_toArray, List.set_cons_zero, List.set_cons_succ, i64_w, i32_w]
   rfl
  refine pure_ (i := 4) (N := some 9) (v := ?_) (a' := ?_) #[true, true, true, true, true, false, false, false, false, false, false, false, false] rfl rfl (any_of HT_.out (by kernel_rfl)) (fun _ _ _ h => h) (Or.inl ⟨by rfl, ?_⟩) ?_ ?_
  rotate_left
  ·intro w'
   go_simp
   with_reducible rfl
  rotate_left
  ·simp only [Act.put, List.setIfInBounds_toArray, List.set_cons_zero, List.set_cons_succ, i64_w, i32_w]
   rfl
  refine pure_ (i := 5) (N := some 10) (v := ?_) (a' := ?_) #[true, true, true, true, true, true, false, false, false, false, false, false, false] rfl rfl (any_of HT_.out (by kernel_rfl)) (fun _ _ _ h => h) (Or.inl ⟨by rfl, ?_⟩) ?_ ?_
  rotate_left
  ·intro w'
   go_simp
   with_reducible rfl
  rotate_left
  ·simp only [Act.put, List.setIfInBounds_toArray, List.set_cons_zero, List.set_cons_succ, i64_w, i32_w]
   rfl
  refine pure_ (i := 6) (N := some 11) (v := ?_) (a' := ?_) #[true, true, true, true, true, true, true, false, false, false, false, false, false] rfl rfl (any_of HT_.out (by kernel_rfl)) (fun _ _ _ h => h) (Or.inl ⟨by rfl, ?_⟩) ?_ ?_
  rotate_left
  ·intro w'
   go_simp
   with_reducible rfl
  rotate_left
  ·simp only [Act.put, List.setIfInBounds_toArray, List.set_cons_zero, List.set_cons_succ, i64_w, i32_w]
   rfl
  refine take_ (i := 7) (N := some 12) (v := ?_) (a' := ?_) #[true, true, true, true, true, true, true, true, false, false, false, false, false] rfl rfl (take_ofW HT_.out HW_.out (by kernel_rfl)) (fun _ _ _ h => h) (Or.inl ⟨by rfl, ?_⟩) hHeld ?_ ?_
  rotate_left
  ·intro w' hW
   obtain ⟨a0_, a1_, a2_, a3_, a4_, a5_, a6_, b0_, b1_, b2_, b3_, b4_, b5_, b6_⟩ := FX.out w' hW
   go_simp
   with_reducible rfl
  rotate_left
  ·simp only [Act.put, List.setIfInBounds_toArray, List.set_cons_zero, List.set_cons_succ, i64_w, i32_w]
   rfl
  refine pure_ (i := 8) (N := some 13) (v := ?_) (a' := ?_) #[true, true, true, true, true, true, true, true, true, false, false, false, false] rfl rfl (any_of HT_.out (by kernel_rfl)) (fun _ _ _ h => h) (Or.inl ⟨by rfl, ?_⟩) ?_ ?_
  rotate_left
  ·intro w'
   go_simp
   with_reducible rfl
  rotate_left
  ·simp only [Act.put, List.setIfInBounds_toArray, List.set_cons_zero, List.set_cons_succ, i64_w, i32_w]
   rfl
  refine take_ (i := 9) (N := some 14) (v := ?_) (a' := ?_) #[true, true, true, true, true, true, true, true, true, true, false, false, false] rfl rfl (take_ofW HT_.out HW_.out (by kernel_rfl)) (fun _ _ _ h => h) (Or.inl ⟨by rfl, ?_⟩) hHeld ?_ ?_
  rotate_left
  ·intro w' hW
   obtain ⟨a0_, a1_, a2_, a3_, a4_, a5_, a6_, b0_, b1_, b2_, b3_, b4_, b5_, b6_⟩ := FX.out w' hW
   go_simp
   with_reducible rfl
  rotate_left
  ·simp only [Act.put, List.setIfInBounds_toArray, List.set_cons_zero, List.set_cons_succ, i64_w, i32_w]
   rfl
  refine one_ (i := 10) (N := some 15) #[true, true, true, true, true, true, true, true, true, true, true, false, false] rfl rfl (one_of HT_.out (by kernel_rfl)) (by decide) (fun K hK => ?_)
  refine goes_ Try.func61 (by kernel_rfl) rfl #[.slice A n6 c, .slice B m6 d] (by rfl) rfl rfl (by (try simp only [List.map_toArray, List.map_cons, List.map_nil]); first | done | rfl) ?_
  refine (HEE.out _ hHeld).mono ?_
  rintro e_ w_3 ⟨rfl, hH_⟩
  refine ⟨_, rfl, ?_⟩
  refine hK.out _ _ hH_ (fun hHeld => ?_)
  clear hK K hH_
  refine norm_ (a' := ?_) ?_ ?_
  rotate_left
  ·show Act.put _ (some 15) _ = _
   simp only [Act.put, List.setIfInBounds_toArray, List.set_cons_zero, List.set_cons_succ, i64_w, i32_w]
   rfl
  refine pure_ (i := 11) (N := some 16) (v := ?_) (a' := ?_) #[true, true, true, true, true, true, true, true, true, true, true, true, false] rfl rfl (any_of HT_.out (by kernel_rfl)) (fun _ _ _ h => h) (Or.inl ⟨by rfl, ?_⟩) ?_ ?_
  rotate_left
  ·intro w'
   go_simp
   with_reducible rfl
  rotate_left
  ·simp only [Act.put, List.setIfInBounds_toArray, List.set_cons_zero, List.set_cons_succ, i64_w, i32_w]
   rfl
  refine pure_ (i := 12) (N := some 4) (v := ?_) (a' := ?_) #[true, true, true, true, true, true, true, true, true, true, true, true, true] rfl rfl (any_of HT_.out (by kernel_rfl)) (fun _ _ _ h => h) (Or.inl ⟨by rfl, ?_⟩) ?_ ?_
  rotate_left
  ·intro w'
   go_simp
   with_reducible rfl
  rotate_left
  ·simp only [Act.put, List.setIfInBounds_toArray, List.set_cons_zero, List.set_cons_succ, i64_w, i32_w]
   rfl
  refine done_ (done_of HT_.out (by kernel_rfl)) ?_
  go_wp2
  go_ret
  exact ⟨rfl, HB2.out.trans (hHeld.mono HB2.out.size)⟩
 | false =>
  rw [Bool.false_and]
  go_enter Try.func43, Try.ntmps43
  go_wp2_with fail
  rw [← hw2]
  clear hw2
  refine start_ (n := 13) (S := fun W => Below w2.heap.size w2 W) (ds := []) #[false, false, false, false, false, false, false, false, false, false, false, false, false] (by kernel_rfl) rfl rfl (Below.refl w2.heap.size w2).drew (fun hHeld => ?_)
  refine with_tabW RgSfF.tab RgSfF.bits (fun HT_ HW_ => ?_)
  refine take_ (i := 0) (N := some 5) (v := ?_) (a' := ?_) #[true, false, false, false, false, false, false, false, false, false, false, false, false] rfl rfl (take_ofW HT_.out HW_.out (by kernel_rfl)) (fun _ _ _ h => h) (Or.inl ⟨by rfl, ?_⟩) hHeld ?_ ?_
  rotate_left
  ·intro w' hW
   obtain ⟨a0_, a1_, a2_, a3_, a4_, a5_, a6_, b0_, b1_, b2_, b3_, b4_, b5_, b6_⟩ := FX.out w' hW
   go_simp
   with_reducible rfl
  rotate_left
  ·simp only [Act.put, List.setIfInBounds_toArray, List.set_cons_zero, List.set_cons_succ, i64_w, i32_w]
   rfl
  refine take_ (i := 2) (N := some 7) (v := ?_) (a' := ?_) #[true, false, true, false, false, false, false, false, false, false, false, false, false] rfl rfl (take_ofW HT_.out HW_.out (by kernel_rfl)) (fun _ _ _ h => h) (Or.inl ⟨by rfl, ?_⟩) hHeld ?_ ?_
  rotate_left
  ·intro w' hW
   obtain ⟨a0_, a1_, a2_, a3_, a4_, a5_, a6_, b0_, b1_, b2_, b3_, b4_, b5_, b6_⟩ := FX.out w' hW
   go_simp
   with_reducible rfl
  rotate_left
  ·simp only [Act.put, List.setIfInBounds_toArray, List.set_cons_zero, List.set_cons_succ, i64_w, i32_w]
   rfl
  refine one_ (i := 1) (N := some 6) #[true, true, true, false, false, false, false, false, false, false, false, false, false] rfl rfl (one_of HT_.out (by kernel_rfl)) (by decide) (fun K hK => ?_)
  refine goes_ Try.func18 (by kernel_rfl) rfl #[.agg #[.int .i64 x0, .int .i64 x1, .int .i64 x2, .int .i64 x3, .int .i64 x4, .int .i64 x5, .slice A n6 c]] (by rfl) rfl rfl (by (try simp only [List.map_toArray, List.map_cons, List.map_nil]); first | done | rfl) ?_
  refine (HOX.out _ hHeld).mono ?_
  rintro e_ w_1 ⟨rfl, hH_⟩
  refine ⟨_, rfl, ?_⟩
  refine hK.out _ _ hH_ (fun hHeld => ?_)
  clear hK K hH_
  refine norm_ (a' := ?_) ?_ ?_
  rotate_left
  ·show Act.put _ (some 6) _ = _
   simp only [Act.put, List.setIfInBounds_toArray, List.set_cons_zero, List.set_cons_succ, i64_w, i32_w]
   rfl
  refine one_ (i := 3) (N := some 8) #[true, true, true, true, false, false, false, false, false, false, false, false, false] rfl rfl (one_of HT_.out (by kernel_rfl)) (by decide) (fun K hK => ?_)
  refine goes_ Try.func18 (by kernel_rfl) rfl #[.agg #[.int .i64 y0, .int .i64 y1, .int .i64 y2, .int .i64 y3, .int .i64 y4, .int .i64 y5, .slice B m6 d]] (by rfl) rfl rfl (by (try simp only [List.map_toArray, List.map_cons, List.map_nil]); first | done | rfl) ?_
  refine (HOY.out _ hHeld).mono ?_
  rintro e_ w_2 ⟨rfl, hH_⟩
  refine ⟨_, rfl, ?_⟩
  refine hK.out _ _ hH_ (fun hHeld => ?_)
  clear hK K hH_
  refine norm_ (a' := ?_) ?_ ?_
  rotate_left
  ·show Act.put _ (some 8) _ = _
   simp only [Act.put, List.setIfInBounds_toArray, List.set_cons_zero, List.set_cons_succ, i64_w, i32_w]
   rfl
  refine pure_ (i := 4) (N := some 9) (v := ?_) (a' := ?_) #[true, true, true, true, true, false, false, false, false, false, false, false, false] rfl rfl (any_of HT_.out (by kernel_rfl)) (fun _ _ _ h => h) (Or.inl ⟨by rfl, ?_⟩) ?_ ?_
  rotate_left
  ·intro w'
   go_simp
   with_reducible rfl
  rotate_left
  ·simp only [Act.put, List.setIfInBounds_toArray, List.set_cons_zero, List.set_cons_succ, i64_w, i32_w]
   rfl
  refine pure_ (i := 5) (N := some 10) (v := ?_) (a' := ?_) #[true, true, true, true, true, true, false, false, false, false, false, false, false] rfl rfl (any_of HT_.out (by kernel_rfl)) (fun _ _ _ h => h) (Or.inl ⟨by rfl, ?_⟩) ?_ ?_
  rotate_left
  ·intro w'
   go_simp
   with_reducible rfl
  rotate_left
  ·simp only [Act.put, List.setIfInBounds_toArray, List.set_cons_zero, List.set_cons_succ, i64_w, i32_w]
   rfl
  refine pure_ (i := 6) (N := some 11) (v := undef) (a' := ?_) #[true, true, true, true, true, true, true, false, false, false, false, false, false] rfl rfl (any_of HT_.out (by kernel_rfl)) (fun _ _ _ h => h) (Or.inr ⟨by rfl, rfl⟩) ?_ ?_
  rotate_left
  ·simp only [Act.put, List.setIfInBounds_toArray, List.set_cons_zero, List.set_cons_succ, i64_w, i32_w]
   rfl
  refine pure_ (i := 7) (N := some 12) (v := undef) (a' := ?_) #[true, true, true, true, true, true, true, true, false, false, false, false, false] rfl rfl (any_of HT_.out (by kernel_rfl)) (fun _ _ _ h => h) (Or.inr ⟨by rfl, rfl⟩) ?_ ?_
  rotate_left
  ·simp only [Act.put, List.setIfInBounds_toArray, List.set_cons_zero, List.set_cons_succ, i64_w, i32_w]
   rfl
  refine pure_ (i := 8) (N := some 13) (v := undef) (a' := ?_) #[true, true, true, true, true, true, true, true, true, false, false, false, false] rfl rfl (any_of HT_.out (by kernel_rfl)) (fun _ _ _ h => h) (Or.inr ⟨by rfl, rfl⟩) ?_ ?_
  rotate_left
  ·simp only [Act.put, List.setIfInBounds_toArray, List.set_cons_zero, List.set_cons_succ, i64_w, i32_w]
   rfl
  refine pure_ (i := 9) (N := some 14) (v := undef) (a' := ?_) #[true, true, true, true, true, true, true, true, true, true, false, false, false] rfl rfl (any_of HT_.out (by kernel_rfl)) (fun _ _ _ h => h) (Or.inr ⟨by rfl, rfl⟩) ?_ ?_
  rotate_left
  ·simp only [Act.put, List.setIfInBounds_toArray, List.set_cons_zero, List.set_cons_succ, i64_w, i32_w]
   rfl
  refine pure_ (i := 10) (N := some 15) (v := undef) (a' := ?_) #[true, true, true, true, true, true, true, true, true, true, true, false, false] rfl rfl (any_of HT_.out (by kernel_rfl)) (fun _ _ _ h => h) (Or.inr ⟨by rfl, rfl⟩) ?_ ?_
  rotate_left
  ·simp only [Act.put, List.setIfInBounds_toArray, List.set_cons_zero, List.set_cons_succ, i64_w, i32_w]
   rfl
  refine pure_ (i := 11) (N := some 16) (v := ?_) (a' := ?_) #[true, true, true, true, true, true, true, true, true, true, true, true, false] rfl rfl (any_of HT_.out (by kernel_rfl)) (fun _ _ _ h => h) (Or.inl ⟨by rfl, ?_⟩) ?_ ?_
  rotate_left
  ·intro w'
   go_simp
   with_reducible rfl
  rotate_left
  ·simp only [Act.put, List.setIfInBounds_toArray, List.set_cons_zero, List.set_cons_succ, i64_w, i32_w]
   rfl
  refine pure_ (i := 12) (N := some 4) (v := ?_) (a' := ?_) #[true, true, true, true, true, true, true, true, true, true, true, true, true] rfl rfl (any_of HT_.out (by kernel_rfl)) (fun _ _ _ h => h) (Or.inl ⟨by rfl, ?_⟩) ?_ ?_
  rotate_left
  ·intro w'
   go_simp
   with_reducible rfl
  rotate_left
  ·simp only [Act.put, List.setIfInBounds_toArray, List.set_cons_zero, List.set_cons_succ, i64_w, i32_w]
   rfl
  refine done_ (done_of HT_.out (by kernel_rfl)) ?_
  go_wp2
  go_ret
  exact ⟨rfl, HB2.out.trans (hHeld.mono HB2.out.size)⟩
set_option maxHeartbeats 4000000 in
set_option maxRecDepth 100000 in
theorem equalF_c (w : World) (l m : List Fi) (A B : Option Addr) (c d : Nat) (hl : Kd.C k44 w A l.length l) (hm : Kd.C k44 w B m.length m) (hb : l.length ≤ big) (hbs : ∀ o ∈ l, o.f6.length ≤ big) :
 Calls Try.prog 42 #[.slice A l.length c, .slice B m.length d, .func (.func 43) #[] #[]] w fun e w' => e = .returned (.bool (eqL eqF l m)) ∧ Below w.heap.size w w' := by
 have e63 : ∀ args w, (callFunc 43 args).run Try.prog w = .ok (.enter 43 args) w := Go.Proofs.enters_of Try.func43 (by kernel_rfl) rfl
 by_cases hlen : l.length = m.length
 ·have HR := Lib.hid hl
  have HM := Lib.hid hm
  have HS := Lib.hid hbs
  obtain ⟨N, hN⟩ : ∃ N, l.length = N := ⟨_, rfl⟩
  have hNb : N ≤ 1152921504606846976 := by rw [← hN]; exact hb
  have HN := Lib.hid hN
  have HN2 : Hid (m.length = N) := Lib.hid (by omega)
  rw [hN] at HR
  rw [HN2.out] at HM
  clear hl hm hb hN hlen hbs
  rw [HN.out, HN2.out]
  obtain ⟨D, hD⟩ : ∃ D, eqL eqF l m = D := ⟨_, rfl⟩
  have HD := Lib.hid hD
  rw [hD]
  clear hD
  go_enter Try.func42, Try.ntmps42
  go_wp2
  go_loopw [7, 8, 9, 17] (fun _ _ _ v17 wr => ∃ k : Nat, k ≤ N ∧ v17 = .int .i64 k ∧ Aside (eqL eqF (l.drop k) (m.drop k) = D ∧ Below w.heap.size w wr)) (fun _ _ _ v17 _ => N - (intOf v17).toNat)
  case atStart => exact ⟨0, by omega, rfl, HD.out, Below.refl _ _⟩
  case round =>
   obtain ⟨k, hk, rfl, HA⟩ := hrel
   by_cases hlt : k < N
   ·have hkl : k < l.length := by rw [HN.out]; exact hlt
    have hkm : k < m.length := by rw [HN2.out]; exact hlt
    have hlti : (k : Int) < N := by omega
    obtain ⟨ad, A3, c3, rfl, x0, x1, x2, x3, x4, x5, x6, xl, xh⟩ := at_T44 HR.out (k : Int) (by omega) (by omega)
    obtain ⟨bd, B3, d3, rfl, y0, y1, y2, y3, y4, y5, y6, yl, yh⟩ := at_T44 HM.out (k : Int) (by omega) (by omega)
    rw [rd44 hkl] at x0 x1 x2 x3 x4 x5 x6 xl xh
    rw [rd44 hkm] at y0 y1 y2 y3 y4 y5 y6 yl yh
    rw [Int.toNat_natCast] at x0 x1 x2 x3 x4 x5 x6 y0 y1 y2 y3 y4 y5 y6
    replace x0 := pw_cell_below HA.out.2 x0
    replace x1 := pw_cell_below HA.out.2 x1
    replace x2 := pw_cell_below HA.out.2 x2
    replace x3 := pw_cell_below HA.out.2 x3
    replace x4 := pw_cell_below HA.out.2 x4
    replace x5 := pw_cell_below HA.out.2 x5
    replace x6 := pw_cell_below HA.out.2 x6
    replace y0 := fun o => pw_cell_below (below_alloc HA.out.2 o) y0
    replace y1 := fun o => pw_cell_below (below_alloc HA.out.2 o) y1
    replace y2 := fun o => pw_cell_below (below_alloc HA.out.2 o) y2
    replace y3 := fun o => pw_cell_below (below_alloc HA.out.2 o) y3
    replace y4 := fun o => pw_cell_below (below_alloc HA.out.2 o) y4
    replace y5 := fun o => pw_cell_below (below_alloc HA.out.2 o) y5
    replace y6 := fun o => pw_cell_below (below_alloc HA.out.2 o) y6
    have HE := Lib.hid HA.out.1
    rw [eqL_drop hkl hkm] at HE
    have HBW := Lib.hid HA.out.2
    have HC := Lib.hid (fun (W : World) (hW : Below w.heap.size w W) => sameF_c W l[k] m[k] A3 B3 c3 d3 xl yl (Kd.C_below xh hW) (Kd.C_below yh hW) (HS.out _ (List.getElem_mem hkl)))
    unfold cF at HC
    clear xh yh xl yl
    clear HA
    cases hxy : eqF l[k] m[k] with
    | true =>
     rw [hxy] at HC HE
     rw [Bool.true_and] at HE
     clear hxy
     generalize l[k] = x at *
     generalize m[k] = y at *
     go_wp2_with fail
     refine (HC.out _ (by repeat (first | exact HBW.out | apply below_alloc))).mono ?_
     rintro e w1 ⟨rfl, hb1⟩
     have HB1 := Lib.hid (link (below_alloc (below_alloc HBW.out _) _) hb1)
     clear hb1
     go_wp2
     go_roundw
     case rel => exact ⟨k + 1, by omega, by go_num, HE.out, HB1.out⟩
     case measure => simp [intOf]; omega
    | false =>
     rw [hxy] at HC HE
     rw [Bool.false_and] at HE
     clear hxy
     generalize l[k] = x at *
     generalize m[k] = y at *
     go_wp2_with fail
     refine (HC.out _ (by repeat (first | exact HBW.out | apply below_alloc))).mono ?_
     rintro e w1 ⟨rfl, hb1⟩
     have HB1 := Lib.hid (link (below_alloc (below_alloc HBW.out _) _) hb1)
     clear hb1
     go_wp2
     go_ret
     exact ⟨by rw [← HE.out]; rfl, HB1.out⟩
   ·have hlti : ¬ (k : Int) < N := by omega
    have HE := Lib.hid HA.out
    have hfin : eqL eqF (l.drop k) (m.drop k) = true := eqL_end (by rw [HN.out, HN2.out]) (by rw [HN.out]; omega)
    rw [hfin] at HE
    clear hfin HA
    go_wp2
    go_ret
    exact ⟨by rw [← HE.out.1]; rfl, HE.out.2⟩
 ·have e := eqL_len (R := eqF) hlen
  have hne : ((l.length : Int) != (m.length : Int)) = true := by simp; omega
  rw [e]
  generalize l.length = n1 at *
  generalize m.length = n2 at *
  clear hl hm
  go_enter Try.func42, Try.ntmps42
  go_wp2
  go_ret
  exact ⟨rfl, Below.refl _ _⟩
def eqRep (lv : Int) (fs : List Fi) (o : List Int) (lv' : Int) (fs' : List Fi) (o' : List Int) : Bool := decide (lv = lv') && (eqL eqF fs fs' && alike o o')
set_option maxHeartbeats 4000000 in
set_option maxRecDepth 100000 in
theorem same_c (w : World) (lv lv' : Int) (fs fs' : List Fi) (o o' : List Int) (A1 A2 B1 B2 : Option Addr) (c1 c2 d1 d2 : Nat) (h1 : Kd.C k44 w A1 fs.length fs) (h2 : (Kd.int .i64).C w A2 o.length o) (g1 : Kd.C k44 w B1 fs'.length fs') (g2 : (Kd.int .i64).C w B2 o'.length o') (hc2 : o.length ≤ c2) (hd2 : o'.length ≤ d2) (hb : fs.length ≤ big) (hbs : ∀ f ∈ fs, f.f6.length ≤ big) (hbo : o.length ≤ big) :
 Calls Try.prog 16 #[.agg #[.int .i64 lv, .slice A1 fs.length c1, .slice A2 o.length c2], .agg #[.int .i64 lv', .slice B1 fs'.length d1, .slice B2 o'.length d2]] w fun e w' => e = .returned (.bool (eqRep lv fs o lv' fs' o')) ∧ Below w.heap.size w w' := by
 have HB : Hid (Below w.heap.size w ((w.alloc (.cells #[.int .i64 lv, .slice A1 fs.length c1, .slice A2 o.length c2] 25)).alloc (.cells #[.int .i64 lv', .slice B1 fs'.length d1, .slice B2 o'.length d2] 25))) := Lib.hid (((Below.refl _ _).alloc (Nat.le_refl _) _).alloc (by simp) _)
 have HE := Lib.hid (fun (W : World) (hW : Below w.heap.size w W) => equalF_c W fs fs' A1 B1 c1 d1 (Kd.C_below h1 hW) (Kd.C_below g1 hW) hb hbs)
 have HI : Hid (∀ W, Below w.heap.size w W → Calls Try.prog 44 #[.slice A2 o.length c2, .slice B2 o'.length d2] W fun e w' => e = .returned (.bool (alike o o')) ∧ Below W.heap.size W w') := Lib.hid (fun W hW => by
  obtain ⟨k, hk⟩ := ints_f (l := o) (m := o') hbo
  exact (slices_Equal_int_int.calls k A2 c2 o B2 d2 o' _ W (Kd.C_below h2 hW) hc2 (Kd.C_below g2 hW) hd2 hk).mono fun e w' ⟨h1, h2⟩ => ⟨h1, drawn_bel h2⟩)
 unfold eqRep
 clear h1 h2 g1 g2 hc2 hd2 hb hbs hbo
 generalize fs.length = n1 at *
 generalize fs'.length = n2 at *
 generalize o.length = m1 at *
 generalize o'.length = m2 at *
 generalize eqL eqF fs fs' = q1 at *
 generalize alike o o' = q2 at *
 by_cases hl : lv = lv'
 ·subst hl
  rw [decide_eq_true rfl, Bool.true_and]
  cases q1 with
  | true =>
   rw [Bool.true_and]
   go_enter Try.func16, Try.ntmps16
   go_wp2_with fail
   refine (HE.out _ HB.out).mono ?_
   rintro e w1 ⟨rfl, hb1⟩
   have y0 := fun (b j : Nat) (v : Value) (h : World.cell? ((w.alloc (.cells #[.int .i64 lv, .slice A1 n1 c1, .slice A2 m1 c2] 25)).alloc (.cells #[.int .i64 lv, .slice B1 n2 d1, .slice B2 m2 d2] 25)) ⟨b, j, none⟩ = some v) => pw_cell_below hb1 h
   have z1 := y0 w.heap.size 2 (.slice A2 m1 c2) ((((Blk.new w [.int .i64 lv, .slice A1 n1 c1, .slice A2 m1 c2] 25).alloc _).cell 2).trans rfl)
   have z2 := y0 (w.heap.size + 1) 2 (.slice B2 m2 d2) (by have h := ((Blk.new (w.alloc (.cells #[.int .i64 lv, .slice A1 n1 c1, .slice A2 m1 c2] 25)) [.int .i64 lv, .slice B1 n2 d1, .slice B2 m2 d2] 25).cell 2).trans rfl; rw [World.size_alloc] at h; exact h)
   have HB1 := Lib.hid (link HB.out hb1)
   clear y0 hb1
   go_wp2_with fail
   refine (HI.out _ HB1.out).mono ?_
   rintro e w2 ⟨rfl, hb2⟩
   go_wp2
   go_ret
   exact ⟨rfl, link HB1.out hb2⟩
  | false =>
   rw [Bool.false_and]
   go_enter Try.func16, Try.ntmps16
   go_wp2_with fail
   refine (HE.out _ HB.out).mono ?_
   rintro e w1 ⟨rfl, hb1⟩
   go_wp2
   go_ret
   exact ⟨rfl, link HB.out hb1⟩
 ·have hd : (lv == lv') = false := by simp [hl]
  rw [decide_eq_false hl, Bool.false_and]
  clear hl
  go_enter Try.func16, Try.ntmps16
  go_wp2
  go_ret
  exact ⟨rfl, HB.out⟩
end Go.Proofs.Ytkoddmedhnhgiaa.Rp
namespace Go.Proofs.Ytkoddmedhnhgiaa.PReportBack
open Go.RowKit Go.Proofs.YtkoddmedhnhgiaaW.PrintWords Go.Proofs.YtkoddmedhnhgiaaW.PrintLast Go.Proofs.YtkoddmedhnhgiaaW.PrintMore
attribute [local go_sem] max2_int min2_int max_two min_two max_three min_three max_four min_four
set_option linter.unusedVariables false
set_option linter.unusedSimpArgs false
mutual
def coronerref01_Print.j0 : Nat → Int → Bool → Option (ByteArray × Int)
 | 0, _, _ => none
 | k + 1, x0, x10 => if x10 = true then (some ((⟨#[]⟩ : ByteArray), 2)) else (coronerref01_Print.l0 k x0 (⟨#[]⟩ : ByteArray))
def coronerref01_Print.l0 : Nat → Int → ByteArray → Option (ByteArray × Int)
 | 0, _, _ => none
 | k + 1, x0, x4 => if x0 > 9 then (if 0 ≤ (Int.tmod x0 10) then (if (Int.tmod x0 10) ≤ (wrap64 ((Int.tmod x0 10) + 1)) then (if (wrap64 ((Int.tmod x0 10) + 1)) ≤ 10 then (if ((⟨#[48, 49, 50, 51, 52, 53, 54, 55, 56, 57]⟩ : ByteArray).extract ((Int.tmod x0 10) : Int).toNat ((wrap64 ((Int.tmod x0 10) + 1)) : Int).toNat).size + x4.size ≤ 9223372036854775807 then (coronerref01_Print.l0 k (wrap64 (Int.tdiv x0 10)) (((⟨#[48, 49, 50, 51, 52, 53, 54, 55, 56, 57]⟩ : ByteArray).extract ((Int.tmod x0 10) : Int).toNat ((wrap64 ((Int.tmod x0 10) + 1)) : Int).toNat) ++ x4)) else (none)) else (none)) else (none)) else (none)) else (if 0 ≤ x0 then (if x0 ≤ (wrap64 (x0 + 1)) then (if (wrap64 (x0 + 1)) ≤ 10 then (if ((⟨#[48, 49, 50, 51, 52, 53, 54, 55, 56, 57]⟩ : ByteArray).extract (x0 : Int).toNat ((wrap64 (x0 + 1)) : Int).toNat).size + x4.size ≤ 9223372036854775807 then (some (((⟨#[48, 49, 50, 51, 52, 53, 54, 55, 56, 57]⟩ : ByteArray).extract (x0 : Int).toNat ((wrap64 (x0 + 1)) : Int).toNat) ++ x4, 0)) else (none)) else (none)) else (none)) else (none))
end
def coronerref01_Print.f (k : Nat) (a0 : Int) : Option (ByteArray × Int) := if a0 < 0 then (coronerref01_Print.j0 k a0 true) else (coronerref01_Print.j0 k a0 (decide (a0 > 2147483647)))
theorem coronerref01_Print.mono_l : ∀ k, (∀ y0 y1, LeO (coronerref01_Print.j0 k y0 y1) (coronerref01_Print.j0 (k + 1) y0 y1)) ∧ (∀ y0 y1, LeO (coronerref01_Print.l0 k y0 y1) (coronerref01_Print.l0 (k + 1) y0 y1))
 | 0 => ⟨fun _ _ r h => by simp [coronerref01_Print.j0] at h, fun _ _ r h => by simp [coronerref01_Print.l0] at h⟩
 | k + 1 => by
  obtain ⟨ih0, ih1⟩ := coronerref01_Print.mono_l k
  refine ⟨?_, ?_⟩
  ·intro y0 y1
   unfold coronerref01_Print.j0
   repeat' first
   | (with_reducible exact ih0 _ _)
   | (with_reducible exact ih1 _ _)
   | (with_reducible exact LeO.refl _)
   | (with_reducible exact LeO.none _)
   | (with_reducible refine LeO.ite ?_ ?_)
   | (with_reducible refine LeO.bind ?_ (fun _ => ?_))
   | exact ih0 _ _
   | exact ih1 _ _
   | exact LeO.none _
   | refine LeO.ite ?_ ?_
   | refine LeO.bind ?_ (fun _ => ?_)
  ·intro y0 y1
   unfold coronerref01_Print.l0
   repeat' first
   | (with_reducible exact ih0 _ _)
   | (with_reducible exact ih1 _ _)
   | (with_reducible exact LeO.refl _)
   | (with_reducible exact LeO.none _)
   | (with_reducible refine LeO.ite ?_ ?_)
   | (with_reducible refine LeO.bind ?_ (fun _ => ?_))
   | exact ih0 _ _
   | exact ih1 _ _
   | exact LeO.none _
   | refine LeO.ite ?_ ?_
   | refine LeO.bind ?_ (fun _ => ?_)
theorem coronerref01_Print.mono : ∀ a0 k, LeO (coronerref01_Print.f k a0) (coronerref01_Print.f (k + 1) a0) := by
 intro a0 k
 obtain ⟨ih0, ih1⟩ := coronerref01_Print.mono_l k
 unfold coronerref01_Print.f
 repeat' first
  | (with_reducible exact ih0 _ _)
  | (with_reducible exact ih1 _ _)
  | (with_reducible exact LeO.refl _)
  | (with_reducible exact LeO.none _)
  | (with_reducible refine LeO.ite ?_ ?_)
  | (with_reducible refine LeO.bind ?_ (fun _ => ?_))
  | exact ih0 _ _
  | exact ih1 _ _
  | exact LeO.none _
  | refine LeO.ite ?_ ?_
  | refine LeO.bind ?_ (fun _ => ?_)
def coronerref31_line.l0 : Nat → List Int → ByteArray → Int → Option (ByteArray)
 | 0, _, _, _ => none
 | k + 1, x1, x5, x6 => if x6 < (x1.length : Int) then (if 0 ≤ x6 then (if (rd x1 x6) ≥ 0 then ((coronerref01_Print.f k (rd x1 x6)).bind fun bt168 => (if x5.size + 1 ≤ 9223372036854775807 then (if (x5 ++ (⟨#[32]⟩ : ByteArray)).size + bt168.1.size ≤ 9223372036854775807 then (coronerref31_line.l0 k x1 ((x5 ++ (⟨#[32]⟩ : ByteArray)) ++ bt168.1) (wrap64 (x6 + 1))) else (none)) else (none))) else (if x5.size + 1 ≤ 9223372036854775807 then (if (x5 ++ (⟨#[32]⟩ : ByteArray)).size + 1 ≤ 9223372036854775807 then (coronerref31_line.l0 k x1 ((x5 ++ (⟨#[32]⟩ : ByteArray)) ++ (⟨#[45]⟩ : ByteArray)) (wrap64 (x6 + 1))) else (none)) else (none))) else (none)) else (if x5.size + 1 ≤ 9223372036854775807 then (some (x5 ++ (⟨#[10]⟩ : ByteArray))) else (none))
def coronerref31_line.f (k : Nat) (a0 : ByteArray) (l1 : List Int) : Option (ByteArray) := coronerref31_line.l0 k l1 a0 0
theorem coronerref31_line.mono_l : ∀ k, (∀ y0 y1 y2, LeO (coronerref31_line.l0 k y0 y1 y2) (coronerref31_line.l0 (k + 1) y0 y1 y2))
 | 0 => fun _ _ _ r h => by simp [coronerref31_line.l0] at h
 | k + 1 => by
  have ih0 := coronerref31_line.mono_l k
  ·intro y0 y1 y2
   unfold coronerref31_line.l0
   repeat' first
   | (with_reducible exact ih0 _ _ _)
   | (with_reducible exact coronerref01_Print.mono _ _)
   | (with_reducible exact LeO.refl _)
   | (with_reducible exact LeO.none _)
   | (with_reducible refine LeO.ite ?_ ?_)
   | (with_reducible refine LeO.bind ?_ (fun _ => ?_))
   | exact ih0 _ _ _
   | exact coronerref01_Print.mono _ _
   | exact LeO.none _
   | refine LeO.ite ?_ ?_
   | refine LeO.bind ?_ (fun _ => ?_)
theorem coronerref31_line.mono : ∀ a0 a1 k, LeO (coronerref31_line.f k a0 a1) (coronerref31_line.f (k + 1) a0 a1) := by
 intro a0 a1 k
 have ih0 := coronerref31_line.mono_l k
 unfold coronerref31_line.f
 repeat' first
  | (with_reducible exact ih0 _ _ _)
  | (with_reducible exact coronerref01_Print.mono _ _)
  | (with_reducible exact LeO.refl _)
  | (with_reducible exact LeO.none _)
  | (with_reducible refine LeO.ite ?_ ?_)
  | (with_reducible refine LeO.bind ?_ (fun _ => ?_))
  | exact ih0 _ _ _
  | exact coronerref01_Print.mono _ _
  | exact LeO.none _
  | refine LeO.ite ?_ ?_
  | refine LeO.bind ?_ (fun _ => ?_)
mutual
def coronerref31_Print.l0 : Nat → ByteArray → Int → Int → List (S44) → List Int → Option (ByteArray × Int)
 | 0, _, _, _, _, _ => none
 | k + 1, x4, x5, x171000, x171001, x171002 => if x5 < (x171001.length : Int) then (if 0 ≤ x5 then ((coronerref31_finding.f ((rd_T44 x171001 x5).f0) ((rd_T44 x171001 x5).f1) ((rd_T44 x171001 x5).f2) ((rd_T44 x171001 x5).f3) ((rd_T44 x171001 x5).f4) ((rd_T44 x171001 x5).f5) ((rd_T44 x171001 x5).f6)).bind fun t178 => ((coronerref31_line.f k (⟨#[102]⟩ : ByteArray) t178).bind fun t181 => (if x4.size + t181.size ≤ 9223372036854775807 then (coronerref31_Print.l1 k (x4 ++ t181) x5 0 x171000 x171001 x171002) else (none)))) else (none)) else ((coronerref31_line.f k (⟨#[111]⟩ : ByteArray) x171002).bind fun t176 => (if x4.size + t176.size ≤ 9223372036854775807 then (some (x4 ++ t176, 0)) else (none)))
def coronerref31_Print.l1 : Nat → ByteArray → Int → Int → Int → List (S44) → List Int → Option (ByteArray × Int)
 | 0, _, _, _, _, _, _ => none
 | k + 1, x4, x5, x6, x171000, x171001, x171002 => if 0 ≤ x5 then (if x5 < (x171001.length : Int) then (if x6 < (((rd_T44 x171001 x5).f6).length : Int) then (if 0 ≤ x6 then ((coronerref31_edge.f ((rd_T49 ((rd_T44 x171001 x5).f6) x6).f0) ((rd_T49 ((rd_T44 x171001 x5).f6) x6).f1) ((rd_T49 ((rd_T44 x171001 x5).f6) x6).f2) ((rd_T49 ((rd_T44 x171001 x5).f6) x6).f3) ((rd_T49 ((rd_T44 x171001 x5).f6) x6).f4) ((rd_T49 ((rd_T44 x171001 x5).f6) x6).f5)).bind fun t185 => ((coronerref31_line.f k (⟨#[101]⟩ : ByteArray) t185).bind fun t188 => (if x4.size + t188.size ≤ 9223372036854775807 then (coronerref31_Print.l1 k (x4 ++ t188) x5 (wrap64 (x6 + 1)) x171000 x171001 x171002) else (none)))) else (none)) else (coronerref31_Print.l0 k x4 (wrap64 (x5 + 1)) x171000 x171001 x171002)) else (none)) else (none)
end
def coronerref31_Print.f (k : Nat) (a0_0 : Int) (l0_1 : List (S44)) (l0_2 : List Int) : Option (ByteArray × Int) := (coronerref31_Check.f k a0_0 l0_1 l0_2).bind fun t171 => (if t171 = 0 then ((coronerref31_line.f k (⟨#[108]⟩ : ByteArray) (([a0_0] : List Int))).bind fun t175 => (coronerref31_Print.l0 k t175 0 a0_0 l0_1 l0_2)) else (some ((⟨#[]⟩ : ByteArray), 2)))
theorem coronerref31_Print.mono_l : ∀ k, (∀ y0 y1 y2 y3 y4, LeO (coronerref31_Print.l0 k y0 y1 y2 y3 y4) (coronerref31_Print.l0 (k + 1) y0 y1 y2 y3 y4)) ∧ (∀ y0 y1 y2 y3 y4 y5, LeO (coronerref31_Print.l1 k y0 y1 y2 y3 y4 y5) (coronerref31_Print.l1 (k + 1) y0 y1 y2 y3 y4 y5))
 | 0 => ⟨fun _ _ _ _ _ r h => by simp [coronerref31_Print.l0] at h, fun _ _ _ _ _ _ r h => by simp [coronerref31_Print.l1] at h⟩
 | k + 1 => by
  obtain ⟨ih0, ih1⟩ := coronerref31_Print.mono_l k
  refine ⟨?_, ?_⟩
  ·intro y0 y1 y2 y3 y4
   unfold coronerref31_Print.l0
   repeat' first
   | (with_reducible exact ih0 _ _ _ _ _)
   | (with_reducible exact ih1 _ _ _ _ _ _)
   | (with_reducible exact coronerref31_Check.mono _ _ _ _)
   | (with_reducible exact coronerref31_line.mono _ _ _)
   | (with_reducible exact LeO.refl _)
   | (with_reducible exact LeO.none _)
   | (with_reducible refine LeO.ite ?_ ?_)
   | (with_reducible refine LeO.bind ?_ (fun _ => ?_))
   | exact ih0 _ _ _ _ _
   | exact ih1 _ _ _ _ _ _
   | exact coronerref31_Check.mono _ _ _ _
   | exact coronerref31_line.mono _ _ _
   | exact LeO.none _
   | refine LeO.ite ?_ ?_
   | refine LeO.bind ?_ (fun _ => ?_)
  ·intro y0 y1 y2 y3 y4 y5
   unfold coronerref31_Print.l1
   repeat' first
   | (with_reducible exact ih0 _ _ _ _ _)
   | (with_reducible exact ih1 _ _ _ _ _ _)
   | (with_reducible exact coronerref31_Check.mono _ _ _ _)
   | (with_reducible exact coronerref31_line.mono _ _ _)
   | (with_reducible exact LeO.refl _)
   | (with_reducible exact LeO.none _)
   | (with_reducible refine LeO.ite ?_ ?_)
   | (with_reducible refine LeO.bind ?_ (fun _ => ?_))
   | exact ih0 _ _ _ _ _
   | exact ih1 _ _ _ _ _ _
   | exact coronerref31_Check.mono _ _ _ _
   | exact coronerref31_line.mono _ _ _
   | exact LeO.none _
   | refine LeO.ite ?_ ?_
   | refine LeO.bind ?_ (fun _ => ?_)
theorem coronerref31_Print.mono : ∀ a0 a1 a2 k, LeO (coronerref31_Print.f k a0 a1 a2) (coronerref31_Print.f (k + 1) a0 a1 a2) := by
 intro a0 a1 a2 k
 obtain ⟨ih0, ih1⟩ := coronerref31_Print.mono_l k
 unfold coronerref31_Print.f
 repeat' first
  | (with_reducible exact ih0 _ _ _ _ _)
  | (with_reducible exact ih1 _ _ _ _ _ _)
  | (with_reducible exact coronerref31_Check.mono _ _ _ _)
  | (with_reducible exact coronerref31_line.mono _ _ _)
  | (with_reducible exact LeO.refl _)
  | (with_reducible exact LeO.none _)
  | (with_reducible refine LeO.ite ?_ ?_)
  | (with_reducible refine LeO.bind ?_ (fun _ => ?_))
  | exact ih0 _ _ _ _ _
  | exact ih1 _ _ _ _ _ _
  | exact coronerref31_Check.mono _ _ _ _
  | exact coronerref31_line.mono _ _ _
  | exact LeO.none _
  | refine LeO.ite ?_ ?_
  | refine LeO.bind ?_ (fun _ => ?_)
end Go.Proofs.Ytkoddmedhnhgiaa.PReportBack
set_option linter.unusedSimpArgs false
namespace Go.Proofs.Ytkoddmedhnhgiaa.Rp
open Go.RowKit Go.Proofs.Ytkoddmedhnhgiaa.PReportBack Go.Proofs.YtkoddmedhnhgiaaW.PrintWords
set_option linter.unusedVariables false
theorem nE_le (x : Ed) (n : Nat) (h : 6 ≤ n) : (nE x).length ≤ n := h
theorem nF_le (x : Fi) (n : Nat) (h : 6 ≤ n) : (nF x).length ≤ n := h
theorem rmay_ev (l : List Int) (hl : l.length ≤ big) : ∀ (d i : Nat), i + d = l.length → Ev (fun k => coronerref31_may.l0 k l (i : Int)) ((l.drop i).all okR)
 | 0, i, h => by
  rw [List.drop_eq_nil_of_le (by omega)]
  exact Ev.step (f := fun _ => some true) (fun k => by simp only [coronerref31_may.l0]; rw [if_neg (by omega)]) (Ev.now _)
 | d + 1, i, h => by
  have hlt : i < l.length := by omega
  have ih := rmay_ev l hl d (i + 1) (by omega)
  have hs : ∀ k, coronerref31_may.l0 (k + 1) l (i : Int) = if l[i] < -1 then some false else if l[i] > 2147483647 then some false else coronerref31_may.l0 k l ((i + 1 : Nat) : Int) := fun k => by
   simp only [coronerref31_may.l0]
   rw [if_pos (by omega), if_pos (by omega), rdI hlt, wrapS hlt hl]
  rw [List.drop_eq_getElem_cons hlt, List.all_cons]
  by_cases h1 : l[i] < -1
  ·have e : okR l[i] = false := by rw [← Bool.not_eq_true, okR_iff]; omega
   rw [e, Bool.false_and]
   exact Ev.step (f := fun _ => some false) (fun k => by rw [hs, if_pos h1]) (Ev.now _)
  ·by_cases h2 : l[i] > 2147483647
   ·have e : okR l[i] = false := by rw [← Bool.not_eq_true, okR_iff]; omega
    rw [e, Bool.false_and]
    exact Ev.step (f := fun _ => some false) (fun k => by rw [hs, if_neg h1, if_pos h2]) (Ev.now _)
   ·have e : okR l[i] = true := okR_iff.2 (by omega)
    rw [e, Bool.true_and]
    exact Ev.step (fun k => by rw [hs, if_neg h1, if_neg h2]) ih
theorem may_ev (l : List Int) (hl : l.length ≤ big) : Ev (fun k => coronerref31_may.f k l) (l.all okR) := rmay_ev l hl l.length 0 (by omega)
def okI (b : Bool) : Int := if b = true then 0 else 2
section
variable {lv : Int} {fs : List Fi} {o : List Int}
theorem rchk_l1 (hl : fs.length ≤ big) (i : Nat) (hi : i < fs.length) (f : Fi) (hc : f.f6.length ≤ big) (R : Int) (hR : Ev (fun k => coronerref31_Check.l0 k ((i + 1 : Nat) : Int) lv fs o) R) : ∀ (d j : Nat), j + d = f.f6.length →
 Ev (fun k => coronerref31_Check.l1 k (i : Int) (j : Int) lv fs o f.f0 f.f1 f.f2 f.f3 f.f4 f.f5 f.f6) (if (f.f6.drop j).all mayE = true then R else 2)
 | 0, j, h => by
  rw [List.drop_eq_nil_of_le (by omega), List.all_nil, if_pos rfl]
  refine Ev.step (fun k => ?_) hR
  simp only [coronerref31_Check.l1]
  rw [if_neg (by omega), wrapS hi hl]
 | d + 1, j, h => by
  have hlt : j < f.f6.length := by omega
  have ih := rchk_l1 hl i hi f hc R hR d (j + 1) (by omega)
  rw [List.drop_eq_getElem_cons hlt, List.all_cons]
  refine Ev.step (f := fun k => (coronerref31_may.f k (nE f.f6[j])).bind fun t => if t = true then coronerref31_Check.l1 k (i : Int) ((j + 1 : Nat) : Int) lv fs o f.f0 f.f1 f.f2 f.f3 f.f4 f.f5 f.f6 else some 2) (fun k => ?_) ?_
  ·simp only [coronerref31_Check.l1]
   rw [if_pos (by omega), if_pos (by omega), rd49 hlt, wrapS hlt hc]
   rfl
  ·refine Ev.bind (may_ev _ (nE_le _ _ (by decide))) ?_
   show Ev (fun k => if mayE f.f6[j] = true then _ else _) _
   cases mayE f.f6[j] with
   | true => rw [Bool.true_and]; exact ih
   | false => rw [Bool.false_and]; exact Ev.now _
theorem rchk_l0 (hl : fs.length ≤ big) (hc : ∀ f ∈ fs, f.f6.length ≤ big) : ∀ (d i : Nat), i + d = fs.length → Ev (fun k => coronerref31_Check.l0 k (i : Int) lv fs o) (okI ((fs.drop i).all mayF))
 | 0, i, h => by
  rw [List.drop_eq_nil_of_le (by omega)]
  exact Ev.step (f := fun _ => some 0) (fun k => by simp only [coronerref31_Check.l0]; rw [if_neg (by omega)]) (Ev.now _)
 | d + 1, i, h => by
  have hlt : i < fs.length := by omega
  have hcf := hc _ (List.getElem_mem hlt)
  have ih := rchk_l0 hl hc d (i + 1) (by omega)
  have h1 := rchk_l1 (lv := lv) (o := o) hl i hlt fs[i] hcf _ ih fs[i].f6.length 0 (by omega)
  rw [List.drop_zero] at h1
  have hj : ∀ b : Bool, Ev (fun k => coronerref31_Check.j2 k (i : Int) b lv fs o fs[i].f0 fs[i].f1 fs[i].f2 fs[i].f3 fs[i].f4 fs[i].f5 fs[i].f6) (if b = true then 2 else if fs[i].f6.all mayE = true then okI ((fs.drop (i + 1)).all mayF) else 2) := fun b => by
   cases b with
   | true => exact Ev.step (f := fun _ => some 2) (fun k => by simp only [coronerref31_Check.j2]; rw [if_pos trivial]) (Ev.now _)
   | false => exact Ev.step (fun k => by simp only [coronerref31_Check.j2]; rw [if_neg (by decide)]; rfl) h1
  rw [List.drop_eq_getElem_cons hlt, List.all_cons]
  refine Ev.step (f := fun k => (coronerref31_may.f k (nF fs[i])).bind fun t => if t = true then coronerref31_Check.j2 k (i : Int) (decide ((fs[i].f6.length : Int) > 1024)) lv fs o fs[i].f0 fs[i].f1 fs[i].f2 fs[i].f3 fs[i].f4 fs[i].f5 fs[i].f6 else coronerref31_Check.j2 k (i : Int) true lv fs o fs[i].f0 fs[i].f1 fs[i].f2 fs[i].f3 fs[i].f4 fs[i].f5 fs[i].f6) (fun k => ?_) ?_
  ·simp only [coronerref31_Check.l0]
   rw [if_pos (by omega), if_pos (by omega), rd44 hlt]
   rfl
  ·refine Ev.bind (may_ev _ (nF_le _ _ (by decide))) ?_
   unfold mayF
   cases hn : (nF fs[i]).all okR with
   | false => exact Ev.congr (fun k => if_neg (by decide)) (hj true)
   | true =>
    rw [Bool.true_and]
    refine Ev.congr (fun k => if_pos rfl) ?_
    have h2 := hj (decide ((fs[i].f6.length : Int) > 1024))
    by_cases hlen : fs[i].f6.length ≤ 1024
    ·rw [decide_eq_true hlen, Bool.true_and]
     have e : decide ((fs[i].f6.length : Int) > 1024) = false := decide_eq_false (by omega)
     rw [e, if_neg (by decide)] at h2
     rw [e]
     cases hm : fs[i].f6.all mayE with
     | true => rw [hm, if_pos rfl] at h2; rw [Bool.true_and]; exact h2
     | false => rw [hm, if_neg (by decide)] at h2; rw [Bool.false_and]; exact h2
    ·rw [decide_eq_false hlen, Bool.false_and, Bool.false_and]
     have e : decide ((fs[i].f6.length : Int) > 1024) = true := decide_eq_true (by omega)
     rw [e, if_pos rfl] at h2
     rw [e]
     exact h2
theorem rchk_ev (lv : Int) (fs : List Fi) (o : List Int) (hl : fs.length ≤ big) (ho : o.length ≤ big) (hc : ∀ f ∈ fs, f.f6.length ≤ big) : Ev (fun k => coronerref31_Check.f k lv fs o) (chk lv fs o) := by
 have hj : ∀ b : Bool, Ev (fun k => coronerref31_Check.j0 k b lv fs o) (if b = true then 2 else okI (fs.all mayF)) := fun b => by
  cases b with
  | true => exact Ev.step (f := fun _ => some 2) (fun k => by simp only [coronerref31_Check.j0]; rw [if_pos trivial]) (Ev.now _)
  | false =>
   have h := rchk_l0 (lv := lv) (o := o) hl hc fs.length 0 (by omega)
   rw [List.drop_zero] at h
   exact Ev.step (fun k => by simp only [coronerref31_Check.j0]; rw [if_neg (by decide)]; rfl) h
 have hno : okRep lv fs o = false → chk lv fs o = 2 := fun h => by unfold chk; rw [h]; rfl
 unfold coronerref31_Check.f
 by_cases h1 : lv < 0
 ·rw [hno (by unfold okRep; rw [decide_eq_false (by omega)]; rfl)]
  exact Ev.congr (fun k => if_pos h1) (hj true)
 ·by_cases h2 : lv > 4
  ·rw [hno (by unfold okRep; rw [decide_eq_false (by omega)]; rfl)]
   exact Ev.congr (fun k => by rw [if_neg h1, if_pos h2]) (hj true)
  ·by_cases h3 : fs.length ≤ 1024
   ·by_cases h4 : o.length ≤ 1024
    ·refine Ev.congr (f := fun k => (coronerref31_may.f k o).bind fun t => coronerref31_Check.j0 k (!t) lv fs o) (fun k => by rw [if_neg h1, if_neg h2, if_neg (by omega), if_neg (by omega)]) ?_
     refine Ev.bind (may_ev _ ho) ?_
     have h5 := hj (!o.all okR)
     unfold chk okRep
     rw [decide_eq_true (show 0 ≤ lv ∧ lv ≤ 4 by omega), decide_eq_true h3, decide_eq_true h4]
     cases hb : o.all okR with
     | true => rw [hb] at h5; exact h5
     | false => rw [hb] at h5; exact h5
    ·rw [hno (by unfold okRep; rw [decide_eq_false h4]; simp)]
     exact Ev.congr (fun k => by rw [if_neg h1, if_neg h2, if_neg (by omega), if_pos (by omega)]) (hj true)
   ·rw [hno (by unfold okRep; rw [decide_eq_false h3]; simp)]
    exact Ev.congr (fun k => by rw [if_neg h1, if_neg h2, if_pos (by omega)]) (hj true)
end
section
variable {lv : Int} {fs : List Fi} {o : List Int}
end
end Go.Proofs.Ytkoddmedhnhgiaa.Rp
namespace Go.Proofs.Ytkoddmedhnhgiaa.PReportBack
open Go.RowKit Go.Proofs.YtkoddmedhnhgiaaW.PrintWords Go.Proofs.YtkoddmedhnhgiaaW.PrintLast Go.Proofs.YtkoddmedhnhgiaaW.PrintMore
attribute [local go_sem] max2_int min2_int max_two min_two max_three min_three max_four min_four
set_option linter.unusedVariables false
set_option linter.unusedSimpArgs false
theorem far7 {W : World} {g : Nat} {a : Addr} (h : a.block ≠ g) (u0 u1 u2 u3 u4 u5 u6 : Value) : (((((((W.setCell ⟨g, 0, none⟩ u0).setCell ⟨g, 1, none⟩ u1).setCell ⟨g, 2, none⟩ u2).setCell ⟨g, 3, none⟩ u3).setCell ⟨g, 4, none⟩ u4).setCell ⟨g, 5, none⟩ u5).setCell ⟨g, 6, none⟩ u6).cell? a = W.cell? a :=
 (cell_far h u6).trans ((cell_far h u5).trans ((cell_far h u4).trans ((cell_far h u3).trans ((cell_far h u2).trans ((cell_far h u1).trans (cell_far h u0))))))
mutual
def coronerref31_Parse.l0 : Nat → List Int → Int → Int → List (S44) → Option (Int × (List (S44)) × List Int × Int × Int)
 | 0, _, _, _, _ => none
 | k + 1, x0, x7, x193000, x193001 => (coronerref31_is.f x0 x7 102).bind fun t199 => (if t199 = true then ((coronerref31_read.f k x0 x7 102 6).bind fun bt200 => (if bt200.2.2 = true then (if 0 < (bt200.1.length : Int) then (if 1 < (bt200.1.length : Int) then (if 2 < (bt200.1.length : Int) then (if 3 < (bt200.1.length : Int) then (if 4 < (bt200.1.length : Int) then (if 5 < (bt200.1.length : Int) then (coronerref31_Parse.l1 k x0 bt200.2.1 x193000 x193001 (rd bt200.1 0) (rd bt200.1 1) (rd bt200.1 2) (rd bt200.1 3) (rd bt200.1 4) (rd bt200.1 5) ([] : List (S49))) else (none)) else (none)) else (none)) else (none)) else (none)) else (none)) else (some (0, ([] : List (S44)), ([] : List Int), 4, bt200.2.1)))) else ((coronerref31_read.f k x0 x7 111 (-1)).bind fun bt230 => (if bt230.2.2 = true then (if bt230.2.1 < (x0.length : Int) then (some (0, ([] : List (S44)), ([] : List Int), 4, bt230.2.1)) else ((coronerref31_Check.f k x193000 x193001 bt230.1).bind fun t235 => (if t235 = 0 then (some (x193000, x193001, bt230.1, 0, 0)) else (some (0, ([] : List (S44)), ([] : List Int), 2, 0))))) else (some (0, ([] : List (S44)), ([] : List Int), 4, bt230.2.1)))))
def coronerref31_Parse.l1 : Nat → List Int → Int → Int → List (S44) → Int → Int → Int → Int → Int → Int → List (S49) → Option (Int × (List (S44)) × List Int × Int × Int)
 | 0, _, _, _, _, _, _, _, _, _, _, _ => none
 | k + 1, x0, x7, x193000, x193001, x212000, x212001, x212002, x212003, x212004, x212005, x212006 => (coronerref31_is.f x0 x7 101).bind fun t212 => (if t212 = true then ((coronerref31_read.f k x0 x7 101 6).bind fun bt213 => (if bt213.2.2 = true then (if 0 < (bt213.1.length : Int) then (if 1 < (bt213.1.length : Int) then (if 2 < (bt213.1.length : Int) then (if 3 < (bt213.1.length : Int) then (if 4 < (bt213.1.length : Int) then (if 5 < (bt213.1.length : Int) then (if x212006.length < 2932031007402 then (coronerref31_Parse.l1 k x0 bt213.2.1 x193000 x193001 x212000 x212001 x212002 x212003 x212004 x212005 (x212006 ++ [(⟨rd bt213.1 0, rd bt213.1 1, rd bt213.1 2, rd bt213.1 3, rd bt213.1 4, rd bt213.1 5⟩ : S49)])) else (none)) else (none)) else (none)) else (none)) else (none)) else (none)) else (none)) else (some (0, ([] : List (S44)), ([] : List Int), 4, bt213.2.1)))) else (if x193001.length < 1954687338268 then (coronerref31_Parse.l0 k x0 x7 x193000 (x193001 ++ [(⟨x212000, x212001, x212002, x212003, x212004, x212005, x212006⟩ : S44)])) else (none)))
end
def coronerref31_Parse.f (k : Nat) (l0 : List Int) : Option (Int × (List (S44)) × List Int × Int × Int) := (coronerref31_read.f k l0 0 108 1).bind fun bt193 => (if bt193.2.2 = true then (if 0 < (bt193.1.length : Int) then (coronerref31_Parse.l0 k l0 bt193.2.1 (rd bt193.1 0) ([] : List (S44))) else (none)) else (some (0, ([] : List (S44)), ([] : List Int), 4, bt193.2.1)))
theorem coronerref31_Parse.mono_l : ∀ k, (∀ y0 y1 y2 y3, LeO (coronerref31_Parse.l0 k y0 y1 y2 y3) (coronerref31_Parse.l0 (k + 1) y0 y1 y2 y3)) ∧ (∀ y0 y1 y2 y3 y4 y5 y6 y7 y8 y9 y10, LeO (coronerref31_Parse.l1 k y0 y1 y2 y3 y4 y5 y6 y7 y8 y9 y10) (coronerref31_Parse.l1 (k + 1) y0 y1 y2 y3 y4 y5 y6 y7 y8 y9 y10))
 | 0 => ⟨fun _ _ _ _ r h => by simp [coronerref31_Parse.l0] at h, fun _ _ _ _ _ _ _ _ _ _ _ r h => by simp [coronerref31_Parse.l1] at h⟩
 | k + 1 => by
  obtain ⟨ih0, ih1⟩ := coronerref31_Parse.mono_l k
  refine ⟨?_, ?_⟩
  ·intro y0 y1 y2 y3
   unfold coronerref31_Parse.l0
   repeat' first
   | (with_reducible exact ih0 _ _ _ _)
   | (with_reducible exact ih1 _ _ _ _ _ _ _ _ _ _ _)
   | (with_reducible exact coronerref31_Check.mono _ _ _ _)
   | (with_reducible exact coronerref31_read.mono _ _ _ _ _)
   | (with_reducible exact LeO.refl _)
   | (with_reducible exact LeO.none _)
   | (with_reducible refine LeO.ite ?_ ?_)
   | (with_reducible refine LeO.bind ?_ (fun _ => ?_))
   | exact ih0 _ _ _ _
   | exact ih1 _ _ _ _ _ _ _ _ _ _ _
   | exact coronerref31_Check.mono _ _ _ _
   | exact coronerref31_read.mono _ _ _ _ _
   | exact LeO.none _
   | refine LeO.ite ?_ ?_
   | refine LeO.bind ?_ (fun _ => ?_)
  ·intro y0 y1 y2 y3 y4 y5 y6 y7 y8 y9 y10
   unfold coronerref31_Parse.l1
   repeat' first
   | (with_reducible exact ih0 _ _ _ _)
   | (with_reducible exact ih1 _ _ _ _ _ _ _ _ _ _ _)
   | (with_reducible exact coronerref31_Check.mono _ _ _ _)
   | (with_reducible exact coronerref31_read.mono _ _ _ _ _)
   | (with_reducible exact LeO.refl _)
   | (with_reducible exact LeO.none _)
   | (with_reducible refine LeO.ite ?_ ?_)
   | (with_reducible refine LeO.bind ?_ (fun _ => ?_))
   | exact ih0 _ _ _ _
   | exact ih1 _ _ _ _ _ _ _ _ _ _ _
   | exact coronerref31_Check.mono _ _ _ _
   | exact coronerref31_read.mono _ _ _ _ _
   | exact LeO.none _
   | refine LeO.ite ?_ ?_
   | refine LeO.bind ?_ (fun _ => ?_)
theorem coronerref31_Parse.mono : ∀ a0 k, LeO (coronerref31_Parse.f k a0) (coronerref31_Parse.f (k + 1) a0) := by
 intro a0 k
 obtain ⟨ih0, ih1⟩ := coronerref31_Parse.mono_l k
 unfold coronerref31_Parse.f
 repeat' first
  | (with_reducible exact ih0 _ _ _ _)
  | (with_reducible exact ih1 _ _ _ _ _ _ _ _ _ _ _)
  | (with_reducible exact coronerref31_Check.mono _ _ _ _)
  | (with_reducible exact coronerref31_read.mono _ _ _ _ _)
  | (with_reducible exact LeO.refl _)
  | (with_reducible exact LeO.none _)
  | (with_reducible refine LeO.ite ?_ ?_)
  | (with_reducible refine LeO.bind ?_ (fun _ => ?_))
  | exact ih0 _ _ _ _
  | exact ih1 _ _ _ _ _ _ _ _ _ _ _
  | exact coronerref31_Check.mono _ _ _ _
  | exact coronerref31_read.mono _ _ _ _ _
  | exact LeO.none _
  | refine LeO.ite ?_ ?_
  | refine LeO.bind ?_ (fun _ => ?_)
def coronerref31_Parse.T10 : Bool × List (List Nat × List Nat) := (true, [([], []), ([0], [0]), ([1], [1]), ([], []), ([3], [3]), ([4], [4]), ([], []), ([6], [6]), ([7], [7]), ([], []), ([9], [9]), ([10], [10]), ([], []), ([12], [12]), ([13], [13]), ([], []), ([15], [15]), ([16], [16]), ([2, 5, 8, 11, 14, 17], [2, 5, 8, 11, 14, 17]), ([], []), ([19, 18, 0, 1, 2, 3, 4, 5, 6, 7, 8, 9, 10, 11, 12, 13, 14, 15, 16, 17, 18, 19], [18, 19])])
def coronerref31_Parse.B10 : List Nat := [0, 1, 3, 0, 8, 24, 0, 64, 192, 0, 512, 1536, 0, 4096, 12288, 0, 32768, 98304, 262143, 0, 1048575]
theorem coronerref31_Parse.tab10 : rtab .any (opsOf Try.f13 10) = coronerref31_Parse.T10 := by kernel_rfl
theorem coronerref31_Parse.bits10 : waitsOk coronerref31_Parse.T10.2 coronerref31_Parse.B10 = true := by kernel_rfl
def coronerref31_Parse.T16 : Bool × List (List Nat × List Nat) := (true, [([], []), ([0], [0]), ([], []), ([2], [2]), ([3], [3]), ([], []), ([5], [5]), ([6], [6]), ([], []), ([8], [8]), ([9], [9]), ([], []), ([11], [11]), ([12], [12]), ([], []), ([14], [14]), ([15], [15]), ([], []), ([17], [17]), ([18], [18]), ([4, 7, 10, 13, 16, 19], [4, 7, 10, 13, 16, 19]), ([20], [20]), ([1, 21], [1, 21]), ([0, 1, 2, 3, 4, 5, 6, 7, 8, 9, 10, 11, 12, 13, 14, 15, 16, 17, 18, 19, 20, 21, 22], []), ([23, 22, 22, 0, 1, 2, 3, 4, 5, 6, 7, 8, 9, 10, 11, 12, 13, 14, 15, 16, 17, 18, 19, 20, 21, 22], [22, 23])])
def coronerref31_Parse.B16 : List Nat := [0, 1, 0, 4, 12, 0, 32, 96, 0, 256, 768, 0, 2048, 6144, 0, 16384, 49152, 0, 131072, 393216, 1048572, 2097148, 4194303, 8388607, 16777215]
theorem coronerref31_Parse.tab16 : rtab .any (opsOf Try.f13 16) = coronerref31_Parse.T16 := by kernel_rfl
theorem coronerref31_Parse.bits16 : waitsOk coronerref31_Parse.T16.2 coronerref31_Parse.B16 = true := by kernel_rfl
set_option maxHeartbeats 8000000 in
set_option maxRecDepth 100000 in
theorem coronerref31_Parse.calls (k : Nat) (A0 : Option Addr) (c0 : Nat) (l0 : List Int) (r1 : Int) (r2 : List (S44)) (r3 : List Int) (r4 : Int) (r5 : Int) (w : World) (hr0 : Kd.C (Kd.int .u8) w A0 l0.length l0) (hc0 : l0.length ≤ c0) (h : coronerref31_Parse.f k l0 = some (r1, r2, r3, r4, r5)) :
 Calls Try.prog 13 #[.slice A0 l0.length c0] w fun e w' => ∃ v1_ v2_ : Value, e = .returned (.tuple #[.agg #[.int .i64 r1, v1_, v2_], .int .i64 r4, .int .i64 r5]) ∧ Kd.S k44 44 w' w.heap.size (fun _ => True) v1_ r2 ∧ Kd.R (Kd.int .i64) 3 w' w.heap.size (fun _ => True) v2_ r3 ∧ Below w.heap.size w w' := by
 have hu25 := Try.underlying25
 have hu44 := Try.underlying44
 have hu49 := Try.underlying49
 have HR0 := Aside0.mk hr0
 have HC0 := Aside0.mk hc0
 clear hr0 hc0
 have HB := Aside0.mk (Below.refl w.heap.size w)
 have H : ((coronerref31_read.f k l0 0 108 1).bind fun bt193 => (if bt193.2.2 = true then (if 0 < (bt193.1.length : Int) then (coronerref31_Parse.l0 k l0 bt193.2.1 (rd bt193.1 0) ([] : List (S44))) else (none)) else (some (0, ([] : List (S44)), ([] : List Int), 4, bt193.2.1)))) = some (r1, r2, r3, r4, r5) := h
 clear h
 replace H := Option.bind_eq_some_iff.mp H
 obtain ⟨⟨t193, t194, t195⟩, A20, H⟩ := H
 replace H : (if t195 = true then (if 0 < (t193.length : Int) then (coronerref31_Parse.l0 k l0 t194 (rd t193 0) ([] : List (S44))) else (none)) else (some (0, ([] : List (S44)), ([] : List Int), 4, t194))) = some (r1, r2, r3, r4, r5) := H
 have A2 := Aside0.mk A20
 clear A20
 by_cases c3 : t195 = true
 ·subst c3
  have H1 : (if 0 < (t193.length : Int) then (coronerref31_Parse.l0 k l0 t194 (rd t193 0) ([] : List (S44))) else (none)) = some (r1, r2, r3, r4, r5) := by rw [if_pos rfl] at H; exact H
  clear H
  have H := H1
  clear H1
  by_cases c4 : 0 < (t193.length : Int)
  ·rw [if_pos c4] at H
   have c4b0 : decide (0 < (t193.length : Int)) = true := decide_eq_true c4
   have c4b1 : decide (0 < t193.length) = true := decide_eq_true (by omega)
   clear c4
   have H' := Aside0.mk H
   clear H
   go_enter Try.func13, Try.ntmps13
   go_wp2_with (first | ((with_reducible refine gate_dst (N := 2) rfl ?_); refine box_event ?hg (N := 2) ?hd (cs := #[.int .i64 0, .slice none 0 0, .slice none 0 0]) (t := 25) ?hr ?_; (case hd => rfl); (case hg => rfl); (case hr => first | (go_simp; done) | (go_simp; rfl)); intro gb191 hg w5 hbox hb; have n0_ := Aside0.mk (below_step (by repeat (first | (with_reducible first | exact HB.out | apply below_alloc | apply pw_below_drewN | apply below_drew1) | exact HB.out)) hb); have n1_ := Aside0.mk (hbox); have n2_ := Aside0.mk ((by rw [hg]; exact (below_size (by repeat (first | (with_reducible first | exact HB.out | apply below_alloc | apply pw_below_drewN | apply below_drew1) | exact HB.out))) : w.heap.size ≤ gb191)); have n3_ := Aside0.mk ((by rw [hg]; exact (below_size (by repeat (first | (with_reducible first | exact HB.out | apply below_alloc | apply pw_below_drewN | apply below_drew1) | exact HB.out))) : w.heap.size ≤ gb191)); clear HB; have HB := n0_; have BK191 := n1_; have GW191 := n2_; have GE191 := n3_; clear n0_ n1_ n2_ n3_; clear hb hbox hg) | ((with_reducible refine gate_dst (N := 5) rfl ?_); refine box_event ?hg (N := 5) ?hd (cs := #[.int .i64 0, .slice none 0 0, .slice none 0 0]) (t := 25) ?hr ?_; (case hd => rfl); (case hg => rfl); (case hr => first | (go_simp; done) | (go_simp; rfl)); intro gb192 hg w6 hbox hb; have n0_ := Aside0.mk (blk_below (g := gb191) (o := .cells #[.int .i64 0, .slice none 0 0, .slice none 0 0] 25 (0, 0)) (by (with_reducible repeat (first | refine blk_drewN ?_ _ | refine blk_drew ?_ | refine blk_alloc ?_ _)); exact BK191.out) hb); have n1_ := Aside0.mk (below_step (by repeat (first | (with_reducible first | exact HB.out | apply below_alloc | apply pw_below_drewN | apply below_drew1 | refine below_set ?_ GE191.out) | exact HB.out)) hb); have n2_ := Aside0.mk (hbox); have n3_ := Aside0.mk ((by rw [hg]; exact (below_size (by repeat (first | (with_reducible first | exact HB.out | apply below_alloc | apply pw_below_drewN | apply below_drew1 | refine below_set ?_ GE191.out) | exact HB.out))) : w.heap.size ≤ gb192)); have n4_ := Aside0.mk ((by rw [hg]; exact (below_size (by repeat (first | (with_reducible first | exact HB.out | apply below_alloc | apply pw_below_drewN | apply below_drew1 | refine below_set ?_ GE191.out) | exact HB.out))) : w.heap.size ≤ gb192)); have n5_ := Aside0.mk ((by rw [hg]; exact Nat.ne_of_lt (blk_lt (g := gb191) (o := .cells #[.int .i64 0, .slice none 0 0, .slice none 0 0] 25 (0, 0)) (by (with_reducible repeat (first | refine blk_drewN ?_ _ | refine blk_drew ?_ | refine blk_alloc ?_ _)); exact BK191.out)) : gb191 ≠ gb192)); have n6_ := Aside0.mk ((by rw [hg]; exact Nat.ne_of_gt (blk_lt (g := gb191) (o := .cells #[.int .i64 0, .slice none 0 0, .slice none 0 0] 25 (0, 0)) (by (with_reducible repeat (first | refine blk_drewN ?_ _ | refine blk_drew ?_ | refine blk_alloc ?_ _)); exact BK191.out)) : gb192 ≠ gb191)); clear BK191; clear HB; have BK191 := n0_; have HB := n1_; have BK192 := n2_; have GW192 := n3_; have GE192 := n4_; have NB191_192 := n5_; have NB192_191 := n6_; clear n0_ n1_ n2_ n3_ n4_ n5_ n6_; clear hb hbox hg) | ((with_reducible refine gate_callee (f := 37) rfl ?_); refine goesL_ (some 21) rfl rfl Try.func37 (by kernel_rfl) rfl #[.slice A0 l0.length c0, .int .i64 0, .int .u8 108, .int .i64 1] rfl (by (try simp only [List.map_toArray, List.map_cons, List.map_nil]); first | done | rfl | (simp only [List.length_drop, List.length_take]; rfl)) ?_; (with_reducible refine (coronerref31_read.calls k _ _ l0 0 108 1 t193 t194 true _ ?side1 ?side2 A2.out).mono ?_); (case side1 => repeat (first | exact (Kd.C_below HR0.out HB.out) | (with_reducible refine Kd.C_alloc ?_ _) | (with_reducible refine Kd.C_drewN ?_ _) | (with_reducible refine Kd.C_drew ?_))); (case side2 => exact HC0.out); rintro e w7 ⟨v196, rfl, ho0, hb⟩; refine ⟨_, rfl, ?_⟩; have n0_ := Aside0.mk (Kd.R_lower ho0 (below_size (by repeat (first | (with_reducible first | exact HB.out | apply below_alloc | apply pw_below_drewN | apply below_drew1 | refine below_set ?_ GE191.out | refine below_set ?_ GE192.out) | exact HB.out)))); have n1_ := Aside0.mk (blk_below (g := gb191) (o := .cells #[.int .i64 0, .slice none 0 0, .slice none 0 0] 25 (0, 0)) (by (with_reducible repeat (first | refine blk_drewN ?_ _ | refine blk_drew ?_ | refine blk_alloc ?_ _)); exact BK191.out) hb); have n2_ := Aside0.mk (blk_below (g := gb192) (o := .cells #[.int .i64 0, .slice none 0 0, .slice none 0 0] 25 (0, 0)) (by (with_reducible repeat (first | refine blk_drewN ?_ _ | refine blk_drew ?_ | refine blk_alloc ?_ _)); exact BK192.out) hb); have n3_ := Aside0.mk (below_step (by repeat (first | (with_reducible first | exact HB.out | apply below_alloc | apply pw_below_drewN | apply below_drew1 | refine below_set ?_ GE191.out | refine below_set ?_ GE192.out) | exact HB.out)) hb); clear BK191; clear BK192; clear HB; have HO197 := n0_; have BK191 := n1_; have BK192 := n2_; have HB := n3_; clear n0_ n1_ n2_ n3_; (try clear hb); (try clear hb2); (try clear hk); (try clear hi); (try clear ho0); obtain ⟨Ao8, co8, eo8⟩ := Kd.R_slice HO197.out; subst eo8; have p198 : 0 ≤ (0 : Int) := (by omega); have q198 : 0 < (t193.length : Int) := of_decide_eq_true (by first | (with_reducible assumption) | assumption); obtain ⟨ad198, e198, hx198_0⟩ := Kd.at_int (Kd.R_reads' HO197.out).2.2 0 p198 q198; cases e198; have qi198 : (0 < t193.length) = True := eq_true (by omega); (try rw [show ((0 : Int)).toNat = 0 from rfl] at hx198_0); (try rw [Addr.add_zero'] at hx198_0); replace p198 := eq_true p198; replace q198 := eq_true q198; have hnb9 := NB192_191.out; have hnc9 := NB191_192.out; have hcz10_0 : w7.cell? ⟨gb192, 0, none⟩ = some (.int .i64 0) := (blk_cell BK192.out 0).trans rfl; have hcz10_1 : w7.cell? ⟨gb192, 1, none⟩ = some (.slice none 0 0) := (blk_cell BK192.out 1).trans rfl; have hcz10_2 : w7.cell? ⟨gb192, 2, none⟩ = some (.slice none 0 0) := (blk_cell BK192.out 2).trans rfl; have hfz10_0 := blk_frozen BK192.out 0; have hfz10_1 := blk_frozen BK192.out 1; have hfz10_2 := blk_frozen BK192.out 2))
   go_loopg [7] k (fun kq v7 w' => ∃ (x7_1 : Int) (x192000_1 : Int) (x193001_1 : List (S44)) (u193001 : Value), v7 = .int .i64 x7_1 ∧ Aside0 (coronerref31_Parse.l0 kq l0 x7_1 (rd t193 0) x193001_1 = some (r1, r2, r3, r4, r5)) ∧ Aside0 (kq ≤ k) ∧ Aside0 (Kd.S k44 44 w' w.heap.size (fun _ => True) u193001 x193001_1) ∧ Aside0 (w'.heap[gb191]? = some (.cells #[.int .i64 x192000_1, (.slice none 0 0), (.slice none 0 0)] 25 (0, 0))) ∧ Aside0 (w'.heap[gb192]? = some (.cells #[.int .i64 (rd t193 0), u193001, (.slice none 0 0)] 25 (0, 0))) ∧ Aside0 (Below w.heap.size w w'))
   case atStart => exact ⟨(t194), (0), (([] : List (S44))), (.slice none 0 0), (by first | rfl | (simp; done) | (simp [*]; done)), H', ⟨Nat.le_refl _⟩, ⟨by first | exact Kd.S_nil _ _ _ _ _ | exact Kd.N_nil _ _ _ _ _ | exact Kd.V_nil _ _ _ _ _ | exact Kd.Q_nil _ _ _ _ _ | exact Kd.R_nil _ _ _ _ _⟩, ⟨by (with_reducible repeat (first | refine blk_drewN ?_ _ | refine blk_drew ?_ | refine blk_alloc ?_ _)); refine blk_far ?_ NB191_192.out _; (with_reducible repeat (first | refine blk_drewN ?_ _ | refine blk_drew ?_ | refine blk_alloc ?_ _)); exact BK191.out⟩, ⟨by (with_reducible repeat (first | refine blk_drewN ?_ _ | refine blk_drew ?_ | refine blk_alloc ?_ _)); refine blk_put (cs := #[.int .i64 0, .slice none 0 0, .slice none 0 0]) ?_ 0 _ rfl; (with_reducible repeat (first | refine blk_drewN ?_ _ | refine blk_drew ?_ | refine blk_alloc ?_ _)); exact BK192.out⟩, ⟨by repeat (first | (with_reducible first | exact HB.out | apply below_alloc | apply pw_below_drewN | apply below_drew1 | refine below_set ?_ GE191.out | refine below_set ?_ GE192.out) | exact HB.out)⟩⟩
   case round =>
    clear H'
    try clear c1
    try clear p1
    try clear q1
    try clear hx1
    try clear qi1
    try clear p2
    try clear c3
    try clear c4
    try clear c4b0
    try clear c4b1
    try clear c9
    try clear hcz10_0
    try clear hcz10_1
    try clear hcz10_2
    try clear hfz10_0
    try clear hfz10_1
    try clear hfz10_2
    try clear hx198_0
    try clear p198
    try clear q198
    obtain ⟨x7_1, x192000_1, x193001_1, u193001, rfl, HA, HK1, HO_193001, BK191, BK192, HB⟩ := hrel
    cases gk with
    | zero => exact absurd HA.out (by simp [coronerref31_Parse.l0])
    | succ k1 =>
     have H := HA.out
     clear HA
     simp only [coronerref31_Parse.l0] at H
     replace H := Option.bind_eq_some_iff.mp H
     obtain ⟨t199, A110, H⟩ := H
     replace H : (if t199 = true then ((coronerref31_read.f k1 l0 x7_1 102 6).bind fun bt200 => (if bt200.2.2 = true then (if 0 < (bt200.1.length : Int) then (if 1 < (bt200.1.length : Int) then (if 2 < (bt200.1.length : Int) then (if 3 < (bt200.1.length : Int) then (if 4 < (bt200.1.length : Int) then (if 5 < (bt200.1.length : Int) then (coronerref31_Parse.l1 k1 l0 bt200.2.1 (rd t193 0) x193001_1 (rd bt200.1 0) (rd bt200.1 1) (rd bt200.1 2) (rd bt200.1 3) (rd bt200.1 4) (rd bt200.1 5) ([] : List (S49))) else (none)) else (none)) else (none)) else (none)) else (none)) else (none)) else (some (0, ([] : List (S44)), ([] : List Int), 4, bt200.2.1)))) else ((coronerref31_read.f k1 l0 x7_1 111 (-1)).bind fun bt230 => (if bt230.2.2 = true then (if bt230.2.1 < (l0.length : Int) then (some (0, ([] : List (S44)), ([] : List Int), 4, bt230.2.1)) else ((coronerref31_Check.f k1 (rd t193 0) x193001_1 bt230.1).bind fun t235 => (if t235 = 0 then (some ((rd t193 0), x193001_1, bt230.1, 0, 0)) else (some (0, ([] : List (S44)), ([] : List Int), 2, 0))))) else (some (0, ([] : List (S44)), ([] : List Int), 4, bt230.2.1))))) = some (r1, r2, r3, r4, r5) := H
     have A11 := Aside0.mk A110
     clear A110
     by_cases c12 : t199 = true
     ·subst c12
      have H1 : ((coronerref31_read.f k1 l0 x7_1 102 6).bind fun bt200 => (if bt200.2.2 = true then (if 0 < (bt200.1.length : Int) then (if 1 < (bt200.1.length : Int) then (if 2 < (bt200.1.length : Int) then (if 3 < (bt200.1.length : Int) then (if 4 < (bt200.1.length : Int) then (if 5 < (bt200.1.length : Int) then (coronerref31_Parse.l1 k1 l0 bt200.2.1 (rd t193 0) x193001_1 (rd bt200.1 0) (rd bt200.1 1) (rd bt200.1 2) (rd bt200.1 3) (rd bt200.1 4) (rd bt200.1 5) ([] : List (S49))) else (none)) else (none)) else (none)) else (none)) else (none)) else (none)) else (some (0, ([] : List (S44)), ([] : List Int), 4, bt200.2.1)))) = some (r1, r2, r3, r4, r5) := by rw [if_pos rfl] at H; exact H
      clear H
      have H := H1
      clear H1
      replace H := Option.bind_eq_some_iff.mp H
      obtain ⟨⟨t200, t201, t202⟩, A130, H⟩ := H
      replace H : (if t202 = true then (if 0 < (t200.length : Int) then (if 1 < (t200.length : Int) then (if 2 < (t200.length : Int) then (if 3 < (t200.length : Int) then (if 4 < (t200.length : Int) then (if 5 < (t200.length : Int) then (coronerref31_Parse.l1 k1 l0 t201 (rd t193 0) x193001_1 (rd t200 0) (rd t200 1) (rd t200 2) (rd t200 3) (rd t200 4) (rd t200 5) ([] : List (S49))) else (none)) else (none)) else (none)) else (none)) else (none)) else (none)) else (some (0, ([] : List (S44)), ([] : List Int), 4, t201))) = some (r1, r2, r3, r4, r5) := H
      have A13 := Aside0.mk A130
      clear A130
      by_cases c14 : t202 = true
      ·subst c14
       have H1 : (if 0 < (t200.length : Int) then (if 1 < (t200.length : Int) then (if 2 < (t200.length : Int) then (if 3 < (t200.length : Int) then (if 4 < (t200.length : Int) then (if 5 < (t200.length : Int) then (coronerref31_Parse.l1 k1 l0 t201 (rd t193 0) x193001_1 (rd t200 0) (rd t200 1) (rd t200 2) (rd t200 3) (rd t200 4) (rd t200 5) ([] : List (S49))) else (none)) else (none)) else (none)) else (none)) else (none)) else (none)) = some (r1, r2, r3, r4, r5) := by rw [if_pos rfl] at H; exact H
       clear H
       have H := H1
       clear H1
       by_cases c15 : 0 < (t200.length : Int)
       ·rw [if_pos c15] at H
        have c15b0 : decide (0 < (t200.length : Int)) = true := decide_eq_true c15
        have c15b1 : decide (0 < t200.length) = true := decide_eq_true (by omega)
        clear c15
        by_cases c16 : 1 < (t200.length : Int)
        ·rw [if_pos c16] at H
         have c16b0 : decide (1 < (t200.length : Int)) = true := decide_eq_true c16
         have c16b1 : decide (1 < t200.length) = true := decide_eq_true (by omega)
         clear c16
         by_cases c17 : 2 < (t200.length : Int)
         ·rw [if_pos c17] at H
          have c17b0 : decide (2 < (t200.length : Int)) = true := decide_eq_true c17
          have c17b1 : decide (2 < t200.length) = true := decide_eq_true (by omega)
          clear c17
          by_cases c18 : 3 < (t200.length : Int)
          ·rw [if_pos c18] at H
           have c18b0 : decide (3 < (t200.length : Int)) = true := decide_eq_true c18
           have c18b1 : decide (3 < t200.length) = true := decide_eq_true (by omega)
           clear c18
           by_cases c19 : 4 < (t200.length : Int)
           ·rw [if_pos c19] at H
            have c19b0 : decide (4 < (t200.length : Int)) = true := decide_eq_true c19
            have c19b1 : decide (4 < t200.length) = true := decide_eq_true (by omega)
            clear c19
            by_cases c20 : 5 < (t200.length : Int)
            ·rw [if_pos c20] at H
             have c20b0 : decide (5 < (t200.length : Int)) = true := decide_eq_true c20
             have c20b1 : decide (5 < t200.length) = true := decide_eq_true (by omega)
             clear c20
             have H' := Aside0.mk H
             clear H
             try go_wp2_with (first | ((with_reducible refine gate_callee (f := 38) rfl ?_); refine goesL_ (some 35) rfl rfl Try.func38 (by kernel_rfl) rfl #[.slice A0 l0.length c0, .int .i64 x7_1, .int .u8 102] rfl (by (try simp only [List.map_toArray, List.map_cons, List.map_nil]); first | done | rfl | (simp only [List.length_drop, List.length_take]; rfl)) ?_; (with_reducible refine (coronerref31_is.calls _ _ l0 x7_1 102 true _ ?side1 ?side2 A11.out).mono ?_); (case side1 => repeat (first | exact (Kd.C_below HR0.out HB.out) | (with_reducible refine Kd.C_alloc ?_ _) | (with_reducible refine Kd.C_drewN ?_ _) | (with_reducible refine Kd.C_drew ?_))); (case side2 => exact HC0.out); rintro e w' ⟨rfl, ⟨nd, rfl⟩⟩; refine ⟨_, rfl, ?_⟩; (try (rw [drewN_self wr]; generalize hq_ : World.drewN wr _ = wr; have n0_ : Aside0 (Kd.S k44 44 wr w.heap.size (fun _ => True) u193001 x193001_1) := ⟨by rw [← hq_]; exact (by (with_reducible repeat (first | apply Kd.S_alloc | apply Kd.S_drewN | apply Kd.S_drew)); exact HO_193001.out)⟩; have n1_ : Aside0 (wr.heap[gb191]? = some (.cells #[.int .i64 x192000_1, .slice none 0 0, .slice none 0 0] 25 (0, 0))) := ⟨by rw [← hq_]; exact (by (with_reducible repeat (first | refine blk_drewN ?_ _ | refine blk_drew ?_ | refine blk_alloc ?_ _)); exact BK191.out)⟩; have n2_ : Aside0 (wr.heap[gb192]? = some (.cells #[.int .i64 (rd t193 0), u193001, .slice none 0 0] 25 (0, 0))) := ⟨by rw [← hq_]; exact (by (with_reducible repeat (first | refine blk_drewN ?_ _ | refine blk_drew ?_ | refine blk_alloc ?_ _)); exact BK192.out)⟩; have n3_ : Aside0 (Below w.heap.size w wr) := ⟨by rw [← hq_]; exact (by repeat (first | (with_reducible first | exact HB.out | apply below_alloc | apply pw_below_drewN | apply below_drew1 | refine below_set ?_ GE191.out | refine below_set ?_ GE192.out) | exact HB.out))⟩; clear HO_193001 BK191 BK192 HB hq_; have HO_193001 := n0_; have BK191 := n1_; have BK192 := n2_; have HB := n3_; clear n0_ n1_ n2_ n3_))) | ((with_reducible refine gate_callee (f := 37) rfl ?_); refine goesL_ (some 39) rfl rfl Try.func37 (by kernel_rfl) rfl #[.slice A0 l0.length c0, .int .i64 x7_1, .int .u8 102, .int .i64 6] rfl (by (try simp only [List.map_toArray, List.map_cons, List.map_nil]); first | done | rfl | (simp only [List.length_drop, List.length_take]; rfl)) ?_; (with_reducible refine (coronerref31_read.calls k1 _ _ l0 x7_1 102 6 t200 t201 true _ ?side1 ?side2 A13.out).mono ?_); (case side1 => repeat (first | exact (Kd.C_below HR0.out HB.out) | (with_reducible refine Kd.C_alloc ?_ _) | (with_reducible refine Kd.C_drewN ?_ _) | (with_reducible refine Kd.C_drew ?_))); (case side2 => exact HC0.out); rintro e w21 ⟨v203, rfl, ho0, hb⟩; refine ⟨_, rfl, ?_⟩; have n0_ := Aside0.mk (Kd.S_below (by (with_reducible repeat (first | apply Kd.S_alloc | apply Kd.S_drewN | apply Kd.S_drew)); exact HO_193001.out) hb); have n1_ := Aside0.mk (Kd.R_lower ho0 (below_size (by repeat (first | (with_reducible first | exact HB.out | apply below_alloc | apply pw_below_drewN | apply below_drew1 | refine below_set ?_ GE191.out | refine below_set ?_ GE192.out) | exact HB.out)))); have n2_ := Aside0.mk (blk_below (g := gb191) (o := .cells #[.int .i64 x192000_1, .slice none 0 0, .slice none 0 0] 25 (0, 0)) (by (with_reducible repeat (first | refine blk_drewN ?_ _ | refine blk_drew ?_ | refine blk_alloc ?_ _)); exact BK191.out) hb); have n3_ := Aside0.mk (blk_below (g := gb192) (o := .cells #[.int .i64 (rd t193 0), u193001, .slice none 0 0] 25 (0, 0)) (by (with_reducible repeat (first | refine blk_drewN ?_ _ | refine blk_drew ?_ | refine blk_alloc ?_ _)); exact BK192.out) hb); have n4_ := Aside0.mk (below_step (by repeat (first | (with_reducible first | exact HB.out | apply below_alloc | apply pw_below_drewN | apply below_drew1 | refine below_set ?_ GE191.out | refine below_set ?_ GE192.out) | exact HB.out)) hb); clear HO_193001; clear BK191; clear BK192; clear HB; have HO_193001 := n0_; have HO204 := n1_; have BK191 := n2_; have BK192 := n3_; have HB := n4_; clear n0_ n1_ n2_ n3_ n4_; (try clear hb); (try clear hb2); (try clear hk); (try clear hi); (try clear ho0)))
             have n0_ := Aside0.mk (Kd.S_drew HO_193001.out)
             have n1_ := Aside0.mk (Kd.R_drew HO204.out)
             have n2_ := Aside0.mk (blk_drew BK191.out)
             have n3_ := Aside0.mk (blk_drew BK192.out)
             have n4_ := Aside0.mk (below_drew1 HB.out)
             clear HO_193001
             clear HO204
             clear BK191
             clear BK192
             clear HB
             have HO_193001 := n0_
             have HO204 := n1_
             have BK191 := n2_
             have BK192 := n3_
             have HB := n4_
             clear n0_ n1_ n2_ n3_ n4_
             obtain ⟨Ao23, co23, eo23⟩ := Kd.R_slice HO204.out
             (first | subst eo23 | (injection eo23 with f1_ f2_ f3_; have f4_ := f1_.symm; have f5_ := f3_.symm; clear f1_ f2_ f3_; subst f4_; subst f5_))
             have p205 : 0 ≤ (0 : Int) := (by omega)
             have q205 : 0 < (t200.length : Int) := of_decide_eq_true (by first | (with_reducible assumption) | assumption)
             obtain ⟨ad205, e205, hx205_0⟩ := Kd.at_int (Kd.R_reads' HO204.out).2.2 0 p205 q205
             cases e205
             have qi205 : (0 < t200.length) = True := eq_true (by omega)
             (try rw [show ((0 : Int)).toNat = 0 from rfl] at hx205_0)
             (try rw [Addr.add_zero'] at hx205_0)
             replace p205 := eq_true p205
             replace q205 := eq_true q205
             have p206 : 0 ≤ (1 : Int) := (by omega)
             have q206 : 1 < (t200.length : Int) := of_decide_eq_true (by first | (with_reducible assumption) | assumption)
             obtain ⟨ad206, e206, hx206_0⟩ := Kd.at_int (Kd.R_reads' HO204.out).2.2 1 p206 q206
             obtain rfl : ad205 = ad206 := (by injection e206)
             (try simp only [show (1 : Int).toNat = 1 from rfl, Nat.reduceMul, Nat.reduceEqDiff, Go.Addr.add, ↓reduceIte] at hx206_0)
             have qi206 : (1 < t200.length) = True := eq_true (by omega)
             (try rw [show ((1 : Int)).toNat = 1 from rfl] at hx206_0)
             replace p206 := eq_true p206
             replace q206 := eq_true q206
             have p207 : 0 ≤ (2 : Int) := (by omega)
             have q207 : 2 < (t200.length : Int) := of_decide_eq_true (by first | (with_reducible assumption) | assumption)
             obtain ⟨ad207, e207, hx207_0⟩ := Kd.at_int (Kd.R_reads' HO204.out).2.2 2 p207 q207
             obtain rfl : ad205 = ad207 := (by injection e207)
             (try simp only [show (2 : Int).toNat = 2 from rfl, Nat.reduceMul, Nat.reduceEqDiff, Go.Addr.add, ↓reduceIte] at hx207_0)
             have qi207 : (2 < t200.length) = True := eq_true (by omega)
             (try rw [show ((2 : Int)).toNat = 2 from rfl] at hx207_0)
             replace p207 := eq_true p207
             replace q207 := eq_true q207
             have p208 : 0 ≤ (3 : Int) := (by omega)
             have q208 : 3 < (t200.length : Int) := of_decide_eq_true (by first | (with_reducible assumption) | assumption)
             obtain ⟨ad208, e208, hx208_0⟩ := Kd.at_int (Kd.R_reads' HO204.out).2.2 3 p208 q208
             obtain rfl : ad205 = ad208 := (by injection e208)
             (try simp only [show (3 : Int).toNat = 3 from rfl, Nat.reduceMul, Nat.reduceEqDiff, Go.Addr.add, ↓reduceIte] at hx208_0)
             have qi208 : (3 < t200.length) = True := eq_true (by omega)
             (try rw [show ((3 : Int)).toNat = 3 from rfl] at hx208_0)
             replace p208 := eq_true p208
             replace q208 := eq_true q208
             have p209 : 0 ≤ (4 : Int) := (by omega)
             have q209 : 4 < (t200.length : Int) := of_decide_eq_true (by first | (with_reducible assumption) | assumption)
             obtain ⟨ad209, e209, hx209_0⟩ := Kd.at_int (Kd.R_reads' HO204.out).2.2 4 p209 q209
             obtain rfl : ad205 = ad209 := (by injection e209)
             (try simp only [show (4 : Int).toNat = 4 from rfl, Nat.reduceMul, Nat.reduceEqDiff, Go.Addr.add, ↓reduceIte] at hx209_0)
             have qi209 : (4 < t200.length) = True := eq_true (by omega)
             (try rw [show ((4 : Int)).toNat = 4 from rfl] at hx209_0)
             replace p209 := eq_true p209
             replace q209 := eq_true q209
             have p210 : 0 ≤ (5 : Int) := (by omega)
             have q210 : 5 < (t200.length : Int) := of_decide_eq_true (by first | (with_reducible assumption) | assumption)
             obtain ⟨ad210, e210, hx210_0⟩ := Kd.at_int (Kd.R_reads' HO204.out).2.2 5 p210 q210
             obtain rfl : ad205 = ad210 := (by injection e210)
             (try simp only [show (5 : Int).toNat = 5 from rfl, Nat.reduceMul, Nat.reduceEqDiff, Go.Addr.add, ↓reduceIte] at hx210_0)
             have qi210 : (5 < t200.length) = True := eq_true (by omega)
             (try rw [show ((5 : Int)).toNat = 5 from rfl] at hx210_0)
             replace p210 := eq_true p210
             replace q210 := eq_true q210
             refine start_ (n := 21) (S := fun w' => w'.cell? ad205 = some (.int .i64 (rd t200 0)) ∧ w'.cell? ⟨ad205.block, ad205.off + 1, none⟩ = some (.int .i64 (rd t200 1)) ∧ w'.cell? ⟨ad205.block, ad205.off + 2, none⟩ = some (.int .i64 (rd t200 2)) ∧ w'.cell? ⟨ad205.block, ad205.off + 3, none⟩ = some (.int .i64 (rd t200 3)) ∧ w'.cell? ⟨ad205.block, ad205.off + 4, none⟩ = some (.int .i64 (rd t200 4)) ∧ w'.cell? ⟨ad205.block, ad205.off + 5, none⟩ = some (.int .i64 (rd t200 5))) (ds := []) #[false, false, false, false, false, false, false, false, false, false, false, false, false, false, false, false, false, false, false, false, false] (by kernel_rfl) rfl rfl ⟨hx205_0, hx206_0, hx207_0, hx208_0, hx209_0, hx210_0⟩ (fun hHeld => ?_); refine with_tabW coronerref31_Parse.tab10 coronerref31_Parse.bits10 (fun HT_ HW_ => ?_)
             generalize w21.drew = w22 at HO_193001 HO204 BK191 BK192 HB hx205_0 hx206_0 hx207_0 hx208_0 hx209_0 hx210_0 hHeld ⊢
             refine pure_ (i := 0) (N := some 47) (v := ?_) (a' := ?_) #[true, false, false, false, false, false, false, false, false, false, false, false, false, false, false, false, false, false, false, false, false] rfl rfl (any_of HT_.out (by kernel_rfl)) (fun _ _ _ h => h) (Or.inl ⟨by rfl, ?_⟩) ?_ ?_
             rotate_left
             ·intro w'
              go_simp
              with_reducible rfl
             rotate_left
             ·simp only [Act.put, List.setIfInBounds_toArray, List.set_cons_zero, List.set_cons_succ, i64_w, i32_w]
              rfl
             refine pure_ (i := 1) (N := some 48) (v := ?_) (a' := ?_) #[true, true, false, false, false, false, false, false, false, false, false, false, false, false, false, false, false, false, false, false, false] rfl rfl (any_of HT_.out (by kernel_rfl)) (fun _ _ _ h => h) (Or.inl ⟨by rfl, ?_⟩) ?_ ?_
             rotate_left
             ·intro w'
              go_simp
              with_reducible rfl
             rotate_left
             ·simp only [Act.put, List.setIfInBounds_toArray, List.set_cons_zero, List.set_cons_succ, i64_w, i32_w]
              rfl
             refine pure_ (i := 3) (N := some 50) (v := ?_) (a' := ?_) #[true, true, false, true, false, false, false, false, false, false, false, false, false, false, false, false, false, false, false, false, false] rfl rfl (any_of HT_.out (by kernel_rfl)) (fun _ _ _ h => h) (Or.inl ⟨by rfl, ?_⟩) ?_ ?_
             rotate_left
             ·intro w'
              go_simp
              with_reducible rfl
             rotate_left
             ·simp only [Act.put, List.setIfInBounds_toArray, List.set_cons_zero, List.set_cons_succ, i64_w, i32_w]
              rfl
             refine pure_ (i := 4) (N := some 51) (v := ?_) (a' := ?_) #[true, true, false, true, true, false, false, false, false, false, false, false, false, false, false, false, false, false, false, false, false] rfl rfl (any_of HT_.out (by kernel_rfl)) (fun _ _ _ h => h) (Or.inl ⟨by rfl, ?_⟩) ?_ ?_
             rotate_left
             ·intro w'
              go_simp
              with_reducible rfl
             rotate_left
             ·simp only [Act.put, List.setIfInBounds_toArray, List.set_cons_zero, List.set_cons_succ, i64_w, i32_w]
              rfl
             refine pure_ (i := 6) (N := some 53) (v := ?_) (a' := ?_) #[true, true, false, true, true, false, true, false, false, false, false, false, false, false, false, false, false, false, false, false, false] rfl rfl (any_of HT_.out (by kernel_rfl)) (fun _ _ _ h => h) (Or.inl ⟨by rfl, ?_⟩) ?_ ?_
             rotate_left
             ·intro w'
              go_simp
              with_reducible rfl
             rotate_left
             ·simp only [Act.put, List.setIfInBounds_toArray, List.set_cons_zero, List.set_cons_succ, i64_w, i32_w]
              rfl
             refine pure_ (i := 7) (N := some 54) (v := ?_) (a' := ?_) #[true, true, false, true, true, false, true, true, false, false, false, false, false, false, false, false, false, false, false, false, false] rfl rfl (any_of HT_.out (by kernel_rfl)) (fun _ _ _ h => h) (Or.inl ⟨by rfl, ?_⟩) ?_ ?_
             rotate_left
             ·intro w'
              go_simp
              with_reducible rfl
             rotate_left
             ·simp only [Act.put, List.setIfInBounds_toArray, List.set_cons_zero, List.set_cons_succ, i64_w, i32_w]
              rfl
             refine pure_ (i := 9) (N := some 56) (v := ?_) (a' := ?_) #[true, true, false, true, true, false, true, true, false, true, false, false, false, false, false, false, false, false, false, false, false] rfl rfl (any_of HT_.out (by kernel_rfl)) (fun _ _ _ h => h) (Or.inl ⟨by rfl, ?_⟩) ?_ ?_
             rotate_left
             ·intro w'
              go_simp
              with_reducible rfl
             rotate_left
             ·simp only [Act.put, List.setIfInBounds_toArray, List.set_cons_zero, List.set_cons_succ, i64_w, i32_w]
              rfl
             refine pure_ (i := 10) (N := some 57) (v := ?_) (a' := ?_) #[true, true, false, true, true, false, true, true, false, true, true, false, false, false, false, false, false, false, false, false, false] rfl rfl (any_of HT_.out (by kernel_rfl)) (fun _ _ _ h => h) (Or.inl ⟨by rfl, ?_⟩) ?_ ?_
             rotate_left
             ·intro w'
              go_simp
              with_reducible rfl
             rotate_left
             ·simp only [Act.put, List.setIfInBounds_toArray, List.set_cons_zero, List.set_cons_succ, i64_w, i32_w]
              rfl
             refine pure_ (i := 12) (N := some 59) (v := ?_) (a' := ?_) #[true, true, false, true, true, false, true, true, false, true, true, false, true, false, false, false, false, false, false, false, false] rfl rfl (any_of HT_.out (by kernel_rfl)) (fun _ _ _ h => h) (Or.inl ⟨by rfl, ?_⟩) ?_ ?_
             rotate_left
             ·intro w'
              go_simp
              with_reducible rfl
             rotate_left
             ·simp only [Act.put, List.setIfInBounds_toArray, List.set_cons_zero, List.set_cons_succ, i64_w, i32_w]
              rfl
             refine pure_ (i := 13) (N := some 60) (v := ?_) (a' := ?_) #[true, true, false, true, true, false, true, true, false, true, true, false, true, true, false, false, false, false, false, false, false] rfl rfl (any_of HT_.out (by kernel_rfl)) (fun _ _ _ h => h) (Or.inl ⟨by rfl, ?_⟩) ?_ ?_
             rotate_left
             ·intro w'
              go_simp
              with_reducible rfl
             rotate_left
             ·simp only [Act.put, List.setIfInBounds_toArray, List.set_cons_zero, List.set_cons_succ, i64_w, i32_w]
              rfl
             refine pure_ (i := 15) (N := some 62) (v := ?_) (a' := ?_) #[true, true, false, true, true, false, true, true, false, true, true, false, true, true, false, true, false, false, false, false, false] rfl rfl (any_of HT_.out (by kernel_rfl)) (fun _ _ _ h => h) (Or.inl ⟨by rfl, ?_⟩) ?_ ?_
             rotate_left
             ·intro w'
              go_simp
              with_reducible rfl
             rotate_left
             ·simp only [Act.put, List.setIfInBounds_toArray, List.set_cons_zero, List.set_cons_succ, i64_w, i32_w]
              rfl
             refine pure_ (i := 16) (N := some 63) (v := ?_) (a' := ?_) #[true, true, false, true, true, false, true, true, false, true, true, false, true, true, false, true, true, false, false, false, false] rfl rfl (any_of HT_.out (by kernel_rfl)) (fun _ _ _ h => h) (Or.inl ⟨by rfl, ?_⟩) ?_ ?_
             rotate_left
             ·intro w'
              go_simp
              with_reducible rfl
             rotate_left
             ·simp only [Act.put, List.setIfInBounds_toArray, List.set_cons_zero, List.set_cons_succ, i64_w, i32_w]
              rfl
             refine take_ (i := 2) (N := some 49) (v := ?_) (a' := ?_) #[true, true, true, true, true, false, true, true, false, true, true, false, true, true, false, true, true, false, false, false, false] rfl rfl (take_ofW HT_.out HW_.out (by kernel_rfl)) (fun _ _ _ h => h) (Or.inl ⟨by rfl, ?_⟩) hHeld ?_ ?_
             rotate_left
             ·rintro w' ⟨s0, s1, s2, s3, s4, s5⟩
              go_simp
              with_reducible rfl
             rotate_left
             ·simp only [Act.put, List.setIfInBounds_toArray, List.set_cons_zero, List.set_cons_succ, i64_w, i32_w]
              rfl
             refine take_ (i := 5) (N := some 52) (v := ?_) (a' := ?_) #[true, true, true, true, true, true, true, true, false, true, true, false, true, true, false, true, true, false, false, false, false] rfl rfl (take_ofW HT_.out HW_.out (by kernel_rfl)) (fun _ _ _ h => h) (Or.inl ⟨by rfl, ?_⟩) hHeld ?_ ?_
             rotate_left
             ·rintro w' ⟨s0, s1, s2, s3, s4, s5⟩
              go_simp
              with_reducible rfl
             rotate_left
             ·simp only [Act.put, List.setIfInBounds_toArray, List.set_cons_zero, List.set_cons_succ, i64_w, i32_w]
              rfl
             refine take_ (i := 8) (N := some 55) (v := ?_) (a' := ?_) #[true, true, true, true, true, true, true, true, true, true, true, false, true, true, false, true, true, false, false, false, false] rfl rfl (take_ofW HT_.out HW_.out (by kernel_rfl)) (fun _ _ _ h => h) (Or.inl ⟨by rfl, ?_⟩) hHeld ?_ ?_
             rotate_left
             ·rintro w' ⟨s0, s1, s2, s3, s4, s5⟩
              go_simp
              with_reducible rfl
             rotate_left
             ·simp only [Act.put, List.setIfInBounds_toArray, List.set_cons_zero, List.set_cons_succ, i64_w, i32_w]
              rfl
             refine take_ (i := 11) (N := some 58) (v := ?_) (a' := ?_) #[true, true, true, true, true, true, true, true, true, true, true, true, true, true, false, true, true, false, false, false, false] rfl rfl (take_ofW HT_.out HW_.out (by kernel_rfl)) (fun _ _ _ h => h) (Or.inl ⟨by rfl, ?_⟩) hHeld ?_ ?_
             rotate_left
             ·rintro w' ⟨s0, s1, s2, s3, s4, s5⟩
              go_simp
              with_reducible rfl
             rotate_left
             ·simp only [Act.put, List.setIfInBounds_toArray, List.set_cons_zero, List.set_cons_succ, i64_w, i32_w]
              rfl
             refine take_ (i := 14) (N := some 61) (v := ?_) (a' := ?_) #[true, true, true, true, true, true, true, true, true, true, true, true, true, true, true, true, true, false, false, false, false] rfl rfl (take_ofW HT_.out HW_.out (by kernel_rfl)) (fun _ _ _ h => h) (Or.inl ⟨by rfl, ?_⟩) hHeld ?_ ?_
             rotate_left
             ·rintro w' ⟨s0, s1, s2, s3, s4, s5⟩
              go_simp
              with_reducible rfl
             rotate_left
             ·simp only [Act.put, List.setIfInBounds_toArray, List.set_cons_zero, List.set_cons_succ, i64_w, i32_w]
              rfl
             refine take_ (i := 17) (N := some 64) (v := ?_) (a' := ?_) #[true, true, true, true, true, true, true, true, true, true, true, true, true, true, true, true, true, true, false, false, false] rfl rfl (take_ofW HT_.out HW_.out (by kernel_rfl)) (fun _ _ _ h => h) (Or.inl ⟨by rfl, ?_⟩) hHeld ?_ ?_
             rotate_left
             ·rintro w' ⟨s0, s1, s2, s3, s4, s5⟩
              go_simp
              with_reducible rfl
             rotate_left
             ·simp only [Act.put, List.setIfInBounds_toArray, List.set_cons_zero, List.set_cons_succ, i64_w, i32_w]
              rfl
             refine pure_ (i := 18) (N := some 65) (v := ?_) (a' := ?_) #[true, true, true, true, true, true, true, true, true, true, true, true, true, true, true, true, true, true, true, false, false] rfl rfl (any_of HT_.out (by kernel_rfl)) (fun _ _ _ h => h) (Or.inl ⟨by rfl, ?_⟩) ?_ ?_
             rotate_left
             ·intro w'
              go_simp
              with_reducible rfl
             rotate_left
             ·simp only [Act.put, List.setIfInBounds_toArray, List.set_cons_zero, List.set_cons_succ, i64_w, i32_w]
              rfl
             refine one_ (i := 19) (N := some 12) #[true, true, true, true, true, true, true, true, true, true, true, true, true, true, true, true, true, true, true, true, false] rfl rfl (one_of HT_.out (by kernel_rfl)) (by decide) (fun K hK => ?_)
             refine box_step ?hg (N := 12) ?hd (cs := #[.int .i64 0, .int .i64 0, .int .i64 0, .int .i64 0, .int .i64 0, .int .i64 0, .slice none 0 0]) (t := 44) ?hr ?_; (case hd => rfl); (case hg => rfl); (case hr => first | (go_simp; done) | (go_simp; rfl))
             intro gb211 hg w24 hbox hb
             have HS0_ := (hb.cell (World.block_lt_of_cell? _ _ (hHeld.1))).trans (hHeld.1)
             have HS1_ := (hb.cell (World.block_lt_of_cell? _ _ (hHeld.2.1))).trans (hHeld.2.1)
             have HS2_ := (hb.cell (World.block_lt_of_cell? _ _ (hHeld.2.2.1))).trans (hHeld.2.2.1)
             have HS3_ := (hb.cell (World.block_lt_of_cell? _ _ (hHeld.2.2.2.1))).trans (hHeld.2.2.2.1)
             have HS4_ := (hb.cell (World.block_lt_of_cell? _ _ (hHeld.2.2.2.2.1))).trans (hHeld.2.2.2.2.1)
             have HS5_ := (hb.cell (World.block_lt_of_cell? _ _ (hHeld.2.2.2.2.2))).trans (hHeld.2.2.2.2.2)
             have n0_ := Aside0.mk (Kd.S_below (Kd.S_elderB (by (with_reducible repeat (first | apply Kd.S_alloc | apply Kd.S_drewN | apply Kd.S_drew)); exact HO_193001.out) gb211 (Nat.le_of_eq hg.symm)) hb)
             have n1_ := Aside0.mk (Kd.R_below (by (with_reducible repeat (first | apply Kd.R_alloc | apply Kd.R_drewN | apply Kd.R_drew)); exact HO204.out) hb)
             have n2_ := Aside0.mk (blk_below (g := gb191) (o := .cells #[.int .i64 x192000_1, .slice none 0 0, .slice none 0 0] 25 (0, 0)) (by (with_reducible repeat (first | refine blk_drewN ?_ _ | refine blk_drew ?_ | refine blk_alloc ?_ _)); exact BK191.out) hb)
             have n3_ := Aside0.mk (blk_below (g := gb192) (o := .cells #[.int .i64 (rd t193 0), u193001, .slice none 0 0] 25 (0, 0)) (by (with_reducible repeat (first | refine blk_drewN ?_ _ | refine blk_drew ?_ | refine blk_alloc ?_ _)); exact BK192.out) hb)
             have n4_ := Aside0.mk (below_step (by repeat (first | (with_reducible first | exact HB.out | apply below_alloc | apply pw_below_drewN | apply below_drew1 | refine below_set ?_ GE191.out | refine below_set ?_ GE192.out) | exact HB.out)) hb)
             have n5_ := Aside0.mk (hbox)
             have n6_ := Aside0.mk ((by rw [hg]; exact (below_size (by repeat (first | (with_reducible first | exact HB.out | apply below_alloc | apply pw_below_drewN | apply below_drew1 | refine below_set ?_ GE191.out | refine below_set ?_ GE192.out) | exact HB.out))) : w.heap.size ≤ gb211))
             have n7_ := Aside0.mk ((by rw [hg]; exact (below_size (by repeat (first | (with_reducible first | exact HB.out | apply below_alloc | apply pw_below_drewN | apply below_drew1 | refine below_set ?_ GE191.out | refine below_set ?_ GE192.out) | exact HB.out))) : w.heap.size ≤ gb211))
             have n8_ := Aside0.mk ((by rw [hg]; exact Nat.ne_of_lt (blk_lt (g := gb191) (o := .cells #[.int .i64 x192000_1, .slice none 0 0, .slice none 0 0] 25 (0, 0)) (by (with_reducible repeat (first | refine blk_drewN ?_ _ | refine blk_drew ?_ | refine blk_alloc ?_ _)); exact BK191.out)) : gb191 ≠ gb211))
             have n9_ := Aside0.mk ((by rw [hg]; exact Nat.ne_of_gt (blk_lt (g := gb191) (o := .cells #[.int .i64 x192000_1, .slice none 0 0, .slice none 0 0] 25 (0, 0)) (by (with_reducible repeat (first | refine blk_drewN ?_ _ | refine blk_drew ?_ | refine blk_alloc ?_ _)); exact BK191.out)) : gb211 ≠ gb191))
             have n10_ := Aside0.mk ((by rw [hg]; exact Nat.ne_of_lt (blk_lt (g := gb192) (o := .cells #[.int .i64 (rd t193 0), u193001, .slice none 0 0] 25 (0, 0)) (by (with_reducible repeat (first | refine blk_drewN ?_ _ | refine blk_drew ?_ | refine blk_alloc ?_ _)); exact BK192.out)) : gb192 ≠ gb211))
             have n11_ := Aside0.mk ((by rw [hg]; exact Nat.ne_of_gt (blk_lt (g := gb192) (o := .cells #[.int .i64 (rd t193 0), u193001, .slice none 0 0] 25 (0, 0)) (by (with_reducible repeat (first | refine blk_drewN ?_ _ | refine blk_drew ?_ | refine blk_alloc ?_ _)); exact BK192.out)) : gb211 ≠ gb192))
             clear HO_193001
             clear HO204
             clear BK191
             clear BK192
             clear HB
             have HO_193001 := n0_
             have HO204 := n1_
             have BK191 := n2_
             have BK192 := n3_
             have HB := n4_
             have BK211 := n5_
             have GW211 := n6_
             have GE211 := n7_
             have NB191_211 := n8_
             have NB211_191 := n9_
             have NB192_211 := n10_
             have NB211_192 := n11_
             clear n0_ n1_ n2_ n3_ n4_ n5_ n6_ n7_ n8_ n9_ n10_ n11_
             clear hb hbox hg
             refine hK.out _ _ ⟨HS0_, HS1_, HS2_, HS3_, HS4_, HS5_⟩ (fun hHeld => ?_)
             clear hK K
             refine norm_ (a' := ?_) ?_ ?_
             rotate_left
             ·show Act.put _ (some 12) _ = _
              simp only [Act.put, List.setIfInBounds_toArray, List.set_cons_zero, List.set_cons_succ, i64_w, i32_w]
              rfl
             refine one_ (i := 20) (N := none) #[true, true, true, true, true, true, true, true, true, true, true, true, true, true, true, true, true, true, true, true, true] rfl rfl (one_of HT_.out (by kernel_rfl)) (by decide) (fun K hK => ?_)
             have hs25 : w24.cell? ⟨gb211, 0, none⟩ = some (.int .i64 0) := (blk_cell BK211.out 0).trans rfl
             have hfs25 := blk_frozen BK211.out 0
             have hns25_0 := NB191_211.out
             have hns25_1 := NB192_211.out
             have hms25_0 := NB211_191.out
             have hms25_1 := NB211_192.out
             have hs26 : w24.cell? ⟨gb211, 1, none⟩ = some (.int .i64 0) := (blk_cell BK211.out 1).trans rfl
             have hfs26 := blk_frozen BK211.out 1
             have hns26_0 := NB191_211.out
             have hns26_1 := NB192_211.out
             have hms26_0 := NB211_191.out
             have hms26_1 := NB211_192.out
             have hs27 : w24.cell? ⟨gb211, 2, none⟩ = some (.int .i64 0) := (blk_cell BK211.out 2).trans rfl
             have hfs27 := blk_frozen BK211.out 2
             have hns27_0 := NB191_211.out
             have hns27_1 := NB192_211.out
             have hms27_0 := NB211_191.out
             have hms27_1 := NB211_192.out
             have hs28 : w24.cell? ⟨gb211, 3, none⟩ = some (.int .i64 0) := (blk_cell BK211.out 3).trans rfl
             have hfs28 := blk_frozen BK211.out 3
             have hns28_0 := NB191_211.out
             have hns28_1 := NB192_211.out
             have hms28_0 := NB211_191.out
             have hms28_1 := NB211_192.out
             have hs29 : w24.cell? ⟨gb211, 4, none⟩ = some (.int .i64 0) := (blk_cell BK211.out 4).trans rfl
             have hfs29 := blk_frozen BK211.out 4
             have hns29_0 := NB191_211.out
             have hns29_1 := NB192_211.out
             have hms29_0 := NB211_191.out
             have hms29_1 := NB211_192.out
             have hs30 : w24.cell? ⟨gb211, 5, none⟩ = some (.int .i64 0) := (blk_cell BK211.out 5).trans rfl
             have hfs30 := blk_frozen BK211.out 5
             have hns30_0 := NB191_211.out
             have hns30_1 := NB192_211.out
             have hms30_0 := NB211_191.out
             have hms30_1 := NB211_192.out
             have hs31 : w24.cell? ⟨gb211, 6, none⟩ = some (.slice none 0 0) := (blk_cell BK211.out 6).trans rfl
             have hfs31 := blk_frozen BK211.out 6
             have hns31_0 := NB191_211.out
             have hns31_1 := NB192_211.out
             have hms31_0 := NB211_191.out
             have hms31_1 := NB211_192.out
             refine skip_ (w1 := ?_) (by rfl) rfl ?_ ?_
             rotate_left
             ·go_simp
              rfl
             have hne_ : ad205.block ≠ gb211 := Kd.own_blk (Kd.R_ne HO204.out BK211.out (by decide))
             refine hK.out _ _ ⟨(far7 (a := ad205) hne_ _ _ _ _ _ _ _).trans hHeld.1, (far7 (a := ⟨ad205.block, ad205.off + 1, none⟩) hne_ _ _ _ _ _ _ _).trans hHeld.2.1, (far7 (a := ⟨ad205.block, ad205.off + 2, none⟩) hne_ _ _ _ _ _ _ _).trans hHeld.2.2.1, (far7 (a := ⟨ad205.block, ad205.off + 3, none⟩) hne_ _ _ _ _ _ _ _).trans hHeld.2.2.2.1, (far7 (a := ⟨ad205.block, ad205.off + 4, none⟩) hne_ _ _ _ _ _ _ _).trans hHeld.2.2.2.2.1, (far7 (a := ⟨ad205.block, ad205.off + 5, none⟩) hne_ _ _ _ _ _ _ _).trans hHeld.2.2.2.2.2⟩ (fun hHeld => ?_)
             clear hK K
             refine done_ (done_of HT_.out (by kernel_rfl)) ?_
             try go_wp2
             go_loopg [7] k1 (fun kq v7 w' => ∃ (x7_2 : Int) (x192000_2 : Int) (x212006_2 : List (S49)) (u212006 : Value), v7 = .int .i64 x7_2 ∧ Aside0 (coronerref31_Parse.l1 kq l0 x7_2 (rd t193 0) x193001_1 (rd t200 0) (rd t200 1) (rd t200 2) (rd t200 3) (rd t200 4) (rd t200 5) x212006_2 = some (r1, r2, r3, r4, r5)) ∧ Aside0 (kq ≤ k1) ∧ Aside0 (Kd.S k44 44 w' w.heap.size (fun k_ => some k_ ≠ (u212006 : Value).ownBlock ∧ k_ ≠ gb211) u193001 x193001_1) ∧ Aside0 (Kd.R k49 49 w' w.heap.size (fun _ => True) u212006 x212006_2) ∧ Aside0 (w'.heap[gb191]? = some (.cells #[.int .i64 x192000_2, (.slice none 0 0), (.slice none 0 0)] 25 (0, 0))) ∧ Aside0 (w'.heap[gb192]? = some (.cells #[.int .i64 (rd t193 0), u193001, (.slice none 0 0)] 25 (0, 0))) ∧ Aside0 (w'.heap[gb211]? = some (.cells #[.int .i64 (rd t200 0), .int .i64 (rd t200 1), .int .i64 (rd t200 2), .int .i64 (rd t200 3), .int .i64 (rd t200 4), .int .i64 (rd t200 5), u212006] 44 (0, 0))) ∧ Aside0 (Below w.heap.size w w'))
             case atStart => exact ⟨(t201), (x192000_1), (([] : List (S49))), (.slice none 0 0), (by first | rfl | (simp; done) | (simp [*]; done)), H', ⟨Nat.le_refl _⟩, ⟨by (with_reducible repeat (first | apply Kd.S_alloc | apply Kd.S_drewN | apply Kd.S_drew)); exact Kd.S_mono (Kd.S_far (p := ⟨gb211, 6, none⟩) (Kd.S_far (p := ⟨gb211, 5, none⟩) (Kd.S_far (p := ⟨gb211, 4, none⟩) (Kd.S_far (p := ⟨gb211, 3, none⟩) (Kd.S_far (p := ⟨gb211, 2, none⟩) (Kd.S_far (p := ⟨gb211, 1, none⟩) (Kd.S_far (p := ⟨gb211, 0, none⟩) (Kd.S_mono HO_193001.out (fun k_ hk => (⟨hk, hk.2⟩ : _ ∧ k_ ≠ gb211))) (fun _ hk => hk.2) (.int .i64 (rd t200 0))) (fun _ hk => hk.2) (.int .i64 (rd t200 1))) (fun _ hk => hk.2) (.int .i64 (rd t200 2))) (fun _ hk => hk.2) (.int .i64 (rd t200 3))) (fun _ hk => hk.2) (.int .i64 (rd t200 4))) (fun _ hk => hk.2) (.int .i64 (rd t200 5))) (fun _ hk => hk.2) (.slice none 0 0)) (fun _ hk => ⟨(by simp [Value.ownBlock]), hk.1.2⟩)⟩, ⟨by first | exact Kd.R_nil _ _ _ _ _ | exact Kd.N_nil _ _ _ _ _ | exact Kd.V_nil _ _ _ _ _ | exact Kd.Q_nil _ _ _ _ _ | exact Kd.S_nil _ _ _ _ _⟩, ⟨by (with_reducible repeat (first | refine blk_drewN ?_ _ | refine blk_drew ?_ | refine blk_alloc ?_ _)); refine blk_far ?_ NB191_211.out _; (with_reducible repeat (first | refine blk_drewN ?_ _ | refine blk_drew ?_ | refine blk_alloc ?_ _)); refine blk_far ?_ NB191_211.out _; (with_reducible repeat (first | refine blk_drewN ?_ _ | refine blk_drew ?_ | refine blk_alloc ?_ _)); refine blk_far ?_ NB191_211.out _; (with_reducible repeat (first | refine blk_drewN ?_ _ | refine blk_drew ?_ | refine blk_alloc ?_ _)); refine blk_far ?_ NB191_211.out _; (with_reducible repeat (first | refine blk_drewN ?_ _ | refine blk_drew ?_ | refine blk_alloc ?_ _)); refine blk_far ?_ NB191_211.out _; (with_reducible repeat (first | refine blk_drewN ?_ _ | refine blk_drew ?_ | refine blk_alloc ?_ _)); refine blk_far ?_ NB191_211.out _; (with_reducible repeat (first | refine blk_drewN ?_ _ | refine blk_drew ?_ | refine blk_alloc ?_ _)); refine blk_far ?_ NB191_211.out _; (with_reducible repeat (first | refine blk_drewN ?_ _ | refine blk_drew ?_ | refine blk_alloc ?_ _)); exact BK191.out⟩, ⟨by (with_reducible repeat (first | refine blk_drewN ?_ _ | refine blk_drew ?_ | refine blk_alloc ?_ _)); refine blk_far ?_ NB192_211.out _; (with_reducible repeat (first | refine blk_drewN ?_ _ | refine blk_drew ?_ | refine blk_alloc ?_ _)); refine blk_far ?_ NB192_211.out _; (with_reducible repeat (first | refine blk_drewN ?_ _ | refine blk_drew ?_ | refine blk_alloc ?_ _)); refine blk_far ?_ NB192_211.out _; (with_reducible repeat (first | refine blk_drewN ?_ _ | refine blk_drew ?_ | refine blk_alloc ?_ _)); refine blk_far ?_ NB192_211.out _; (with_reducible repeat (first | refine blk_drewN ?_ _ | refine blk_drew ?_ | refine blk_alloc ?_ _)); refine blk_far ?_ NB192_211.out _; (with_reducible repeat (first | refine blk_drewN ?_ _ | refine blk_drew ?_ | refine blk_alloc ?_ _)); refine blk_far ?_ NB192_211.out _; (with_reducible repeat (first | refine blk_drewN ?_ _ | refine blk_drew ?_ | refine blk_alloc ?_ _)); refine blk_far ?_ NB192_211.out _; (with_reducible repeat (first | refine blk_drewN ?_ _ | refine blk_drew ?_ | refine blk_alloc ?_ _)); exact BK192.out⟩, ⟨by (with_reducible repeat (first | refine blk_drewN ?_ _ | refine blk_drew ?_ | refine blk_alloc ?_ _)); refine blk_put (cs := #[.int .i64 (rd t200 0), .int .i64 (rd t200 1), .int .i64 (rd t200 2), .int .i64 (rd t200 3), .int .i64 (rd t200 4), .int .i64 (rd t200 5), .slice none 0 0]) ?_ 6 _ rfl; (with_reducible repeat (first | refine blk_drewN ?_ _ | refine blk_drew ?_ | refine blk_alloc ?_ _)); refine blk_put (cs := #[.int .i64 (rd t200 0), .int .i64 (rd t200 1), .int .i64 (rd t200 2), .int .i64 (rd t200 3), .int .i64 (rd t200 4), .int .i64 0, .slice none 0 0]) ?_ 5 _ rfl; (with_reducible repeat (first | refine blk_drewN ?_ _ | refine blk_drew ?_ | refine blk_alloc ?_ _)); refine blk_put (cs := #[.int .i64 (rd t200 0), .int .i64 (rd t200 1), .int .i64 (rd t200 2), .int .i64 (rd t200 3), .int .i64 0, .int .i64 0, .slice none 0 0]) ?_ 4 _ rfl; (with_reducible repeat (first | refine blk_drewN ?_ _ | refine blk_drew ?_ | refine blk_alloc ?_ _)); refine blk_put (cs := #[.int .i64 (rd t200 0), .int .i64 (rd t200 1), .int .i64 (rd t200 2), .int .i64 0, .int .i64 0, .int .i64 0, .slice none 0 0]) ?_ 3 _ rfl; (with_reducible repeat (first | refine blk_drewN ?_ _ | refine blk_drew ?_ | refine blk_alloc ?_ _)); refine blk_put (cs := #[.int .i64 (rd t200 0), .int .i64 (rd t200 1), .int .i64 0, .int .i64 0, .int .i64 0, .int .i64 0, .slice none 0 0]) ?_ 2 _ rfl; (with_reducible repeat (first | refine blk_drewN ?_ _ | refine blk_drew ?_ | refine blk_alloc ?_ _)); refine blk_put (cs := #[.int .i64 (rd t200 0), .int .i64 0, .int .i64 0, .int .i64 0, .int .i64 0, .int .i64 0, .slice none 0 0]) ?_ 1 _ rfl; (with_reducible repeat (first | refine blk_drewN ?_ _ | refine blk_drew ?_ | refine blk_alloc ?_ _)); refine blk_put (cs := #[.int .i64 0, .int .i64 0, .int .i64 0, .int .i64 0, .int .i64 0, .int .i64 0, .slice none 0 0]) ?_ 0 _ rfl; (with_reducible repeat (first | refine blk_drewN ?_ _ | refine blk_drew ?_ | refine blk_alloc ?_ _)); exact BK211.out⟩, ⟨by repeat (first | (with_reducible first | exact HB.out | apply below_alloc | apply pw_below_drewN | apply below_drew1 | refine below_set ?_ GE191.out | refine below_set ?_ GE192.out | refine below_set ?_ GE211.out) | exact HB.out)⟩⟩
             case round =>
              clear H'
              try clear c1
              try clear p1
              try clear q1
              try clear hx1
              try clear qi1
              try clear c2
              try clear p2
              try clear q2
              try clear hx2
              try clear qi2
              try clear c3
              try clear c4
              try clear c4b0
              try clear c4b1
              try clear c9
              try clear c12
              try clear c13
              try clear c14
              try clear c15
              try clear c15b0
              try clear c15b1
              try clear c16
              try clear c16b0
              try clear c16b1
              try clear c17
              try clear c17b0
              try clear c17b1
              try clear c18
              try clear c18b0
              try clear c18b1
              try clear c19
              try clear c19b0
              try clear c19b1
              try clear p19
              try clear q19
              try clear hx19
              try clear qi19
              try clear c20
              try clear c20b0
              try clear c20b1
              try clear p20
              try clear q20
              try clear hx20
              try clear qi20
              try clear p21
              try clear q21
              try clear hx21
              try clear qi21
              try clear hcz10_0
              try clear hcz10_1
              try clear hcz10_2
              try clear hfz10_0
              try clear hfz10_1
              try clear hfz10_2
              try clear hx198_0
              try clear hx205_0
              try clear hx206_0
              try clear hx207_0
              try clear hx208_0
              try clear hx209_0
              try clear hx210_0
              try clear p1
              try clear p198
              try clear p2
              try clear p205
              try clear p206
              try clear p207
              try clear p208
              try clear p209
              try clear p210
              try clear q1
              try clear q198
              try clear q205
              try clear q206
              try clear q207
              try clear q208
              try clear q209
              try clear q210
              obtain ⟨x7_2, x192000_2, x212006_2, u212006, rfl, HA, HK2, HO_193001, HO_212006, BK191, BK192, BK211, HB⟩ := hrel
              cases gk with
              | zero => exact absurd HA.out (by simp [coronerref31_Parse.l1])
              | succ k2 =>
               have H := HA.out
               clear HA
               simp only [coronerref31_Parse.l1] at H
               replace H := Option.bind_eq_some_iff.mp H
               obtain ⟨t212, A320, H⟩ := H
               replace H : (if t212 = true then ((coronerref31_read.f k2 l0 x7_2 101 6).bind fun bt213 => (if bt213.2.2 = true then (if 0 < (bt213.1.length : Int) then (if 1 < (bt213.1.length : Int) then (if 2 < (bt213.1.length : Int) then (if 3 < (bt213.1.length : Int) then (if 4 < (bt213.1.length : Int) then (if 5 < (bt213.1.length : Int) then (if x212006_2.length < 2932031007402 then (coronerref31_Parse.l1 k2 l0 bt213.2.1 (rd t193 0) x193001_1 (rd t200 0) (rd t200 1) (rd t200 2) (rd t200 3) (rd t200 4) (rd t200 5) (x212006_2 ++ [(⟨rd bt213.1 0, rd bt213.1 1, rd bt213.1 2, rd bt213.1 3, rd bt213.1 4, rd bt213.1 5⟩ : S49)])) else (none)) else (none)) else (none)) else (none)) else (none)) else (none)) else (none)) else (some (0, ([] : List (S44)), ([] : List Int), 4, bt213.2.1)))) else (if x193001_1.length < 1954687338268 then (coronerref31_Parse.l0 k2 l0 x7_2 (rd t193 0) (x193001_1 ++ [(⟨(rd t200 0), (rd t200 1), (rd t200 2), (rd t200 3), (rd t200 4), (rd t200 5), x212006_2⟩ : S44)])) else (none))) = some (r1, r2, r3, r4, r5) := H
               have A32 := Aside0.mk A320
               clear A320
               by_cases c33 : t212 = true
               ·subst c33
                have H1 : ((coronerref31_read.f k2 l0 x7_2 101 6).bind fun bt213 => (if bt213.2.2 = true then (if 0 < (bt213.1.length : Int) then (if 1 < (bt213.1.length : Int) then (if 2 < (bt213.1.length : Int) then (if 3 < (bt213.1.length : Int) then (if 4 < (bt213.1.length : Int) then (if 5 < (bt213.1.length : Int) then (if x212006_2.length < 2932031007402 then (coronerref31_Parse.l1 k2 l0 bt213.2.1 (rd t193 0) x193001_1 (rd t200 0) (rd t200 1) (rd t200 2) (rd t200 3) (rd t200 4) (rd t200 5) (x212006_2 ++ [(⟨rd bt213.1 0, rd bt213.1 1, rd bt213.1 2, rd bt213.1 3, rd bt213.1 4, rd bt213.1 5⟩ : S49)])) else (none)) else (none)) else (none)) else (none)) else (none)) else (none)) else (none)) else (some (0, ([] : List (S44)), ([] : List Int), 4, bt213.2.1)))) = some (r1, r2, r3, r4, r5) := by rw [if_pos rfl] at H; exact H
                clear H
                have H := H1
                clear H1
                replace H := Option.bind_eq_some_iff.mp H
                obtain ⟨⟨t213, t214, t215⟩, A340, H⟩ := H
                replace H : (if t215 = true then (if 0 < (t213.length : Int) then (if 1 < (t213.length : Int) then (if 2 < (t213.length : Int) then (if 3 < (t213.length : Int) then (if 4 < (t213.length : Int) then (if 5 < (t213.length : Int) then (if x212006_2.length < 2932031007402 then (coronerref31_Parse.l1 k2 l0 t214 (rd t193 0) x193001_1 (rd t200 0) (rd t200 1) (rd t200 2) (rd t200 3) (rd t200 4) (rd t200 5) (x212006_2 ++ [(⟨rd t213 0, rd t213 1, rd t213 2, rd t213 3, rd t213 4, rd t213 5⟩ : S49)])) else (none)) else (none)) else (none)) else (none)) else (none)) else (none)) else (none)) else (some (0, ([] : List (S44)), ([] : List Int), 4, t214))) = some (r1, r2, r3, r4, r5) := H
                have A34 := Aside0.mk A340
                clear A340
                by_cases c35 : t215 = true
                ·subst c35
                 have H1 : (if 0 < (t213.length : Int) then (if 1 < (t213.length : Int) then (if 2 < (t213.length : Int) then (if 3 < (t213.length : Int) then (if 4 < (t213.length : Int) then (if 5 < (t213.length : Int) then (if x212006_2.length < 2932031007402 then (coronerref31_Parse.l1 k2 l0 t214 (rd t193 0) x193001_1 (rd t200 0) (rd t200 1) (rd t200 2) (rd t200 3) (rd t200 4) (rd t200 5) (x212006_2 ++ [(⟨rd t213 0, rd t213 1, rd t213 2, rd t213 3, rd t213 4, rd t213 5⟩ : S49)])) else (none)) else (none)) else (none)) else (none)) else (none)) else (none)) else (none)) = some (r1, r2, r3, r4, r5) := by rw [if_pos rfl] at H; exact H
                 clear H
                 have H := H1
                 clear H1
                 by_cases c36 : 0 < (t213.length : Int)
                 ·rw [if_pos c36] at H
                  have c36b0 : decide (0 < (t213.length : Int)) = true := decide_eq_true c36
                  have c36b1 : decide (0 < t213.length) = true := decide_eq_true (by omega)
                  clear c36
                  by_cases c37 : 1 < (t213.length : Int)
                  ·rw [if_pos c37] at H
                   have c37b0 : decide (1 < (t213.length : Int)) = true := decide_eq_true c37
                   have c37b1 : decide (1 < t213.length) = true := decide_eq_true (by omega)
                   clear c37
                   by_cases c38 : 2 < (t213.length : Int)
                   ·rw [if_pos c38] at H
                    have c38b0 : decide (2 < (t213.length : Int)) = true := decide_eq_true c38
                    have c38b1 : decide (2 < t213.length) = true := decide_eq_true (by omega)
                    clear c38
                    by_cases c39 : 3 < (t213.length : Int)
                    ·rw [if_pos c39] at H
                     have c39b0 : decide (3 < (t213.length : Int)) = true := decide_eq_true c39
                     have c39b1 : decide (3 < t213.length) = true := decide_eq_true (by omega)
                     clear c39
                     by_cases c40 : 4 < (t213.length : Int)
                     ·rw [if_pos c40] at H
                      have c40b0 : decide (4 < (t213.length : Int)) = true := decide_eq_true c40
                      have c40b1 : decide (4 < t213.length) = true := decide_eq_true (by omega)
                      clear c40
                      by_cases c41 : 5 < (t213.length : Int)
                      ·rw [if_pos c41] at H
                       have c41b0 : decide (5 < (t213.length : Int)) = true := decide_eq_true c41
                       have c41b1 : decide (5 < t213.length) = true := decide_eq_true (by omega)
                       clear c41
                       by_cases c42 : x212006_2.length < 2932031007402
                       ·rw [if_pos c42] at H
                        have LMc42 := Aside0.mk c42
                        clear c42
                        obtain ⟨y224, hy224⟩ : ∃ y_ : List (S49), y_ = (x212006_2 ++ [(⟨rd t213 0, rd t213 1, rd t213 2, rd t213 3, rd t213 4, rd t213 5⟩ : S49)]) := ⟨_, rfl⟩
                        replace H : (coronerref31_Parse.l1 k2 l0 t214 (rd t193 0) x193001_1 (rd t200 0) (rd t200 1) (rd t200 2) (rd t200 3) (rd t200 4) (rd t200 5) y224) = some (r1, r2, r3, r4, r5) := by first | (rw [hy224]; with_reducible exact H) | (have H2_ := (Option.bind_some _ _).symm.trans H; rw [hy224]; with_reducible exact H2_) | (have H2_ := (Option.bind_some _ _).symm.trans H; with_reducible exact H2_) | with_reducible exact H | (rw [hy224]; exact H) | exact H
                        have Ny224 := Aside0.mk hy224
                        clear hy224
                        have H' := Aside0.mk H
                        clear H
                        try go_wp2_with (first | ((with_reducible refine gate_callee (f := 38) rfl ?_); refine goesL_ (some 69) rfl rfl Try.func38 (by kernel_rfl) rfl #[.slice A0 l0.length c0, .int .i64 x7_2, .int .u8 101] rfl (by (try simp only [List.map_toArray, List.map_cons, List.map_nil]); first | done | rfl | (simp only [List.length_drop, List.length_take]; rfl)) ?_; (with_reducible refine (coronerref31_is.calls _ _ l0 x7_2 101 true _ ?side1 ?side2 A32.out).mono ?_); (case side1 => repeat (first | exact (Kd.C_below HR0.out HB.out) | (with_reducible refine Kd.C_alloc ?_ _) | (with_reducible refine Kd.C_drewN ?_ _) | (with_reducible refine Kd.C_drew ?_))); (case side2 => exact HC0.out); rintro e w' ⟨rfl, ⟨nd, rfl⟩⟩; refine ⟨_, rfl, ?_⟩; (try (rw [drewN_self wr]; generalize hq_ : World.drewN wr _ = wr; have n0_ : Aside0 (Kd.S k44 44 wr w.heap.size (fun k_ => some k_ ≠ (u212006 : Value).ownBlock ∧ k_ ≠ gb211) u193001 x193001_1) := ⟨by rw [← hq_]; exact (by (with_reducible repeat (first | apply Kd.S_alloc | apply Kd.S_drewN | apply Kd.S_drew)); exact HO_193001.out)⟩; have n1_ : Aside0 (Kd.R k49 49 wr w.heap.size (fun _ => True) u212006 x212006_2) := ⟨by rw [← hq_]; exact (by (with_reducible repeat (first | apply Kd.R_alloc | apply Kd.R_drewN | apply Kd.R_drew)); exact HO_212006.out)⟩; have n2_ : Aside0 (wr.heap[gb191]? = some (.cells #[.int .i64 x192000_2, .slice none 0 0, .slice none 0 0] 25 (0, 0))) := ⟨by rw [← hq_]; exact (by (with_reducible repeat (first | refine blk_drewN ?_ _ | refine blk_drew ?_ | refine blk_alloc ?_ _)); exact BK191.out)⟩; have n3_ : Aside0 (wr.heap[gb192]? = some (.cells #[.int .i64 (rd t193 0), u193001, .slice none 0 0] 25 (0, 0))) := ⟨by rw [← hq_]; exact (by (with_reducible repeat (first | refine blk_drewN ?_ _ | refine blk_drew ?_ | refine blk_alloc ?_ _)); exact BK192.out)⟩; have n4_ : Aside0 (wr.heap[gb211]? = some (.cells #[.int .i64 (rd t200 0), .int .i64 (rd t200 1), .int .i64 (rd t200 2), .int .i64 (rd t200 3), .int .i64 (rd t200 4), .int .i64 (rd t200 5), u212006] 44 (0, 0))) := ⟨by rw [← hq_]; exact (by (with_reducible repeat (first | refine blk_drewN ?_ _ | refine blk_drew ?_ | refine blk_alloc ?_ _)); exact BK211.out)⟩; have n5_ : Aside0 (Below w.heap.size w wr) := ⟨by rw [← hq_]; exact (by repeat (first | (with_reducible first | exact HB.out | apply below_alloc | apply pw_below_drewN | apply below_drew1 | refine below_set ?_ GE191.out | refine below_set ?_ GE192.out | refine below_set ?_ GE211.out) | exact HB.out))⟩; clear HO_193001 HO_212006 BK191 BK192 BK211 HB hq_; have HO_193001 := n0_; have HO_212006 := n1_; have BK191 := n2_; have BK192 := n3_; have BK211 := n4_; have HB := n5_; clear n0_ n1_ n2_ n3_ n4_ n5_))) | ((with_reducible refine gate_callee (f := 37) rfl ?_); refine goesL_ (some 73) rfl rfl Try.func37 (by kernel_rfl) rfl #[.slice A0 l0.length c0, .int .i64 x7_2, .int .u8 101, .int .i64 6] rfl (by (try simp only [List.map_toArray, List.map_cons, List.map_nil]); first | done | rfl | (simp only [List.length_drop, List.length_take]; rfl)) ?_; (with_reducible refine (coronerref31_read.calls k2 _ _ l0 x7_2 101 6 t213 t214 true _ ?side1 ?side2 A34.out).mono ?_); (case side1 => repeat (first | exact (Kd.C_below HR0.out HB.out) | (with_reducible refine Kd.C_alloc ?_ _) | (with_reducible refine Kd.C_drewN ?_ _) | (with_reducible refine Kd.C_drew ?_))); (case side2 => exact HC0.out); rintro e w43 ⟨v216, rfl, ho0, hb⟩; refine ⟨_, rfl, ?_⟩; have n0_ := Aside0.mk (Kd.S_below (by (with_reducible repeat (first | apply Kd.S_alloc | apply Kd.S_drewN | apply Kd.S_drew)); exact HO_193001.out) hb); have n1_ := Aside0.mk (Kd.R_below (by (with_reducible repeat (first | apply Kd.R_alloc | apply Kd.R_drewN | apply Kd.R_drew)); exact HO_212006.out) hb); have n2_ := Aside0.mk (Kd.R_lower ho0 (below_size (by repeat (first | (with_reducible first | exact HB.out | apply below_alloc | apply pw_below_drewN | apply below_drew1 | refine below_set ?_ GE191.out | refine below_set ?_ GE192.out | refine below_set ?_ GE211.out) | exact HB.out)))); have n3_ := Aside0.mk (blk_below (g := gb191) (o := .cells #[.int .i64 x192000_2, .slice none 0 0, .slice none 0 0] 25 (0, 0)) (by (with_reducible repeat (first | refine blk_drewN ?_ _ | refine blk_drew ?_ | refine blk_alloc ?_ _)); exact BK191.out) hb); have n4_ := Aside0.mk (blk_below (g := gb192) (o := .cells #[.int .i64 (rd t193 0), u193001, .slice none 0 0] 25 (0, 0)) (by (with_reducible repeat (first | refine blk_drewN ?_ _ | refine blk_drew ?_ | refine blk_alloc ?_ _)); exact BK192.out) hb); have n5_ := Aside0.mk (blk_below (g := gb211) (o := .cells #[.int .i64 (rd t200 0), .int .i64 (rd t200 1), .int .i64 (rd t200 2), .int .i64 (rd t200 3), .int .i64 (rd t200 4), .int .i64 (rd t200 5), u212006] 44 (0, 0)) (by (with_reducible repeat (first | refine blk_drewN ?_ _ | refine blk_drew ?_ | refine blk_alloc ?_ _)); exact BK211.out) hb); have n6_ := Aside0.mk (below_step (by repeat (first | (with_reducible first | exact HB.out | apply below_alloc | apply pw_below_drewN | apply below_drew1 | refine below_set ?_ GE191.out | refine below_set ?_ GE192.out | refine below_set ?_ GE211.out) | exact HB.out)) hb); clear HO_193001; clear HO_212006; clear BK191; clear BK192; clear BK211; clear HB; have HO_193001 := n0_; have HO_212006 := n1_; have HO217 := n2_; have BK191 := n3_; have BK192 := n4_; have BK211 := n5_; have HB := n6_; clear n0_ n1_ n2_ n3_ n4_ n5_ n6_; (try clear hb); (try clear hb2); (try clear hk); (try clear hi); (try clear ho0)))
                        have n0_ := Aside0.mk (Kd.S_drew HO_193001.out)
                        have n1_ := Aside0.mk (Kd.R_drew HO_212006.out)
                        have n2_ := Aside0.mk (Kd.R_drew HO217.out)
                        have n3_ := Aside0.mk (blk_drew BK191.out)
                        have n4_ := Aside0.mk (blk_drew BK192.out)
                        have n5_ := Aside0.mk (blk_drew BK211.out)
                        have n6_ := Aside0.mk (below_drew1 HB.out)
                        clear HO_193001
                        clear HO_212006
                        clear HO217
                        clear BK191
                        clear BK192
                        clear BK211
                        clear HB
                        have HO_193001 := n0_
                        have HO_212006 := n1_
                        have HO217 := n2_
                        have BK191 := n3_
                        have BK192 := n4_
                        have BK211 := n5_
                        have HB := n6_
                        clear n0_ n1_ n2_ n3_ n4_ n5_ n6_
                        obtain ⟨Ao45, co45, eo45⟩ := Kd.R_slice HO217.out
                        (first | subst eo45 | (injection eo45 with f1_ f2_ f3_; have f4_ := f1_.symm; have f5_ := f3_.symm; clear f1_ f2_ f3_; subst f4_; subst f5_))
                        have p218 : 0 ≤ (0 : Int) := (by omega)
                        have q218 : 0 < (t213.length : Int) := of_decide_eq_true (by first | (with_reducible assumption) | assumption)
                        obtain ⟨ad218, e218, hx218_0⟩ := Kd.at_int (Kd.R_reads' HO217.out).2.2 0 p218 q218
                        cases e218
                        have qi218 : (0 < t213.length) = True := eq_true (by omega)
                        (try rw [show ((0 : Int)).toNat = 0 from rfl] at hx218_0)
                        (try rw [Addr.add_zero'] at hx218_0)
                        replace p218 := eq_true p218
                        replace q218 := eq_true q218
                        have p219 : 0 ≤ (1 : Int) := (by omega)
                        have q219 : 1 < (t213.length : Int) := of_decide_eq_true (by first | (with_reducible assumption) | assumption)
                        obtain ⟨ad219, e219, hx219_0⟩ := Kd.at_int (Kd.R_reads' HO217.out).2.2 1 p219 q219
                        obtain rfl : ad218 = ad219 := (by injection e219)
                        (try simp only [show (1 : Int).toNat = 1 from rfl, Nat.reduceMul, Nat.reduceEqDiff, Go.Addr.add, ↓reduceIte] at hx219_0)
                        have qi219 : (1 < t213.length) = True := eq_true (by omega)
                        (try rw [show ((1 : Int)).toNat = 1 from rfl] at hx219_0)
                        replace p219 := eq_true p219
                        replace q219 := eq_true q219
                        have p220 : 0 ≤ (2 : Int) := (by omega)
                        have q220 : 2 < (t213.length : Int) := of_decide_eq_true (by first | (with_reducible assumption) | assumption)
                        obtain ⟨ad220, e220, hx220_0⟩ := Kd.at_int (Kd.R_reads' HO217.out).2.2 2 p220 q220
                        obtain rfl : ad218 = ad220 := (by injection e220)
                        (try simp only [show (2 : Int).toNat = 2 from rfl, Nat.reduceMul, Nat.reduceEqDiff, Go.Addr.add, ↓reduceIte] at hx220_0)
                        have qi220 : (2 < t213.length) = True := eq_true (by omega)
                        (try rw [show ((2 : Int)).toNat = 2 from rfl] at hx220_0)
                        replace p220 := eq_true p220
                        replace q220 := eq_true q220
                        have p221 : 0 ≤ (3 : Int) := (by omega)
                        have q221 : 3 < (t213.length : Int) := of_decide_eq_true (by first | (with_reducible assumption) | assumption)
                        obtain ⟨ad221, e221, hx221_0⟩ := Kd.at_int (Kd.R_reads' HO217.out).2.2 3 p221 q221
                        obtain rfl : ad218 = ad221 := (by injection e221)
                        (try simp only [show (3 : Int).toNat = 3 from rfl, Nat.reduceMul, Nat.reduceEqDiff, Go.Addr.add, ↓reduceIte] at hx221_0)
                        have qi221 : (3 < t213.length) = True := eq_true (by omega)
                        (try rw [show ((3 : Int)).toNat = 3 from rfl] at hx221_0)
                        replace p221 := eq_true p221
                        replace q221 := eq_true q221
                        have p222 : 0 ≤ (4 : Int) := (by omega)
                        have q222 : 4 < (t213.length : Int) := of_decide_eq_true (by first | (with_reducible assumption) | assumption)
                        obtain ⟨ad222, e222, hx222_0⟩ := Kd.at_int (Kd.R_reads' HO217.out).2.2 4 p222 q222
                        obtain rfl : ad218 = ad222 := (by injection e222)
                        (try simp only [show (4 : Int).toNat = 4 from rfl, Nat.reduceMul, Nat.reduceEqDiff, Go.Addr.add, ↓reduceIte] at hx222_0)
                        have qi222 : (4 < t213.length) = True := eq_true (by omega)
                        (try rw [show ((4 : Int)).toNat = 4 from rfl] at hx222_0)
                        replace p222 := eq_true p222
                        replace q222 := eq_true q222
                        have p223 : 0 ≤ (5 : Int) := (by omega)
                        have q223 : 5 < (t213.length : Int) := of_decide_eq_true (by first | (with_reducible assumption) | assumption)
                        obtain ⟨ad223, e223, hx223_0⟩ := Kd.at_int (Kd.R_reads' HO217.out).2.2 5 p223 q223
                        obtain rfl : ad218 = ad223 := (by injection e223)
                        (try simp only [show (5 : Int).toNat = 5 from rfl, Nat.reduceMul, Nat.reduceEqDiff, Go.Addr.add, ↓reduceIte] at hx223_0)
                        have qi223 : (5 < t213.length) = True := eq_true (by omega)
                        (try rw [show ((5 : Int)).toNat = 5 from rfl] at hx223_0)
                        replace p223 := eq_true p223
                        replace q223 := eq_true q223
                        refine start_ (n := 25) (S := fun w' => w'.cell? ⟨gb211, 0, none⟩ = some (.int .i64 (rd t200 0)) ∧ w'.cell? ⟨gb211, 1, none⟩ = some (.int .i64 (rd t200 1)) ∧ w'.cell? ⟨gb211, 2, none⟩ = some (.int .i64 (rd t200 2)) ∧ w'.cell? ⟨gb211, 3, none⟩ = some (.int .i64 (rd t200 3)) ∧ w'.cell? ⟨gb211, 4, none⟩ = some (.int .i64 (rd t200 4)) ∧ w'.cell? ⟨gb211, 5, none⟩ = some (.int .i64 (rd t200 5)) ∧ w'.cell? ⟨gb211, 6, none⟩ = some (u212006) ∧ w'.cell? ad218 = some (.int .i64 (rd t213 0)) ∧ w'.cell? ⟨ad218.block, ad218.off + 1, none⟩ = some (.int .i64 (rd t213 1)) ∧ w'.cell? ⟨ad218.block, ad218.off + 2, none⟩ = some (.int .i64 (rd t213 2)) ∧ w'.cell? ⟨ad218.block, ad218.off + 3, none⟩ = some (.int .i64 (rd t213 3)) ∧ w'.cell? ⟨ad218.block, ad218.off + 4, none⟩ = some (.int .i64 (rd t213 4)) ∧ w'.cell? ⟨ad218.block, ad218.off + 5, none⟩ = some (.int .i64 (rd t213 5))) (ds := [22, 24]) #[false, false, false, false, false, false, false, false, false, false, false, false, false, false, false, false, false, false, false, false, false, false, false, false, false] (by kernel_rfl) rfl rfl ⟨(blk_cell BK211.out 0).trans rfl, (blk_cell BK211.out 1).trans rfl, (blk_cell BK211.out 2).trans rfl, (blk_cell BK211.out 3).trans rfl, (blk_cell BK211.out 4).trans rfl, (blk_cell BK211.out 5).trans rfl, (blk_cell BK211.out 6).trans rfl, hx218_0, hx219_0, hx220_0, hx221_0, hx222_0, hx223_0⟩ (fun hHeld => ?_); refine with_tabW coronerref31_Parse.tab16 coronerref31_Parse.bits16 (fun HT_ HW_ => ?_)
                        generalize w43.drew = w44 at HO_193001 HO_212006 HO217 BK191 BK192 BK211 HB hx218_0 hx219_0 hx220_0 hx221_0 hx222_0 hx223_0 hHeld ⊢
                        refine pure_ (i := 0) (N := some 81) (v := ?_) (a' := ?_) #[true, false, false, false, false, false, false, false, false, false, false, false, false, false, false, false, false, false, false, false, false, false, false, false, false] rfl rfl (any_of HT_.out (by kernel_rfl)) (fun _ _ _ h => h) (Or.inl ⟨by rfl, ?_⟩) ?_ ?_
                        rotate_left
                        ·intro w'
                         go_simp
                         with_reducible rfl
                        rotate_left
                        ·simp only [Act.put, List.setIfInBounds_toArray, List.set_cons_zero, List.set_cons_succ, i64_w, i32_w]
                         rfl
                        refine pure_ (i := 2) (N := some 83) (v := ?_) (a' := ?_) #[true, false, true, false, false, false, false, false, false, false, false, false, false, false, false, false, false, false, false, false, false, false, false, false, false] rfl rfl (any_of HT_.out (by kernel_rfl)) (fun _ _ _ h => h) (Or.inl ⟨by rfl, ?_⟩) ?_ ?_
                        rotate_left
                        ·intro w'
                         go_simp
                         with_reducible rfl
                        rotate_left
                        ·simp only [Act.put, List.setIfInBounds_toArray, List.set_cons_zero, List.set_cons_succ, i64_w, i32_w]
                         rfl
                        refine pure_ (i := 3) (N := some 84) (v := ?_) (a' := ?_) #[true, false, true, true, false, false, false, false, false, false, false, false, false, false, false, false, false, false, false, false, false, false, false, false, false] rfl rfl (any_of HT_.out (by kernel_rfl)) (fun _ _ _ h => h) (Or.inl ⟨by rfl, ?_⟩) ?_ ?_
                        rotate_left
                        ·intro w'
                         go_simp
                         with_reducible rfl
                        rotate_left
                        ·simp only [Act.put, List.setIfInBounds_toArray, List.set_cons_zero, List.set_cons_succ, i64_w, i32_w]
                         rfl
                        refine pure_ (i := 5) (N := some 86) (v := ?_) (a' := ?_) #[true, false, true, true, false, true, false, false, false, false, false, false, false, false, false, false, false, false, false, false, false, false, false, false, false] rfl rfl (any_of HT_.out (by kernel_rfl)) (fun _ _ _ h => h) (Or.inl ⟨by rfl, ?_⟩) ?_ ?_
                        rotate_left
                        ·intro w'
                         go_simp
                         with_reducible rfl
                        rotate_left
                        ·simp only [Act.put, List.setIfInBounds_toArray, List.set_cons_zero, List.set_cons_succ, i64_w, i32_w]
                         rfl
                        refine pure_ (i := 6) (N := some 87) (v := ?_) (a' := ?_) #[true, false, true, true, false, true, true, false, false, false, false, false, false, false, false, false, false, false, false, false, false, false, false, false, false] rfl rfl (any_of HT_.out (by kernel_rfl)) (fun _ _ _ h => h) (Or.inl ⟨by rfl, ?_⟩) ?_ ?_
                        rotate_left
                        ·intro w'
                         go_simp
                         with_reducible rfl
                        rotate_left
                        ·simp only [Act.put, List.setIfInBounds_toArray, List.set_cons_zero, List.set_cons_succ, i64_w, i32_w]
                         rfl
                        refine pure_ (i := 8) (N := some 89) (v := ?_) (a' := ?_) #[true, false, true, true, false, true, true, false, true, false, false, false, false, false, false, false, false, false, false, false, false, false, false, false, false] rfl rfl (any_of HT_.out (by kernel_rfl)) (fun _ _ _ h => h) (Or.inl ⟨by rfl, ?_⟩) ?_ ?_
                        rotate_left
                        ·intro w'
                         go_simp
                         with_reducible rfl
                        rotate_left
                        ·simp only [Act.put, List.setIfInBounds_toArray, List.set_cons_zero, List.set_cons_succ, i64_w, i32_w]
                         rfl
                        refine pure_ (i := 9) (N := some 90) (v := ?_) (a' := ?_) #[true, false, true, true, false, true, true, false, true, true, false, false, false, false, false, false, false, false, false, false, false, false, false, false, false] rfl rfl (any_of HT_.out (by kernel_rfl)) (fun _ _ _ h => h) (Or.inl ⟨by rfl, ?_⟩) ?_ ?_
                        rotate_left
                        ·intro w'
                         go_simp
                         with_reducible rfl
                        rotate_left
                        ·simp only [Act.put, List.setIfInBounds_toArray, List.set_cons_zero, List.set_cons_succ, i64_w, i32_w]
                         rfl
                        refine pure_ (i := 11) (N := some 92) (v := ?_) (a' := ?_) #[true, false, true, true, false, true, true, false, true, true, false, true, false, false, false, false, false, false, false, false, false, false, false, false, false] rfl rfl (any_of HT_.out (by kernel_rfl)) (fun _ _ _ h => h) (Or.inl ⟨by rfl, ?_⟩) ?_ ?_
                        rotate_left
                        ·intro w'
                         go_simp
                         with_reducible rfl
                        rotate_left
                        ·simp only [Act.put, List.setIfInBounds_toArray, List.set_cons_zero, List.set_cons_succ, i64_w, i32_w]
                         rfl
                        refine pure_ (i := 12) (N := some 93) (v := ?_) (a' := ?_) #[true, false, true, true, false, true, true, false, true, true, false, true, true, false, false, false, false, false, false, false, false, false, false, false, false] rfl rfl (any_of HT_.out (by kernel_rfl)) (fun _ _ _ h => h) (Or.inl ⟨by rfl, ?_⟩) ?_ ?_
                        rotate_left
                        ·intro w'
                         go_simp
                         with_reducible rfl
                        rotate_left
                        ·simp only [Act.put, List.setIfInBounds_toArray, List.set_cons_zero, List.set_cons_succ, i64_w, i32_w]
                         rfl
                        refine pure_ (i := 14) (N := some 95) (v := ?_) (a' := ?_) #[true, false, true, true, false, true, true, false, true, true, false, true, true, false, true, false, false, false, false, false, false, false, false, false, false] rfl rfl (any_of HT_.out (by kernel_rfl)) (fun _ _ _ h => h) (Or.inl ⟨by rfl, ?_⟩) ?_ ?_
                        rotate_left
                        ·intro w'
                         go_simp
                         with_reducible rfl
                        rotate_left
                        ·simp only [Act.put, List.setIfInBounds_toArray, List.set_cons_zero, List.set_cons_succ, i64_w, i32_w]
                         rfl
                        refine pure_ (i := 15) (N := some 96) (v := ?_) (a' := ?_) #[true, false, true, true, false, true, true, false, true, true, false, true, true, false, true, true, false, false, false, false, false, false, false, false, false] rfl rfl (any_of HT_.out (by kernel_rfl)) (fun _ _ _ h => h) (Or.inl ⟨by rfl, ?_⟩) ?_ ?_
                        rotate_left
                        ·intro w'
                         go_simp
                         with_reducible rfl
                        rotate_left
                        ·simp only [Act.put, List.setIfInBounds_toArray, List.set_cons_zero, List.set_cons_succ, i64_w, i32_w]
                         rfl
                        refine pure_ (i := 17) (N := some 98) (v := ?_) (a' := ?_) #[true, false, true, true, false, true, true, false, true, true, false, true, true, false, true, true, false, true, false, false, false, false, false, false, false] rfl rfl (any_of HT_.out (by kernel_rfl)) (fun _ _ _ h => h) (Or.inl ⟨by rfl, ?_⟩) ?_ ?_
                        rotate_left
                        ·intro w'
                         go_simp
                         with_reducible rfl
                        rotate_left
                        ·simp only [Act.put, List.setIfInBounds_toArray, List.set_cons_zero, List.set_cons_succ, i64_w, i32_w]
                         rfl
                        refine pure_ (i := 18) (N := some 99) (v := ?_) (a' := ?_) #[true, false, true, true, false, true, true, false, true, true, false, true, true, false, true, true, false, true, true, false, false, false, false, false, false] rfl rfl (any_of HT_.out (by kernel_rfl)) (fun _ _ _ h => h) (Or.inl ⟨by rfl, ?_⟩) ?_ ?_
                        rotate_left
                        ·intro w'
                         go_simp
                         with_reducible rfl
                        rotate_left
                        ·simp only [Act.put, List.setIfInBounds_toArray, List.set_cons_zero, List.set_cons_succ, i64_w, i32_w]
                         rfl
                        refine take_ (i := 1) (N := some 82) (v := ?_) (a' := ?_) #[true, true, true, true, false, true, true, false, true, true, false, true, true, false, true, true, false, true, true, false, false, false, false, false, false] rfl rfl (take_ofW HT_.out HW_.out (by kernel_rfl)) (fun _ _ _ h => h) (Or.inl ⟨by rfl, ?_⟩) hHeld ?_ ?_
                        rotate_left
                        ·rintro w' ⟨s0, s1, s2, s3, s4, s5, s6, s7, s8, s9, s10, s11, s12⟩
                         go_simp
                         with_reducible rfl
                        rotate_left
                        ·simp only [Act.put, List.setIfInBounds_toArray, List.set_cons_zero, List.set_cons_succ, i64_w, i32_w]
                         rfl
                        refine take_ (i := 4) (N := some 85) (v := ?_) (a' := ?_) #[true, true, true, true, true, true, true, false, true, true, false, true, true, false, true, true, false, true, true, false, false, false, false, false, false] rfl rfl (take_ofW HT_.out HW_.out (by kernel_rfl)) (fun _ _ _ h => h) (Or.inl ⟨by rfl, ?_⟩) hHeld ?_ ?_
                        rotate_left
                        ·rintro w' ⟨s0, s1, s2, s3, s4, s5, s6, s7, s8, s9, s10, s11, s12⟩
                         go_simp
                         with_reducible rfl
                        rotate_left
                        ·simp only [Act.put, List.setIfInBounds_toArray, List.set_cons_zero, List.set_cons_succ, i64_w, i32_w]
                         rfl
                        refine take_ (i := 7) (N := some 88) (v := ?_) (a' := ?_) #[true, true, true, true, true, true, true, true, true, true, false, true, true, false, true, true, false, true, true, false, false, false, false, false, false] rfl rfl (take_ofW HT_.out HW_.out (by kernel_rfl)) (fun _ _ _ h => h) (Or.inl ⟨by rfl, ?_⟩) hHeld ?_ ?_
                        rotate_left
                        ·rintro w' ⟨s0, s1, s2, s3, s4, s5, s6, s7, s8, s9, s10, s11, s12⟩
                         go_simp
                         with_reducible rfl
                        rotate_left
                        ·simp only [Act.put, List.setIfInBounds_toArray, List.set_cons_zero, List.set_cons_succ, i64_w, i32_w]
                         rfl
                        refine take_ (i := 10) (N := some 91) (v := ?_) (a' := ?_) #[true, true, true, true, true, true, true, true, true, true, true, true, true, false, true, true, false, true, true, false, false, false, false, false, false] rfl rfl (take_ofW HT_.out HW_.out (by kernel_rfl)) (fun _ _ _ h => h) (Or.inl ⟨by rfl, ?_⟩) hHeld ?_ ?_
                        rotate_left
                        ·rintro w' ⟨s0, s1, s2, s3, s4, s5, s6, s7, s8, s9, s10, s11, s12⟩
                         go_simp
                         with_reducible rfl
                        rotate_left
                        ·simp only [Act.put, List.setIfInBounds_toArray, List.set_cons_zero, List.set_cons_succ, i64_w, i32_w]
                         rfl
                        refine take_ (i := 13) (N := some 94) (v := ?_) (a' := ?_) #[true, true, true, true, true, true, true, true, true, true, true, true, true, true, true, true, false, true, true, false, false, false, false, false, false] rfl rfl (take_ofW HT_.out HW_.out (by kernel_rfl)) (fun _ _ _ h => h) (Or.inl ⟨by rfl, ?_⟩) hHeld ?_ ?_
                        rotate_left
                        ·rintro w' ⟨s0, s1, s2, s3, s4, s5, s6, s7, s8, s9, s10, s11, s12⟩
                         go_simp
                         with_reducible rfl
                        rotate_left
                        ·simp only [Act.put, List.setIfInBounds_toArray, List.set_cons_zero, List.set_cons_succ, i64_w, i32_w]
                         rfl
                        refine take_ (i := 16) (N := some 97) (v := ?_) (a' := ?_) #[true, true, true, true, true, true, true, true, true, true, true, true, true, true, true, true, true, true, true, false, false, false, false, false, false] rfl rfl (take_ofW HT_.out HW_.out (by kernel_rfl)) (fun _ _ _ h => h) (Or.inl ⟨by rfl, ?_⟩) hHeld ?_ ?_
                        rotate_left
                        ·rintro w' ⟨s0, s1, s2, s3, s4, s5, s6, s7, s8, s9, s10, s11, s12⟩
                         go_simp
                         with_reducible rfl
                        rotate_left
                        ·simp only [Act.put, List.setIfInBounds_toArray, List.set_cons_zero, List.set_cons_succ, i64_w, i32_w]
                         rfl
                        refine take_ (i := 19) (N := some 100) (v := ?_) (a' := ?_) #[true, true, true, true, true, true, true, true, true, true, true, true, true, true, true, true, true, true, true, true, false, false, false, false, false] rfl rfl (take_ofW HT_.out HW_.out (by kernel_rfl)) (fun _ _ _ h => h) (Or.inl ⟨by rfl, ?_⟩) hHeld ?_ ?_
                        rotate_left
                        ·rintro w' ⟨s0, s1, s2, s3, s4, s5, s6, s7, s8, s9, s10, s11, s12⟩
                         go_simp
                         with_reducible rfl
                        rotate_left
                        ·simp only [Act.put, List.setIfInBounds_toArray, List.set_cons_zero, List.set_cons_succ, i64_w, i32_w]
                         rfl
                        refine pure_ (i := 20) (N := some 101) (v := ?_) (a' := ?_) #[true, true, true, true, true, true, true, true, true, true, true, true, true, true, true, true, true, true, true, true, true, false, false, false, false] rfl rfl (any_of HT_.out (by kernel_rfl)) (fun _ _ _ h => h) (Or.inl ⟨by rfl, ?_⟩) ?_ ?_
                        rotate_left
                        ·intro w'
                         go_simp
                         with_reducible rfl
                        rotate_left
                        ·simp only [Act.put, List.setIfInBounds_toArray, List.set_cons_zero, List.set_cons_succ, i64_w, i32_w]
                         rfl
                        refine one_ (i := 21) (N := some 102) #[true, true, true, true, true, true, true, true, true, true, true, true, true, true, true, true, true, true, true, true, true, true, false, false, false] rfl rfl (one_of HT_.out (by kernel_rfl)) (by decide) (fun K hK => ?_)
                        refine value_ (w1 := ?_) (v := ?_) (by rfl) rfl ?_ ?_
                        rotate_left 2
                        ·go_simp
                         constructor
                         ·rfl
                         ·rfl
                        refine hK.out _ _ ⟨(blk_cell (blk_alloc BK211.out _) 0).trans rfl, (blk_cell (blk_alloc BK211.out _) 1).trans rfl, (blk_cell (blk_alloc BK211.out _) 2).trans rfl, (blk_cell (blk_alloc BK211.out _) 3).trans rfl, (blk_cell (blk_alloc BK211.out _) 4).trans rfl, (blk_cell (blk_alloc BK211.out _) 5).trans rfl, (blk_cell (blk_alloc BK211.out _) 6).trans rfl, (World.cell?_alloc_lt _ _ _ (World.block_lt_of_cell? _ _ (hHeld.2.2.2.2.2.2.2.1))).trans (hHeld.2.2.2.2.2.2.2.1), (World.cell?_alloc_lt _ _ _ (World.block_lt_of_cell? _ _ (hHeld.2.2.2.2.2.2.2.2.1))).trans (hHeld.2.2.2.2.2.2.2.2.1), (World.cell?_alloc_lt _ _ _ (World.block_lt_of_cell? _ _ (hHeld.2.2.2.2.2.2.2.2.2.1))).trans (hHeld.2.2.2.2.2.2.2.2.2.1), (World.cell?_alloc_lt _ _ _ (World.block_lt_of_cell? _ _ (hHeld.2.2.2.2.2.2.2.2.2.2.1))).trans (hHeld.2.2.2.2.2.2.2.2.2.2.1), (World.cell?_alloc_lt _ _ _ (World.block_lt_of_cell? _ _ (hHeld.2.2.2.2.2.2.2.2.2.2.2.1))).trans (hHeld.2.2.2.2.2.2.2.2.2.2.2.1), (World.cell?_alloc_lt _ _ _ (World.block_lt_of_cell? _ _ (hHeld.2.2.2.2.2.2.2.2.2.2.2.2))).trans (hHeld.2.2.2.2.2.2.2.2.2.2.2.2)⟩ (fun hHeld => ?_)
                        clear hK K
                        refine norm_ (a' := ?_) ?_ ?_
                        rotate_left
                        ·show Act.put _ (some 102) _ = _
                         simp only [Act.put, List.setIfInBounds_toArray, List.set_cons_zero, List.set_cons_succ, i64_w, i32_w]
                         rfl
                        refine last_ (i := 22) (N := some 103) #[true, true, true, true, true, true, true, true, true, true, true, true, true, true, true, true, true, true, true, true, true, true, true, false, false] rfl rfl (one_of HT_.out (by kernel_rfl)) (by decide) (fun K hK => ?_)
                        refine Kd.R_append_step k49 (w0 := w) w.heap.size (by rfl) (.tmp 82) (.tmp 102) 42 49 (.agg #[(.int .i64 0), (.int .i64 0), (.int .i64 0), (.int .i64 0), (.int .i64 0), (.int .i64 0)]) 48 rfl Try.underlying42 info49 rfl (by decide) (by omega) u212006 x212006_2 (⟨rd t213 0, rd t213 1, rd t213 2, rd t213 3, rd t213 4, rd t213 5⟩ : S49) [.int .i64 (rd t213 0), .int .i64 (rd t213 1), .int .i64 (rd t213 2), .int .i64 (rd t213 3), .int .i64 (rd t213 4), .int .i64 (rd t213 5)] (fun _ => True) (fun _ => False) rfl rfl ?aP (fun _ hk => hk.elim) ?aF ?aO ?aB ?aS ?aL ?_
                        (case aP => exact k49_mkM _ _ _ (⟨rd t213 0, rd t213 1, rd t213 2, rd t213 3, rd t213 4, rd t213 5⟩ : S49))
                        (case aB => exact (by repeat (first | (with_reducible first | exact HB.out | apply below_alloc | apply pw_below_drewN | apply below_drew1 | refine below_set ?_ GE191.out | refine below_set ?_ GE192.out | refine below_set ?_ GE211.out) | exact HB.out)))
                        (case aF => exact (fun _ _ => trivial))
                        (case aO => exact (by (with_reducible repeat (first | apply Kd.R_alloc | apply Kd.R_drewN | apply Kd.R_drew)); exact HO_212006.out))
                        (case aS => exact (below_size (by repeat (first | (with_reducible first | exact HB.out | apply below_alloc | apply pw_below_drewN | apply below_drew1 | refine below_set ?_ GE191.out | refine below_set ?_ GE192.out | refine below_set ?_ GE211.out) | exact HB.out))))
                        (case aL => have := LMc42.out; omega)
                        intro v225 w46 ho hb hg hat
                        rw [← Ny224.out] at ho
                        have n0_ := Aside0.mk (Kd.S_after (ok := (fun k_ => k_ ≠ gb211)) (by (with_reducible repeat (first | apply Kd.S_alloc | apply Kd.S_drewN | apply Kd.S_drew)); exact Kd.S_mono HO_193001.out (fun _ hk => ⟨hk.2, hk.1⟩)) hg hat)
                        have n1_ := Aside0.mk (blk_grown (g := gb191) (o := .cells #[.int .i64 x192000_2, .slice none 0 0, .slice none 0 0] 25 (0, 0)) (by (with_reducible repeat (first | refine blk_drewN ?_ _ | refine blk_drew ?_ | refine blk_alloc ?_ _)); exact BK191.out) hg (Kd.R_ne HO_212006.out BK191.out (by decide)))
                        have n2_ := Aside0.mk (blk_grown (g := gb192) (o := .cells #[.int .i64 (rd t193 0), u193001, .slice none 0 0] 25 (0, 0)) (by (with_reducible repeat (first | refine blk_drewN ?_ _ | refine blk_drew ?_ | refine blk_alloc ?_ _)); exact BK192.out) hg (Kd.R_ne HO_212006.out BK192.out (by decide)))
                        have n3_ := Aside0.mk (blk_grown (g := gb211) (o := .cells #[.int .i64 (rd t200 0), .int .i64 (rd t200 1), .int .i64 (rd t200 2), .int .i64 (rd t200 3), .int .i64 (rd t200 4), .int .i64 (rd t200 5), u212006] 44 (0, 0)) (by (with_reducible repeat (first | refine blk_drewN ?_ _ | refine blk_drew ?_ | refine blk_alloc ?_ _)); exact BK211.out) hg (Kd.R_ne HO_212006.out BK211.out (by decide)))
                        have n4_ := Aside0.mk (Kd.R_over' (by (with_reducible repeat (first | apply Kd.R_alloc | apply Kd.R_drewN | apply Kd.R_drew)); exact HO217.out) (Kd.R_typed (by (with_reducible repeat (first | apply Kd.R_alloc | apply Kd.R_drewN | apply Kd.R_drew)); exact HO_212006.out)) (by decide) hg)
                        have n5_ := Aside0.mk (hb)
                        have n6_ := Aside0.mk (ho)
                        clear HO_193001
                        clear BK191
                        clear BK192
                        clear BK211
                        clear HO217
                        clear HB
                        clear HO_212006
                        have HO_193001 := n0_
                        have BK191 := n1_
                        have BK192 := n2_
                        have BK211 := n3_
                        have HO217 := n4_
                        have HB := n5_
                        have HO226 := n6_
                        clear n0_ n1_ n2_ n3_ n4_ n5_ n6_
                        clear ho hb hg hat
                        obtain ⟨Ao47, co47, eo47⟩ := Kd.R_slice HO226.out
                        (first | subst eo47 | (injection eo47 with f1_ f2_ f3_; have f4_ := f1_.symm; have f5_ := f3_.symm; clear f1_ f2_ f3_; subst f4_; subst f5_))
                        refine hK.out _ _ ?_
                        clear hK K
                        refine norm_ (a' := ?_) ?_ ?_
                        rotate_left
                        ·show Act.put _ (some 103) _ = _
                         simp only [Act.put, List.setIfInBounds_toArray, List.set_cons_zero, List.set_cons_succ, i64_w, i32_w]
                         rfl
                        refine pure_ (i := 23) (N := some 104) (v := ?_) (a' := ?_) #[true, true, true, true, true, true, true, true, true, true, true, true, true, true, true, true, true, true, true, true, true, true, true, true, false] rfl rfl (any_of HT_.out (by kernel_rfl)) (fun _ _ _ h => h) (Or.inl ⟨by rfl, ?_⟩) ?_ ?_
                        rotate_left
                        ·intro w'
                         go_simp
                         with_reducible rfl
                        rotate_left
                        ·simp only [Act.put, List.setIfInBounds_toArray, List.set_cons_zero, List.set_cons_succ, i64_w, i32_w]
                         rfl
                        refine last_ (i := 24) (N := none) #[true, true, true, true, true, true, true, true, true, true, true, true, true, true, true, true, true, true, true, true, true, true, true, true, true] rfl rfl (one_of HT_.out (by kernel_rfl)) (by decide) (fun K hK => ?_)
                        have hs48 : w46.cell? ⟨gb211, 6, none⟩ = some (u212006) := (blk_cell BK211.out 6).trans rfl
                        have hfs48 := blk_frozen BK211.out 6
                        have hns48_0 := NB191_211.out
                        have hns48_1 := NB192_211.out
                        have hms48_0 := NB211_191.out
                        have hms48_1 := NB211_192.out
                        refine skip_ (w1 := ?_) (by rfl) rfl ?_ ?_
                        rotate_left
                        ·go_simp
                         rfl
                        refine hK.out _ _ ?_
                        clear hK K
                        refine done_ (done_of HT_.out (by kernel_rfl)) ?_
                        try go_wp2
                        go_roundg k2
                        case measure => have := HK1.out; have := HK2.out; omega
                        case rel => exact ⟨(t214), (x192000_2), (y224), (.slice Ao47 y224.length co47), (by first | rfl | (simp; done) | (simp [*]; done)), H', ⟨by have := HK1.out; have := HK2.out; omega⟩, ⟨by (with_reducible repeat (first | apply Kd.S_alloc | apply Kd.S_drewN | apply Kd.S_drew)); exact Kd.S_mono (Kd.S_far (p := ⟨gb211, 6, none⟩) (Kd.S_mono HO_193001.out (fun k_ hk => (⟨hk, hk.1⟩ : _ ∧ k_ ≠ gb211))) (fun _ hk => hk.2) (.slice Ao47 y224.length co47)) (fun _ hk => ⟨hk.1.2, hk.1.1⟩)⟩, ⟨by (with_reducible repeat (first | apply Kd.R_alloc | apply Kd.R_drewN | apply Kd.R_drew)); exact Kd.R_mono (Kd.R_far (p := ⟨gb211, 6, none⟩) (Kd.R_types HO226.out BK211.out (by decide)) (fun _ hk => hk.2) (.slice Ao47 y224.length co47)) (fun _ hk => trivial)⟩, ⟨by (with_reducible repeat (first | refine blk_drewN ?_ _ | refine blk_drew ?_ | refine blk_alloc ?_ _)); refine blk_far ?_ NB191_211.out _; (with_reducible repeat (first | refine blk_drewN ?_ _ | refine blk_drew ?_ | refine blk_alloc ?_ _)); exact BK191.out⟩, ⟨by (with_reducible repeat (first | refine blk_drewN ?_ _ | refine blk_drew ?_ | refine blk_alloc ?_ _)); refine blk_far ?_ NB192_211.out _; (with_reducible repeat (first | refine blk_drewN ?_ _ | refine blk_drew ?_ | refine blk_alloc ?_ _)); exact BK192.out⟩, ⟨by (with_reducible repeat (first | refine blk_drewN ?_ _ | refine blk_drew ?_ | refine blk_alloc ?_ _)); refine blk_put (cs := #[.int .i64 (rd t200 0), .int .i64 (rd t200 1), .int .i64 (rd t200 2), .int .i64 (rd t200 3), .int .i64 (rd t200 4), .int .i64 (rd t200 5), u212006]) ?_ 6 _ rfl; (with_reducible repeat (first | refine blk_drewN ?_ _ | refine blk_drew ?_ | refine blk_alloc ?_ _)); exact BK211.out⟩, ⟨by repeat (first | (with_reducible first | exact HB.out | apply below_alloc | apply pw_below_drewN | apply below_drew1 | refine below_set ?_ GE191.out | refine below_set ?_ GE192.out | refine below_set ?_ GE211.out) | exact HB.out)⟩⟩
                       ·rw [if_neg c42] at H
                        exact absurd H (by simp)
                      ·rw [if_neg c41] at H
                       exact absurd H (by simp)
                     ·rw [if_neg c40] at H
                      exact absurd H (by simp)
                    ·rw [if_neg c39] at H
                     exact absurd H (by simp)
                   ·rw [if_neg c38] at H
                    exact absurd H (by simp)
                  ·rw [if_neg c37] at H
                   exact absurd H (by simp)
                 ·rw [if_neg c36] at H
                  exact absurd H (by simp)
                ·replace c35 := Bool.eq_false_iff.mpr c35
                 subst c35
                 have H1 : (some (0, ([] : List (S44)), ([] : List Int), 4, t214)) = some (r1, r2, r3, r4, r5) := by rw [if_neg (show ¬ (false = true) by decide)] at H; exact H
                 clear H
                 have H := H1
                 clear H1
                 simp only [Option.some.injEq, Prod.mk.injEq] at H
                 obtain ⟨rfl, rfl, rfl, rfl, rfl⟩ := H
                 go_wp2_with (first | ((with_reducible refine gate_callee (f := 38) rfl ?_); refine goesL_ (some 69) rfl rfl Try.func38 (by kernel_rfl) rfl #[.slice A0 l0.length c0, .int .i64 x7_2, .int .u8 101] rfl (by (try simp only [List.map_toArray, List.map_cons, List.map_nil]); first | done | rfl | (simp only [List.length_drop, List.length_take]; rfl)) ?_; (with_reducible refine (coronerref31_is.calls _ _ l0 x7_2 101 true _ ?side1 ?side2 A32.out).mono ?_); (case side1 => repeat (first | exact (Kd.C_below HR0.out HB.out) | (with_reducible refine Kd.C_alloc ?_ _) | (with_reducible refine Kd.C_drewN ?_ _) | (with_reducible refine Kd.C_drew ?_))); (case side2 => exact HC0.out); rintro e w' ⟨rfl, ⟨nd, rfl⟩⟩; refine ⟨_, rfl, ?_⟩; (try (rw [drewN_self wr]; generalize hq_ : World.drewN wr _ = wr; have n0_ : Aside0 (Kd.S k44 44 wr w.heap.size (fun k_ => some k_ ≠ (u212006 : Value).ownBlock ∧ k_ ≠ gb211) u193001 x193001_1) := ⟨by rw [← hq_]; exact (by (with_reducible repeat (first | apply Kd.S_alloc | apply Kd.S_drewN | apply Kd.S_drew)); exact HO_193001.out)⟩; have n1_ : Aside0 (Kd.R k49 49 wr w.heap.size (fun _ => True) u212006 x212006_2) := ⟨by rw [← hq_]; exact (by (with_reducible repeat (first | apply Kd.R_alloc | apply Kd.R_drewN | apply Kd.R_drew)); exact HO_212006.out)⟩; have n2_ : Aside0 (wr.heap[gb191]? = some (.cells #[.int .i64 x192000_2, .slice none 0 0, .slice none 0 0] 25 (0, 0))) := ⟨by rw [← hq_]; exact (by (with_reducible repeat (first | refine blk_drewN ?_ _ | refine blk_drew ?_ | refine blk_alloc ?_ _)); exact BK191.out)⟩; have n3_ : Aside0 (wr.heap[gb192]? = some (.cells #[.int .i64 (rd t193 0), u193001, .slice none 0 0] 25 (0, 0))) := ⟨by rw [← hq_]; exact (by (with_reducible repeat (first | refine blk_drewN ?_ _ | refine blk_drew ?_ | refine blk_alloc ?_ _)); exact BK192.out)⟩; have n4_ : Aside0 (wr.heap[gb211]? = some (.cells #[.int .i64 (rd t200 0), .int .i64 (rd t200 1), .int .i64 (rd t200 2), .int .i64 (rd t200 3), .int .i64 (rd t200 4), .int .i64 (rd t200 5), u212006] 44 (0, 0))) := ⟨by rw [← hq_]; exact (by (with_reducible repeat (first | refine blk_drewN ?_ _ | refine blk_drew ?_ | refine blk_alloc ?_ _)); exact BK211.out)⟩; have n5_ : Aside0 (Below w.heap.size w wr) := ⟨by rw [← hq_]; exact (by repeat (first | (with_reducible first | exact HB.out | apply below_alloc | apply pw_below_drewN | apply below_drew1 | refine below_set ?_ GE191.out | refine below_set ?_ GE192.out | refine below_set ?_ GE211.out) | exact HB.out))⟩; clear HO_193001 HO_212006 BK191 BK192 BK211 HB hq_; have HO_193001 := n0_; have HO_212006 := n1_; have BK191 := n2_; have BK192 := n3_; have BK211 := n4_; have HB := n5_; clear n0_ n1_ n2_ n3_ n4_ n5_))) | ((with_reducible refine gate_callee (f := 37) rfl ?_); refine goesL_ (some 73) rfl rfl Try.func37 (by kernel_rfl) rfl #[.slice A0 l0.length c0, .int .i64 x7_2, .int .u8 101, .int .i64 6] rfl (by (try simp only [List.map_toArray, List.map_cons, List.map_nil]); first | done | rfl | (simp only [List.length_drop, List.length_take]; rfl)) ?_; (with_reducible refine (coronerref31_read.calls k2 _ _ l0 x7_2 101 6 t213 t214 false _ ?side1 ?side2 A34.out).mono ?_); (case side1 => repeat (first | exact (Kd.C_below HR0.out HB.out) | (with_reducible refine Kd.C_alloc ?_ _) | (with_reducible refine Kd.C_drewN ?_ _) | (with_reducible refine Kd.C_drew ?_))); (case side2 => exact HC0.out); rintro e w49 ⟨v216, rfl, ho0, hb⟩; refine ⟨_, rfl, ?_⟩; have n0_ := Aside0.mk (Kd.S_below (by (with_reducible repeat (first | apply Kd.S_alloc | apply Kd.S_drewN | apply Kd.S_drew)); exact HO_193001.out) hb); have n1_ := Aside0.mk (Kd.R_below (by (with_reducible repeat (first | apply Kd.R_alloc | apply Kd.R_drewN | apply Kd.R_drew)); exact HO_212006.out) hb); have n2_ := Aside0.mk (Kd.R_lower ho0 (below_size (by repeat (first | (with_reducible first | exact HB.out | apply below_alloc | apply pw_below_drewN | apply below_drew1 | refine below_set ?_ GE191.out | refine below_set ?_ GE192.out | refine below_set ?_ GE211.out) | exact HB.out)))); have n3_ := Aside0.mk (blk_below (g := gb191) (o := .cells #[.int .i64 x192000_2, .slice none 0 0, .slice none 0 0] 25 (0, 0)) (by (with_reducible repeat (first | refine blk_drewN ?_ _ | refine blk_drew ?_ | refine blk_alloc ?_ _)); exact BK191.out) hb); have n4_ := Aside0.mk (blk_below (g := gb192) (o := .cells #[.int .i64 (rd t193 0), u193001, .slice none 0 0] 25 (0, 0)) (by (with_reducible repeat (first | refine blk_drewN ?_ _ | refine blk_drew ?_ | refine blk_alloc ?_ _)); exact BK192.out) hb); have n5_ := Aside0.mk (blk_below (g := gb211) (o := .cells #[.int .i64 (rd t200 0), .int .i64 (rd t200 1), .int .i64 (rd t200 2), .int .i64 (rd t200 3), .int .i64 (rd t200 4), .int .i64 (rd t200 5), u212006] 44 (0, 0)) (by (with_reducible repeat (first | refine blk_drewN ?_ _ | refine blk_drew ?_ | refine blk_alloc ?_ _)); exact BK211.out) hb); have n6_ := Aside0.mk (below_step (by repeat (first | (with_reducible first | exact HB.out | apply below_alloc | apply pw_below_drewN | apply below_drew1 | refine below_set ?_ GE191.out | refine below_set ?_ GE192.out | refine below_set ?_ GE211.out) | exact HB.out)) hb); clear HO_193001; clear HO_212006; clear BK191; clear BK192; clear BK211; clear HB; have HO_193001 := n0_; have HO_212006 := n1_; have HO217 := n2_; have BK191 := n3_; have BK192 := n4_; have BK211 := n5_; have HB := n6_; clear n0_ n1_ n2_ n3_ n4_ n5_ n6_; (try clear hb); (try clear hb2); (try clear hk); (try clear hi); (try clear ho0); have hnb50 := NB191_192.out; have hnc50 := NB192_191.out; have hnb51 := NB191_211.out; have hnc51 := NB211_191.out; have hcz52_0 : w49.cell? ⟨gb191, 0, none⟩ = some (.int .i64 x192000_2) := (blk_cell BK191.out 0).trans rfl; have hcz52_1 : w49.cell? ⟨gb191, 1, none⟩ = some (.slice none 0 0) := (blk_cell BK191.out 1).trans rfl; have hcz52_2 : w49.cell? ⟨gb191, 2, none⟩ = some (.slice none 0 0) := (blk_cell BK191.out 2).trans rfl; have hfz52_0 := blk_frozen BK191.out 0; have hfz52_1 := blk_frozen BK191.out 1; have hfz52_2 := blk_frozen BK191.out 2))
                 refine bodyPost_ret (results_ctt rfl _ _ gb191 25 #[.int .i64 0, .slice none 0 0, .slice none 0 0] (0, 0) _ rfl (by (with_reducible repeat (first | refine blk_drewN ?_ _ | refine blk_drew ?_ | refine blk_alloc ?_ _)); refine blk_put (cs := #[.int .i64 0, .slice none 0 0, .slice none 0 0]) ?_ 2 _ rfl; (with_reducible repeat (first | refine blk_drewN ?_ _ | refine blk_drew ?_ | refine blk_alloc ?_ _)); refine blk_put (cs := #[.int .i64 0, .slice none 0 0, .slice none 0 0]) ?_ 1 _ rfl; (with_reducible repeat (first | refine blk_drewN ?_ _ | refine blk_drew ?_ | refine blk_alloc ?_ _)); refine blk_put (cs := #[.int .i64 x192000_2, .slice none 0 0, .slice none 0 0]) ?_ 0 _ rfl; (with_reducible repeat (first | refine blk_drewN ?_ _ | refine blk_drew ?_ | refine blk_alloc ?_ _)); exact BK191.out) Try.underlying25 rfl (by kernel_rfl)) rfl ?_
                 exact ⟨_, _, by first | rfl | (simp [errW_none, errW_some] <;> rfl) | (simp [*, errW_none, errW_some] <;> rfl), by first | exact Kd.S_nil _ _ _ _ _ | exact Kd.N_nil _ _ _ _ _ | exact Kd.V_nil _ _ _ _ _ | exact Kd.Q_nil _ _ _ _ _ | exact Kd.R_nil _ _ _ _ _, by first | exact Kd.R_nil _ _ _ _ _ | exact Kd.N_nil _ _ _ _ _ | exact Kd.V_nil _ _ _ _ _ | exact Kd.Q_nil _ _ _ _ _ | exact Kd.S_nil _ _ _ _ _, by repeat (first | (with_reducible first | exact HB.out | apply below_alloc | apply pw_below_drewN | apply below_drew1 | refine below_set ?_ GE191.out | refine below_set ?_ GE192.out | refine below_set ?_ GE211.out) | exact HB.out)⟩
               ·replace c33 := Bool.eq_false_iff.mpr c33
                subst c33
                have H1 : (if x193001_1.length < 1954687338268 then (coronerref31_Parse.l0 k2 l0 x7_2 (rd t193 0) (x193001_1 ++ [(⟨(rd t200 0), (rd t200 1), (rd t200 2), (rd t200 3), (rd t200 4), (rd t200 5), x212006_2⟩ : S44)])) else (none)) = some (r1, r2, r3, r4, r5) := by rw [if_neg (show ¬ (false = true) by decide)] at H; exact H
                clear H
                have H := H1
                clear H1
                by_cases c53 : x193001_1.length < 1954687338268
                ·rw [if_pos c53] at H
                 have LMc53 := Aside0.mk c53
                 clear c53
                 obtain ⟨y227, hy227⟩ : ∃ y_ : List (S44), y_ = (x193001_1 ++ [(⟨(rd t200 0), (rd t200 1), (rd t200 2), (rd t200 3), (rd t200 4), (rd t200 5), x212006_2⟩ : S44)]) := ⟨_, rfl⟩
                 replace H : (coronerref31_Parse.l0 k2 l0 x7_2 (rd t193 0) y227) = some (r1, r2, r3, r4, r5) := by first | (rw [hy227]; with_reducible exact H) | (have H2_ := (Option.bind_some _ _).symm.trans H; rw [hy227]; with_reducible exact H2_) | (have H2_ := (Option.bind_some _ _).symm.trans H; with_reducible exact H2_) | with_reducible exact H | (rw [hy227]; exact H) | exact H
                 have Ny227 := Aside0.mk hy227
                 clear hy227
                 have H' := Aside0.mk H
                 clear H
                 go_wp2_with (first | ((with_reducible refine gate_callee (f := 38) rfl ?_); refine goesL_ (some 69) rfl rfl Try.func38 (by kernel_rfl) rfl #[.slice A0 l0.length c0, .int .i64 x7_2, .int .u8 101] rfl (by (try simp only [List.map_toArray, List.map_cons, List.map_nil]); first | done | rfl | (simp only [List.length_drop, List.length_take]; rfl)) ?_; (with_reducible refine (coronerref31_is.calls _ _ l0 x7_2 101 false _ ?side1 ?side2 A32.out).mono ?_); (case side1 => repeat (first | exact (Kd.C_below HR0.out HB.out) | (with_reducible refine Kd.C_alloc ?_ _) | (with_reducible refine Kd.C_drewN ?_ _) | (with_reducible refine Kd.C_drew ?_))); (case side2 => exact HC0.out); rintro e w' ⟨rfl, ⟨nd, rfl⟩⟩; refine ⟨_, rfl, ?_⟩; (try (rw [drewN_self wr]; generalize hq_ : World.drewN wr _ = wr; have n0_ : Aside0 (Kd.S k44 44 wr w.heap.size (fun k_ => some k_ ≠ (u212006 : Value).ownBlock ∧ k_ ≠ gb211) u193001 x193001_1) := ⟨by rw [← hq_]; exact (by (with_reducible repeat (first | apply Kd.S_alloc | apply Kd.S_drewN | apply Kd.S_drew)); exact HO_193001.out)⟩; have n1_ : Aside0 (Kd.R k49 49 wr w.heap.size (fun _ => True) u212006 x212006_2) := ⟨by rw [← hq_]; exact (by (with_reducible repeat (first | apply Kd.R_alloc | apply Kd.R_drewN | apply Kd.R_drew)); exact HO_212006.out)⟩; have n2_ : Aside0 (wr.heap[gb191]? = some (.cells #[.int .i64 x192000_2, .slice none 0 0, .slice none 0 0] 25 (0, 0))) := ⟨by rw [← hq_]; exact (by (with_reducible repeat (first | refine blk_drewN ?_ _ | refine blk_drew ?_ | refine blk_alloc ?_ _)); exact BK191.out)⟩; have n3_ : Aside0 (wr.heap[gb192]? = some (.cells #[.int .i64 (rd t193 0), u193001, .slice none 0 0] 25 (0, 0))) := ⟨by rw [← hq_]; exact (by (with_reducible repeat (first | refine blk_drewN ?_ _ | refine blk_drew ?_ | refine blk_alloc ?_ _)); exact BK192.out)⟩; have n4_ : Aside0 (wr.heap[gb211]? = some (.cells #[.int .i64 (rd t200 0), .int .i64 (rd t200 1), .int .i64 (rd t200 2), .int .i64 (rd t200 3), .int .i64 (rd t200 4), .int .i64 (rd t200 5), u212006] 44 (0, 0))) := ⟨by rw [← hq_]; exact (by (with_reducible repeat (first | refine blk_drewN ?_ _ | refine blk_drew ?_ | refine blk_alloc ?_ _)); exact BK211.out)⟩; have n5_ : Aside0 (Below w.heap.size w wr) := ⟨by rw [← hq_]; exact (by repeat (first | (with_reducible first | exact HB.out | apply below_alloc | apply pw_below_drewN | apply below_drew1 | refine below_set ?_ GE191.out | refine below_set ?_ GE192.out | refine below_set ?_ GE211.out) | exact HB.out))⟩; clear HO_193001 HO_212006 BK191 BK192 BK211 HB hq_; have HO_193001 := n0_; have HO_212006 := n1_; have BK191 := n2_; have BK192 := n3_; have BK211 := n4_; have HB := n5_; clear n0_ n1_ n2_ n3_ n4_ n5_)); have hnb54 := NB192_191.out; have hnc54 := NB191_192.out; have hnb55 := NB192_211.out; have hnc55 := NB211_192.out; have hcz56_0 : wr.cell? ⟨gb192, 0, none⟩ = some (.int .i64 (rd t193 0)) := (blk_cell BK192.out 0).trans rfl; have hcz56_1 : wr.cell? ⟨gb192, 1, none⟩ = some (u193001) := (blk_cell BK192.out 1).trans rfl; have hcz56_2 : wr.cell? ⟨gb192, 2, none⟩ = some (.slice none 0 0) := (blk_cell BK192.out 2).trans rfl; have hfz56_0 := blk_frozen BK192.out 0; have hfz56_1 := blk_frozen BK192.out 1; have hfz56_2 := blk_frozen BK192.out 2; have hnb57 := NB211_191.out; have hnc57 := NB191_211.out; have hcz58_0 : wr.cell? ⟨gb211, 0, none⟩ = some (.int .i64 (rd t200 0)) := (blk_cell BK211.out 0).trans rfl; have hcz58_1 : wr.cell? ⟨gb211, 1, none⟩ = some (.int .i64 (rd t200 1)) := (blk_cell BK211.out 1).trans rfl; have hcz58_2 : wr.cell? ⟨gb211, 2, none⟩ = some (.int .i64 (rd t200 2)) := (blk_cell BK211.out 2).trans rfl; have hcz58_3 : wr.cell? ⟨gb211, 3, none⟩ = some (.int .i64 (rd t200 3)) := (blk_cell BK211.out 3).trans rfl; have hcz58_4 : wr.cell? ⟨gb211, 4, none⟩ = some (.int .i64 (rd t200 4)) := (blk_cell BK211.out 4).trans rfl; have hcz58_5 : wr.cell? ⟨gb211, 5, none⟩ = some (.int .i64 (rd t200 5)) := (blk_cell BK211.out 5).trans rfl; have hcz58_6 : wr.cell? ⟨gb211, 6, none⟩ = some (u212006) := (blk_cell BK211.out 6).trans rfl; have hfz58_0 := blk_frozen BK211.out 0; have hfz58_1 := blk_frozen BK211.out 1; have hfz58_2 := blk_frozen BK211.out 2; have hfz58_3 := blk_frozen BK211.out 3; have hfz58_4 := blk_frozen BK211.out 4; have hfz58_5 := blk_frozen BK211.out 5; have hfz58_6 := blk_frozen BK211.out 6; obtain ⟨Ao60, co60, eo60⟩ := Kd.R_slice HO_212006.out; subst eo60) | ((with_reducible refine gate_builtin (b := .append) (xs := #[.tmp 107, .tmp 109]) rfl ?_); at_builtin; refine Kd.S_append k44 (w0 := w) w.heap.size rfl (.tmp 107) (.tmp 109) 22 44 (.agg #[(.int .i64 0), (.int .i64 0), (.int .i64 0), (.int .i64 0), (.int .i64 0), (.int .i64 0), (.slice none 0 0)]) 72 rfl Try.underlying22 info44 rfl (by decide) (by omega) u193001 x193001_1 (⟨(rd t200 0), (rd t200 1), (rd t200 2), (rd t200 3), (rd t200 4), (rd t200 5), x212006_2⟩ : S44) [.int .i64 (rd t200 0), .int .i64 (rd t200 1), .int .i64 (rd t200 2), .int .i64 (rd t200 3), .int .i64 (rd t200 4), .int .i64 (rd t200 5), .slice Ao60 x212006_2.length co60] (fun k_ => k_ ≠ gb211) (fun k_ => some k_ = (.slice Ao60 x212006_2.length co60 : Value).ownBlock) rfl rfl ?aP (fun k_ hk_ => ((Kd.R_mono (ok' := fun k_ => ((fun k_ => k_ ≠ gb211)) k_ ∧ some k_ ≠ (u193001 : Value).ownBlock) (Kd.R_types (Kd.R_apart' (HO_212006.out) (Kd.S_typed HO_193001.out) (by decide)) BK211.out (by decide)) (fun k_ hk => ⟨hk.2, hk.1.2⟩))).1 k_ hk_.symm) ?aF ?aO ?aB ?aS ?aL ?_; (case aP => exact k44_mkM _ _ _ (⟨(rd t200 0), (rd t200 1), (rd t200 2), (rd t200 3), (rd t200 4), (rd t200 5), x212006_2⟩ : S44) (Kd.R_mono (Kd.R_tight rfl (Kd.R_mono (ok' := fun k_ => ((fun k_ => k_ ≠ gb211)) k_ ∧ some k_ ≠ (u193001 : Value).ownBlock) (Kd.R_types (Kd.R_apart' (HO_212006.out) (Kd.S_typed HO_193001.out) (by decide)) BK211.out (by decide)) (fun k_ hk => ⟨hk.2, hk.1.2⟩))) (fun _ h_ => h_))); (case aB => exact (by repeat (first | (with_reducible first | exact HB.out | apply below_alloc | apply pw_below_drewN | apply below_drew1 | refine below_set ?_ GE191.out | refine below_set ?_ GE192.out | refine below_set ?_ GE211.out) | exact HB.out))); (case aF => exact (fun k_ hk => Kd.freshB (g := gb211) (o := .cells #[.int .i64 (rd t200 0), .int .i64 (rd t200 1), .int .i64 (rd t200 2), .int .i64 (rd t200 3), .int .i64 (rd t200 4), .int .i64 (rd t200 5), .slice Ao60 x212006_2.length co60] 44 (0, 0)) (by (with_reducible repeat (first | refine blk_drewN ?_ _ | refine blk_drew ?_ | refine blk_alloc ?_ _)); exact BK211.out) k_ hk)); (case aO => exact (by (with_reducible repeat (first | apply Kd.S_alloc | apply Kd.S_drewN | apply Kd.S_drew)); exact Kd.S_mono HO_193001.out (fun k_ hk => ⟨hk.2, fun e_ => hk.1 e_⟩))); (case aS => exact (below_size (by repeat (first | (with_reducible first | exact HB.out | apply below_alloc | apply pw_below_drewN | apply below_drew1 | refine below_set ?_ GE191.out | refine below_set ?_ GE192.out | refine below_set ?_ GE211.out) | exact HB.out)))); (case aL => have := LMc53.out; omega); intro v228 w59 ho hb hg hat; rw [← Ny227.out] at ho; have n0_ := Aside0.mk (blk_grown (g := gb191) (o := .cells #[.int .i64 x192000_2, .slice none 0 0, .slice none 0 0] 25 (0, 0)) (by (with_reducible repeat (first | refine blk_drewN ?_ _ | refine blk_drew ?_ | refine blk_alloc ?_ _)); exact BK191.out) hg (Kd.S_ne HO_193001.out BK191.out (by decide))); have n1_ := Aside0.mk (blk_grown (g := gb192) (o := .cells #[.int .i64 (rd t193 0), u193001, .slice none 0 0] 25 (0, 0)) (by (with_reducible repeat (first | refine blk_drewN ?_ _ | refine blk_drew ?_ | refine blk_alloc ?_ _)); exact BK192.out) hg (Kd.S_ne HO_193001.out BK192.out (by decide))); have n2_ := Aside0.mk (blk_grown (g := gb211) (o := .cells #[.int .i64 (rd t200 0), .int .i64 (rd t200 1), .int .i64 (rd t200 2), .int .i64 (rd t200 3), .int .i64 (rd t200 4), .int .i64 (rd t200 5), .slice Ao60 x212006_2.length co60] 44 (0, 0)) (by (with_reducible repeat (first | refine blk_drewN ?_ _ | refine blk_drew ?_ | refine blk_alloc ?_ _)); exact BK211.out) hg (Kd.S_away HO_193001.out (fun _ hk => hk.2))); have n3_ := Aside0.mk (hb); have n4_ := Aside0.mk (ho); clear BK191; clear BK192; clear BK211; clear HB; clear HO_193001; clear HO_212006; have BK191 := n0_; have BK192 := n1_; have BK211 := n2_; have HB := n3_; have HO229 := n4_; clear n0_ n1_ n2_ n3_ n4_; clear ho hb hg hat; obtain ⟨Ao61, co61, eo61⟩ := Kd.S_slice HO229.out; subst eo61; have hcz62_0 : w59.cell? ⟨gb192, 0, none⟩ = some (.int .i64 (rd t193 0)) := (blk_cell BK192.out 0).trans rfl; have hcz62_1 : w59.cell? ⟨gb192, 1, none⟩ = some (u193001) := (blk_cell BK192.out 1).trans rfl; have hcz62_2 : w59.cell? ⟨gb192, 2, none⟩ = some (.slice none 0 0) := (blk_cell BK192.out 2).trans rfl; have hfz62_0 := blk_frozen BK192.out 0; have hfz62_1 := blk_frozen BK192.out 1; have hfz62_2 := blk_frozen BK192.out 2))
                 go_roundg k2
                 case measure => have := HK1.out; have := HK2.out; omega
                 case rel => exact ⟨(x7_2), (x192000_2), (y227), (.slice Ao61 y227.length co61), (by first | rfl | (simp; done) | (simp [*]; done)), H', ⟨by have := HK1.out; have := HK2.out; omega⟩, ⟨by (with_reducible repeat (first | apply Kd.S_alloc | apply Kd.S_drewN | apply Kd.S_drew)); exact Kd.S_mono (Kd.S_far (p := ⟨gb192, 1, none⟩) (Kd.S_types HO229.out BK192.out (by decide)) (fun _ hk => hk.2) (.slice Ao61 y227.length co61)) (fun _ hk => trivial)⟩, ⟨by (with_reducible repeat (first | refine blk_drewN ?_ _ | refine blk_drew ?_ | refine blk_alloc ?_ _)); refine blk_far ?_ NB191_192.out _; (with_reducible repeat (first | refine blk_drewN ?_ _ | refine blk_drew ?_ | refine blk_alloc ?_ _)); exact BK191.out⟩, ⟨by (with_reducible repeat (first | refine blk_drewN ?_ _ | refine blk_drew ?_ | refine blk_alloc ?_ _)); refine blk_put (cs := #[.int .i64 (rd t193 0), u193001, .slice none 0 0]) ?_ 1 _ rfl; (with_reducible repeat (first | refine blk_drewN ?_ _ | refine blk_drew ?_ | refine blk_alloc ?_ _)); exact BK192.out⟩, ⟨by repeat (first | (with_reducible first | exact HB.out | apply below_alloc | apply pw_below_drewN | apply below_drew1 | refine below_set ?_ GE191.out | refine below_set ?_ GE192.out | refine below_set ?_ GE211.out) | exact HB.out)⟩⟩
                ·rw [if_neg c53] at H
                 exact absurd H (by simp)
            ·rw [if_neg c20] at H
             exact absurd H (by simp)
           ·rw [if_neg c19] at H
            exact absurd H (by simp)
          ·rw [if_neg c18] at H
           exact absurd H (by simp)
         ·rw [if_neg c17] at H
          exact absurd H (by simp)
        ·rw [if_neg c16] at H
         exact absurd H (by simp)
       ·rw [if_neg c15] at H
        exact absurd H (by simp)
      ·replace c14 := Bool.eq_false_iff.mpr c14
       subst c14
       have H1 : (some (0, ([] : List (S44)), ([] : List Int), 4, t201)) = some (r1, r2, r3, r4, r5) := by rw [if_neg (show ¬ (false = true) by decide)] at H; exact H
       clear H
       have H := H1
       clear H1
       simp only [Option.some.injEq, Prod.mk.injEq] at H
       obtain ⟨rfl, rfl, rfl, rfl, rfl⟩ := H
       go_wp2_with (first | ((with_reducible refine gate_callee (f := 38) rfl ?_); refine goesL_ (some 35) rfl rfl Try.func38 (by kernel_rfl) rfl #[.slice A0 l0.length c0, .int .i64 x7_1, .int .u8 102] rfl (by (try simp only [List.map_toArray, List.map_cons, List.map_nil]); first | done | rfl | (simp only [List.length_drop, List.length_take]; rfl)) ?_; (with_reducible refine (coronerref31_is.calls _ _ l0 x7_1 102 true _ ?side1 ?side2 A11.out).mono ?_); (case side1 => repeat (first | exact (Kd.C_below HR0.out HB.out) | (with_reducible refine Kd.C_alloc ?_ _) | (with_reducible refine Kd.C_drewN ?_ _) | (with_reducible refine Kd.C_drew ?_))); (case side2 => exact HC0.out); rintro e w' ⟨rfl, ⟨nd, rfl⟩⟩; refine ⟨_, rfl, ?_⟩; (try (rw [drewN_self wr]; generalize hq_ : World.drewN wr _ = wr; have n0_ : Aside0 (Kd.S k44 44 wr w.heap.size (fun _ => True) u193001 x193001_1) := ⟨by rw [← hq_]; exact (by (with_reducible repeat (first | apply Kd.S_alloc | apply Kd.S_drewN | apply Kd.S_drew)); exact HO_193001.out)⟩; have n1_ : Aside0 (wr.heap[gb191]? = some (.cells #[.int .i64 x192000_1, .slice none 0 0, .slice none 0 0] 25 (0, 0))) := ⟨by rw [← hq_]; exact (by (with_reducible repeat (first | refine blk_drewN ?_ _ | refine blk_drew ?_ | refine blk_alloc ?_ _)); exact BK191.out)⟩; have n2_ : Aside0 (wr.heap[gb192]? = some (.cells #[.int .i64 (rd t193 0), u193001, .slice none 0 0] 25 (0, 0))) := ⟨by rw [← hq_]; exact (by (with_reducible repeat (first | refine blk_drewN ?_ _ | refine blk_drew ?_ | refine blk_alloc ?_ _)); exact BK192.out)⟩; have n3_ : Aside0 (Below w.heap.size w wr) := ⟨by rw [← hq_]; exact (by repeat (first | (with_reducible first | exact HB.out | apply below_alloc | apply pw_below_drewN | apply below_drew1 | refine below_set ?_ GE191.out | refine below_set ?_ GE192.out) | exact HB.out))⟩; clear HO_193001 BK191 BK192 HB hq_; have HO_193001 := n0_; have BK191 := n1_; have BK192 := n2_; have HB := n3_; clear n0_ n1_ n2_ n3_))) | ((with_reducible refine gate_callee (f := 37) rfl ?_); refine goesL_ (some 39) rfl rfl Try.func37 (by kernel_rfl) rfl #[.slice A0 l0.length c0, .int .i64 x7_1, .int .u8 102, .int .i64 6] rfl (by (try simp only [List.map_toArray, List.map_cons, List.map_nil]); first | done | rfl | (simp only [List.length_drop, List.length_take]; rfl)) ?_; (with_reducible refine (coronerref31_read.calls k1 _ _ l0 x7_1 102 6 t200 t201 false _ ?side1 ?side2 A13.out).mono ?_); (case side1 => repeat (first | exact (Kd.C_below HR0.out HB.out) | (with_reducible refine Kd.C_alloc ?_ _) | (with_reducible refine Kd.C_drewN ?_ _) | (with_reducible refine Kd.C_drew ?_))); (case side2 => exact HC0.out); rintro e w63 ⟨v203, rfl, ho0, hb⟩; refine ⟨_, rfl, ?_⟩; have n0_ := Aside0.mk (Kd.S_below (by (with_reducible repeat (first | apply Kd.S_alloc | apply Kd.S_drewN | apply Kd.S_drew)); exact HO_193001.out) hb); have n1_ := Aside0.mk (Kd.R_lower ho0 (below_size (by repeat (first | (with_reducible first | exact HB.out | apply below_alloc | apply pw_below_drewN | apply below_drew1 | refine below_set ?_ GE191.out | refine below_set ?_ GE192.out) | exact HB.out)))); have n2_ := Aside0.mk (blk_below (g := gb191) (o := .cells #[.int .i64 x192000_1, .slice none 0 0, .slice none 0 0] 25 (0, 0)) (by (with_reducible repeat (first | refine blk_drewN ?_ _ | refine blk_drew ?_ | refine blk_alloc ?_ _)); exact BK191.out) hb); have n3_ := Aside0.mk (blk_below (g := gb192) (o := .cells #[.int .i64 (rd t193 0), u193001, .slice none 0 0] 25 (0, 0)) (by (with_reducible repeat (first | refine blk_drewN ?_ _ | refine blk_drew ?_ | refine blk_alloc ?_ _)); exact BK192.out) hb); have n4_ := Aside0.mk (below_step (by repeat (first | (with_reducible first | exact HB.out | apply below_alloc | apply pw_below_drewN | apply below_drew1 | refine below_set ?_ GE191.out | refine below_set ?_ GE192.out) | exact HB.out)) hb); clear HO_193001; clear BK191; clear BK192; clear HB; have HO_193001 := n0_; have HO204 := n1_; have BK191 := n2_; have BK192 := n3_; have HB := n4_; clear n0_ n1_ n2_ n3_ n4_; (try clear hb); (try clear hb2); (try clear hk); (try clear hi); (try clear ho0); have hnb64 := NB191_192.out; have hnc64 := NB192_191.out; have hcz65_0 : w63.cell? ⟨gb191, 0, none⟩ = some (.int .i64 x192000_1) := (blk_cell BK191.out 0).trans rfl; have hcz65_1 : w63.cell? ⟨gb191, 1, none⟩ = some (.slice none 0 0) := (blk_cell BK191.out 1).trans rfl; have hcz65_2 : w63.cell? ⟨gb191, 2, none⟩ = some (.slice none 0 0) := (blk_cell BK191.out 2).trans rfl; have hfz65_0 := blk_frozen BK191.out 0; have hfz65_1 := blk_frozen BK191.out 1; have hfz65_2 := blk_frozen BK191.out 2))
       refine bodyPost_ret (results_ctt rfl _ _ gb191 25 #[.int .i64 0, .slice none 0 0, .slice none 0 0] (0, 0) _ rfl (by (with_reducible repeat (first | refine blk_drewN ?_ _ | refine blk_drew ?_ | refine blk_alloc ?_ _)); refine blk_put (cs := #[.int .i64 0, .slice none 0 0, .slice none 0 0]) ?_ 2 _ rfl; (with_reducible repeat (first | refine blk_drewN ?_ _ | refine blk_drew ?_ | refine blk_alloc ?_ _)); refine blk_put (cs := #[.int .i64 0, .slice none 0 0, .slice none 0 0]) ?_ 1 _ rfl; (with_reducible repeat (first | refine blk_drewN ?_ _ | refine blk_drew ?_ | refine blk_alloc ?_ _)); refine blk_put (cs := #[.int .i64 x192000_1, .slice none 0 0, .slice none 0 0]) ?_ 0 _ rfl; (with_reducible repeat (first | refine blk_drewN ?_ _ | refine blk_drew ?_ | refine blk_alloc ?_ _)); exact BK191.out) Try.underlying25 rfl (by kernel_rfl)) rfl ?_
       exact ⟨_, _, by first | rfl | (simp [errW_none, errW_some] <;> rfl) | (simp [*, errW_none, errW_some] <;> rfl), by first | exact Kd.S_nil _ _ _ _ _ | exact Kd.N_nil _ _ _ _ _ | exact Kd.V_nil _ _ _ _ _ | exact Kd.Q_nil _ _ _ _ _ | exact Kd.R_nil _ _ _ _ _, by first | exact Kd.R_nil _ _ _ _ _ | exact Kd.N_nil _ _ _ _ _ | exact Kd.V_nil _ _ _ _ _ | exact Kd.Q_nil _ _ _ _ _ | exact Kd.S_nil _ _ _ _ _, by repeat (first | (with_reducible first | exact HB.out | apply below_alloc | apply pw_below_drewN | apply below_drew1 | refine below_set ?_ GE191.out | refine below_set ?_ GE192.out) | exact HB.out)⟩
     ·replace c12 := Bool.eq_false_iff.mpr c12
      subst c12
      have H1 : ((coronerref31_read.f k1 l0 x7_1 111 (-1)).bind fun bt230 => (if bt230.2.2 = true then (if bt230.2.1 < (l0.length : Int) then (some (0, ([] : List (S44)), ([] : List Int), 4, bt230.2.1)) else ((coronerref31_Check.f k1 (rd t193 0) x193001_1 bt230.1).bind fun t235 => (if t235 = 0 then (some ((rd t193 0), x193001_1, bt230.1, 0, 0)) else (some (0, ([] : List (S44)), ([] : List Int), 2, 0))))) else (some (0, ([] : List (S44)), ([] : List Int), 4, bt230.2.1)))) = some (r1, r2, r3, r4, r5) := by rw [if_neg (show ¬ (false = true) by decide)] at H; exact H
      clear H
      have H := H1
      clear H1
      replace H := Option.bind_eq_some_iff.mp H
      obtain ⟨⟨t230, t231, t232⟩, A660, H⟩ := H
      replace H : (if t232 = true then (if t231 < (l0.length : Int) then (some (0, ([] : List (S44)), ([] : List Int), 4, t231)) else ((coronerref31_Check.f k1 (rd t193 0) x193001_1 t230).bind fun t235 => (if t235 = 0 then (some ((rd t193 0), x193001_1, t230, 0, 0)) else (some (0, ([] : List (S44)), ([] : List Int), 2, 0))))) else (some (0, ([] : List (S44)), ([] : List Int), 4, t231))) = some (r1, r2, r3, r4, r5) := H
      have A66 := Aside0.mk A660
      clear A660
      by_cases c67 : t232 = true
      ·subst c67
       have H1 : (if t231 < (l0.length : Int) then (some (0, ([] : List (S44)), ([] : List Int), 4, t231)) else ((coronerref31_Check.f k1 (rd t193 0) x193001_1 t230).bind fun t235 => (if t235 = 0 then (some ((rd t193 0), x193001_1, t230, 0, 0)) else (some (0, ([] : List (S44)), ([] : List Int), 2, 0))))) = some (r1, r2, r3, r4, r5) := by rw [if_pos rfl] at H; exact H
       clear H
       have H := H1
       clear H1
       by_cases c68 : t231 < (l0.length : Int)
       ·rw [if_pos c68] at H
        have c68b0 : decide (t231 < (l0.length : Int)) = true := decide_eq_true c68
        clear c68
        simp only [Option.some.injEq, Prod.mk.injEq] at H
        obtain ⟨rfl, rfl, rfl, rfl, rfl⟩ := H
        go_wp2_with (first | ((with_reducible refine gate_callee (f := 38) rfl ?_); refine goesL_ (some 35) rfl rfl Try.func38 (by kernel_rfl) rfl #[.slice A0 l0.length c0, .int .i64 x7_1, .int .u8 102] rfl (by (try simp only [List.map_toArray, List.map_cons, List.map_nil]); first | done | rfl | (simp only [List.length_drop, List.length_take]; rfl)) ?_; (with_reducible refine (coronerref31_is.calls _ _ l0 x7_1 102 false _ ?side1 ?side2 A11.out).mono ?_); (case side1 => repeat (first | exact (Kd.C_below HR0.out HB.out) | (with_reducible refine Kd.C_alloc ?_ _) | (with_reducible refine Kd.C_drewN ?_ _) | (with_reducible refine Kd.C_drew ?_))); (case side2 => exact HC0.out); rintro e w' ⟨rfl, ⟨nd, rfl⟩⟩; refine ⟨_, rfl, ?_⟩; (try (rw [drewN_self wr]; generalize hq_ : World.drewN wr _ = wr; have n0_ : Aside0 (Kd.S k44 44 wr w.heap.size (fun _ => True) u193001 x193001_1) := ⟨by rw [← hq_]; exact (by (with_reducible repeat (first | apply Kd.S_alloc | apply Kd.S_drewN | apply Kd.S_drew)); exact HO_193001.out)⟩; have n1_ : Aside0 (wr.heap[gb191]? = some (.cells #[.int .i64 x192000_1, .slice none 0 0, .slice none 0 0] 25 (0, 0))) := ⟨by rw [← hq_]; exact (by (with_reducible repeat (first | refine blk_drewN ?_ _ | refine blk_drew ?_ | refine blk_alloc ?_ _)); exact BK191.out)⟩; have n2_ : Aside0 (wr.heap[gb192]? = some (.cells #[.int .i64 (rd t193 0), u193001, .slice none 0 0] 25 (0, 0))) := ⟨by rw [← hq_]; exact (by (with_reducible repeat (first | refine blk_drewN ?_ _ | refine blk_drew ?_ | refine blk_alloc ?_ _)); exact BK192.out)⟩; have n3_ : Aside0 (Below w.heap.size w wr) := ⟨by rw [← hq_]; exact (by repeat (first | (with_reducible first | exact HB.out | apply below_alloc | apply pw_below_drewN | apply below_drew1 | refine below_set ?_ GE191.out | refine below_set ?_ GE192.out) | exact HB.out))⟩; clear HO_193001 BK191 BK192 HB hq_; have HO_193001 := n0_; have BK191 := n1_; have BK192 := n2_; have HB := n3_; clear n0_ n1_ n2_ n3_))) | ((with_reducible refine gate_callee (f := 37) rfl ?_); refine goesL_ (some 115) rfl rfl Try.func37 (by kernel_rfl) rfl #[.slice A0 l0.length c0, .int .i64 x7_1, .int .u8 111, .int .i64 (-1)] rfl (by (try simp only [List.map_toArray, List.map_cons, List.map_nil]); first | done | rfl | (simp only [List.length_drop, List.length_take]; rfl)) ?_; (with_reducible refine (coronerref31_read.calls k1 _ _ l0 x7_1 111 (-1) t230 t231 true _ ?side1 ?side2 A66.out).mono ?_); (case side1 => repeat (first | exact (Kd.C_below HR0.out HB.out) | (with_reducible refine Kd.C_alloc ?_ _) | (with_reducible refine Kd.C_drewN ?_ _) | (with_reducible refine Kd.C_drew ?_))); (case side2 => exact HC0.out); rintro e w69 ⟨v233, rfl, ho0, hb⟩; refine ⟨_, rfl, ?_⟩; have n0_ := Aside0.mk (Kd.S_below (by (with_reducible repeat (first | apply Kd.S_alloc | apply Kd.S_drewN | apply Kd.S_drew)); exact HO_193001.out) hb); have n1_ := Aside0.mk (Kd.R_lower ho0 (below_size (by repeat (first | (with_reducible first | exact HB.out | apply below_alloc | apply pw_below_drewN | apply below_drew1 | refine below_set ?_ GE191.out | refine below_set ?_ GE192.out) | exact HB.out)))); have n2_ := Aside0.mk (blk_below (g := gb191) (o := .cells #[.int .i64 x192000_1, .slice none 0 0, .slice none 0 0] 25 (0, 0)) (by (with_reducible repeat (first | refine blk_drewN ?_ _ | refine blk_drew ?_ | refine blk_alloc ?_ _)); exact BK191.out) hb); have n3_ := Aside0.mk (blk_below (g := gb192) (o := .cells #[.int .i64 (rd t193 0), u193001, .slice none 0 0] 25 (0, 0)) (by (with_reducible repeat (first | refine blk_drewN ?_ _ | refine blk_drew ?_ | refine blk_alloc ?_ _)); exact BK192.out) hb); have n4_ := Aside0.mk (below_step (by repeat (first | (with_reducible first | exact HB.out | apply below_alloc | apply pw_below_drewN | apply below_drew1 | refine below_set ?_ GE191.out | refine below_set ?_ GE192.out) | exact HB.out)) hb); clear HO_193001; clear BK191; clear BK192; clear HB; have HO_193001 := n0_; have HO234 := n1_; have BK191 := n2_; have BK192 := n3_; have HB := n4_; clear n0_ n1_ n2_ n3_ n4_; (try clear hb); (try clear hb2); (try clear hk); (try clear hi); (try clear ho0); have hnb70 := NB191_192.out; have hnc70 := NB192_191.out; have hcz71_0 : w69.cell? ⟨gb191, 0, none⟩ = some (.int .i64 x192000_1) := (blk_cell BK191.out 0).trans rfl; have hcz71_1 : w69.cell? ⟨gb191, 1, none⟩ = some (.slice none 0 0) := (blk_cell BK191.out 1).trans rfl; have hcz71_2 : w69.cell? ⟨gb191, 2, none⟩ = some (.slice none 0 0) := (blk_cell BK191.out 2).trans rfl; have hfz71_0 := blk_frozen BK191.out 0; have hfz71_1 := blk_frozen BK191.out 1; have hfz71_2 := blk_frozen BK191.out 2))
        refine bodyPost_ret (results_ctt rfl _ _ gb191 25 #[.int .i64 0, .slice none 0 0, .slice none 0 0] (0, 0) _ rfl (by (with_reducible repeat (first | refine blk_drewN ?_ _ | refine blk_drew ?_ | refine blk_alloc ?_ _)); refine blk_put (cs := #[.int .i64 0, .slice none 0 0, .slice none 0 0]) ?_ 2 _ rfl; (with_reducible repeat (first | refine blk_drewN ?_ _ | refine blk_drew ?_ | refine blk_alloc ?_ _)); refine blk_put (cs := #[.int .i64 0, .slice none 0 0, .slice none 0 0]) ?_ 1 _ rfl; (with_reducible repeat (first | refine blk_drewN ?_ _ | refine blk_drew ?_ | refine blk_alloc ?_ _)); refine blk_put (cs := #[.int .i64 x192000_1, .slice none 0 0, .slice none 0 0]) ?_ 0 _ rfl; (with_reducible repeat (first | refine blk_drewN ?_ _ | refine blk_drew ?_ | refine blk_alloc ?_ _)); exact BK191.out) Try.underlying25 rfl (by kernel_rfl)) rfl ?_
        exact ⟨_, _, by first | rfl | (simp [errW_none, errW_some] <;> rfl) | (simp [*, errW_none, errW_some] <;> rfl), by first | exact Kd.S_nil _ _ _ _ _ | exact Kd.N_nil _ _ _ _ _ | exact Kd.V_nil _ _ _ _ _ | exact Kd.Q_nil _ _ _ _ _ | exact Kd.R_nil _ _ _ _ _, by first | exact Kd.R_nil _ _ _ _ _ | exact Kd.N_nil _ _ _ _ _ | exact Kd.V_nil _ _ _ _ _ | exact Kd.Q_nil _ _ _ _ _ | exact Kd.S_nil _ _ _ _ _, by repeat (first | (with_reducible first | exact HB.out | apply below_alloc | apply pw_below_drewN | apply below_drew1 | refine below_set ?_ GE191.out | refine below_set ?_ GE192.out) | exact HB.out)⟩
       ·rw [if_neg c68] at H
        have c68b0 : decide (t231 < (l0.length : Int)) = false := decide_eq_false c68
        clear c68
        replace H := Option.bind_eq_some_iff.mp H
        obtain ⟨t235, A720, H⟩ := H
        replace H : (if t235 = 0 then (some ((rd t193 0), x193001_1, t230, 0, 0)) else (some (0, ([] : List (S44)), ([] : List Int), 2, 0))) = some (r1, r2, r3, r4, r5) := H
        have A72 := Aside0.mk A720
        clear A720
        by_cases c73 : t235 = 0
        ·rw [if_pos c73] at H
         have c73b0 : (t235 == 0) = true := beq_iff_eq.mpr c73
         have c73b1 : (t235 != 0) = false := bne_eq_false_iff_eq.mpr c73
         clear c73
         simp only [Option.some.injEq, Prod.mk.injEq] at H
         obtain ⟨rfl, rfl, rfl, rfl, rfl⟩ := H
         go_wp2_with (first | ((with_reducible refine gate_callee (f := 38) rfl ?_); refine goesL_ (some 35) rfl rfl Try.func38 (by kernel_rfl) rfl #[.slice A0 l0.length c0, .int .i64 x7_1, .int .u8 102] rfl (by (try simp only [List.map_toArray, List.map_cons, List.map_nil]); first | done | rfl | (simp only [List.length_drop, List.length_take]; rfl)) ?_; (with_reducible refine (coronerref31_is.calls _ _ l0 x7_1 102 false _ ?side1 ?side2 A11.out).mono ?_); (case side1 => repeat (first | exact (Kd.C_below HR0.out HB.out) | (with_reducible refine Kd.C_alloc ?_ _) | (with_reducible refine Kd.C_drewN ?_ _) | (with_reducible refine Kd.C_drew ?_))); (case side2 => exact HC0.out); rintro e w' ⟨rfl, ⟨nd, rfl⟩⟩; refine ⟨_, rfl, ?_⟩; (try (rw [drewN_self wr]; generalize hq_ : World.drewN wr _ = wr; have n0_ : Aside0 (Kd.S k44 44 wr w.heap.size (fun _ => True) u193001 x193001_1) := ⟨by rw [← hq_]; exact (by (with_reducible repeat (first | apply Kd.S_alloc | apply Kd.S_drewN | apply Kd.S_drew)); exact HO_193001.out)⟩; have n1_ : Aside0 (wr.heap[gb191]? = some (.cells #[.int .i64 x192000_1, .slice none 0 0, .slice none 0 0] 25 (0, 0))) := ⟨by rw [← hq_]; exact (by (with_reducible repeat (first | refine blk_drewN ?_ _ | refine blk_drew ?_ | refine blk_alloc ?_ _)); exact BK191.out)⟩; have n2_ : Aside0 (wr.heap[gb192]? = some (.cells #[.int .i64 (rd t193 0), u193001, .slice none 0 0] 25 (0, 0))) := ⟨by rw [← hq_]; exact (by (with_reducible repeat (first | refine blk_drewN ?_ _ | refine blk_drew ?_ | refine blk_alloc ?_ _)); exact BK192.out)⟩; have n3_ : Aside0 (Below w.heap.size w wr) := ⟨by rw [← hq_]; exact (by repeat (first | (with_reducible first | exact HB.out | apply below_alloc | apply pw_below_drewN | apply below_drew1 | refine below_set ?_ GE191.out | refine below_set ?_ GE192.out) | exact HB.out))⟩; clear HO_193001 BK191 BK192 HB hq_; have HO_193001 := n0_; have BK191 := n1_; have BK192 := n2_; have HB := n3_; clear n0_ n1_ n2_ n3_))) | ((with_reducible refine gate_callee (f := 37) rfl ?_); refine goesL_ (some 115) rfl rfl Try.func37 (by kernel_rfl) rfl #[.slice A0 l0.length c0, .int .i64 x7_1, .int .u8 111, .int .i64 (-1)] rfl (by (try simp only [List.map_toArray, List.map_cons, List.map_nil]); first | done | rfl | (simp only [List.length_drop, List.length_take]; rfl)) ?_; (with_reducible refine (coronerref31_read.calls k1 _ _ l0 x7_1 111 (-1) t230 t231 true _ ?side1 ?side2 A66.out).mono ?_); (case side1 => repeat (first | exact (Kd.C_below HR0.out HB.out) | (with_reducible refine Kd.C_alloc ?_ _) | (with_reducible refine Kd.C_drewN ?_ _) | (with_reducible refine Kd.C_drew ?_))); (case side2 => exact HC0.out); rintro e w74 ⟨v233, rfl, ho0, hb⟩; refine ⟨_, rfl, ?_⟩; have n0_ := Aside0.mk (Kd.S_below (by (with_reducible repeat (first | apply Kd.S_alloc | apply Kd.S_drewN | apply Kd.S_drew)); exact HO_193001.out) hb); have n1_ := Aside0.mk (Kd.R_lower ho0 (below_size (by repeat (first | (with_reducible first | exact HB.out | apply below_alloc | apply pw_below_drewN | apply below_drew1 | refine below_set ?_ GE191.out | refine below_set ?_ GE192.out) | exact HB.out)))); have n2_ := Aside0.mk (blk_below (g := gb191) (o := .cells #[.int .i64 x192000_1, .slice none 0 0, .slice none 0 0] 25 (0, 0)) (by (with_reducible repeat (first | refine blk_drewN ?_ _ | refine blk_drew ?_ | refine blk_alloc ?_ _)); exact BK191.out) hb); have n3_ := Aside0.mk (blk_below (g := gb192) (o := .cells #[.int .i64 (rd t193 0), u193001, .slice none 0 0] 25 (0, 0)) (by (with_reducible repeat (first | refine blk_drewN ?_ _ | refine blk_drew ?_ | refine blk_alloc ?_ _)); exact BK192.out) hb); have n4_ := Aside0.mk (below_step (by repeat (first | (with_reducible first | exact HB.out | apply below_alloc | apply pw_below_drewN | apply below_drew1 | refine below_set ?_ GE191.out | refine below_set ?_ GE192.out) | exact HB.out)) hb); clear HO_193001; clear BK191; clear BK192; clear HB; have HO_193001 := n0_; have HO234 := n1_; have BK191 := n2_; have BK192 := n3_; have HB := n4_; clear n0_ n1_ n2_ n3_ n4_; (try clear hb); (try clear hb2); (try clear hk); (try clear hi); (try clear ho0); obtain ⟨Ao75, co75, eo75⟩ := Kd.R_slice HO234.out; subst eo75; have hnb76 := NB192_191.out; have hnc76 := NB191_192.out; have hcz77_0 : w74.cell? ⟨gb192, 0, none⟩ = some (.int .i64 (rd t193 0)) := (blk_cell BK192.out 0).trans rfl; have hcz77_1 : w74.cell? ⟨gb192, 1, none⟩ = some (u193001) := (blk_cell BK192.out 1).trans rfl; have hcz77_2 : w74.cell? ⟨gb192, 2, none⟩ = some (.slice none 0 0) := (blk_cell BK192.out 2).trans rfl; have hfz77_0 := blk_frozen BK192.out 0; have hfz77_1 := blk_frozen BK192.out 1; have hfz77_2 := blk_frozen BK192.out 2; obtain ⟨Ao78, co78, eo78⟩ := Kd.S_slice HO_193001.out; subst eo78) | ((with_reducible refine gate_callee (f := 15) rfl ?_); refine goesL_ (some 132) rfl rfl Try.func15 (by kernel_rfl) rfl #[.agg #[.int .i64 (rd t193 0), .slice Ao78 x193001_1.length co78, .slice Ao75 t230.length co75]] rfl (by (try simp only [List.map_toArray, List.map_cons, List.map_nil]); first | done | rfl | (simp only [List.length_drop, List.length_take]; rfl)) ?_; (with_reducible refine (coronerref31_Check.calls k1 (rd t193 0) _ _ x193001_1 _ _ t230 t235 _ ?side1 ?side2 ?side3 ?side4 A72.out).mono ?_); (case side1 => refine (Kd.S_reads' (e := 44) (base := w.heap.size) (ok := fun k_ => True) (n := x193001_1.length) (c := co78) ?_).2.2; exact (by (with_reducible repeat (first | apply Kd.S_alloc | apply Kd.S_drewN | apply Kd.S_drew)); exact (Kd.S_mono (Kd.S_far (p := ⟨gb192, 2, none⟩) (Kd.S_types HO_193001.out BK192.out (by decide)) (fun _ hk => hk.2) (.slice Ao75 t230.length co75)) (fun _ h_ => h_.1)))); (case side2 => exact (Kd.S_reads' HO_193001.out).2.1); (case side3 => refine (Kd.R_reads' (e := 3) (base := w.heap.size) (ok := fun k_ => True) (n := t230.length) (c := co75) ?_).2.2; exact (by (with_reducible repeat (first | apply Kd.R_alloc | apply Kd.R_drewN | apply Kd.R_drew)); exact (Kd.R_mono (Kd.R_far (p := ⟨gb192, 2, none⟩) (Kd.R_types HO234.out BK192.out (by decide)) (fun _ hk => hk.2) (.slice Ao75 t230.length co75)) (fun _ h_ => h_.1)))); (case side4 => exact (Kd.R_reads' HO234.out).2.1); rintro e w79 ⟨rfl, hb⟩; refine ⟨_, rfl, ?_⟩; have n0_ := Aside0.mk (Kd.S_below (by (with_reducible repeat (first | apply Kd.S_alloc | apply Kd.S_drewN | apply Kd.S_drew)); exact (Kd.S_mono (Kd.S_far (p := ⟨gb192, 2, none⟩) (Kd.S_types HO_193001.out BK192.out (by decide)) (fun _ hk => hk.2) (.slice Ao75 t230.length co75)) (fun _ h_ => h_.1))) hb); have n1_ := Aside0.mk (Kd.R_below (by (with_reducible repeat (first | apply Kd.R_alloc | apply Kd.R_drewN | apply Kd.R_drew)); exact (Kd.R_mono (Kd.R_far (p := ⟨gb192, 2, none⟩) (Kd.R_types HO234.out BK192.out (by decide)) (fun _ hk => hk.2) (.slice Ao75 t230.length co75)) (fun _ h_ => h_.1))) hb); have n2_ := Aside0.mk (blk_below (g := gb191) (o := .cells #[.int .i64 x192000_1, .slice none 0 0, .slice none 0 0] 25 (0, 0)) (by (with_reducible repeat (first | refine blk_drewN ?_ _ | refine blk_drew ?_ | refine blk_alloc ?_ _)); refine blk_far ?_ NB191_192.out _; (with_reducible repeat (first | refine blk_drewN ?_ _ | refine blk_drew ?_ | refine blk_alloc ?_ _)); exact BK191.out) hb); have n3_ := Aside0.mk (blk_below (g := gb192) (o := .cells #[.int .i64 (rd t193 0), .slice Ao78 x193001_1.length co78, .slice Ao75 t230.length co75] 25 (0, 0)) (by (with_reducible repeat (first | refine blk_drewN ?_ _ | refine blk_drew ?_ | refine blk_alloc ?_ _)); refine blk_put (cs := #[.int .i64 (rd t193 0), .slice Ao78 x193001_1.length co78, .slice none 0 0]) ?_ 2 _ rfl; (with_reducible repeat (first | refine blk_drewN ?_ _ | refine blk_drew ?_ | refine blk_alloc ?_ _)); exact BK192.out) hb); have n4_ := Aside0.mk (below_step (by repeat (first | (with_reducible first | exact HB.out | apply below_alloc | apply pw_below_drewN | apply below_drew1 | refine below_set ?_ GE191.out | refine below_set ?_ GE192.out) | exact HB.out)) hb); clear HO_193001; clear HO234; clear BK191; clear BK192; clear HB; have HO_193001 := n0_; have HO234 := n1_; have BK191 := n2_; have BK192 := n3_; have HB := n4_; clear n0_ n1_ n2_ n3_ n4_; (try clear hb); (try clear hb2); (try clear hk); (try clear hi); have hcz80_0 : w79.cell? ⟨gb192, 0, none⟩ = some (.int .i64 (rd t193 0)) := (blk_cell BK192.out 0).trans rfl; have hcz80_1 : w79.cell? ⟨gb192, 1, none⟩ = some (.slice Ao78 x193001_1.length co78) := (blk_cell BK192.out 1).trans rfl; have hcz80_2 : w79.cell? ⟨gb192, 2, none⟩ = some (.slice Ao75 t230.length co75) := (blk_cell BK192.out 2).trans rfl; have hfz80_0 := blk_frozen BK192.out 0; have hfz80_1 := blk_frozen BK192.out 1; have hfz80_2 := blk_frozen BK192.out 2; have hcz81_0 : w79.cell? ⟨gb191, 0, none⟩ = some (.int .i64 x192000_1) := (blk_cell BK191.out 0).trans rfl; have hcz81_1 : w79.cell? ⟨gb191, 1, none⟩ = some (.slice none 0 0) := (blk_cell BK191.out 1).trans rfl; have hcz81_2 : w79.cell? ⟨gb191, 2, none⟩ = some (.slice none 0 0) := (blk_cell BK191.out 2).trans rfl; have hfz81_0 := blk_frozen BK191.out 0; have hfz81_1 := blk_frozen BK191.out 1; have hfz81_2 := blk_frozen BK191.out 2))
         refine bodyPost_ret (results_ctt rfl _ _ gb191 25 #[.int .i64 (rd t193 0), .slice Ao78 x193001_1.length co78, .slice Ao75 t230.length co75] (0, 0) _ rfl (by (with_reducible repeat (first | refine blk_drewN ?_ _ | refine blk_drew ?_ | refine blk_alloc ?_ _)); refine blk_put (cs := #[.int .i64 (rd t193 0), .slice Ao78 x193001_1.length co78, .slice none 0 0]) ?_ 2 _ rfl; (with_reducible repeat (first | refine blk_drewN ?_ _ | refine blk_drew ?_ | refine blk_alloc ?_ _)); refine blk_put (cs := #[.int .i64 (rd t193 0), .slice none 0 0, .slice none 0 0]) ?_ 1 _ rfl; (with_reducible repeat (first | refine blk_drewN ?_ _ | refine blk_drew ?_ | refine blk_alloc ?_ _)); refine blk_put (cs := #[.int .i64 x192000_1, .slice none 0 0, .slice none 0 0]) ?_ 0 _ rfl; (with_reducible repeat (first | refine blk_drewN ?_ _ | refine blk_drew ?_ | refine blk_alloc ?_ _)); exact BK191.out) Try.underlying25 rfl (by kernel_rfl)) rfl ?_
         exact ⟨_, _, by first | rfl | (simp [errW_none, errW_some] <;> rfl) | (simp [*, errW_none, errW_some] <;> rfl), by (with_reducible repeat (first | apply Kd.S_alloc | apply Kd.S_drewN | apply Kd.S_drew)); exact Kd.S_mono (Kd.S_far (p := ⟨gb191, 2, none⟩) (Kd.S_far (p := ⟨gb191, 1, none⟩) (Kd.S_far (p := ⟨gb191, 0, none⟩) (Kd.S_types HO_193001.out BK191.out (by decide)) (fun _ hk => hk.2) (.int .i64 (rd t193 0))) (fun _ hk => hk.2) (.slice Ao78 x193001_1.length co78)) (fun _ hk => hk.2) (.slice Ao75 t230.length co75)) (fun _ hk => trivial), by (with_reducible repeat (first | apply Kd.R_alloc | apply Kd.R_drewN | apply Kd.R_drew)); exact Kd.R_mono (Kd.R_far (p := ⟨gb191, 2, none⟩) (Kd.R_far (p := ⟨gb191, 1, none⟩) (Kd.R_far (p := ⟨gb191, 0, none⟩) (Kd.R_types HO234.out BK191.out (by decide)) (fun _ hk => hk.2) (.int .i64 (rd t193 0))) (fun _ hk => hk.2) (.slice Ao78 x193001_1.length co78)) (fun _ hk => hk.2) (.slice Ao75 t230.length co75)) (fun _ hk => trivial), by repeat (first | (with_reducible first | exact HB.out | apply below_alloc | apply pw_below_drewN | apply below_drew1 | refine below_set ?_ GE191.out | refine below_set ?_ GE192.out) | exact HB.out)⟩
        ·rw [if_neg c73] at H
         have c73b0 : (t235 == 0) = false := beq_eq_false_iff_ne.mpr c73
         have c73b1 : (t235 != 0) = true := bne_iff_ne.mpr c73
         simp only [Option.some.injEq, Prod.mk.injEq] at H
         obtain ⟨rfl, rfl, rfl, rfl, rfl⟩ := H
         go_wp2_with (first | ((with_reducible refine gate_callee (f := 38) rfl ?_); refine goesL_ (some 35) rfl rfl Try.func38 (by kernel_rfl) rfl #[.slice A0 l0.length c0, .int .i64 x7_1, .int .u8 102] rfl (by (try simp only [List.map_toArray, List.map_cons, List.map_nil]); first | done | rfl | (simp only [List.length_drop, List.length_take]; rfl)) ?_; (with_reducible refine (coronerref31_is.calls _ _ l0 x7_1 102 false _ ?side1 ?side2 A11.out).mono ?_); (case side1 => repeat (first | exact (Kd.C_below HR0.out HB.out) | (with_reducible refine Kd.C_alloc ?_ _) | (with_reducible refine Kd.C_drewN ?_ _) | (with_reducible refine Kd.C_drew ?_))); (case side2 => exact HC0.out); rintro e w' ⟨rfl, ⟨nd, rfl⟩⟩; refine ⟨_, rfl, ?_⟩; (try (rw [drewN_self wr]; generalize hq_ : World.drewN wr _ = wr; have n0_ : Aside0 (Kd.S k44 44 wr w.heap.size (fun _ => True) u193001 x193001_1) := ⟨by rw [← hq_]; exact (by (with_reducible repeat (first | apply Kd.S_alloc | apply Kd.S_drewN | apply Kd.S_drew)); exact HO_193001.out)⟩; have n1_ : Aside0 (wr.heap[gb191]? = some (.cells #[.int .i64 x192000_1, .slice none 0 0, .slice none 0 0] 25 (0, 0))) := ⟨by rw [← hq_]; exact (by (with_reducible repeat (first | refine blk_drewN ?_ _ | refine blk_drew ?_ | refine blk_alloc ?_ _)); exact BK191.out)⟩; have n2_ : Aside0 (wr.heap[gb192]? = some (.cells #[.int .i64 (rd t193 0), u193001, .slice none 0 0] 25 (0, 0))) := ⟨by rw [← hq_]; exact (by (with_reducible repeat (first | refine blk_drewN ?_ _ | refine blk_drew ?_ | refine blk_alloc ?_ _)); exact BK192.out)⟩; have n3_ : Aside0 (Below w.heap.size w wr) := ⟨by rw [← hq_]; exact (by repeat (first | (with_reducible first | exact HB.out | apply below_alloc | apply pw_below_drewN | apply below_drew1 | refine below_set ?_ GE191.out | refine below_set ?_ GE192.out) | exact HB.out))⟩; clear HO_193001 BK191 BK192 HB hq_; have HO_193001 := n0_; have BK191 := n1_; have BK192 := n2_; have HB := n3_; clear n0_ n1_ n2_ n3_))) | ((with_reducible refine gate_callee (f := 37) rfl ?_); refine goesL_ (some 115) rfl rfl Try.func37 (by kernel_rfl) rfl #[.slice A0 l0.length c0, .int .i64 x7_1, .int .u8 111, .int .i64 (-1)] rfl (by (try simp only [List.map_toArray, List.map_cons, List.map_nil]); first | done | rfl | (simp only [List.length_drop, List.length_take]; rfl)) ?_; (with_reducible refine (coronerref31_read.calls k1 _ _ l0 x7_1 111 (-1) t230 t231 true _ ?side1 ?side2 A66.out).mono ?_); (case side1 => repeat (first | exact (Kd.C_below HR0.out HB.out) | (with_reducible refine Kd.C_alloc ?_ _) | (with_reducible refine Kd.C_drewN ?_ _) | (with_reducible refine Kd.C_drew ?_))); (case side2 => exact HC0.out); rintro e w82 ⟨v233, rfl, ho0, hb⟩; refine ⟨_, rfl, ?_⟩; have n0_ := Aside0.mk (Kd.S_below (by (with_reducible repeat (first | apply Kd.S_alloc | apply Kd.S_drewN | apply Kd.S_drew)); exact HO_193001.out) hb); have n1_ := Aside0.mk (Kd.R_lower ho0 (below_size (by repeat (first | (with_reducible first | exact HB.out | apply below_alloc | apply pw_below_drewN | apply below_drew1 | refine below_set ?_ GE191.out | refine below_set ?_ GE192.out) | exact HB.out)))); have n2_ := Aside0.mk (blk_below (g := gb191) (o := .cells #[.int .i64 x192000_1, .slice none 0 0, .slice none 0 0] 25 (0, 0)) (by (with_reducible repeat (first | refine blk_drewN ?_ _ | refine blk_drew ?_ | refine blk_alloc ?_ _)); exact BK191.out) hb); have n3_ := Aside0.mk (blk_below (g := gb192) (o := .cells #[.int .i64 (rd t193 0), u193001, .slice none 0 0] 25 (0, 0)) (by (with_reducible repeat (first | refine blk_drewN ?_ _ | refine blk_drew ?_ | refine blk_alloc ?_ _)); exact BK192.out) hb); have n4_ := Aside0.mk (below_step (by repeat (first | (with_reducible first | exact HB.out | apply below_alloc | apply pw_below_drewN | apply below_drew1 | refine below_set ?_ GE191.out | refine below_set ?_ GE192.out) | exact HB.out)) hb); clear HO_193001; clear BK191; clear BK192; clear HB; have HO_193001 := n0_; have HO234 := n1_; have BK191 := n2_; have BK192 := n3_; have HB := n4_; clear n0_ n1_ n2_ n3_ n4_; (try clear hb); (try clear hb2); (try clear hk); (try clear hi); (try clear ho0); obtain ⟨Ao83, co83, eo83⟩ := Kd.R_slice HO234.out; subst eo83; have hnb84 := NB192_191.out; have hnc84 := NB191_192.out; have hcz85_0 : w82.cell? ⟨gb192, 0, none⟩ = some (.int .i64 (rd t193 0)) := (blk_cell BK192.out 0).trans rfl; have hcz85_1 : w82.cell? ⟨gb192, 1, none⟩ = some (u193001) := (blk_cell BK192.out 1).trans rfl; have hcz85_2 : w82.cell? ⟨gb192, 2, none⟩ = some (.slice none 0 0) := (blk_cell BK192.out 2).trans rfl; have hfz85_0 := blk_frozen BK192.out 0; have hfz85_1 := blk_frozen BK192.out 1; have hfz85_2 := blk_frozen BK192.out 2; obtain ⟨Ao86, co86, eo86⟩ := Kd.S_slice HO_193001.out; subst eo86) | ((with_reducible refine gate_callee (f := 15) rfl ?_); refine goesL_ (some 132) rfl rfl Try.func15 (by kernel_rfl) rfl #[.agg #[.int .i64 (rd t193 0), .slice Ao86 x193001_1.length co86, .slice Ao83 t230.length co83]] rfl (by (try simp only [List.map_toArray, List.map_cons, List.map_nil]); first | done | rfl | (simp only [List.length_drop, List.length_take]; rfl)) ?_; (with_reducible refine (coronerref31_Check.calls k1 (rd t193 0) _ _ x193001_1 _ _ t230 t235 _ ?side1 ?side2 ?side3 ?side4 A72.out).mono ?_); (case side1 => refine (Kd.S_reads' (e := 44) (base := w.heap.size) (ok := fun k_ => True) (n := x193001_1.length) (c := co86) ?_).2.2; exact (by (with_reducible repeat (first | apply Kd.S_alloc | apply Kd.S_drewN | apply Kd.S_drew)); exact (Kd.S_mono (Kd.S_far (p := ⟨gb192, 2, none⟩) (Kd.S_types HO_193001.out BK192.out (by decide)) (fun _ hk => hk.2) (.slice Ao83 t230.length co83)) (fun _ h_ => h_.1)))); (case side2 => exact (Kd.S_reads' HO_193001.out).2.1); (case side3 => refine (Kd.R_reads' (e := 3) (base := w.heap.size) (ok := fun k_ => True) (n := t230.length) (c := co83) ?_).2.2; exact (by (with_reducible repeat (first | apply Kd.R_alloc | apply Kd.R_drewN | apply Kd.R_drew)); exact (Kd.R_mono (Kd.R_far (p := ⟨gb192, 2, none⟩) (Kd.R_types HO234.out BK192.out (by decide)) (fun _ hk => hk.2) (.slice Ao83 t230.length co83)) (fun _ h_ => h_.1)))); (case side4 => exact (Kd.R_reads' HO234.out).2.1); rintro e w87 ⟨rfl, hb⟩; refine ⟨_, rfl, ?_⟩; have n0_ := Aside0.mk (Kd.S_below (by (with_reducible repeat (first | apply Kd.S_alloc | apply Kd.S_drewN | apply Kd.S_drew)); exact (Kd.S_mono (Kd.S_far (p := ⟨gb192, 2, none⟩) (Kd.S_types HO_193001.out BK192.out (by decide)) (fun _ hk => hk.2) (.slice Ao83 t230.length co83)) (fun _ h_ => h_.1))) hb); have n1_ := Aside0.mk (Kd.R_below (by (with_reducible repeat (first | apply Kd.R_alloc | apply Kd.R_drewN | apply Kd.R_drew)); exact (Kd.R_mono (Kd.R_far (p := ⟨gb192, 2, none⟩) (Kd.R_types HO234.out BK192.out (by decide)) (fun _ hk => hk.2) (.slice Ao83 t230.length co83)) (fun _ h_ => h_.1))) hb); have n2_ := Aside0.mk (blk_below (g := gb191) (o := .cells #[.int .i64 x192000_1, .slice none 0 0, .slice none 0 0] 25 (0, 0)) (by (with_reducible repeat (first | refine blk_drewN ?_ _ | refine blk_drew ?_ | refine blk_alloc ?_ _)); refine blk_far ?_ NB191_192.out _; (with_reducible repeat (first | refine blk_drewN ?_ _ | refine blk_drew ?_ | refine blk_alloc ?_ _)); exact BK191.out) hb); have n3_ := Aside0.mk (blk_below (g := gb192) (o := .cells #[.int .i64 (rd t193 0), .slice Ao86 x193001_1.length co86, .slice Ao83 t230.length co83] 25 (0, 0)) (by (with_reducible repeat (first | refine blk_drewN ?_ _ | refine blk_drew ?_ | refine blk_alloc ?_ _)); refine blk_put (cs := #[.int .i64 (rd t193 0), .slice Ao86 x193001_1.length co86, .slice none 0 0]) ?_ 2 _ rfl; (with_reducible repeat (first | refine blk_drewN ?_ _ | refine blk_drew ?_ | refine blk_alloc ?_ _)); exact BK192.out) hb); have n4_ := Aside0.mk (below_step (by repeat (first | (with_reducible first | exact HB.out | apply below_alloc | apply pw_below_drewN | apply below_drew1 | refine below_set ?_ GE191.out | refine below_set ?_ GE192.out) | exact HB.out)) hb); clear HO_193001; clear HO234; clear BK191; clear BK192; clear HB; have HO_193001 := n0_; have HO234 := n1_; have BK191 := n2_; have BK192 := n3_; have HB := n4_; clear n0_ n1_ n2_ n3_ n4_; (try clear hb); (try clear hb2); (try clear hk); (try clear hi); have hcz88_0 : w87.cell? ⟨gb191, 0, none⟩ = some (.int .i64 x192000_1) := (blk_cell BK191.out 0).trans rfl; have hcz88_1 : w87.cell? ⟨gb191, 1, none⟩ = some (.slice none 0 0) := (blk_cell BK191.out 1).trans rfl; have hcz88_2 : w87.cell? ⟨gb191, 2, none⟩ = some (.slice none 0 0) := (blk_cell BK191.out 2).trans rfl; have hfz88_0 := blk_frozen BK191.out 0; have hfz88_1 := blk_frozen BK191.out 1; have hfz88_2 := blk_frozen BK191.out 2))
         refine bodyPost_ret (results_ctt rfl _ _ gb191 25 #[.int .i64 0, .slice none 0 0, .slice none 0 0] (0, 0) _ rfl (by (with_reducible repeat (first | refine blk_drewN ?_ _ | refine blk_drew ?_ | refine blk_alloc ?_ _)); refine blk_put (cs := #[.int .i64 0, .slice none 0 0, .slice none 0 0]) ?_ 2 _ rfl; (with_reducible repeat (first | refine blk_drewN ?_ _ | refine blk_drew ?_ | refine blk_alloc ?_ _)); refine blk_put (cs := #[.int .i64 0, .slice none 0 0, .slice none 0 0]) ?_ 1 _ rfl; (with_reducible repeat (first | refine blk_drewN ?_ _ | refine blk_drew ?_ | refine blk_alloc ?_ _)); refine blk_put (cs := #[.int .i64 x192000_1, .slice none 0 0, .slice none 0 0]) ?_ 0 _ rfl; (with_reducible repeat (first | refine blk_drewN ?_ _ | refine blk_drew ?_ | refine blk_alloc ?_ _)); exact BK191.out) Try.underlying25 rfl (by kernel_rfl)) rfl ?_
         exact ⟨_, _, by first | rfl | (simp [errW_none, errW_some] <;> rfl) | (simp [*, errW_none, errW_some] <;> rfl), by first | exact Kd.S_nil _ _ _ _ _ | exact Kd.N_nil _ _ _ _ _ | exact Kd.V_nil _ _ _ _ _ | exact Kd.Q_nil _ _ _ _ _ | exact Kd.R_nil _ _ _ _ _, by first | exact Kd.R_nil _ _ _ _ _ | exact Kd.N_nil _ _ _ _ _ | exact Kd.V_nil _ _ _ _ _ | exact Kd.Q_nil _ _ _ _ _ | exact Kd.S_nil _ _ _ _ _, by repeat (first | (with_reducible first | exact HB.out | apply below_alloc | apply pw_below_drewN | apply below_drew1 | refine below_set ?_ GE191.out | refine below_set ?_ GE192.out) | exact HB.out)⟩
      ·replace c67 := Bool.eq_false_iff.mpr c67
       subst c67
       have H1 : (some (0, ([] : List (S44)), ([] : List Int), 4, t231)) = some (r1, r2, r3, r4, r5) := by rw [if_neg (show ¬ (false = true) by decide)] at H; exact H
       clear H
       have H := H1
       clear H1
       simp only [Option.some.injEq, Prod.mk.injEq] at H
       obtain ⟨rfl, rfl, rfl, rfl, rfl⟩ := H
       go_wp2_with (first | ((with_reducible refine gate_callee (f := 38) rfl ?_); refine goesL_ (some 35) rfl rfl Try.func38 (by kernel_rfl) rfl #[.slice A0 l0.length c0, .int .i64 x7_1, .int .u8 102] rfl (by (try simp only [List.map_toArray, List.map_cons, List.map_nil]); first | done | rfl | (simp only [List.length_drop, List.length_take]; rfl)) ?_; (with_reducible refine (coronerref31_is.calls _ _ l0 x7_1 102 false _ ?side1 ?side2 A11.out).mono ?_); (case side1 => repeat (first | exact (Kd.C_below HR0.out HB.out) | (with_reducible refine Kd.C_alloc ?_ _) | (with_reducible refine Kd.C_drewN ?_ _) | (with_reducible refine Kd.C_drew ?_))); (case side2 => exact HC0.out); rintro e w' ⟨rfl, ⟨nd, rfl⟩⟩; refine ⟨_, rfl, ?_⟩; (try (rw [drewN_self wr]; generalize hq_ : World.drewN wr _ = wr; have n0_ : Aside0 (Kd.S k44 44 wr w.heap.size (fun _ => True) u193001 x193001_1) := ⟨by rw [← hq_]; exact (by (with_reducible repeat (first | apply Kd.S_alloc | apply Kd.S_drewN | apply Kd.S_drew)); exact HO_193001.out)⟩; have n1_ : Aside0 (wr.heap[gb191]? = some (.cells #[.int .i64 x192000_1, .slice none 0 0, .slice none 0 0] 25 (0, 0))) := ⟨by rw [← hq_]; exact (by (with_reducible repeat (first | refine blk_drewN ?_ _ | refine blk_drew ?_ | refine blk_alloc ?_ _)); exact BK191.out)⟩; have n2_ : Aside0 (wr.heap[gb192]? = some (.cells #[.int .i64 (rd t193 0), u193001, .slice none 0 0] 25 (0, 0))) := ⟨by rw [← hq_]; exact (by (with_reducible repeat (first | refine blk_drewN ?_ _ | refine blk_drew ?_ | refine blk_alloc ?_ _)); exact BK192.out)⟩; have n3_ : Aside0 (Below w.heap.size w wr) := ⟨by rw [← hq_]; exact (by repeat (first | (with_reducible first | exact HB.out | apply below_alloc | apply pw_below_drewN | apply below_drew1 | refine below_set ?_ GE191.out | refine below_set ?_ GE192.out) | exact HB.out))⟩; clear HO_193001 BK191 BK192 HB hq_; have HO_193001 := n0_; have BK191 := n1_; have BK192 := n2_; have HB := n3_; clear n0_ n1_ n2_ n3_))) | ((with_reducible refine gate_callee (f := 37) rfl ?_); refine goesL_ (some 115) rfl rfl Try.func37 (by kernel_rfl) rfl #[.slice A0 l0.length c0, .int .i64 x7_1, .int .u8 111, .int .i64 (-1)] rfl (by (try simp only [List.map_toArray, List.map_cons, List.map_nil]); first | done | rfl | (simp only [List.length_drop, List.length_take]; rfl)) ?_; (with_reducible refine (coronerref31_read.calls k1 _ _ l0 x7_1 111 (-1) t230 t231 false _ ?side1 ?side2 A66.out).mono ?_); (case side1 => repeat (first | exact (Kd.C_below HR0.out HB.out) | (with_reducible refine Kd.C_alloc ?_ _) | (with_reducible refine Kd.C_drewN ?_ _) | (with_reducible refine Kd.C_drew ?_))); (case side2 => exact HC0.out); rintro e w89 ⟨v233, rfl, ho0, hb⟩; refine ⟨_, rfl, ?_⟩; have n0_ := Aside0.mk (Kd.S_below (by (with_reducible repeat (first | apply Kd.S_alloc | apply Kd.S_drewN | apply Kd.S_drew)); exact HO_193001.out) hb); have n1_ := Aside0.mk (Kd.R_lower ho0 (below_size (by repeat (first | (with_reducible first | exact HB.out | apply below_alloc | apply pw_below_drewN | apply below_drew1 | refine below_set ?_ GE191.out | refine below_set ?_ GE192.out) | exact HB.out)))); have n2_ := Aside0.mk (blk_below (g := gb191) (o := .cells #[.int .i64 x192000_1, .slice none 0 0, .slice none 0 0] 25 (0, 0)) (by (with_reducible repeat (first | refine blk_drewN ?_ _ | refine blk_drew ?_ | refine blk_alloc ?_ _)); exact BK191.out) hb); have n3_ := Aside0.mk (blk_below (g := gb192) (o := .cells #[.int .i64 (rd t193 0), u193001, .slice none 0 0] 25 (0, 0)) (by (with_reducible repeat (first | refine blk_drewN ?_ _ | refine blk_drew ?_ | refine blk_alloc ?_ _)); exact BK192.out) hb); have n4_ := Aside0.mk (below_step (by repeat (first | (with_reducible first | exact HB.out | apply below_alloc | apply pw_below_drewN | apply below_drew1 | refine below_set ?_ GE191.out | refine below_set ?_ GE192.out) | exact HB.out)) hb); clear HO_193001; clear BK191; clear BK192; clear HB; have HO_193001 := n0_; have HO234 := n1_; have BK191 := n2_; have BK192 := n3_; have HB := n4_; clear n0_ n1_ n2_ n3_ n4_; (try clear hb); (try clear hb2); (try clear hk); (try clear hi); (try clear ho0); have hnb90 := NB191_192.out; have hnc90 := NB192_191.out; have hcz91_0 : w89.cell? ⟨gb191, 0, none⟩ = some (.int .i64 x192000_1) := (blk_cell BK191.out 0).trans rfl; have hcz91_1 : w89.cell? ⟨gb191, 1, none⟩ = some (.slice none 0 0) := (blk_cell BK191.out 1).trans rfl; have hcz91_2 : w89.cell? ⟨gb191, 2, none⟩ = some (.slice none 0 0) := (blk_cell BK191.out 2).trans rfl; have hfz91_0 := blk_frozen BK191.out 0; have hfz91_1 := blk_frozen BK191.out 1; have hfz91_2 := blk_frozen BK191.out 2))
       refine bodyPost_ret (results_ctt rfl _ _ gb191 25 #[.int .i64 0, .slice none 0 0, .slice none 0 0] (0, 0) _ rfl (by (with_reducible repeat (first | refine blk_drewN ?_ _ | refine blk_drew ?_ | refine blk_alloc ?_ _)); refine blk_put (cs := #[.int .i64 0, .slice none 0 0, .slice none 0 0]) ?_ 2 _ rfl; (with_reducible repeat (first | refine blk_drewN ?_ _ | refine blk_drew ?_ | refine blk_alloc ?_ _)); refine blk_put (cs := #[.int .i64 0, .slice none 0 0, .slice none 0 0]) ?_ 1 _ rfl; (with_reducible repeat (first | refine blk_drewN ?_ _ | refine blk_drew ?_ | refine blk_alloc ?_ _)); refine blk_put (cs := #[.int .i64 x192000_1, .slice none 0 0, .slice none 0 0]) ?_ 0 _ rfl; (with_reducible repeat (first | refine blk_drewN ?_ _ | refine blk_drew ?_ | refine blk_alloc ?_ _)); exact BK191.out) Try.underlying25 rfl (by kernel_rfl)) rfl ?_
       exact ⟨_, _, by first | rfl | (simp [errW_none, errW_some] <;> rfl) | (simp [*, errW_none, errW_some] <;> rfl), by first | exact Kd.S_nil _ _ _ _ _ | exact Kd.N_nil _ _ _ _ _ | exact Kd.V_nil _ _ _ _ _ | exact Kd.Q_nil _ _ _ _ _ | exact Kd.R_nil _ _ _ _ _, by first | exact Kd.R_nil _ _ _ _ _ | exact Kd.N_nil _ _ _ _ _ | exact Kd.V_nil _ _ _ _ _ | exact Kd.Q_nil _ _ _ _ _ | exact Kd.S_nil _ _ _ _ _, by repeat (first | (with_reducible first | exact HB.out | apply below_alloc | apply pw_below_drewN | apply below_drew1 | refine below_set ?_ GE191.out | refine below_set ?_ GE192.out) | exact HB.out)⟩
  ·rw [if_neg c4] at H
   exact absurd H (by simp)
 ·replace c3 := Bool.eq_false_iff.mpr c3
  subst c3
  have H1 : (some (0, ([] : List (S44)), ([] : List Int), 4, t194)) = some (r1, r2, r3, r4, r5) := by rw [if_neg (show ¬ (false = true) by decide)] at H; exact H
  clear H
  have H := H1
  clear H1
  simp only [Option.some.injEq, Prod.mk.injEq] at H
  obtain ⟨rfl, rfl, rfl, rfl, rfl⟩ := H
  go_enter Try.func13, Try.ntmps13
  go_wp2_with (first | ((with_reducible refine gate_dst (N := 2) rfl ?_); refine box_event ?hg (N := 2) ?hd (cs := #[.int .i64 0, .slice none 0 0, .slice none 0 0]) (t := 25) ?hr ?_; (case hd => rfl); (case hg => rfl); (case hr => first | (go_simp; done) | (go_simp; rfl)); intro gb191 hg w92 hbox hb; have n0_ := Aside0.mk (below_step (by repeat (first | (with_reducible first | exact HB.out | apply below_alloc | apply pw_below_drewN | apply below_drew1) | exact HB.out)) hb); have n1_ := Aside0.mk (hbox); have n2_ := Aside0.mk ((by rw [hg]; exact (below_size (by repeat (first | (with_reducible first | exact HB.out | apply below_alloc | apply pw_below_drewN | apply below_drew1) | exact HB.out))) : w.heap.size ≤ gb191)); have n3_ := Aside0.mk ((by rw [hg]; exact (below_size (by repeat (first | (with_reducible first | exact HB.out | apply below_alloc | apply pw_below_drewN | apply below_drew1) | exact HB.out))) : w.heap.size ≤ gb191)); clear HB; have HB := n0_; have BK191 := n1_; have GW191 := n2_; have GE191 := n3_; clear n0_ n1_ n2_ n3_; clear hb hbox hg) | ((with_reducible refine gate_dst (N := 5) rfl ?_); refine box_event ?hg (N := 5) ?hd (cs := #[.int .i64 0, .slice none 0 0, .slice none 0 0]) (t := 25) ?hr ?_; (case hd => rfl); (case hg => rfl); (case hr => first | (go_simp; done) | (go_simp; rfl)); intro gb192 hg w93 hbox hb; have n0_ := Aside0.mk (blk_below (g := gb191) (o := .cells #[.int .i64 0, .slice none 0 0, .slice none 0 0] 25 (0, 0)) (by (with_reducible repeat (first | refine blk_drewN ?_ _ | refine blk_drew ?_ | refine blk_alloc ?_ _)); exact BK191.out) hb); have n1_ := Aside0.mk (below_step (by repeat (first | (with_reducible first | exact HB.out | apply below_alloc | apply pw_below_drewN | apply below_drew1 | refine below_set ?_ GE191.out) | exact HB.out)) hb); have n2_ := Aside0.mk (hbox); have n3_ := Aside0.mk ((by rw [hg]; exact (below_size (by repeat (first | (with_reducible first | exact HB.out | apply below_alloc | apply pw_below_drewN | apply below_drew1 | refine below_set ?_ GE191.out) | exact HB.out))) : w.heap.size ≤ gb192)); have n4_ := Aside0.mk ((by rw [hg]; exact (below_size (by repeat (first | (with_reducible first | exact HB.out | apply below_alloc | apply pw_below_drewN | apply below_drew1 | refine below_set ?_ GE191.out) | exact HB.out))) : w.heap.size ≤ gb192)); have n5_ := Aside0.mk ((by rw [hg]; exact Nat.ne_of_lt (blk_lt (g := gb191) (o := .cells #[.int .i64 0, .slice none 0 0, .slice none 0 0] 25 (0, 0)) (by (with_reducible repeat (first | refine blk_drewN ?_ _ | refine blk_drew ?_ | refine blk_alloc ?_ _)); exact BK191.out)) : gb191 ≠ gb192)); have n6_ := Aside0.mk ((by rw [hg]; exact Nat.ne_of_gt (blk_lt (g := gb191) (o := .cells #[.int .i64 0, .slice none 0 0, .slice none 0 0] 25 (0, 0)) (by (with_reducible repeat (first | refine blk_drewN ?_ _ | refine blk_drew ?_ | refine blk_alloc ?_ _)); exact BK191.out)) : gb192 ≠ gb191)); clear BK191; clear HB; have BK191 := n0_; have HB := n1_; have BK192 := n2_; have GW192 := n3_; have GE192 := n4_; have NB191_192 := n5_; have NB192_191 := n6_; clear n0_ n1_ n2_ n3_ n4_ n5_ n6_; clear hb hbox hg) | ((with_reducible refine gate_callee (f := 37) rfl ?_); refine goesL_ (some 21) rfl rfl Try.func37 (by kernel_rfl) rfl #[.slice A0 l0.length c0, .int .i64 0, .int .u8 108, .int .i64 1] rfl (by (try simp only [List.map_toArray, List.map_cons, List.map_nil]); first | done | rfl | (simp only [List.length_drop, List.length_take]; rfl)) ?_; (with_reducible refine (coronerref31_read.calls k _ _ l0 0 108 1 t193 t194 false _ ?side1 ?side2 A2.out).mono ?_); (case side1 => repeat (first | exact (Kd.C_below HR0.out HB.out) | (with_reducible refine Kd.C_alloc ?_ _) | (with_reducible refine Kd.C_drewN ?_ _) | (with_reducible refine Kd.C_drew ?_))); (case side2 => exact HC0.out); rintro e w94 ⟨v196, rfl, ho0, hb⟩; refine ⟨_, rfl, ?_⟩; have n0_ := Aside0.mk (Kd.R_lower ho0 (below_size (by repeat (first | (with_reducible first | exact HB.out | apply below_alloc | apply pw_below_drewN | apply below_drew1 | refine below_set ?_ GE191.out | refine below_set ?_ GE192.out) | exact HB.out)))); have n1_ := Aside0.mk (blk_below (g := gb191) (o := .cells #[.int .i64 0, .slice none 0 0, .slice none 0 0] 25 (0, 0)) (by (with_reducible repeat (first | refine blk_drewN ?_ _ | refine blk_drew ?_ | refine blk_alloc ?_ _)); exact BK191.out) hb); have n2_ := Aside0.mk (blk_below (g := gb192) (o := .cells #[.int .i64 0, .slice none 0 0, .slice none 0 0] 25 (0, 0)) (by (with_reducible repeat (first | refine blk_drewN ?_ _ | refine blk_drew ?_ | refine blk_alloc ?_ _)); exact BK192.out) hb); have n3_ := Aside0.mk (below_step (by repeat (first | (with_reducible first | exact HB.out | apply below_alloc | apply pw_below_drewN | apply below_drew1 | refine below_set ?_ GE191.out | refine below_set ?_ GE192.out) | exact HB.out)) hb); clear BK191; clear BK192; clear HB; have HO197 := n0_; have BK191 := n1_; have BK192 := n2_; have HB := n3_; clear n0_ n1_ n2_ n3_; (try clear hb); (try clear hb2); (try clear hk); (try clear hi); (try clear ho0); have hnb95 := NB191_192.out; have hnc95 := NB192_191.out; have hcz96_0 : w94.cell? ⟨gb191, 0, none⟩ = some (.int .i64 0) := (blk_cell BK191.out 0).trans rfl; have hcz96_1 : w94.cell? ⟨gb191, 1, none⟩ = some (.slice none 0 0) := (blk_cell BK191.out 1).trans rfl; have hcz96_2 : w94.cell? ⟨gb191, 2, none⟩ = some (.slice none 0 0) := (blk_cell BK191.out 2).trans rfl; have hfz96_0 := blk_frozen BK191.out 0; have hfz96_1 := blk_frozen BK191.out 1; have hfz96_2 := blk_frozen BK191.out 2))
  refine bodyPost_ret (results_ctt rfl _ _ gb191 25 #[.int .i64 0, .slice none 0 0, .slice none 0 0] (0, 0) _ rfl (by (with_reducible repeat (first | refine blk_drewN ?_ _ | refine blk_drew ?_ | refine blk_alloc ?_ _)); refine blk_put (cs := #[.int .i64 0, .slice none 0 0, .slice none 0 0]) ?_ 2 _ rfl; (with_reducible repeat (first | refine blk_drewN ?_ _ | refine blk_drew ?_ | refine blk_alloc ?_ _)); refine blk_put (cs := #[.int .i64 0, .slice none 0 0, .slice none 0 0]) ?_ 1 _ rfl; (with_reducible repeat (first | refine blk_drewN ?_ _ | refine blk_drew ?_ | refine blk_alloc ?_ _)); refine blk_put (cs := #[.int .i64 0, .slice none 0 0, .slice none 0 0]) ?_ 0 _ rfl; (with_reducible repeat (first | refine blk_drewN ?_ _ | refine blk_drew ?_ | refine blk_alloc ?_ _)); exact BK191.out) Try.underlying25 rfl (by kernel_rfl)) rfl ?_
  exact ⟨_, _, by first | rfl | (simp [errW_none, errW_some] <;> rfl) | (simp [*, errW_none, errW_some] <;> rfl), by first | exact Kd.S_nil _ _ _ _ _ | exact Kd.N_nil _ _ _ _ _ | exact Kd.V_nil _ _ _ _ _ | exact Kd.Q_nil _ _ _ _ _ | exact Kd.R_nil _ _ _ _ _, by first | exact Kd.R_nil _ _ _ _ _ | exact Kd.N_nil _ _ _ _ _ | exact Kd.V_nil _ _ _ _ _ | exact Kd.Q_nil _ _ _ _ _ | exact Kd.S_nil _ _ _ _ _, by repeat (first | (with_reducible first | exact HB.out | apply below_alloc | apply pw_below_drewN | apply below_drew1 | refine below_set ?_ GE191.out | refine below_set ?_ GE192.out) | exact HB.out)⟩
end Go.Proofs.Ytkoddmedhnhgiaa.PReportBack
set_option linter.unusedSimpArgs false
namespace Go.Proofs.Ytkoddmedhnhgiaa.Rp
open Go.RowKit Go.Proofs.Ytkoddmedhnhgiaa.PReportBack Go.Proofs.YtkoddmedhnhgiaaW.PrintWords
open Cur (Cr peek fail byte number)
set_option linter.unusedVariables false
section
variable {l : List Int} {s : Cr}
theorem bad_peek (h : s.e ≠ 0) : (peek l s).2 = false := by unfold peek; rw [if_neg (fun hh => h hh.1)]
theorem bad_fail (h : s.e ≠ 0) (e a : Int) : fail s e a = s := by unfold fail; rw [if_neg (fun hh => h hh.1)]
theorem bad_byte (h : s.e ≠ 0) (y : Int) : byte l s y = s := by unfold byte; rw [bad_peek h, if_neg (fun hh => absurd hh.1 (by decide)), bad_fail h]
theorem bad_next (h : s.e ≠ 0) (c : Int) : nextR l s c = false := by unfold nextR; rw [bad_peek h, Bool.false_and]
theorem bad_num (h : s.e ≠ 0) : numR l s = (s, 0) := by
 unfold numR
 rw [bad_byte h, bad_peek h, if_neg (fun hh => absurd hh.1 (by decide))]
 unfold number
 rw [if_neg h]
theorem bad_nums (h : s.e ≠ 0) : ∀ k, (numsR l k s).1 = s
 | 0 => rfl
 | k + 1 => by rw [numsR, bad_nums h k, bad_num h]
theorem bad_cyc (h : s.e ≠ 0) (acc : List Ed) : cycGo l s acc = (s, acc) := cycGo_end acc (bad_next h 101)
theorem bad_fs (h : s.e ≠ 0) (acc : List Fi) : fsGo l s acc = (s, acc) := fsGo_end acc (bad_next h 102)
theorem bad_ordGo (h : s.e ≠ 0) (acc : List Int) : ordGo l s acc = (s, acc) := ordGo_end acc (bad_next h 32)
theorem bad_ord (h : s.e ≠ 0) : (ordR l s).1 = s := by
 unfold ordR
 rw [bad_byte h, bad_ordGo h, bad_byte h]
end
def G (p : Int) : Cr := ⟨p, 0, 0⟩
def Nice (l : List Int) (s : Cr) : Prop := (∃ p, s = G p ∧ 0 ≤ p ∧ p ≤ l.length) ∨ s.e = 4
def tell {α : Type} (s : Cr) (v : List α) : List α × Int × Bool := if s.e = 0 then (v, s.p, true) else ([], s.x, false)
section
variable {l : List Int}
theorem tell_G {α : Type} (p : Int) (v : List α) : tell (G p) v = (v, p, true) := rfl
theorem tell_bad {α : Type} {s : Cr} (h : s.e ≠ 0) (v : List α) : tell s v = ([], s.x, false) := by unfold tell; rw [if_neg h]
theorem byte_G {p : Int} (y : Int) : byte l (G p) y = if p < l.length ∧ rd l p = y then G (p + 1) else ⟨p, 4, p⟩ := by
 unfold byte peek
 by_cases h : p < l.length
 ·rw [if_pos (show (G p).e = 0 ∧ (G p).p < l.length from ⟨rfl, h⟩)]
  by_cases hy : rd l p = y
  ·rw [if_pos (show true = true ∧ y = rd l (G p).p from ⟨rfl, hy.symm⟩), if_pos ⟨h, hy⟩]; rfl
  ·rw [if_neg (show ¬ (true = true ∧ y = rd l (G p).p) from fun hh => hy hh.2.symm), if_neg (fun hh => hy hh.2)]; rfl
 ·rw [if_neg (show ¬ ((G p).e = 0 ∧ (G p).p < l.length) from fun hh => h hh.2), if_neg (fun hh => absurd hh.1 (by decide)), if_neg (fun hh => h hh.1)]; rfl
theorem next_G {p : Int} (c : Int) : nextR l (G p) c = decide (p < l.length ∧ rd l p = c) := by
 unfold nextR peek
 by_cases h : p < l.length
 ·rw [if_pos (show (G p).e = 0 ∧ (G p).p < l.length from ⟨rfl, h⟩)]
  show (true && (rd l p == c)) = _
  rw [Bool.true_and, Bool.eq_iff_iff]
  simp [h]
 ·rw [if_neg (show ¬ ((G p).e = 0 ∧ (G p).p < l.length) from fun hh => h hh.2), decide_eq_false (fun hh => h hh.1)]; rfl
def numP (l : List Int) (p : Int) : Int × Int × Bool := if p < l.length ∧ rd l p = 32 then (if p + 1 < l.length ∧ rd l (p + 1) = 45 then (-1, p + 2, true) else parse l (p + 1)) else (0, p, false)
theorem num_G {p : Int} : ((numP l p).2.2 = true → numR l (G p) = (G (numP l p).2.1, (numP l p).1)) ∧ ((numP l p).2.2 = false → (numR l (G p)).1.e = 4 ∧ (numR l (G p)).1.x = (numP l p).2.1) := by
 unfold numP numR
 rw [byte_G]
 by_cases h : p < l.length ∧ rd l p = 32
 ·rw [if_pos h, if_pos h]
  have hn := next_G (l := l) (p := p + 1) 45
  unfold nextR at hn
  by_cases h2 : p + 1 < l.length ∧ rd l (p + 1) = 45
  ·rw [decide_eq_true h2, Bool.and_eq_true, beq_iff_eq] at hn
   rw [if_pos h2, if_pos hn, byte_G, if_pos h2]
   exact ⟨fun _ => by show (G (p + 1 + 1), (-1 : Int)) = (G (p + 2), -1); rw [Int.add_assoc]; rfl, fun hh => Bool.noConfusion (show true = false from hh)⟩
  ·rw [decide_eq_false h2, ← Bool.not_eq_true, Bool.and_eq_true, beq_iff_eq] at hn
   rw [if_neg h2, if_neg hn]
   unfold number
   rw [if_pos (show (G (p + 1)).e = 0 from rfl)]
   show ((parse l (p + 1)).2.2 = true → (if (parse l (p + 1)).2.2 = true then _ else _) = _) ∧ _
   constructor
   ·intro hh
    rw [if_pos hh]; rfl
   ·intro hh
    have hh2 : ¬ (parse l (G (p + 1)).p).2.2 = true := by show ¬ (parse l (p + 1)).2.2 = true; rw [hh]; decide
    rw [if_neg hh2]
    exact ⟨rfl, rfl⟩
 ·rw [if_neg h, if_neg h]
  refine ⟨fun hh => Bool.noConfusion (show false = true from hh), fun _ => ?_⟩
  have hb : (⟨p, 4, p⟩ : Cr).e ≠ 0 := (show (4 : Int) ≠ 0 by decide)
  rw [bad_peek hb, if_neg (fun hh => absurd hh.1 (by decide))]
  unfold number
  rw [if_neg hb]
  exact ⟨rfl, rfl⟩
theorem numP_to {p : Int} (h0 : 0 ≤ p) (h1 : p ≤ l.length) (h : (numP l p).2.2 = true) : p + 1 ≤ (numP l p).2.1 ∧ (numP l p).2.1 ≤ l.length := by
 unfold numP at *
 by_cases hc : p < l.length ∧ rd l p = 32
 ·rw [if_pos hc] at *
  by_cases h2 : p + 1 < l.length ∧ rd l (p + 1) = 45
  ·rw [if_pos h2]; simp only; omega
  ·rw [if_neg h2]
   have := parse_to l (p + 1) (by omega) (by omega)
   omega
 ·rw [if_neg hc] at h; cases h
theorem Nice.G {p : Int} (h0 : 0 ≤ p) (h1 : p ≤ l.length) : Nice l (Rp.G p) := .inl ⟨p, rfl, h0, h1⟩
theorem Nice.byte {s : Cr} (h : Nice l s) (y : Int) : Nice l (byte l s y) := by
 rcases h with ⟨p, rfl, h0, h1⟩ | h
 ·rw [byte_G]
  split
  ·rename_i hc; exact .inl ⟨p + 1, rfl, by omega, by omega⟩
  ·exact .inr rfl
 ·rw [bad_byte (by omega)]; exact .inr h
theorem Nice.num {s : Cr} (h : Nice l s) : Nice l (numR l s).1 := by
 rcases h with ⟨p, rfl, h0, h1⟩ | h
 ·cases hb : (numP l p).2.2 with
  | true =>
   have := numP_to h0 h1 hb
   rw [num_G.1 hb]; exact .inl ⟨_, rfl, by omega, this.2⟩
  | false => exact .inr (num_G.2 hb).1
 ·rw [bad_num (by omega)]; exact .inr h
theorem Nice.nums {s : Cr} (h : Nice l s) : ∀ k, Nice l (numsR l k s).1
 | 0 => h
 | k + 1 => (h.nums k).num
theorem Nice.six {s : Cr} (h : Nice l s) (c : Int) : Nice l (sixR l s c).1 := ((h.byte c).nums 6).byte 10
theorem Nice.ok {s : Cr} (h : Nice l s) (h0 : s.e = 0) : Cur.Ok l s := by
 rcases h with ⟨p, rfl, h0, h1⟩ | h
 ·exact ⟨h0, h1⟩
 ·omega
theorem Nice.cycLoop : ∀ (f : Nat) {s : Cr} (acc : List Ed), Nice l s → Nice l (cycLoop l f s acc).1
 | 0, _, _, h => h
 | f + 1, s, acc, h => by
  rw [Rp.cycLoop]
  split
  ·exact Nice.cycLoop f _ (h.six 101)
  ·exact h
theorem Nice.ordLoop : ∀ (f : Nat) {s : Cr} (acc : List Int), Nice l s → Nice l (ordLoop l f s acc).1
 | 0, _, _, h => h
 | f + 1, s, acc, h => by
  rw [Rp.ordLoop]
  split
  ·exact Nice.ordLoop f _ h.num
  ·exact h
theorem Nice.ord {s : Cr} (h : Nice l s) : Nice l (ordR l s).1 := (Nice.ordLoop _ _ (h.byte 111)).byte 10
end
def numsF (l : List Int) : Nat → Cr → Cr × List Int
 | 0, s => (s, [])
 | k + 1, s => ((numsF l k (numR l s).1).1, (numR l s).2 :: (numsF l k (numR l s).1).2)
theorem numsF_snoc (l : List Int) : ∀ k s, numsF l (k + 1) s = ((numR l (numsF l k s).1).1, (numsF l k s).2 ++ [(numR l (numsF l k s).1).2])
 | 0, s => rfl
 | k + 1, s => by
  rw [numsF, numsF_snoc l k]
  rfl
theorem nums_eq (l : List Int) (s : Cr) : ∀ k, numsR l k s = numsF l k s
 | 0 => rfl
 | k + 1 => by rw [numsR, numsF_snoc, nums_eq l s k]
section
variable {l : List Int}
theorem w64 {p : Int} (h0 : 0 ≤ p) (h1 : p ≤ 200000000) : wrap64 p = p := by unfold wrap64; omega
def endT (l : List Int) (p : Int) (acc : List Int) : List Int × Int × Bool := tell (byte l (G p) 10) acc
theorem end_is {p : Int} (h0 : 0 ≤ p) (hl : l.length ≤ 100000000) (acc : List Int) : (if p ≥ (l.length : Int) then some (([] : List Int), p, false) else (if 0 ≤ p then (if p < (l.length : Int) then (if (rd l p) = 10 then some (acc, wrap64 (p + 1), true) else some (([] : List Int), p, false)) else none) else none)) = some (endT l p acc) := by
 unfold endT
 rw [byte_G]
 by_cases h : p < l.length
 ·rw [if_neg (by omega), if_pos h0, if_pos h]
  by_cases h10 : rd l p = 10
  ·rw [if_pos h10, if_pos ⟨h, h10⟩, tell_G, w64 (by omega) (by omega)]
  ·rw [if_neg h10, if_neg (fun hh => h10 hh.2)]; rfl
 ·rw [if_pos (by omega), if_neg (fun hh => h hh.1)]; rfl
theorem rparse_ev (hl : l.length ≤ 100000000) (a : Int) : Ev (fun k => coronerref01_Parse.f k l a) (parse l a) := ⟨3 * l.length + 10, fun k hk => parse_ref l (by omega) a k hk⟩
theorem fix_ev (hl : l.length ≤ 100000000) (m : Nat) (hm : m ≤ 1000) : ∀ (d cnt : Nat) (p : Int) (acc : List Int), cnt + d = m → 0 ≤ p → p ≤ l.length → acc.length ≤ 1000 + cnt →
 Ev (fun k => coronerref31_read.l0 k l p (m : Int) acc (cnt : Int)) (tell (byte l (numsF l d (G p)).1 10) (acc ++ (numsF l d (G p)).2))
 | 0, cnt, p, acc, hc, h0, h1, ha => by
  have e : tell (byte l (numsF l 0 (G p)).1 10) (acc ++ (numsF l 0 (G p)).2) = endT l p acc := by rw [numsF, List.append_nil]; rfl
  rw [e]
  refine Ev.step (f := fun k => coronerref31_read.j2 k l p (m : Int) acc (cnt : Int) false) (fun k => ?_) (Ev.step (f := fun _ => some _) (fun k => ?_) (Ev.now _))
  ·simp only [coronerref31_read.l0]
   rw [if_neg (by omega), decide_eq_false (by omega)]
  ·simp only [coronerref31_read.j2]
   rw [if_neg (by decide)]
   exact end_is h0 hl acc
 | d + 1, cnt, p, acc, hc, h0, h1, ha => by
  have hl0 : ∀ k, coronerref31_read.l0 (k + 1) l p (m : Int) acc (cnt : Int) = coronerref31_read.j2 k l p (m : Int) acc (cnt : Int) true := fun k => by
   simp only [coronerref31_read.l0]
   rw [if_neg (by omega), decide_eq_true (by omega)]
  by_cases hp : p < l.length ∧ rd l p = 32
  ·have hne : (rd l p != 32) = false := by rw [hp.2]; decide
   have hj2 : ∀ k, coronerref31_read.j2 (k + 1) l p (m : Int) acc (cnt : Int) true = coronerref31_read.j3 k l p (m : Int) acc (cnt : Int) false := fun k => by
    simp only [coronerref31_read.j2]
    rw [if_pos trivial, if_neg (by omega), if_pos h0, if_pos hp.1, hne]
   have hj3 : ∀ k, coronerref31_read.j3 (k + 1) l p (m : Int) acc (cnt : Int) false = coronerref31_read.j4 k l p (m : Int) acc (cnt : Int) (decide (p + 1 < l.length ∧ rd l (p + 1) = 45)) := fun k => by
    simp only [coronerref31_read.j3]
    rw [if_neg (by decide), w64 (by omega) (by omega)]
    by_cases h2 : p + 1 < l.length
    ·rw [if_pos h2, if_pos (by omega)]
     congr 1
     rw [Bool.eq_iff_iff]
     simp [h2]
    ·rw [if_neg h2, decide_eq_false (fun hh => h2 hh.1)]
   refine Ev.step hl0 (Ev.step hj2 (Ev.step hj3 ?_))
   by_cases h2 : p + 1 < l.length ∧ rd l (p + 1) = 45
   ·rw [decide_eq_true h2]
    have hn : numP l p = (-1, p + 2, true) := by unfold numP; rw [if_pos hp, if_pos h2]
    have hg := num_G (l := l) (p := p)
    rw [hn] at hg
    have hg1 := hg.1 rfl
    have ih := fix_ev hl m hm d (cnt + 1) (p + 2) (acc ++ [-1]) (by omega) (by omega) (by omega) (by rw [List.length_append, List.length_singleton]; omega)
    have e : (numsF l (d + 1) (G p)) = ((numsF l d (G (p + 2))).1, -1 :: (numsF l d (G (p + 2))).2) := by rw [numsF, hg1]
    rw [e]
    rw [List.append_assoc] at ih
    refine Ev.step (fun k => ?_) ih
    simp only [coronerref31_read.j4]
    rw [if_pos trivial, if_pos (by omega), w64 (by omega) (by omega), w64 (by omega) (by omega)]; rfl
   ·rw [decide_eq_false h2]
    have hn : numP l p = parse l (p + 1) := by unfold numP; rw [if_pos hp, if_neg h2]
    have hg := num_G (l := l) (p := p)
    have hto := numP_to (l := l) h0 h1
    rw [hn] at hg hto
    refine Ev.step (f := fun k => (coronerref01_Parse.f k l (p + 1)).bind fun bt => (if bt.2.2 = true then (if acc.length < 17592186044416 then (coronerref31_read.l0 k l bt.2.1 (m : Int) (acc ++ [bt.1]) (((cnt + 1 : Nat)) : Int)) else none) else some (([] : List Int), bt.2.1, false))) (fun k => ?_) ?_
    ·simp only [coronerref31_read.j4]
     rw [if_neg (by decide), w64 (show 0 ≤ p + 1 by omega) (by omega), w64 (show (0 : Int) ≤ cnt + 1 by omega) (by omega)]; rfl
    ·refine Ev.bind (rparse_ev hl (p + 1)) ?_
     cases hok : (parse l (p + 1)).2.2 with
     | true =>
      have hg1 := hg.1 hok
      have ht := hto hok
      have ih := fix_ev hl m hm d (cnt + 1) (parse l (p + 1)).2.1 (acc ++ [(parse l (p + 1)).1]) (by omega) (by omega) ht.2 (by rw [List.length_append, List.length_singleton]; omega)
      have e : (numsF l (d + 1) (G p)) = ((numsF l d (G (parse l (p + 1)).2.1)).1, (parse l (p + 1)).1 :: (numsF l d (G (parse l (p + 1)).2.1)).2) := by rw [numsF, hg1]
      rw [e]
      rw [List.append_assoc] at ih
      exact Ev.congr (fun k => by rw [if_pos rfl, if_pos (by omega)]) ih
     | false =>
      obtain ⟨g1, g2⟩ := hg.2 hok
      have hb : (numR l (G p)).1.e ≠ 0 := by omega
      have e1 : (numsF l (d + 1) (G p)).1 = (numR l (G p)).1 := by rw [← nums_eq, nums_eq, numsF, ← nums_eq, bad_nums hb]
      have e : tell (byte l (numsF l (d + 1) (G p)).1 10) (acc ++ (numsF l (d + 1) (G p)).2) = ([], (parse l (p + 1)).2.1, false) := by rw [e1, bad_byte hb, tell_bad hb, g2]
      rw [e]
      exact Ev.congr (f := fun _ => some _) (fun k => if_neg (by decide)) (Ev.now _)
  ·have hn : numP l p = (0, p, false) := by unfold numP; rw [if_neg hp]
   have hg := num_G (l := l) (p := p)
   rw [hn] at hg
   obtain ⟨g1, g2⟩ := hg.2 rfl
   have hb : (numR l (G p)).1.e ≠ 0 := by omega
   have e1 : (numsF l (d + 1) (G p)).1 = (numR l (G p)).1 := by rw [numsF, ← nums_eq, bad_nums hb]
   have e : tell (byte l (numsF l (d + 1) (G p)).1 10) (acc ++ (numsF l (d + 1) (G p)).2) = ([], p, false) := by rw [e1, bad_byte hb, tell_bad hb, g2]
   rw [e]
   refine Ev.step hl0 (Ev.step (f := fun k => coronerref31_read.j3 k l p (m : Int) acc (cnt : Int) true) (fun k => ?_) (Ev.step (f := fun _ => some _) (fun k => ?_) (Ev.now _)))
   ·simp only [coronerref31_read.j2]
    rw [if_pos trivial]
    by_cases h2 : p < l.length
    ·have hne : (rd l p != 32) = true := by simp; exact fun hh => hp ⟨h2, hh⟩
     rw [if_neg (by omega), if_pos h0, if_pos h2, hne]
    ·rw [if_pos (by omega)]
   ·simp only [coronerref31_read.j3]
    rw [if_pos trivial, if_neg (by omega)]
theorem left_G {p : Int} (h0 : 0 ≤ p) (h1 : p ≤ l.length) : left l (G p) = ((l.length : Int) - p).toNat := rfl
theorem any_ev (hl : l.length ≤ 100000000) : ∀ (n : Nat) (p : Int) (acc : List Int), 0 ≤ p → p ≤ l.length → left l (G p) ≤ n → acc.length + left l (G p) ≤ l.length →
 Ev (fun k => coronerref31_read.l0 k l p (-1) acc (acc.length : Int)) (tell (byte l (ordGo l (G p) acc).1 10) (ordGo l (G p) acc).2)
 | n, p, acc, h0, h1, hn, ha => by
  have hlG := left_G (l := l) h0 h1
  have hl0 : ∀ k, coronerref31_read.l0 (k + 1) l p (-1) acc (acc.length : Int) = coronerref31_read.j2 k l p (-1) acc (acc.length : Int) true := fun k => by
   simp only [coronerref31_read.l0]
   rw [if_pos (by omega)]
  by_cases hp : p < l.length ∧ rd l p = 32
  ·have hne : (rd l p != 32) = false := by rw [hp.2]; decide
   have hnx : nextR l (G p) 32 = true := by rw [next_G]; exact decide_eq_true hp
   rw [ordGo_step (⟨h0, h1⟩ : Cur.Ok l (G p)) acc hnx]
   have hj2 : ∀ k, coronerref31_read.j2 (k + 1) l p (-1) acc (acc.length : Int) true = coronerref31_read.j3 k l p (-1) acc (acc.length : Int) false := fun k => by
    simp only [coronerref31_read.j2]
    rw [if_pos trivial, if_neg (by omega), if_pos h0, if_pos hp.1, hne]
   have hj3 : ∀ k, coronerref31_read.j3 (k + 1) l p (-1) acc (acc.length : Int) false = coronerref31_read.j4 k l p (-1) acc (acc.length : Int) (decide (p + 1 < l.length ∧ rd l (p + 1) = 45)) := fun k => by
    simp only [coronerref31_read.j3]
    rw [if_neg (by decide), w64 (by omega) (by omega)]
    by_cases h2 : p + 1 < l.length
    ·rw [if_pos h2, if_pos (by omega)]
     congr 1
     rw [Bool.eq_iff_iff]
     simp [h2]
    ·rw [if_neg h2, decide_eq_false (fun hh => h2 hh.1)]
   refine Ev.step hl0 (Ev.step hj2 (Ev.step hj3 ?_))
   by_cases h2 : p + 1 < l.length ∧ rd l (p + 1) = 45
   ·rw [decide_eq_true h2]
    have hnm : numP l p = (-1, p + 2, true) := by unfold numP; rw [if_pos hp, if_pos h2]
    have hg := num_G (l := l) (p := p)
    rw [hnm] at hg
    have hg1 := hg.1 rfl
    rw [hg1]
    have hl2 := left_G (l := l) (p := p + 2) (by omega) (by omega)
    cases n with
    | zero => omega
    | succ n =>
     have ih := any_ev hl n (p + 2) (acc ++ [-1]) (by omega) (by omega) (by omega) (by rw [List.length_append, List.length_singleton]; omega)
     rw [List.length_append, List.length_singleton] at ih
     refine Ev.step (fun k => ?_) ih
     simp only [coronerref31_read.j4]
     rw [if_pos trivial, if_pos (by omega), w64 (by omega) (by omega), w64 (by omega) (by omega)]; rfl
   ·rw [decide_eq_false h2]
    have hnm : numP l p = parse l (p + 1) := by unfold numP; rw [if_pos hp, if_neg h2]
    have hg := num_G (l := l) (p := p)
    have hto := numP_to (l := l) h0 h1
    rw [hnm] at hg hto
    refine Ev.step (f := fun k => (coronerref01_Parse.f k l (p + 1)).bind fun bt => (if bt.2.2 = true then (if acc.length < 17592186044416 then (coronerref31_read.l0 k l bt.2.1 (-1) (acc ++ [bt.1]) (((acc.length + 1 : Nat)) : Int)) else none) else some (([] : List Int), bt.2.1, false))) (fun k => ?_) ?_
    ·simp only [coronerref31_read.j4]
     rw [if_neg (by decide), w64 (show 0 ≤ p + 1 by omega) (by omega), w64 (show (0 : Int) ≤ acc.length + 1 by omega) (by omega)]; rfl
    ·refine Ev.bind (rparse_ev hl (p + 1)) ?_
     cases hok : (parse l (p + 1)).2.2 with
     | true =>
      have hg1 := hg.1 hok
      have ht := hto hok
      rw [hg1]
      have hl2 := left_G (l := l) (p := (parse l (p + 1)).2.1) (by omega) ht.2
      cases n with
      | zero => omega
      | succ n =>
       have ih := any_ev hl n (parse l (p + 1)).2.1 (acc ++ [(parse l (p + 1)).1]) (by omega) ht.2 (by omega) (by rw [List.length_append, List.length_singleton]; omega)
       rw [List.length_append, List.length_singleton] at ih
       exact Ev.congr (fun k => by rw [if_pos rfl, if_pos (by omega)]) ih
     | false =>
      obtain ⟨g1, g2⟩ := hg.2 hok
      have hb : (numR l (G p)).1.e ≠ 0 := by omega
      rw [bad_ordGo hb, bad_byte hb, tell_bad hb, g2]
      exact Ev.congr (f := fun _ => some _) (fun k => if_neg (by decide)) (Ev.now _)
  ·have hnx : nextR l (G p) 32 = false := by rw [next_G]; exact decide_eq_false hp
   rw [ordGo_end acc hnx]
   refine Ev.step hl0 (Ev.step (f := fun k => coronerref31_read.j3 k l p (-1) acc (acc.length : Int) true) (fun k => ?_) (Ev.step (f := fun _ => some _) (fun k => ?_) (Ev.now _)))
   ·simp only [coronerref31_read.j2]
    rw [if_pos trivial]
    by_cases h2 : p < l.length
    ·have hne : (rd l p != 32) = true := by simp; exact fun hh => hp ⟨h2, hh⟩
     rw [if_neg (by omega), if_pos h0, if_pos h2, hne]
    ·rw [if_pos (by omega)]
   ·simp only [coronerref31_read.j3]
    rw [if_pos trivial, if_pos (by omega)]
    exact end_is h0 hl acc
theorem read_f {p : Int} (h0 : 0 ≤ p) (h1 : p ≤ l.length) (hl : l.length ≤ 100000000) (c m : Int) (R : List Int × Int × Bool) (hR : p < l.length ∧ rd l p = c → Ev (fun k => coronerref31_read.l0 k l (p + 1) m [] 0) R) (hF : ¬ (p < l.length ∧ rd l p = c) → R = ([], p, false)) :
 Ev (fun k => coronerref31_read.f k l p c m) R := by
 have hj : Ev (fun k => coronerref31_read.j0 k l p m true) ([], p, false) := Ev.step (f := fun _ => some _) (fun k => by simp only [coronerref31_read.j0]; rw [if_pos trivial]) (Ev.now _)
 unfold coronerref31_read.f
 by_cases h : p < l.length
 ·by_cases hc : rd l p = c
  ·have hne : (rd l p != c) = false := by rw [hc]; simp
   refine Ev.congr (f := fun k => coronerref31_read.j0 k l p m false) (fun k => by rw [if_neg (by omega), if_pos h0, if_pos h, hne]) (Ev.step (fun k => ?_) (hR ⟨h, hc⟩))
   simp only [coronerref31_read.j0]
   rw [if_neg (by decide), w64 (by omega) (by omega)]
  ·have hne : (rd l p != c) = true := by simp [hc]
   rw [hF (fun hh => hc hh.2)]
   exact Ev.congr (fun k => by rw [if_neg (by omega), if_pos h0, if_pos h, hne]) hj
 ·rw [hF (fun hh => h hh.1)]
  exact Ev.congr (fun k => by rw [if_pos (by omega)]) hj
theorem read_m {p : Int} (h0 : 0 ≤ p) (h1 : p ≤ l.length) (hl : l.length ≤ 100000000) (c : Int) (m : Nat) (hm : m ≤ 1000) : Ev (fun k => coronerref31_read.f k l p c (m : Int)) (tell (byte l (numsR l m (byte l (G p) c)).1 10) (numsR l m (byte l (G p) c)).2) := by
 refine read_f h0 h1 hl c m _ (fun hc => ?_) (fun hc => ?_)
 ·rw [byte_G, if_pos hc, nums_eq]
  have := fix_ev hl m hm m 0 (p + 1) [] (by omega) (by omega) (by omega) (by simp)
  rw [List.nil_append] at this
  exact this
 ·have hb : (⟨p, 4, p⟩ : Cr).e ≠ 0 := (show (4 : Int) ≠ 0 by decide)
  rw [byte_G, if_neg hc, bad_nums hb, bad_byte hb, tell_bad hb]
theorem read_o {p : Int} (h0 : 0 ≤ p) (h1 : p ≤ l.length) (hl : l.length ≤ 100000000) : Ev (fun k => coronerref31_read.f k l p 111 (-1)) (tell (ordR l (G p)).1 (ordR l (G p)).2) := by
 unfold ordR
 refine read_f h0 h1 hl 111 (-1) _ (fun hc => ?_) (fun hc => ?_)
 ·rw [byte_G, if_pos hc]
  have hlG := left_G (l := l) (p := p + 1) (by omega) (by omega)
  exact any_ev hl (left l (G (p + 1))) (p + 1) [] (by omega) (by omega) (Nat.le_refl _) (by simp only [List.length_nil]; omega)
 ·have hb : (⟨p, 4, p⟩ : Cr).e ≠ 0 := (show (4 : Int) ≠ 0 by decide)
  rw [byte_G, if_neg hc, bad_ordGo hb, bad_byte hb, tell_bad hb]
end
end Go.Proofs.Ytkoddmedhnhgiaa.Rp
set_option linter.unusedSimpArgs false
namespace Go.Proofs.Ytkoddmedhnhgiaa.Rp
open Go.RowKit Go.Proofs.Ytkoddmedhnhgiaa.PReportBack Go.Proofs.YtkoddmedhnhgiaaW.PrintWords
open Cur (Cr peek fail byte number)
set_option linter.unusedVariables false
section
variable {l : List Int}
def endOf (l : List Int) (s : Cr) : Cr := if s.p < l.length then fail s 4 s.p else s
def finP (l : List Int) (lv : Int) (r : Cr × List Fi) : Int × List Fi × List Int × Int × Int := paQ lv r.2 (ordR l r.1).2 (endOf l (ordR l r.1).1)
theorem fin_bad {s : Cr} (h : s.e ≠ 0) (lv : Int) (fs : List Fi) : finP l lv (s, fs) = (0, [], [], s.e, s.x) := by
 unfold finP endOf
 rw [bad_ord h]
 have e : (if s.p < l.length then fail s 4 s.p else s) = s := by rw [bad_fail h]; split <;> rfl
 rw [e]
 unfold paQ
 rw [if_neg h]
theorem is_ev (p : Int) (h0 : 0 ≤ p) (c : Int) : Ev (fun _ => coronerref31_is.f l p c) (decide (p < l.length ∧ rd l p = c)) := by
 unfold coronerref31_is.f
 by_cases h : p < l.length
 ·refine Ev.congr (f := fun _ => some (decide (p < l.length ∧ rd l p = c))) (fun _ => ?_) (Ev.now _)
  rw [if_pos h, if_pos h0]
  congr 1
  rw [Bool.eq_iff_iff]
  simp [h]
 ·exact Ev.congr (f := fun _ => some false) (fun _ => by rw [if_neg h]) (by rw [decide_eq_false (fun hh => h hh.1)]; exact Ev.now _)
theorem six_read {p : Int} (h0 : 0 ≤ p) (h1 : p ≤ l.length) (hl : l.length ≤ 100000000) (c : Int) : Ev (fun k => coronerref31_read.f k l p c 6) (tell (sixR l (G p) c).1 (sixR l (G p) c).2) := read_m h0 h1 hl c 6 (by decide)
theorem six_val {p c : Int} : ∃ a b c' d e f, (sixR l (G p) c).2 = [a, b, c', d, e, f] := six_list (numsR_len _ _ 6)
theorem nice4 {s : Cr} (h : Nice l s) (he : s.e ≠ 0) : s.e = 4 := by
 rcases h with ⟨p, rfl, _⟩ | h
 ·exact absurd rfl he
 ·exact h
theorem niceG {s : Cr} (h : Nice l s) (he : s.e = 0) : s = G s.p ∧ 0 ≤ s.p ∧ s.p ≤ l.length := by
 rcases h with ⟨p, rfl, h0, h1⟩ | h
 ·exact ⟨rfl, h0, h1⟩
 ·omega
theorem cyc_ev (hl : l.length ≤ 100000000) (lv : Int) (fs : List Fi) (hfs : fs.length ≤ 100000000) (f0 f1 f2 f3 f4 f5 : Int) (R : Int × List Fi × List Int × Int × Int) : ∀ (n : Nat) (p : Int) (acc : List Ed), 0 ≤ p → p ≤ l.length → left l (G p) ≤ n → acc.length + left l (G p) ≤ l.length →
 (∀ p' : Int, 0 ≤ p' → p' ≤ (l.length : Int) → left l (G p') ≤ left l (G p) → (cycGo l (G p) acc).1 = G p' → Ev (fun k => coronerref31_Parse.l0 k l p' lv (fs ++ [⟨f0, f1, f2, f3, f4, f5, (cycGo l (G p) acc).2⟩])) R) →
 ((cycGo l (G p) acc).1.e ≠ 0 → R = (0, [], [], 4, (cycGo l (G p) acc).1.x)) →
 Ev (fun k => coronerref31_Parse.l1 k l p lv fs f0 f1 f2 f3 f4 f5 acc) R
 | n, p, acc, h0, h1, hn, ha, hG, hB => by
  have hlG := left_G (l := l) h0 h1
  by_cases hp : p < l.length ∧ rd l p = 101
  ·have hnx : nextR l (G p) 101 = true := by rw [next_G]; exact decide_eq_true hp
   have hstep := cycGo_step (⟨h0, h1⟩ : Cur.Ok l (G p)) acc hnx
   have hlt := left_sixR (⟨h0, h1⟩ : Cur.Ok l (G p)) hnx
   have hni := (Nice.G (l := l) h0 h1).six 101
   obtain ⟨a, b, c, d, e, f, hx⟩ := six_val (l := l) (p := p) (c := 101)
   have hrd := six_read h0 h1 hl 101
   rw [hx] at hrd hstep
   rw [hstep] at hG hB
   have hmk : mkE [a, b, c, d, e, f] = ⟨a, b, c, d, e, f⟩ := rfl
   rw [hmk] at hG hB
   refine Ev.step (f := fun k => (coronerref31_is.f l p 101).bind fun t => (if t = true then (coronerref31_read.f k l p 101 6).bind fun bt => (if bt.2.2 = true then (if 0 < (bt.1.length : Int) then (if 1 < (bt.1.length : Int) then (if 2 < (bt.1.length : Int) then (if 3 < (bt.1.length : Int) then (if 4 < (bt.1.length : Int) then (if 5 < (bt.1.length : Int) then (if acc.length < 2932031007402 then (coronerref31_Parse.l1 k l bt.2.1 lv fs f0 f1 f2 f3 f4 f5 (acc ++ [(⟨rd bt.1 0, rd bt.1 1, rd bt.1 2, rd bt.1 3, rd bt.1 4, rd bt.1 5⟩ : S49)])) else none) else none) else none) else none) else none) else none) else none) else some (0, ([] : List S44), ([] : List Int), 4, bt.2.1)) else (if fs.length < 1954687338268 then coronerref31_Parse.l0 k l p lv (fs ++ [(⟨f0, f1, f2, f3, f4, f5, acc⟩ : S44)]) else none))) (fun k => by simp only [coronerref31_Parse.l1]) ?_
   refine Ev.bind (is_ev p h0 101) ?_
   rw [decide_eq_true hp]
   refine Ev.congr (fun k => if_pos rfl) (Ev.bind hrd ?_)
   by_cases he : (sixR l (G p) 101).1.e = 0
   ·obtain ⟨hs, hp0, hp1⟩ := niceG hni he
    obtain ⟨q, hq⟩ : ∃ q, (sixR l (G p) 101).1.p = q := ⟨_, rfl⟩
    rw [hq] at hs hp0 hp1
    rw [hs] at hlt hG hB ⊢
    rw [tell_G]
    cases n with
    | zero => omega
    | succ n =>
     have ih := cyc_ev hl lv fs hfs f0 f1 f2 f3 f4 f5 R n q (acc ++ [⟨a, b, c, d, e, f⟩]) hp0 hp1 (by omega) (by rw [List.length_append, List.length_singleton]; omega) (fun p' g0 g1 g2 g3 => hG p' g0 g1 (by omega) g3) hB
     refine Ev.congr (fun k => ?_) ih
     simp only [if_true, List.length_cons, List.length_nil]
     rw [if_pos (by omega), if_pos (by omega), if_pos (by omega), if_pos (by omega), if_pos (by omega), if_pos (by omega), if_pos (by omega)]
     rfl
   ·have h4 := nice4 hni he
    rw [bad_cyc he] at hB
    rw [hB he, tell_bad he]
    exact Ev.congr (f := fun _ => some _) (fun k => if_neg (fun hh => Bool.noConfusion (show false = true from hh))) (Ev.now _)
  ·have hnx : nextR l (G p) 101 = false := by rw [next_G]; exact decide_eq_false hp
   rw [cycGo_end acc hnx] at hG
   have h2 := hG p h0 h1 (Nat.le_refl _) rfl
   refine Ev.step (f := fun k => (coronerref31_is.f l p 101).bind fun t => (if t = true then (coronerref31_read.f k l p 101 6).bind fun bt => (if bt.2.2 = true then (if 0 < (bt.1.length : Int) then (if 1 < (bt.1.length : Int) then (if 2 < (bt.1.length : Int) then (if 3 < (bt.1.length : Int) then (if 4 < (bt.1.length : Int) then (if 5 < (bt.1.length : Int) then (if acc.length < 2932031007402 then (coronerref31_Parse.l1 k l bt.2.1 lv fs f0 f1 f2 f3 f4 f5 (acc ++ [(⟨rd bt.1 0, rd bt.1 1, rd bt.1 2, rd bt.1 3, rd bt.1 4, rd bt.1 5⟩ : S49)])) else none) else none) else none) else none) else none) else none) else none) else some (0, ([] : List S44), ([] : List Int), 4, bt.2.1)) else (if fs.length < 1954687338268 then coronerref31_Parse.l0 k l p lv (fs ++ [(⟨f0, f1, f2, f3, f4, f5, acc⟩ : S44)]) else none))) (fun k => by simp only [coronerref31_Parse.l1]) ?_
   refine Ev.bind (is_ev p h0 101) ?_
   rw [decide_eq_false hp]
   refine Ev.congr (fun k => ?_) h2
   rw [if_neg (fun hh => Bool.noConfusion (show false = true from hh)), if_pos (by omega)]
theorem fs_ev (hl : l.length ≤ 100000000) (lv : Int) : ∀ (n : Nat) (p : Int) (fs : List Fi), 0 ≤ p → p ≤ l.length → left l (G p) ≤ n → fs.length + left l (G p) ≤ l.length → (∀ f ∈ fs, f.f6.length ≤ l.length) →
 Ev (fun k => coronerref31_Parse.l0 k l p lv fs) (finP l lv (fsGo l (G p) fs))
 | n, p, fs, h0, h1, hn, ha, hc => by
  have hlG := left_G (l := l) h0 h1
  by_cases hp : p < l.length ∧ rd l p = 102
  ·have hnx : nextR l (G p) 102 = true := by rw [next_G]; exact decide_eq_true hp
   have hok : Cur.Ok l (G p) := ⟨h0, h1⟩
   have hstep := fsGo_step hok fs hnx
   have hlt := left_sixR hok hnx
   have hni := (Nice.G (l := l) h0 h1).six 102
   obtain ⟨a, b, c, d, e, f, hx⟩ := six_val (l := l) (p := p) (c := 102)
   have hrd := six_read h0 h1 hl 102
   rw [hx] at hrd
   rw [hstep]
   have hfi : findR l (G p) = ((cycGo l (sixR l (G p) 102).1 []).1, ⟨a, b, c, d, e, f, (cycGo l (sixR l (G p) 102).1 []).2⟩) := by unfold findR; rw [hx]; rfl
   rw [hfi]
   refine Ev.step (f := fun k => (coronerref31_is.f l p 102).bind fun t => (if t = true then (coronerref31_read.f k l p 102 6).bind fun bt => (if bt.2.2 = true then (if 0 < (bt.1.length : Int) then (if 1 < (bt.1.length : Int) then (if 2 < (bt.1.length : Int) then (if 3 < (bt.1.length : Int) then (if 4 < (bt.1.length : Int) then (if 5 < (bt.1.length : Int) then (coronerref31_Parse.l1 k l bt.2.1 lv fs (rd bt.1 0) (rd bt.1 1) (rd bt.1 2) (rd bt.1 3) (rd bt.1 4) (rd bt.1 5) ([] : List S49)) else none) else none) else none) else none) else none) else none) else some (0, ([] : List S44), ([] : List Int), 4, bt.2.1)) else ((coronerref31_read.f k l p 111 (-1)).bind fun bt => (if bt.2.2 = true then (if bt.2.1 < (l.length : Int) then (some (0, ([] : List S44), ([] : List Int), 4, bt.2.1)) else ((coronerref31_Check.f k lv fs bt.1).bind fun t => (if t = 0 then (some (lv, fs, bt.1, 0, 0)) else (some (0, ([] : List S44), ([] : List Int), 2, 0))))) else (some (0, ([] : List S44), ([] : List Int), 4, bt.2.1)))))) (fun k => by simp only [coronerref31_Parse.l0]) ?_
   refine Ev.bind (is_ev p h0 102) ?_
   rw [decide_eq_true hp]
   refine Ev.congr (fun k => if_pos rfl) (Ev.bind hrd ?_)
   by_cases he : (sixR l (G p) 102).1.e = 0
   ·obtain ⟨hs, hp0, hp1⟩ := niceG hni he
    obtain ⟨q, hq⟩ : ∃ q, (sixR l (G p) 102).1.p = q := ⟨_, rfl⟩
    rw [hq] at hs hp0 hp1
    rw [hs] at hlt ⊢
    rw [tell_G]
    have hlq := left_le (l := l) (s := G q) ⟨hp0, hp1⟩
    cases n with
    | zero => omega
    | succ n =>
     have hcl : (cycGo l (G q) []).2.length ≤ l.length := by
      have key : ∀ (m : Nat) (s : Cr) (acc : List Ed), Cur.Ok l s → (cycLoop l m s acc).2.length ≤ acc.length + left l s := by
       intro m
       induction m with
       | zero => intro s acc _; exact Nat.le_add_right _ _
       | succ m ih =>
        intro s acc hs
        rw [cycLoop]
        split
        ·rename_i hh
         have h2 := left_sixR hs hh
         have h3 := ih (sixR l s 101).1 (acc ++ [mkE (sixR l s 101).2]) (ok_sixR hs 101)
         rw [List.length_append, List.length_singleton] at h3
         omega
        ·exact Nat.le_add_right _ _
      have := key (left l (G q) + 1) (G q) [] ⟨hp0, hp1⟩
      rw [List.length_nil] at this
      exact Nat.le_trans this (by omega)
     have hcy := cyc_ev hl lv fs (by omega) a b c d e f (finP l lv (fsGo l (cycGo l (G q) []).1 (fs ++ [⟨a, b, c, d, e, f, (cycGo l (G q) []).2⟩]))) (left l (G q)) q [] hp0 hp1 (Nat.le_refl _) (by rw [List.length_nil]; omega) (fun p' g0 g1 g2 g3 => by
      rw [g3]
      exact fs_ev hl lv n p' (fs ++ [⟨a, b, c, d, e, f, (cycGo l (G q) []).2⟩]) g0 g1 (by omega) (by rw [List.length_append, List.length_singleton]; omega) (fun z hz => by
       rcases List.mem_append.1 hz with hz | hz
       ·exact hc z hz
       ·rw [List.mem_singleton] at hz; subst hz; exact hcl)) (fun hb => by
      have hn4 : (cycGo l (G q) []).1.e = 4 := nice4 (Nice.cycLoop _ _ (Nice.G hp0 hp1)) hb
      rw [bad_fs hb, fin_bad hb, hn4])
     refine Ev.congr (fun k => ?_) hcy
     simp only [if_true, List.length_cons, List.length_nil]
     rw [if_pos (by omega), if_pos (by omega), if_pos (by omega), if_pos (by omega), if_pos (by omega), if_pos (by omega)]
     rfl
   ·have h4 := nice4 hni he
    rw [bad_cyc he, bad_fs he, fin_bad he, tell_bad he, h4]
    exact Ev.congr (f := fun _ => some _) (fun k => if_neg (fun hh => Bool.noConfusion (show false = true from hh))) (Ev.now _)
  ·have hnx : nextR l (G p) 102 = false := by rw [next_G]; exact decide_eq_false hp
   rw [fsGo_end fs hnx]
   have hni := (Nice.G (l := l) h0 h1).ord
   have hro := read_o h0 h1 hl
   refine Ev.step (f := fun k => (coronerref31_is.f l p 102).bind fun t => (if t = true then (coronerref31_read.f k l p 102 6).bind fun bt => (if bt.2.2 = true then (if 0 < (bt.1.length : Int) then (if 1 < (bt.1.length : Int) then (if 2 < (bt.1.length : Int) then (if 3 < (bt.1.length : Int) then (if 4 < (bt.1.length : Int) then (if 5 < (bt.1.length : Int) then (coronerref31_Parse.l1 k l bt.2.1 lv fs (rd bt.1 0) (rd bt.1 1) (rd bt.1 2) (rd bt.1 3) (rd bt.1 4) (rd bt.1 5) ([] : List S49)) else none) else none) else none) else none) else none) else none) else some (0, ([] : List S44), ([] : List Int), 4, bt.2.1)) else ((coronerref31_read.f k l p 111 (-1)).bind fun bt => (if bt.2.2 = true then (if bt.2.1 < (l.length : Int) then (some (0, ([] : List S44), ([] : List Int), 4, bt.2.1)) else ((coronerref31_Check.f k lv fs bt.1).bind fun t => (if t = 0 then (some (lv, fs, bt.1, 0, 0)) else (some (0, ([] : List S44), ([] : List Int), 2, 0))))) else (some (0, ([] : List S44), ([] : List Int), 4, bt.2.1)))))) (fun k => by simp only [coronerref31_Parse.l0]) ?_
   refine Ev.bind (is_ev p h0 102) ?_
   rw [decide_eq_false hp]
   refine Ev.congr (fun k => if_neg (fun hh => Bool.noConfusion (show false = true from hh))) (Ev.bind hro ?_)
   have hfp : finP l lv (G p, fs) = paQ lv fs (ordR l (G p)).2 (endOf l (ordR l (G p)).1) := rfl
   have hol : (ordR l (G p)).2.length ≤ l.length := by
    have key : ∀ (m : Nat) (s : Cr) (acc : List Int), Cur.Ok l s → (ordLoop l m s acc).2.length ≤ acc.length + left l s := by
     intro m
     induction m with
     | zero => intro s acc _; exact Nat.le_add_right _ _
     | succ m ih =>
      intro s acc hs
      rw [ordLoop]
      split
      ·rename_i hh
       have h2 := left_numR hs hh
       have h3 := ih (numR l s).1 (acc ++ [(numR l s).2]) (ok_numR hs)
       rw [List.length_append, List.length_singleton] at h3
       omega
      ·exact Nat.le_add_right _ _
    have hok1 := Cur.ok_byte (⟨h0, h1⟩ : Cur.Ok l (G p)) 111
    have := key (left l (byte l (G p) 111) + 1) (byte l (G p) 111) [] hok1
    have h3 := left_le hok1
    rw [List.length_nil] at this
    exact Nat.le_trans this (by omega)
   by_cases he : (ordR l (G p)).1.e = 0
   ·obtain ⟨hs, hp0, hp1⟩ := niceG hni he
    obtain ⟨q, hq⟩ : ∃ q, (ordR l (G p)).1.p = q := ⟨_, rfl⟩
    rw [hq] at hs hp0 hp1
    rw [hfp, hs, tell_G]
    refine Ev.congr (fun k => if_pos rfl) ?_
    by_cases hlt : q < l.length
    ·have e1 : endOf l (G q) = ⟨q, 4, q⟩ := by unfold endOf; rw [if_pos (show (G q).p < (l.length : Int) from hlt)]; rfl
     rw [e1]
     exact Ev.congr (f := fun _ => some _) (fun k => if_pos hlt) (Ev.now _)
    ·have e1 : endOf l (G q) = G q := by unfold endOf; rw [if_neg (show ¬ (G q).p < (l.length : Int) from hlt)]
     rw [e1]
     refine Ev.congr (fun k => if_neg hlt) (Ev.bind (rchk_ev lv fs (ordR l (G p)).2 (by unfold big; omega) (by unfold big; omega) (fun z hz => by have := hc z hz; unfold big; omega)) ?_)
     unfold paQ
     rw [if_pos (show (G q).e = 0 from rfl)]
     have h2 : chk lv fs (ordR l (G p)).2 = 0 ∨ chk lv fs (ordR l (G p)).2 = 2 := by unfold chk; split; exact .inl rfl; exact .inr rfl
     rcases h2 with h2 | h2
     ·simp only [h2, if_true]
      exact Ev.now _
     ·simp only [h2, show ¬ (2 : Int) = 0 by decide, if_false]
      exact Ev.now _
   ·have h4 := nice4 hni he
    have e1 : endOf l (ordR l (G p)).1 = (ordR l (G p)).1 := by unfold endOf; rw [bad_fail he]; split <;> rfl
    rw [hfp, e1, tell_bad he]
    unfold paQ
    rw [if_neg he, h4]
    exact Ev.congr (f := fun _ => some _) (fun k => if_neg (fun hh => Bool.noConfusion (show false = true from hh))) (Ev.now _)
theorem par_fin : parR l = finP l (lvN l).2 (fsGo l (byte l (lvN l).1 10) []) := rfl
theorem rpar_ev (hl : l.length ≤ 100000000) : Ev (fun k => coronerref31_Parse.f k l) (parR l) := by
 have h1 := read_m (l := l) (p := 0) (Int.le_refl _) (by omega) hl 108 1 (by decide)
 have e1 : numsR l 1 (byte l (G 0) 108) = ((lvN l).1, [(lvN l).2]) := rfl
 rw [e1] at h1
 have hni : Nice l (byte l (lvN l).1 10) := ((Nice.G (Int.le_refl 0) (by omega)).byte 108).num.byte 10
 rw [par_fin]
 unfold coronerref31_Parse.f
 refine Ev.bind h1 ?_
 by_cases he : (byte l (lvN l).1 10).e = 0
 ·obtain ⟨hs, hp0, hp1⟩ := niceG hni he
  obtain ⟨q, hq⟩ : ∃ q, (byte l (lvN l).1 10).p = q := ⟨_, rfl⟩
  rw [hq] at hs hp0 hp1
  rw [hs, tell_G]
  have h2 := fs_ev hl (lvN l).2 (left l (G q)) q [] hp0 hp1 (Nat.le_refl _) (by have := left_le (l := l) (s := G q) ⟨hp0, hp1⟩; rw [List.length_nil]; omega) (fun f hf => by cases hf)
  refine Ev.congr (fun k => ?_) h2
  rw [if_pos rfl, if_pos (by simp)]
  rfl
 ·have h4 := nice4 hni he
  rw [bad_fs he, fin_bad he, h4, tell_bad he]
  exact Ev.congr (f := fun _ => some _) (fun k => if_neg (fun hh => Bool.noConfusion (show false = true from hh))) (Ev.now _)
end
theorem redge_l0 {l m : List Ed} (hlm : l.length = m.length) (hb : l.length ≤ big) : ∀ (d i : Nat), i + d = l.length → Ev (fun k => coronerref13_SameEdges.l0 k l m (i : Int)) (eqL eqE (l.drop i) (m.drop i))
 | 0, i, h => by
  rw [eqL_end hlm (by omega)]
  exact Ev.step (f := fun _ => some true) (fun k => by simp only [coronerref13_SameEdges.l0]; rw [if_neg (by omega)]) (Ev.now _)
 | d + 1, i, h => by
  have hlt : i < l.length := by omega
  have hm : i < m.length := by omega
  have ih := redge_l0 hlm hb d (i + 1) (by omega)
  have hs : ∀ k, coronerref13_SameEdges.l0 (k + 1) l m (i : Int) = if (!eqE l[i] m[i]) = true then some false else coronerref13_SameEdges.l0 k l m ((i + 1 : Nat) : Int) := fun k => by
   simp only [coronerref13_SameEdges.l0]
   rw [if_pos (by omega), if_pos (by omega), if_pos (by omega), rd49 hlt, rd49 hm, edge_b, wrapS hlt hb]
  rw [eqL_drop hlt hm]
  cases hq : eqE l[i] m[i] with
  | true => rw [Bool.true_and]; exact Ev.step (fun k => by rw [hs, hq]; rfl) ih
  | false => rw [Bool.false_and]; exact Ev.step (f := fun _ => some false) (fun k => by rw [hs, hq]; rfl) (Ev.now _)
theorem redges_ev {l m : List Ed} (hb : l.length ≤ big) : Ev (fun k => coronerref13_SameEdges.f k l m) (eqL eqE l m) := by
 unfold coronerref13_SameEdges.f
 by_cases h : l.length = m.length
 ·have := redge_l0 h hb l.length 0 (by omega)
  rw [List.drop_zero, List.drop_zero] at this
  exact Ev.congr (fun k => if_pos (by omega)) this
 ·rw [eqL_len h]
  exact Ev.congr (f := fun _ => some false) (fun k => if_neg (by omega)) (Ev.now _)
theorem rfind_ev (x y : Fi) (hb : x.f6.length ≤ big) : Ev (fun k => coronerref13_SameFinding.f k x.f0 x.f1 x.f2 x.f3 x.f4 x.f5 x.f6 y.f0 y.f1 y.f2 y.f3 y.f4 y.f5 y.f6) (eqF x y) := by
 have he := redges_ev (l := x.f6) (m := y.f6) hb
 have hno : nF x ≠ nF y → eqF x y = false := fun h => by unfold eqF alike; rw [decide_eq_false h, Bool.false_and]
 have hF : ∀ {g : Nat → Option Bool}, (∀ k, g k = some false) → nF x ≠ nF y → Ev g (eqF x y) := fun hg h => by rw [hno h]; exact Ev.congr (f := fun _ => some false) hg (Ev.now _)
 unfold coronerref13_SameFinding.f
 by_cases h0 : x.f0 = y.f0
 ·by_cases h1 : x.f1 = y.f1
  ·by_cases h2 : x.f2 = y.f2
   ·by_cases h3 : x.f3 = y.f3
    ·by_cases h4 : x.f4 = y.f4
     ·by_cases h5 : x.f5 = y.f5
      ·have e : nF x = nF y := by unfold nF; rw [h0, h1, h2, h3, h4, h5]
       unfold eqF alike
       rw [decide_eq_true e, Bool.true_and]
       refine Ev.congr (fun k => ?_) he
       rw [if_pos h0, if_pos h1, if_pos h2, if_pos h3, if_pos h4, if_pos h5]
       cases coronerref13_SameEdges.f k x.f6 y.f6 <;> rfl
      ·exact hF (fun k => by rw [if_pos h0, if_pos h1, if_pos h2, if_pos h3, if_pos h4, if_neg h5]) (fun e => h5 (by simp [nF] at e; exact e.2.2.2.2.2))
     ·exact hF (fun k => by rw [if_pos h0, if_pos h1, if_pos h2, if_pos h3, if_neg h4]) (fun e => h4 (by simp [nF] at e; exact e.2.2.2.2.1))
    ·exact hF (fun k => by rw [if_pos h0, if_pos h1, if_pos h2, if_neg h3]) (fun e => h3 (by simp [nF] at e; exact e.2.2.2.1))
   ·exact hF (fun k => by rw [if_pos h0, if_pos h1, if_neg h2]) (fun e => h2 (by simp [nF] at e; exact e.2.2.1))
  ·exact hF (fun k => by rw [if_pos h0, if_neg h1]) (fun e => h1 (by simp [nF] at e; exact e.2.1))
 ·exact hF (fun k => by rw [if_neg h0]) (fun e => h0 (by simp [nF] at e; exact e.1))
theorem rfinds_l0 {l m : List Fi} (hlm : l.length = m.length) (hb : l.length ≤ big) (hbs : ∀ f ∈ l, f.f6.length ≤ big) : ∀ (d i : Nat), i + d = l.length → Ev (fun k => coronerref13_SameFindings.l0 k l m (i : Int)) (eqL eqF (l.drop i) (m.drop i))
 | 0, i, h => by
  rw [eqL_end hlm (by omega)]
  exact Ev.step (f := fun _ => some true) (fun k => by simp only [coronerref13_SameFindings.l0]; rw [if_neg (by omega)]) (Ev.now _)
 | d + 1, i, h => by
  have hlt : i < l.length := by omega
  have hm : i < m.length := by omega
  have ih := rfinds_l0 hlm hb hbs d (i + 1) (by omega)
  refine Ev.step (f := fun k => (coronerref13_SameFinding.f k l[i].f0 l[i].f1 l[i].f2 l[i].f3 l[i].f4 l[i].f5 l[i].f6 m[i].f0 m[i].f1 m[i].f2 m[i].f3 m[i].f4 m[i].f5 m[i].f6).bind fun t => if t = true then coronerref13_SameFindings.l0 k l m ((i + 1 : Nat) : Int) else some false) (fun k => ?_) ?_
  ·simp only [coronerref13_SameFindings.l0]
   rw [if_pos (by omega), if_pos (by omega), if_pos (by omega), rd44 hlt, rd44 hm, wrapS hlt hb]
  ·refine Ev.bind (rfind_ev l[i] m[i] (hbs _ (List.getElem_mem hlt))) ?_
   rw [eqL_drop hlt hm]
   cases eqF l[i] m[i] with
   | true => rw [Bool.true_and]; exact Ev.congr (fun k => if_pos rfl) ih
   | false => rw [Bool.false_and]; exact Ev.congr (f := fun _ => some false) (fun k => if_neg (by decide)) (Ev.now _)
theorem rfinds_ev {l m : List Fi} (hb : l.length ≤ big) (hbs : ∀ f ∈ l, f.f6.length ≤ big) : Ev (fun k => coronerref13_SameFindings.f k l m) (eqL eqF l m) := by
 unfold coronerref13_SameFindings.f
 by_cases h : l.length = m.length
 ·have := rfinds_l0 h hb hbs l.length 0 (by omega)
  rw [List.drop_zero, List.drop_zero] at this
  exact Ev.congr (fun k => if_pos (by omega)) this
 ·rw [eqL_len h]
  exact Ev.congr (f := fun _ => some false) (fun k => if_neg (by omega)) (Ev.now _)
theorem rints_l0 {l m : List Int} (hlm : l.length = m.length) (hb : l.length ≤ big) : ∀ (d i : Nat), i + d = l.length → Ev (fun k => coronerref01_Same.l0 k l m (i : Int)) (alike (l.drop i) (m.drop i))
 | 0, i, h => by
  rw [List.drop_eq_nil_of_le (by omega), List.drop_eq_nil_of_le (by omega)]
  exact Ev.step (f := fun _ => some true) (fun k => by simp only [coronerref01_Same.l0]; rw [if_neg (by omega)]) (Ev.now _)
 | d + 1, i, h => by
  have hlt : i < l.length := by omega
  have hm : i < m.length := by omega
  have ih := rints_l0 hlm hb d (i + 1) (by omega)
  have hs : ∀ k, coronerref01_Same.l0 (k + 1) l m (i : Int) = if l[i] = m[i] then coronerref01_Same.l0 k l m ((i + 1 : Nat) : Int) else some false := fun k => by
   simp only [coronerref01_Same.l0]
   rw [if_pos (by omega), if_pos (by omega), if_pos (by omega), rdI hlt, rdI hm, wrapS hlt hb]
  have ha : alike (l.drop i) (m.drop i) = (decide (l[i] = m[i]) && alike (l.drop (i + 1)) (m.drop (i + 1))) := by
   rw [List.drop_eq_getElem_cons hlt, List.drop_eq_getElem_cons hm]
   generalize l[i] = a
   generalize m[i] = b
   generalize l.drop (i + 1) = L
   generalize m.drop (i + 1) = M
   unfold alike
   rw [Bool.eq_iff_iff]
   simp
  rw [ha]
  by_cases hq : l[i] = m[i]
  ·rw [decide_eq_true hq, Bool.true_and]; exact Ev.step (fun k => by rw [hs, if_pos hq]) ih
  ·rw [decide_eq_false hq, Bool.false_and]; exact Ev.step (f := fun _ => some false) (fun k => by rw [hs, if_neg hq]) (Ev.now _)
theorem rints_ev {l m : List Int} (hb : l.length ≤ big) : Ev (fun k => coronerref01_Same.f k l m) (alike l m) := by
 unfold coronerref01_Same.f
 by_cases h : l.length = m.length
 ·have := rints_l0 h hb l.length 0 (by omega)
  rw [List.drop_zero, List.drop_zero] at this
  exact Ev.congr (fun k => if_pos (by omega)) this
 ·have e : alike l m = false := by unfold alike; exact decide_eq_false (fun e => h (by rw [e]))
  rw [e]
  exact Ev.congr (f := fun _ => some false) (fun k => if_neg (by omega)) (Ev.now _)
theorem rsame_ev (lv lv' : Int) (fs fs' : List Fi) (o o' : List Int) (hb : fs.length ≤ big) (hbs : ∀ f ∈ fs, f.f6.length ≤ big) (ho : o.length ≤ big) : Ev (fun k => coronerref31_Same.f k lv fs o lv' fs' o') (eqRep lv fs o lv' fs' o') := by
 unfold coronerref31_Same.f eqRep
 by_cases h : lv = lv'
 ·rw [decide_eq_true h, Bool.true_and]
  refine Ev.congr (fun k => if_pos h) (Ev.bind (rfinds_ev hb hbs) ?_)
  cases eqL eqF fs fs' with
  | true =>
   rw [Bool.true_and]
   refine Ev.congr (fun k => ?_) (rints_ev (l := o) (m := o') ho)
   rw [if_pos rfl]
   cases coronerref01_Same.f k o o' <;> rfl
  | false => rw [Bool.false_and]; exact Ev.congr (f := fun _ => some false) (fun k => if_neg (by decide)) (Ev.now _)
 ·rw [decide_eq_false h, Bool.false_and]
  exact Ev.congr (f := fun _ => some false) (fun k => if_neg h) (Ev.now _)
theorem eqRep_self (lv : Int) (fs : List Fi) (o : List Int) : eqRep lv fs o lv fs o = true := by
 unfold eqRep
 rw [decide_eq_true rfl, (eqL_iff eqF_iff).2 rfl, alike_iff.2 rfl]; rfl
end Go.Proofs.Ytkoddmedhnhgiaa.Rp
set_option linter.unusedSimpArgs false
namespace Go.Proofs.Ytkoddmedhnhgiaa.Rp
open Go.RowKit Go.Lib Go.Proofs.Ytkoddmedhnhgiaa.PReportBack Go.Proofs.YtkoddmedhnhgiaaW.PrintWords
set_option linter.unusedVariables false
def tx : List Int := [108, 32, 52, 10, 111, 32, 50, 32, 49, 10]
set_option maxRecDepth 100000 in
theorem par1 : parR tx = (4, [], [2, 1], 0, 0) := by kernel_rfl
set_option maxRecDepth 100000 in
theorem rep1 : strOfNums (repT 4 [] [2, 1]) = (⟨#[108, 32, 52, 10, 111, 32, 50, 32, 49, 10]⟩ : ByteArray) := by kernel_rfl
theorem ok1 : okRep 4 [] [2, 1] = true := by kernel_rfl
theorem chk5 : chk 5 [] [] = 2 := by kernel_rfl
theorem same1 : eqRep 4 [] [2, 1] 4 [] [2, 1] = true := by kernel_rfl
theorem nil_C {α : Type} (d : Kd α) (W : World) : Kd.C d W none 0 [] := ⟨rfl, by decide, fun h => absurd h (by decide)⟩
theorem parse_laid (W : World) (l : List Int) (hb : Bytes l) (hl : l.length ≤ 100000000) :
 Calls Try.prog 12 #[.slice (some ⟨W.heap.size, 0, none⟩) l.length l.length] (W.alloc (.cells (nums .u8 l).toArray 5 (l.length, l.length + 1)))
  fun r w' => ∃ A1 c1 A2 c2, r = .returned (.tuple #[.agg #[.int .i64 (parR l).1, .slice A1 (parR l).2.1.length c1, .slice A2 (parR l).2.2.1.length c2], .int .i64 (parR l).2.2.2.1, .int .i64 (parR l).2.2.2.2]) ∧ (parR l).2.1.length ≤ c1 ∧ (parR l).2.2.1.length ≤ c2 ∧ Kd.C k44 w' A1 (parR l).2.1.length (parR l).2.1 ∧ (Kd.int .i64).C w' A2 (parR l).2.2.1.length (parR l).2.2.1 ∧ Below W.heap.size W w' := by
 have hC : Kd.C (Kd.int .u8) (W.alloc (.cells (nums .u8 l).toArray 5 (l.length, l.length + 1))) (some ⟨W.heap.size, 0, none⟩) l.length l := C_laid (t := 5) (fz := (l.length, l.length + 1)) l (by omega) (alloc_at _ _)
 refine (parse_c _ _ l l.length hC (Nat.le_refl _) hb hl).mono ?_
 rintro r w' ⟨vF, vO, h1, h2, h3, h4⟩
 obtain ⟨A1, c1, rfl, hc1, hr1⟩ := Kd.S_reads h2
 obtain ⟨A2, c2, rfl, hc2, hr2⟩ := Kd.R_reads h3
 exact ⟨A1, c1, A2, c2, h1, hc1, hc2, hr1, hr2, ((Below.refl _ _).alloc (Nat.le_refl _) _).trans (h4.mono (by simp))⟩
theorem parse_tx (W : World) : Calls Try.prog 12 #[.slice (some ⟨W.heap.size, 0, none⟩) 10 10] (W.alloc (.cells #[.int .u8 108, .int .u8 32, .int .u8 52, .int .u8 10, .int .u8 111, .int .u8 32, .int .u8 50, .int .u8 32, .int .u8 49, .int .u8 10] 5 (10, 11)))
 fun r w' => ∃ A1 c1 A2 c2, r = .returned (.tuple #[.agg #[.int .i64 4, .slice A1 0 c1, .slice A2 2 c2], .int .i64 0, .int .i64 0]) ∧ 2 ≤ c2 ∧ Kd.C k44 w' A1 0 [] ∧ (Kd.int .i64).C w' A2 2 [2, 1] ∧ Below W.heap.size W w' := by
 refine (parse_laid W tx (by unfold Bytes; decide) (by decide)).mono ?_
 rw [par1]
 rintro r w' ⟨A1, c1, A2, c2, h1, h2, h3, h4, h5, h6⟩
 exact ⟨A1, c1, A2, c2, h1, h3, h4, h5, h6⟩
theorem two_laid (W : World) (g : Nat) (h : Blk W g [.int .i64 2, .int .i64 1] 3) : (Kd.int .i64).C W (some ⟨g, 0, none⟩) 2 [2, 1] := by
 refine ⟨rfl, by decide, fun _ => ⟨_, rfl, fun j p hj => ?_⟩⟩
 have hc : j = 0 ∨ j = 1 := by have := (List.getElem?_eq_some_iff.1 hj).1; simp at this; omega
 have hw : ∀ (i : Nat) (v : Value), [v][i]? = some v → i = 0 := fun i v hv => by have := (List.getElem?_eq_some_iff.1 hv).1; simp at this; omega
 rcases hc with rfl | rfl
 ·cases hj
  refine ⟨[.int .i64 2], rfl, rfl, fun i u hu => ?_⟩
  obtain rfl : i = 0 := by have := (List.getElem?_eq_some_iff.1 hu).1; simp at this; omega
  cases hu
  exact (h.cell 0).trans rfl
 ·cases hj
  refine ⟨[.int .i64 1], rfl, rfl, fun i u hu => ?_⟩
  obtain rfl : i = 0 := by have := (List.getElem?_eq_some_iff.1 hu).1; simp at this; omega
  cases hu
  exact (h.cell 1).trans rfl
set_option maxRecDepth 100000 in
set_option maxHeartbeats 4000000 in
theorem works_c (w : World) : Calls Try.prog 8 #[] w fun e w' => e = .returned (.bool true) ∧ Below w.heap.size w w' := by
 have kc := fun (w : World) (C : Array Value) (n c : Nat) => Lib.run_convert_bytes_const (P := Try.prog) w 34 5 C n c Try.underlying34 Try.underlying5
 obtain ⟨w2, hw2⟩ : ∃ w2, w2 = (w.alloc (.cells #[.int .i64 2, .int .i64 1] 3)).alloc (.cells #[.int .i64 4, .slice none 0 0, .slice (some ⟨w.heap.size, 0, none⟩) 2 2] 25) := ⟨_, rfl⟩
 have HB2 : Hid (Below w.heap.size w w2) := Lib.hid (by rw [hw2]; exact ((Below.refl _ _).alloc (Nat.le_refl _) _).alloc (by simp) _)
 have b1 : Blk w2 w.heap.size [.int .i64 2, .int .i64 1] 3 := by rw [hw2]; exact (Blk.new w _ _).alloc _
 have b2 : Blk w2 (w.heap.size + 1) [.int .i64 4, .slice none 0 0, .slice (some ⟨w.heap.size, 0, none⟩) 2 2] 25 := by
  have h := Blk.new (w.alloc (.cells #[.int .i64 2, .int .i64 1] 3)) [.int .i64 4, .slice none 0 0, .slice (some ⟨w.heap.size, 0, none⟩) 2 2] 25
  rw [World.size_alloc] at h
  rw [hw2]; exact h
 have HL := Lib.hid (fun (W : World) (hW : Below w2.heap.size w2 W) => two_laid W w.heap.size (b1.below hW b1.lt))
 have HX := Lib.hid (fun (W : World) (hW : Below w2.heap.size w2 W) => b2.below hW b2.lt)
 have HPR : Hid (∀ W, Below w2.heap.size w2 W → Calls Try.prog 9 #[.agg #[.int .i64 4, .slice none 0 0, .slice (some ⟨w.heap.size, 0, none⟩) 2 2]] W fun e w' => e = .returned (.tuple #[.string (⟨#[108, 32, 52, 10, 111, 32, 50, 32, 49, 10]⟩ : ByteArray), .int .i64 0]) ∧ Below w2.heap.size w2 w') := Lib.hid (fun W hW => by
  refine (print_rc 4 [] [2, 1] none 0 (some ⟨w.heap.size, 0, none⟩) 2 W (nil_C _ _) (HL.out W hW) (by decide) (by decide)).mono ?_
  rintro e w' ⟨h1, h2⟩
  rw [if_pos ok1, rep1] at h1
  exact ⟨h1, hW.trans (h2.mono hW.size)⟩)
 clear b1 b2
 go_enter Try.func8, Try.ntmps8
 have t0 := ((HX.out w2 (Below.refl _ _)).cell 0).trans rfl
 have t1 := ((HX.out w2 (Below.refl _ _)).cell 1).trans rfl
 have t2 := ((HX.out w2 (Below.refl _ _)).cell 2).trans rfl
 rw [hw2] at t0 t1 t2
 go_wp2_with fail
 rw [← hw2]
 refine (HPR.out w2 (Below.refl _ _)).mono ?_
 rintro r w3 ⟨rfl, hb3⟩
 have HB3 := Lib.hid hb3
 clear t0 t1 t2 hb3 hw2
 go_wp2_with fail
 refine (parse_tx w3).mono ?_
 rintro r w4 ⟨A1, c1, A2, c2, rfl, hc2, hF, hO, hb4⟩
 have HB4 := Lib.hid (HB3.out.trans (hb4.mono HB3.out.size))
 have HF := Lib.hid hF
 have HO := Lib.hid hO
 have HC2 := Lib.hid hc2
 clear hb4 hF hO hc2 kc HB3 HPR
 obtain ⟨w5, hw5⟩ : ∃ w5, w5 = w4.alloc (.cells #[.int .i64 4, .slice A1 0 c1, .slice A2 2 c2] 25) := ⟨_, rfl⟩
 have hb5 : Below w4.heap.size w4 w5 := by rw [hw5]; exact (Below.refl _ _).alloc (Nat.le_refl _) _
 have HB5 := Lib.hid hb5
 have HB52 := Lib.hid (HB4.out.trans (hb5.mono HB4.out.size))
 have q0 := ((HX.out w5 HB52.out).cell 0).trans rfl
 have q1 := ((HX.out w5 HB52.out).cell 1).trans rfl
 have q2 := ((HX.out w5 HB52.out).cell 2).trans rfl
 have HS : Hid (Calls Try.prog 16 #[.agg #[.int .i64 4, .slice A1 0 c1, .slice A2 2 c2], .agg #[.int .i64 4, .slice none 0 0, .slice (some ⟨w.heap.size, 0, none⟩) 2 2]] w5 fun e w' => e = .returned (.bool true) ∧ Below w5.heap.size w5 w') := Lib.hid (by
  have h := same_c w5 4 4 [] [] [2, 1] [2, 1] A1 A2 none (some ⟨w.heap.size, 0, none⟩) c1 c2 0 2 (Kd.C_below HF.out HB5.out) (Kd.C_below HO.out HB5.out) (nil_C _ _) (HL.out w5 HB52.out) HC2.out (Nat.le_refl 2) (by unfold big; simp) (by simp) (by unfold big; simp)
  rw [same1] at h
  exact h)
 clear hb5
 have HCK : Hid (∀ W, Calls Try.prog 11 #[.agg #[.int .i64 5, .slice none 0 0, .slice none 0 0]] W fun e w' => e = .returned (.int .i64 2) ∧ Below W.heap.size W w') := Lib.hid (fun W => by
  have h := check_c 5 [] [] none 0 none 0 W (nil_C _ _) (nil_C _ _) (by decide) (by decide)
  rw [chk5] at h
  exact h)
 have z0 : w5.cell? ⟨w4.heap.size, 0, none⟩ = some (.int .i64 4) := by rw [hw5]; exact ((Blk.new w4 _ _).cell 0).trans rfl
 have z1 : w5.cell? ⟨w4.heap.size, 1, none⟩ = some (.slice A1 0 c1) := by rw [hw5]; exact ((Blk.new w4 _ _).cell 1).trans rfl
 have z2 : w5.cell? ⟨w4.heap.size, 2, none⟩ = some (.slice A2 2 c2) := by rw [hw5]; exact ((Blk.new w4 _ _).cell 2).trans rfl
 rw [hw5] at q0 q1 q2 z0 z1 z2
 go_wp2_with fail
 rw [← hw5]
 refine HS.out.mono ?_
 rintro r w6 ⟨rfl, hb6⟩
 have HB6 := Lib.hid hb6
 clear q0 q1 q2 z0 z1 z2 hb6 hw5
 go_wp2_with fail
 refine (HCK.out w6).mono ?_
 rintro r w7 ⟨rfl, hb7⟩
 have HB7 := Lib.hid hb7
 clear hb7
 go_wp2
 go_ret
 exact ⟨rfl, link (link (link HB2.out HB52.out) HB6.out) HB7.out⟩
end Go.Proofs.Ytkoddmedhnhgiaa.Rp
set_option linter.unusedSimpArgs false
namespace Go.Proofs.Ytkoddmedhnhgiaa.Rp
open Go.Shelf Go.RowKit Go.Lib Go.Proofs.Ytkoddmedhnhgiaa.PReportBack Go.Proofs.YtkoddmedhnhgiaaW.PrintWords
set_option linter.unusedVariables false
section
variable {lv : Int} {fs : List Fi} {o : List Int} {A1 A2 : Option Addr} {c1 c2 : Nat}
end
end Go.Proofs.Ytkoddmedhnhgiaa.Rp
