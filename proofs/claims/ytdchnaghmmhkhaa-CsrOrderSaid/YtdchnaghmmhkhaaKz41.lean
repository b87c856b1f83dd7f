/- Printed by shake.py. -/
import Derived.Test.YtdchnaghmmhkhaaKz39
set_option linter.unusedSimpArgs false
namespace Go.Proofs.Ytdchnaghmmhkhaa.Cs.Ai
open Go.Shelf Go.RowKit Go.Lib Go.Proofs.Ytdchnaghmmhkhaa.PCsrGraphs Go.Proofs.YtdchnaghmmhkhaaW.PrintWords
set_option linter.unusedVariables false
def rowM (M : List (List Int)) (v : Nat) (is : List Nat) : List S53 := is.filterMap fun (w : Nat) => if en M (v : Int) (w : Int) = 0 then none else some (⟨(v : Int), (w : Int), en M (v : Int) (w : Int)⟩ : S53)
def arcsM (n : Nat) (M : List (List Int)) (vs : List Nat) : List S53 := vs.flatMap fun v => rowM M v (List.range n)
theorem rowM_le (M : List (List Int)) (v : Nat) (is : List Nat) : (rowM M v is).length ≤ is.length := List.length_filterMap_le ..
theorem range_drop {n i : Nat} (h : i < n) : (List.range n).drop i = i :: (List.range n).drop (i + 1) := by
 rw [List.drop_eq_getElem_cons (by rw [List.length_range]; exact h), List.getElem_range]
theorem arcs_l1 (n : Nat) (M : List (List Int)) (hM : Sq n M) (hn : n ≤ 1024) (v : Nat) (hv : v < n) (K : Nat) : ∀ m i acc, n - i = m → i ≤ n → acc.length + m ≤ 2000000 → coronerref19_Arcs.l1 (m + 1 + K) acc v i n M = coronerref19_Arcs.l0 K (acc ++ rowM M v ((List.range n).drop i)) ((v + 1 : Nat) : Int) n M
 | 0, i, acc, hm, hi, ha => by
  have : i = n := by omega
  subst this
  rw [show 0 + 1 + K = K + 1 by omega, coronerref19_Arcs.l1, if_neg (by omega), List.drop_eq_nil_of_le (by rw [List.length_range]; exact Nat.le_refl _), up_w v (by omega)]
  rw [show rowM M v [] = [] from rfl, List.append_nil]
 | m + 1, i, acc, hm, hi, ha => by
  have hrow := hM.row (v := (v : Int)) (by omega) (by omega)
  rw [show m + 1 + 1 + K = (m + 1 + K) + 1 by omega, coronerref19_Arcs.l1, if_pos (by omega), if_pos (by omega), if_pos (by rw [hM.1]; omega), if_pos (by omega), if_pos (by rw [hrow]; omega), up_w i (by omega), range_drop (by omega : i < n)]
  have he : rd (rd_L3 M (v : Int)) (i : Int) = en M v i := rfl
  rw [he]
  unfold rowM
  rw [List.filterMap_cons]
  by_cases h0 : en M v i = 0
  ·rw [if_pos h0, if_pos h0, arcs_l1 n M hM hn v hv K m (i + 1) acc (by omega) (by omega) (by omega)]
   rfl
  ·rw [if_neg h0, if_neg h0, if_pos (by omega), arcs_l1 n M hM hn v hv K m (i + 1) _ (by omega) (by omega) (by simp; omega), List.append_assoc]
   rfl
theorem arcs_l0 (n : Nat) (M : List (List Int)) (hM : Sq n M) (hn : n ≤ 1024) : ∀ m v acc, n - v = m → v ≤ n → acc.length ≤ v * n → coronerref19_Arcs.l0 (m * (n + 2) + 1) acc v n M = some (acc ++ arcsM n M ((List.range n).drop v))
 | 0, v, acc, hm, hv, ha => by
  rw [show 0 * (n + 2) + 1 = 0 + 1 by omega, coronerref19_Arcs.l0, if_neg (by omega), List.drop_eq_nil_of_le (by rw [List.length_range]; omega)]
  rw [show arcsM n M [] = [] from rfl, List.append_nil]
 | m + 1, v, acc, hm, hv, ha => by
  have hb : v * n ≤ 1024 * 1024 := Nat.mul_le_mul (by omega) hn
  have hl := rowM_le M v (List.range n)
  rw [List.length_range] at hl
  rw [show (m + 1) * (n + 2) + 1 = (n + 1 + (m * (n + 2) + 1)) + 1 by rw [Nat.add_mul]; omega, coronerref19_Arcs.l0, if_pos (by omega)]
  have h1 := arcs_l1 n M hM hn v (by omega) (m * (n + 2) + 1) n 0 acc (by omega) (by omega) (by omega)
  rw [List.drop_zero] at h1
  refine h1.trans ?_
  rw [arcs_l0 n M hM hn m (v + 1) _ (by omega) (by omega) (by rw [List.length_append, Nat.add_mul]; omega), range_drop (by omega : v < n), List.append_assoc]
  rfl
theorem arcs_f (n : Nat) (M : List (List Int)) (hM : Sq n M) (hn : n ≤ 1024) : ∃ k, coronerref19_Arcs.f k n M = some (arcsM n M (List.range n)) := by
 refine ⟨n * (n + 2) + 1, ?_⟩
 have := arcs_l0 n M hM hn n 0 [] (by omega) (by omega) (by simp)
 rw [List.drop_zero, List.nil_append] at this
 exact this
theorem mem_rowM {M : List (List Int)} {v : Nat} {is : List Nat} {x : S53} : x ∈ rowM M v is ↔ ∃ w ∈ is, en M v w ≠ 0 ∧ x = ⟨(v : Int), (w : Int), en M v w⟩ := by
 unfold rowM
 rw [List.mem_filterMap]
 constructor
 ·rintro ⟨w, hw, h⟩
  split at h
  ·cases h
  ·rename_i h0; exact ⟨w, hw, h0, (Option.some.inj h).symm⟩
 ·rintro ⟨w, hw, h0, rfl⟩
  exact ⟨w, hw, by rw [if_neg h0]⟩
theorem mem_arcsM {n : Nat} {M : List (List Int)} {vs : List Nat} {x : S53} : x ∈ arcsM n M vs ↔ ∃ v ∈ vs, ∃ w, w < n ∧ en M v w ≠ 0 ∧ x = ⟨(v : Int), (w : Int), en M v w⟩ := by
 unfold arcsM
 rw [List.mem_flatMap]
 constructor
 ·rintro ⟨v, hv, h⟩
  obtain ⟨w, hw, h⟩ := mem_rowM.1 h
  exact ⟨v, hv, w, List.mem_range.1 hw, h⟩
 ·rintro ⟨v, hv, w, hw, h⟩
  exact ⟨v, hv, mem_rowM.2 ⟨w, List.mem_range.2 hw, h⟩⟩
theorem rowM_lx (M : List (List Int)) (v : Nat) (is : List Nat) (h : is.Pairwise (· < ·)) : ((rowM M v is).map ofR).Pairwise Lx := by
 rw [List.pairwise_map]
 unfold rowM
 rw [List.pairwise_filterMap]
 refine h.imp ?_
 intro a b hab x hx y hy
 split at hx
 ·cases hx
 ·split at hy
  ·cases hy
  ·cases hx; cases hy
   unfold Lx ofR
   right
   exact ⟨rfl, by show (a : Int) < (b : Int); omega⟩
theorem arcsM_lx (n : Nat) (M : List (List Int)) (vs : List Nat) (h : vs.Pairwise (· < ·)) : ((arcsM n M vs).map ofR).Pairwise Lx := by
 induction vs with
 | nil => exact List.Pairwise.nil
 | cons v vs ih =>
  rw [List.pairwise_cons] at h
  have e : arcsM n M (v :: vs) = rowM M v (List.range n) ++ arcsM n M vs := rfl
  rw [e, List.map_append, List.pairwise_append]
  refine ⟨rowM_lx M v _ List.pairwise_lt_range, ih h.2, ?_⟩
  intro x hx y hy
  obtain ⟨x', hx', rfl⟩ := List.mem_map.1 hx
  obtain ⟨y', hy', rfl⟩ := List.mem_map.1 hy
  obtain ⟨w, _, _, rfl⟩ := mem_rowM.1 hx'
  obtain ⟨v2, hv2, w2, _, _, rfl⟩ := mem_arcsM.1 hy'
  have := h.1 v2 hv2
  unfold Lx ofR
  left
  show (v : Int) < (v2 : Int)
  omega
theorem en_new {n : Nat} {l : List S53} (hok : ∀ x ∈ l, 0 ≤ x.f0 ∧ x.f0 < n ∧ 0 ≤ x.f1 ∧ x.f1 < n) {v w : Int} (hv : 0 ≤ v) (hw : 0 ≤ w) : Rg (en (l.foldl upd (sq0 n)) v w) ∧ B (en (l.foldl upd (sq0 n)) v w) = if v = w then 0 else mk (l.map ofR) v w := by
 have hz : Rg (en (sq0 n) v w) := by rw [en_sq0]; unfold Rg; kernel_rfl
 obtain ⟨h1, h2⟩ := en_fold n hv hw l (sq0 n) hok (sq0_sq n) hz
 refine ⟨h1, ?_⟩
 rw [h2, en_sq0, show B 0 = 0 from rfl]
 exact BitVec.or_zero
theorem sq_new {n : Nat} : ∀ (l : List S53) (M : List (List Int)), (∀ x ∈ l, 0 ≤ x.f0 ∧ x.f0 < n ∧ 0 ≤ x.f1 ∧ x.f1 < n) → Sq n M → Sq n (l.foldl upd M)
 | [], M, _, h => h
 | x :: l, M, hok, h => sq_new l (upd M x) (fun y hy => hok y (by simp [hy])) (h.upd (hok x (by simp)).1 (hok x (by simp)).2.1)
theorem arcs_is {n : Nat} {l : List S53} (hok : ∀ x ∈ l, 0 ≤ x.f0 ∧ x.f0 < n ∧ 0 ≤ x.f1 ∧ x.f1 < n) : Is (l.map ofR) ((arcsM n (l.foldl upd (sq0 n)) (List.range n)).map ofR) := by
 refine ⟨arcsM_lx n _ _ List.pairwise_lt_range, fun b hb => ?_, fun f t hft hz => ?_⟩
 ·obtain ⟨x, hx, rfl⟩ := List.mem_map.1 hb
  obtain ⟨v, _, w, _, h0, rfl⟩ := mem_arcsM.1 hx
  obtain ⟨h1, h2⟩ := en_new hok (v := (v : Int)) (w := (w : Int)) (by omega) (by omega)
  refine ⟨h1, h0, ?_, ?_⟩
  ·intro e
   have e' : (v : Int) = (w : Int) := e
   rw [if_pos e'] at h2
   exact h0 ((B_zero h1).1 h2)
  ·have hvw : ¬ (v : Int) = (w : Int) := fun e => by
    rw [if_pos e] at h2
    exact h0 ((B_zero h1).1 h2)
   rw [if_neg hvw] at h2
   exact h2
 ·obtain ⟨b, hb, h0, h1⟩ := mk_some hz
  obtain ⟨x, hx, rfl⟩ := List.mem_map.1 hb
  have hr := hok x hx
  have e0 : x.f0 = f := h0
  have e1 : x.f1 = t := h1
  subst e0 e1
  obtain ⟨h1, h2⟩ := en_new hok (v := x.f0) (w := x.f1) (by omega) (by omega)
  rw [if_neg hft] at h2
  refine ⟨⟨x.f0, x.f1, en (l.foldl upd (sq0 n)) x.f0 x.f1⟩, List.mem_map.2 ⟨⟨x.f0, x.f1, en (l.foldl upd (sq0 n)) x.f0 x.f1⟩, mem_arcsM.2 ⟨x.f0.toNat, List.mem_range.2 (by omega), x.f1.toNat, by omega, ?_⟩, rfl⟩, rfl, rfl⟩
  rw [Int.toNat_of_nonneg hr.1, Int.toNat_of_nonneg hr.2.2.1]
  refine ⟨fun e => hz ?_, rfl⟩
  rw [← h2, e]; rfl
theorem toR_ofR (x : S53) : toR (ofR x) = x := rfl
theorem ofR_toR (x : Ar) : ofR (toR x) = x := rfl
end Go.Proofs.Ytdchnaghmmhkhaa.Cs.Ai
