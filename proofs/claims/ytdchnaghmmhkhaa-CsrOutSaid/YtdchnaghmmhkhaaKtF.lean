/- CsRp CsOp CsI of this seat, one behind the other. -/
import Derived.Test.YtdchnaghmmhkhaaKtE
import Derived.Test.YtdchnaghmmhkhaaCsOutR
import Derived.Test.YtdchnaghmmhkhaaKtCsIAi
import Derived.Test.YtdchnaghmmhkhaaKtC
/- The reference's Arcs and Mask, plainly: they tell the one row of the arcs. -/
set_option linter.unusedSimpArgs false
namespace Go.Proofs.Ytdchnaghmmhkhaa.Cs.Ai
open Go.Shelf Go.RowKit Go.Lib Go.Proofs.Ytdchnaghmmhkhaa.PCsrGraphs Go.Proofs.YtdchnaghmmhkhaaW.PrintWords
set_option linter.unusedVariables false

/-- One row's arcs from a place on. -/
def rowM (M : List (List Int)) (v : Nat) (is : List Nat) : List S53 := is.filterMap fun (w : Nat) => if en M (v : Int) (w : Int) = 0 then none else some (⟨(v : Int), (w : Int), en M (v : Int) (w : Int)⟩ : S53)
def arcsM (n : Nat) (M : List (List Int)) (vs : List Nat) : List S53 := vs.flatMap fun v => rowM M v (List.range n)
theorem rowM_le (M : List (List Int)) (v : Nat) (is : List Nat) : (rowM M v is).length ≤ is.length := List.length_filterMap_le ..
theorem range_drop {n i : Nat} (h : i < n) : (List.range n).drop i = i :: (List.range n).drop (i + 1) := by
  rw [List.drop_eq_getElem_cons (by rw [List.length_range]; exact h), List.getElem_range]
theorem arcs_l1 (n : Nat) (M : List (List Int)) (hM : Sq n M) (hn : n ≤ 1024) (v : Nat) (hv : v < n) (K : Nat) : ∀ m i acc, n - i = m → i ≤ n → acc.length + m ≤ 2000000 → coronerref19_Arcs.l1 (m + 1 + K) acc v i n M = coronerref19_Arcs.l0 K (acc ++ rowM M v ((List.range n).drop i)) ((v + 1 : Nat) : Int) n M
  | 0, i, acc, hm, hi, ha => by
    have : i = n := by omega
    subst this
    rw [show 0 + 1 + K = K + 1 by omega, coronerref19_Arcs.l1, if_neg (by omega), List.drop_eq_nil_of_le (by rw [List.length_range]; exact Nat.le_refl _), up_w v (by omega)]
    rw [show rowM M v [] = [] from rfl, List.append_nil]
  | m + 1, i, acc, hm, hi, ha => by
    have hrow := hM.row (v := (v : Int)) (by omega) (by omega)
    rw [show m + 1 + 1 + K = (m + 1 + K) + 1 by omega, coronerref19_Arcs.l1, if_pos (by omega), if_pos (by omega), if_pos (by rw [hM.1]; omega), if_pos (by omega), if_pos (by rw [hrow]; omega), up_w i (by omega), range_drop (by omega : i < n)]
    have he : rd (rd_L3 M (v : Int)) (i : Int) = en M v i := rfl
    rw [he]
    unfold rowM
    rw [List.filterMap_cons]
    by_cases h0 : en M v i = 0
    · rw [if_pos h0, if_pos h0, arcs_l1 n M hM hn v hv K m (i + 1) acc (by omega) (by omega) (by omega)]
      rfl
    · rw [if_neg h0, if_neg h0, if_pos (by omega), arcs_l1 n M hM hn v hv K m (i + 1) _ (by omega) (by omega) (by simp; omega), List.append_assoc]
      rfl
theorem arcs_l0 (n : Nat) (M : List (List Int)) (hM : Sq n M) (hn : n ≤ 1024) : ∀ m v acc, n - v = m → v ≤ n → acc.length ≤ v * n → coronerref19_Arcs.l0 (m * (n + 2) + 1) acc v n M = some (acc ++ arcsM n M ((List.range n).drop v))
  | 0, v, acc, hm, hv, ha => by
    rw [show 0 * (n + 2) + 1 = 0 + 1 by omega, coronerref19_Arcs.l0, if_neg (by omega), List.drop_eq_nil_of_le (by rw [List.length_range]; omega)]
    rw [show arcsM n M [] = [] from rfl, List.append_nil]
  | m + 1, v, acc, hm, hv, ha => by
    have hb : v * n ≤ 1024 * 1024 := Nat.mul_le_mul (by omega) hn
    have hl := rowM_le M v (List.range n)
    rw [List.length_range] at hl
    rw [show (m + 1) * (n + 2) + 1 = (n + 1 + (m * (n + 2) + 1)) + 1 by rw [Nat.add_mul]; omega, coronerref19_Arcs.l0, if_pos (by omega)]
    have h1 := arcs_l1 n M hM hn v (by omega) (m * (n + 2) + 1) n 0 acc (by omega) (by omega) (by omega)
    rw [List.drop_zero] at h1
    refine h1.trans ?_
    rw [arcs_l0 n M hM hn m (v + 1) _ (by omega) (by omega) (by rw [List.length_append, Nat.add_mul]; omega), range_drop (by omega : v < n), List.append_assoc]
    rfl
theorem arcs_f (n : Nat) (M : List (List Int)) (hM : Sq n M) (hn : n ≤ 1024) : ∃ k, coronerref19_Arcs.f k n M = some (arcsM n M (List.range n)) := by
  refine ⟨n * (n + 2) + 1, ?_⟩
  have := arcs_l0 n M hM hn n 0 [] (by omega) (by omega) (by simp)
  rw [List.drop_zero, List.nil_append] at this
  exact this
theorem mem_rowM {M : List (List Int)} {v : Nat} {is : List Nat} {x : S53} : x ∈ rowM M v is ↔ ∃ w ∈ is, en M v w ≠ 0 ∧ x = ⟨(v : Int), (w : Int), en M v w⟩ := by
  unfold rowM
  rw [List.mem_filterMap]
  constructor
  · rintro ⟨w, hw, h⟩
    split at h
    · cases h
    · rename_i h0; exact ⟨w, hw, h0, (Option.some.inj h).symm⟩
  · rintro ⟨w, hw, h0, rfl⟩
    exact ⟨w, hw, by rw [if_neg h0]⟩
theorem mem_arcsM {n : Nat} {M : List (List Int)} {vs : List Nat} {x : S53} : x ∈ arcsM n M vs ↔ ∃ v ∈ vs, ∃ w, w < n ∧ en M v w ≠ 0 ∧ x = ⟨(v : Int), (w : Int), en M v w⟩ := by
  unfold arcsM
  rw [List.mem_flatMap]
  constructor
  · rintro ⟨v, hv, h⟩
    obtain ⟨w, hw, h⟩ := mem_rowM.1 h
    exact ⟨v, hv, w, List.mem_range.1 hw, h⟩
  · rintro ⟨v, hv, w, hw, h⟩
    exact ⟨v, hv, mem_rowM.2 ⟨w, List.mem_range.2 hw, h⟩⟩
theorem rowM_lx (M : List (List Int)) (v : Nat) (is : List Nat) (h : is.Pairwise (· < ·)) : ((rowM M v is).map ofR).Pairwise Lx := by
  rw [List.pairwise_map]
  unfold rowM
  rw [List.pairwise_filterMap]
  refine h.imp ?_
  intro a b hab x hx y hy
  split at hx
  · cases hx
  · split at hy
    · cases hy
    · cases hx; cases hy
      unfold Lx ofR
      right
      exact ⟨rfl, by show (a : Int) < (b : Int); omega⟩
theorem arcsM_lx (n : Nat) (M : List (List Int)) (vs : List Nat) (h : vs.Pairwise (· < ·)) : ((arcsM n M vs).map ofR).Pairwise Lx := by
  induction vs with
  | nil => exact List.Pairwise.nil
  | cons v vs ih =>
    rw [List.pairwise_cons] at h
    have e : arcsM n M (v :: vs) = rowM M v (List.range n) ++ arcsM n M vs := rfl
    rw [e, List.map_append, List.pairwise_append]
    refine ⟨rowM_lx M v _ List.pairwise_lt_range, ih h.2, ?_⟩
    intro x hx y hy
    obtain ⟨x', hx', rfl⟩ := List.mem_map.1 hx
    obtain ⟨y', hy', rfl⟩ := List.mem_map.1 hy
    obtain ⟨w, _, _, rfl⟩ := mem_rowM.1 hx'
    obtain ⟨v2, hv2, w2, _, _, rfl⟩ := mem_arcsM.1 hy'
    have := h.1 v2 hv2
    unfold Lx ofR
    left
    show (v : Int) < (v2 : Int)
    omega
/-- Entries of the square. -/
theorem en_new {n : Nat} {l : List S53} (hok : ∀ x ∈ l, 0 ≤ x.f0 ∧ x.f0 < n ∧ 0 ≤ x.f1 ∧ x.f1 < n) {v w : Int} (hv : 0 ≤ v) (hw : 0 ≤ w) : Rg (en (l.foldl upd (sq0 n)) v w) ∧ B (en (l.foldl upd (sq0 n)) v w) = if v = w then 0 else mk (l.map ofR) v w := by
  have hz : Rg (en (sq0 n) v w) := by rw [en_sq0]; unfold Rg; kernel_rfl
  obtain ⟨h1, h2⟩ := en_fold n hv hw l (sq0 n) hok (sq0_sq n) hz
  refine ⟨h1, ?_⟩
  rw [h2, en_sq0, show B 0 = 0 from rfl]
  exact BitVec.or_zero
theorem sq_new {n : Nat} : ∀ (l : List S53) (M : List (List Int)), (∀ x ∈ l, 0 ≤ x.f0 ∧ x.f0 < n ∧ 0 ≤ x.f1 ∧ x.f1 < n) → Sq n M → Sq n (l.foldl upd M)
  | [], M, _, h => h
  | x :: l, M, hok, h => sq_new l (upd M x) (fun y hy => hok y (by simp [hy])) (h.upd (hok x (by simp)).1 (hok x (by simp)).2.1)
theorem arcs_is {n : Nat} {l : List S53} (hok : ∀ x ∈ l, 0 ≤ x.f0 ∧ x.f0 < n ∧ 0 ≤ x.f1 ∧ x.f1 < n) : Is (l.map ofR) ((arcsM n (l.foldl upd (sq0 n)) (List.range n)).map ofR) := by
  refine ⟨arcsM_lx n _ _ List.pairwise_lt_range, fun b hb => ?_, fun f t hft hz => ?_⟩
  · obtain ⟨x, hx, rfl⟩ := List.mem_map.1 hb
    obtain ⟨v, _, w, _, h0, rfl⟩ := mem_arcsM.1 hx
    obtain ⟨h1, h2⟩ := en_new hok (v := (v : Int)) (w := (w : Int)) (by omega) (by omega)
    refine ⟨h1, h0, ?_, ?_⟩
    · intro e
      have e' : (v : Int) = (w : Int) := e
      rw [if_pos e'] at h2
      exact h0 ((B_zero h1).1 h2)
    · have hvw : ¬ (v : Int) = (w : Int) := fun e => by
        rw [if_pos e] at h2
        exact h0 ((B_zero h1).1 h2)
      rw [if_neg hvw] at h2
      exact h2
  · obtain ⟨b, hb, h0, h1⟩ := mk_some hz
    obtain ⟨x, hx, rfl⟩ := List.mem_map.1 hb
    have hr := hok x hx
    have e0 : x.f0 = f := h0
    have e1 : x.f1 = t := h1
    subst e0 e1
    obtain ⟨h1, h2⟩ := en_new hok (v := x.f0) (w := x.f1) (by omega) (by omega)
    rw [if_neg hft] at h2
    refine ⟨⟨x.f0, x.f1, en (l.foldl upd (sq0 n)) x.f0 x.f1⟩, List.mem_map.2 ⟨⟨x.f0, x.f1, en (l.foldl upd (sq0 n)) x.f0 x.f1⟩, mem_arcsM.2 ⟨x.f0.toNat, List.mem_range.2 (by omega), x.f1.toNat, by omega, ?_⟩, rfl⟩, rfl, rfl⟩
    rw [Int.toNat_of_nonneg hr.1, Int.toNat_of_nonneg hr.2.2.1]
    refine ⟨fun e => hz ?_, rfl⟩
    rw [← h2, e]; rfl
theorem toR_ofR (x : S53) : toR (ofR x) = x := rfl
theorem ofR_toR (x : Ar) : ofR (toR x) = x := rfl
/-- The reference's arcs are the graph's. -/
theorem arcs_eq {n : Nat} {l : List S53} {r : List Ar} (hok : ∀ x ∈ l, 0 ≤ x.f0 ∧ x.f0 < n ∧ 0 ≤ x.f1 ∧ x.f1 < n) (h : Is (l.map ofR) r) : arcsM n (l.foldl upd (sq0 n)) (List.range n) = r.map toR := by
  rw [h.uniq (arcs_is hok), List.map_map]
  symm
  have : toR ∘ ofR = id := funext toR_ofR
  rw [this, List.map_id]
theorem mask_eq {n : Nat} {l : List S53} {r : List Ar} (hok : ∀ x ∈ l, 0 ≤ x.f0 ∧ x.f0 < n ∧ 0 ≤ x.f1 ∧ x.f1 < n) (h : GD n (l.map ofR) r) (v t : Int) : coronerref19_Mask.f n (l.foldl upd (sq0 n)) v t = some (lookV n r v t) := by
  have hS := sq_new l (sq0 n) hok (sq0_sq n)
  unfold coronerref19_Mask.f
  by_cases h1 : v < 0
  · rw [if_pos h1]; unfold lookV; rw [if_neg (by omega)]
  · rw [if_neg h1]
    by_cases h2 : v ≥ (n : Int)
    · rw [if_pos h2]; unfold lookV; rw [if_neg (by omega)]
    · rw [if_neg h2]
      by_cases h3 : t < 0
      · rw [if_pos h3, lookV_off h.rng (by omega)]
      · rw [if_neg h3]
        by_cases h4 : t ≥ (n : Int)
        · rw [if_pos h4, lookV_off h.rng (by omega)]
        · rw [if_neg h4, if_pos (by omega), if_pos (by rw [hS.1]; omega), if_pos (by omega), if_pos (by rw [hS.row (by omega) (by omega)]; omega)]
          obtain ⟨a1, a2⟩ := en_new hok (v := v) (w := t) (by omega) (by omega)
          obtain ⟨b1, b2⟩ := look_is h.is v.toNat t
          rw [Int.toNat_of_nonneg (by omega)] at b2
          congr 1
          unfold lookV
          rw [if_pos (by omega)]
          exact B_inj a1 b1 (a2.trans b2.symm)
end Go.Proofs.Ytdchnaghmmhkhaa.Cs.Ai

/- The reference's Out, and the sameness of lists, plainly. -/
set_option linter.unusedSimpArgs false
namespace Go.Proofs.Ytdchnaghmmhkhaa.Cs.Ai
open Go.Shelf Go.RowKit Go.Lib Go.Proofs.Ytdchnaghmmhkhaa.PCsrGraphs Go.Proofs.YtdchnaghmmhkhaaW.PrintWords
set_option linter.unusedVariables false

/-- The arcs from v, or none. -/
def rowV (n : Nat) (r : List Ar) (v : Int) : List Ar := if 0 ≤ v ∧ v < n then rowW r v.toNat else []
theorem rowV_mem {n : Nat} {r : List Ar} {v : Int} {a : Ar} (h : a ∈ rowV n r v) : a ∈ r := by
  unfold rowV at h
  split at h
  · unfold rowW at h; exact List.mem_of_mem_drop (List.mem_of_mem_take h)
  · cases h
theorem rowV_rising {n : Nat} {r : List Ar} (h : r.Pairwise Lx) (v : Int) : Rising (rowV n r v) := by
  unfold rowV
  split
  · exact rowW_rising h _
  · intro i j a b _ ha; cases ha
theorem lookV_eq (n : Nat) (r : List Ar) (v t : Int) : lookV n r v t = lookD (rowV n r v) t := by
  unfold lookV rowV
  split
  · rfl
  · rfl
theorem rising_pw {D : List Ar} (h : Rising D) : (D.map (·.f1)).Pairwise (· < ·) := by
  rw [List.pairwise_map, List.pairwise_iff_getElem]
  intro i j hi hj hij
  exact h i j _ _ hij (List.getElem?_eq_getElem hi) (List.getElem?_eq_getElem hj)
theorem look_mem {D : List Ar} (h : Rising D) {a : Ar} (ha : a ∈ D) : lookD D a.f1 = a.f2 := by
  obtain ⟨k, hk⟩ := List.getElem?_of_mem ha
  exact lookD_at h hk rfl
theorem flt_mem {m : Int} {D : List Ar} {a : Ar} : a ∈ flt m D ↔ a ∈ D ∧ Go.bits .and .i64 a.f2 m ≠ 0 := by
  unfold flt
  rw [List.mem_filter, bne_iff_ne]
theorem and_zero (m : Int) : Go.bits .and .i64 0 m = 0 := by
  have e : Go.bits .and .i64 0 m = IntKind.i64.wrap (((B 0 &&& B m).toNat : Nat) : Int) := rfl
  rw [e, show B 0 = 0 from rfl, show (0 : BV) &&& B m = 0 from BitVec.zero_and]
  rfl
/-- The vertices to which arcs of a mask lead. -/
def outs (n : Nat) (r : List Ar) (v m : Int) (is : List Nat) : List Int := (is.filter fun (w : Nat) => Go.bits .and .i64 (lookV n r v (w : Int)) m != 0).map fun (w : Nat) => (w : Int)
theorem out_l0 (n : Nat) (M : List (List Int)) (r : List Ar) (v m : Int) (hn : n ≤ 1024) (hM : ∀ t : Int, coronerref19_Mask.f n M v t = some (lookV n r v t)) : ∀ d i acc, n - i = d → i ≤ n → acc.length ≤ i → coronerref19_Out.l0 (d + 1) v m acc i n M = some (acc ++ outs n r v m ((List.range n).drop i))
  | 0, i, acc, hd, hi, ha => by
    rw [coronerref19_Out.l0, if_neg (by omega), List.drop_eq_nil_of_le (by rw [List.length_range]; omega)]
    rw [show outs n r v m [] = [] from rfl, List.append_nil]
  | d + 1, i, acc, hd, hi, ha => by
    rw [coronerref19_Out.l0, if_pos (by omega), hM, Option.bind_some, up_w i (by omega), range_drop (by omega : i < n)]
    have e : outs n r v m (i :: (List.range n).drop (i + 1)) = (if Go.bits .and .i64 (lookV n r v (i : Int)) m ≠ 0 then [(i : Int)] else []) ++ outs n r v m ((List.range n).drop (i + 1)) := by
      unfold outs
      rw [List.filter_cons]
      by_cases h : Go.bits .and .i64 (lookV n r v (i : Int)) m = 0
      · rw [if_neg (by simp [h]), if_neg (by simp [h])]; rfl
      · rw [if_pos (by simp [h]), if_pos h]; rfl
    rw [e]
    by_cases h : Go.bits .and .i64 (lookV n r v (i : Int)) m = 0
    · rw [if_pos h, if_neg (by simp [h]), List.nil_append]
      exact out_l0 n M r v m hn hM d (i + 1) acc (by omega) (by omega) (by omega)
    · rw [if_neg h, if_pos h, if_pos (by omega), ← List.append_assoc]
      exact out_l0 n M r v m hn hM d (i + 1) _ (by omega) (by omega) (by simp; omega)
theorem outs_eq {n : Nat} {D r : List Ar} (h : GD n D r) (v m : Int) : outs n r v m (List.range n) = (flt m (rowV n r v)).map (·.f1) := by
  have hris := rowV_rising (n := n) h.is.1 v
  have p1 : (outs n r v m (List.range n)).Pairwise (· < ·) := by
    unfold outs
    rw [List.pairwise_map]
    exact (List.Pairwise.filter _ List.pairwise_lt_range).imp fun {a b} hab => by omega
  have p2 : ((flt m (rowV n r v)).map (·.f1)).Pairwise (· < ·) := by
    have := rising_pw hris
    rw [List.pairwise_map] at this ⊢
    exact List.Pairwise.filter _ this
  refine List.Perm.eq_of_pairwise (le := (· < ·)) (fun a b _ _ h1 h2 => by omega) p1 p2 ((List.perm_ext_iff_of_nodup (p1.imp fun {a b} hab => by omega) (p2.imp fun {a b} hab => by omega)).2 fun x => ⟨fun hx => ?_, fun hx => ?_⟩)
  · unfold outs at hx
    obtain ⟨w, hw, rfl⟩ := List.mem_map.1 hx
    obtain ⟨_, hw2⟩ := List.mem_filter.1 hw
    rw [bne_iff_ne, lookV_eq] at hw2
    rcases Classical.em (∃ a ∈ rowV n r v, a.f1 = (w : Int)) with ⟨a, ha, e⟩ | hne
    · rw [← e, look_mem hris ha] at hw2
      exact List.mem_map.2 ⟨a, flt_mem.2 ⟨ha, hw2⟩, e⟩
    · rw [lookD_none (fun a ha e => hne ⟨a, ha, e⟩), and_zero] at hw2
      exact absurd rfl hw2
  · obtain ⟨a, ha, rfl⟩ := List.mem_map.1 hx
    obtain ⟨h1, h2⟩ := flt_mem.1 ha
    have hr := (h.rng a (rowV_mem h1)).2
    unfold outs
    refine List.mem_map.2 ⟨a.f1.toNat, List.mem_filter.2 ⟨List.mem_range.2 (by omega), ?_⟩, Int.toNat_of_nonneg hr.1⟩
    rw [Int.toNat_of_nonneg hr.1, bne_iff_ne, lookV_eq, look_mem hris h1]
    exact h2
theorem out_f {n : Nat} {l : List S53} {r : List Ar} (hn : n ≤ 1024) (hok : ∀ x ∈ l, 0 ≤ x.f0 ∧ x.f0 < n ∧ 0 ≤ x.f1 ∧ x.f1 < n) (h : GD n (l.map ofR) r) (v m : Int) : coronerref19_Out.f (n + 1) n (l.foldl upd (sq0 n)) v m = some ((flt m (rowV n r v)).map (·.f1)) := by
  have := out_l0 n (l.foldl upd (sq0 n)) r v m hn (fun t => mask_eq hok h v t) n 0 [] (by omega) (by omega) (by simp)
  rw [List.drop_zero, List.nil_append, outs_eq h] at this
  exact this
theorem rdi_at {l : List Int} {i : Nat} {x : Int} (h : l[i]? = some x) : rd l (i : Int) = x := by
  unfold rd
  rw [Int.toNat_natCast, List.getD_eq_getElem?_getD, h]; rfl
theorem sameI_l0 (l : List Int) (hl : l.length ≤ 5000000000000) : ∀ d i, l.length - i = d → i ≤ l.length → coronerref01_Same.l0 (d + 1) l l i = some true
  | 0, i, hm, hi => by
    rw [coronerref01_Same.l0, if_neg (by omega)]
  | d + 1, i, hm, hi => by
    rw [coronerref01_Same.l0, if_pos (by omega), if_pos (by omega), if_pos (by omega), if_pos rfl, up_w i (by omega)]
    exact sameI_l0 l hl d (i + 1) (by omega) (by omega)
theorem sameI_f (l : List Int) (hl : l.length ≤ 5000000000000) : coronerref01_Same.f (l.length + 1) l l = some true := by
  unfold coronerref01_Same.f
  rw [if_pos rfl]
  exact sameI_l0 l hl l.length 0 (by omega) (by omega)
end Go.Proofs.Ytdchnaghmmhkhaa.Cs.Ai

/- A row of numbers that a range over a function builds, in a variable's block. -/
set_option linter.unusedSimpArgs false
namespace Go.Proofs.Ytdchnaghmmhkhaa.Cs.Ai
open Go.Shelf Go.RowKit Go.Lib Go.Sort Go.Proofs.Ytdchnaghmmhkhaa.RowAt Go.Proofs.Ytdchnaghmmhkhaa.Stab Go.Proofs.Ytdchnaghmmhkhaa.Stab.Ai Go.Proofs.Ytdchnaghmmhkhaa.PCsrGraphs Go.Proofs.YtdchnaghmmhkhaaW.PrintWords
set_option linter.unusedSectionVars false
set_option linter.unusedVariables false
attribute [local go_sem] Oper.semAt_some

/-- The variable's block is w's next; behind it are the range's two. -/
def IJ (w : World) (xs : List Int) (A : Option Addr) (c : Nat) (W : World) : Prop :=
  Below w.heap.size w W ∧ w.heap.size + 3 ≤ W.heap.size ∧ Blk W w.heap.size [.slice A xs.length c] 46 ∧ W.ownsRow (w.heap.size + 3) 3 1 (.slice A xs.length c) xs.length (xs.map (Value.int .i64))
theorem IJ.below {w W W' : World} {xs : List Int} {A : Option Addr} {c : Nat} (h : IJ w xs A c W) (hb : Below W.heap.size W W') : IJ w xs A c W' :=
  ⟨h.1.trans (hb.mono h.1.size), Nat.le_trans h.2.1 hb.size, h.2.2.1.below hb h.2.2.1.lt, own_below h.2.2.2 hb⟩
theorem IJ.put {w W : World} {xs : List Int} {A : Option Addr} {c i : Nat} {o : Obj} (h : IJ w xs A c W) (hi : w.heap.size < i) (hi2 : i < w.heap.size + 3) : IJ w xs A c (W.putObj i o) := by
  have hne : ∀ j, j ≠ i → (W.putObj i o).heap[j]? = W.heap[j]? := fun j hj => World.putObj_heap_other hj
  refine ⟨h.1.trans ⟨rfl, rfl, rfl, by simp, fun j hj => hne j (by omega)⟩, by have := h.2.1; simpa using this, (hne _ (by omega)).trans h.2.2.1, own_mv h.2.2.2 fun q hq => hne q ?_⟩
  have := (World.ownsRow.lt h.2.2.2 q hq).1
  omega
theorem IJ.start (w : World) (o o' : Obj) : IJ w [] none 0 (((w.alloc (.cells #[.slice none 0 0] 46)).alloc o).alloc o') :=
  ⟨(((Below.refl _ w).alloc (Nat.le_refl _) _).alloc (by simp) _).alloc (by simp; omega) _, by simp, ((Blk.new w [.slice none 0 0] _).alloc o).alloc o', World.ownsRow_nil _ _ _ _⟩
theorem IJ.step {w W W1 : World} {xs : List Int} {z : Int} {A A1 : Option Addr} {c c1 : Nat} (h : IJ w xs A c W)
    (ho1 : W1.ownsRow (w.heap.size + 3) 3 1 (.slice A1 (xs.length + 1) c1) (xs.length + 1) (xs.map (Value.int .i64) ++ [.int .i64 z])) (hb1 : Below (w.heap.size + 3) W W1) :
    IJ w (xs ++ [z]) A1 c1 (W1.setCell ⟨w.heap.size, 0, none⟩ (.slice A1 (xs.length + 1) c1)) := by
  have e1 : (xs ++ [z]).length = xs.length + 1 := by simp
  unfold IJ
  rw [e1, List.map_append]
  refine ⟨(h.1.trans (hb1.mono (by omega))).setCell (p := ⟨w.heap.size, 0, none⟩) (Nat.le_refl _) _, ?_, (h.2.2.1.below hb1 (by omega)).set 0 _, ownsRow_setCell_below ho1 (by show w.heap.size < w.heap.size + 3; omega) _⟩
  rw [World.size_setCell]
  exact Nat.le_trans h.2.1 hb1.size
theorem app_int {F : Fence} {n : Nat} (W : World) {ops : Array Oper} {rest : List Oper} {op : Oper} {a : Act} {Q : Exit → Act → World → Prop} (base : Nat) (s x : Operand) (hgd : op.guard = none)
    (ho : op.op = .call { callee := .builtin .append, args := #[s, x], argTypes := #[46, 46] })
    (A : Option Addr) (m c : Nat) (xs : List Value) (z : Int) (hs : a.eval s = .slice A m c) (hx : a.eval x = .slice (some ⟨W.heap.size, 0, none⟩) 1 1)
    (HO : W.ownsRow base 3 1 (.slice A m c) m xs) (hbase : base ≤ W.heap.size) (hl : (m + 1) * 8 ≤ 140737488355328)
    (h : ∀ A1 c1 w1, w1.ownsRow base 3 1 (.slice A1 (m + 1) c1) (m + 1) (xs ++ [.int .i64 z]) → Below base W w1 → wpListIn F n Try.prog ops Q rest (a.put op.dst (.slice A1 (m + 1) c1)) w1) :
    wpListIn F n Try.prog ops Q (op :: rest) a (W.alloc (.cells #[.int .i64 z] 3)) := by
  refine wplin_appK (w0 := W) base hgd s x 46 3 (.int .i64 0) 1 8 ho Try.underlying46 int_info rfl (by decide) (by decide) (.slice A m c) xs [.int .i64 z] (some ⟨W.heap.size, 0, none⟩) m 1 1 hs hx rfl (HO.alloc _) (Cells.new W [.int .i64 z] 3) (by intro u hu; rw [List.mem_singleton] at hu; subst hu; rfl) ((Below.refl base W).alloc hbase _) (by rw [World.size_alloc]; omega) hl ?_
  intro A1 c1 w1 h1 h2 _ _ _
  exact h A1 c1 w1 h1 h2
/-- What row hands back, wherever it is asked, told by the vertex. -/
theorem rowAt_any (n : Nat) (r : List Ar) (b ga ca : Nat) (A : Option Addr) (c : Nat) (v : Int) (w : World) (h : GrA w b ga ca A c n r) (hn : n ≤ 1024) (hr : r.length * 24 ≤ 140737488355328) :
    RowAt w (.pointer (some ⟨b, 0, none⟩)) v (if 0 ≤ v ∧ v < n then rAd A c (cnt r v.toNat) else none) (if 0 ≤ v ∧ v < n then rowW r v.toNat else []) := by
  by_cases hv : 0 ≤ v ∧ v < n
  · rw [if_pos hv, if_pos hv]
    have := row_in n r b ga ca A c v.toNat w h hn hr (by omega)
    rw [Int.toNat_of_nonneg hv.1] at this
    exact this
  · rw [if_neg hv, if_neg hv]
    exact RowAt.none (row_out n r _ v w h.gr hn hv)
end Go.Proofs.Ytdchnaghmmhkhaa.Cs.Ai
