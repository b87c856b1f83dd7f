/- What level.Sort makes, plainly: kind by kind the first one. -/
import Derived.Test.YtkjddfmhledckaaLvC
set_option linter.unusedSimpArgs false
namespace Go.Proofs.Ytkjddfmhledckaa.Lv
open Go.Shelf Go.RowKit Go.Lib Go.Sort Go.Proofs.Ytkjddfmhledckaa.RowAt Go.Proofs.Ytkjddfmhledckaa.Stab
set_option linter.unusedSectionVars false
set_option linter.unusedVariables false

def blockOf (D : List Cel) (k : Nat) : List Cel := D.filter fun x : Cel => decide (x.f0 = ((k : Nat) : Int))
def kp (p : Int) : List Cel → List Cel
  | [] => []
  | y :: l => if y.f0 = p then kp p l else y :: kp y.f0 l
theorem keep_kp : ∀ (L : List Cel) (x : Cel), keep eqk x L = kp x.f0 L
  | [], x => rfl
  | y :: L, x => by
    unfold keep kp eqk
    by_cases h : y.f0 = x.f0
    · have hd : decide (y.f0 = x.f0) = true := decide_eq_true h
      have := keep_kp L y
      unfold eqk at this
      rw [hd, if_pos rfl, if_pos h, this, h]
    · have hd : decide (y.f0 = x.f0) = false := decide_eq_false h
      have := keep_kp L y
      unfold eqk at this
      rw [hd, if_neg h, this]; rfl
theorem cmpt_kp (L : List Cel) (h : ∀ x ∈ L, 1 ≤ x.f0) : cmpt eqk L = kp 0 L := by
  cases L with
  | nil => rfl
  | cons x L =>
    have := h x (by simp)
    show x :: keep eqk x L = if x.f0 = 0 then kp 0 L else x :: kp x.f0 L
    rw [if_neg (by omega), keep_kp]
theorem kp_block (k : Int) (R : List Cel) : ∀ B : List Cel, (∀ x ∈ B, x.f0 = k) → kp k (B ++ R) = kp k R
  | [], _ => rfl
  | b :: B, h => by
    rw [List.cons_append]
    unfold kp
    rw [if_pos (h b (by simp)), kp_block k R B (fun x hx => h x (by simp [hx]))]
    cases R <;> rfl
theorem kp_all (D : List Cel) : ∀ (n k : Nat) (p : Int), p < k → kp p ((List.range' k n).flatMap (blockOf D)) = (List.range' k n).filterMap fun k => D.find? fun x : Cel => decide (x.f0 = ((k : Nat) : Int))
  | 0, k, p, _ => rfl
  | n + 1, k, p, hp => by
    rw [List.range'_succ, List.flatMap_cons, List.filterMap_cons]
    have hB : ∀ x ∈ blockOf D k, x.f0 = k := fun x hx => by simpa using (List.mem_filter.1 hx).2
    have hh : (blockOf D k).head? = D.find? fun x : Cel => decide (x.f0 = ((k : Nat) : Int)) := by unfold blockOf; rw [List.head?_filter]
    cases hb : blockOf D k with
    | nil =>
      rw [hb] at hh
      rw [← hh]
      exact kp_all D n (k + 1) p (by omega)
    | cons b B =>
      rw [hb] at hh hB
      rw [← hh]
      have hbk := hB b (by simp)
      rw [List.cons_append]
      show (if b.f0 = p then _ else b :: kp b.f0 _) = b :: _
      rw [if_neg (by omega), hbk, kp_block (k : Int) _ B (fun x hx => hB x (by simp [hx])), kp_all D n (k + 1) k (by omega)]

theorem blocks_perm (D : List Cel) : ∀ n : Nat, ((List.range' 1 n).flatMap (blockOf D)).Perm (D.filter fun x : Cel => decide (1 ≤ x.f0 ∧ x.f0 ≤ (n : Int)))
  | 0 => by
    have : (D.filter fun x : Cel => decide (1 ≤ x.f0 ∧ x.f0 ≤ ((0 : Nat) : Int))) = [] := List.filter_eq_nil_iff.2 fun x _ => by simp; omega
    rw [this]; exact List.Perm.refl _
  | n + 1 => by
    rw [List.range'_concat, List.flatMap_append]
    have h1 := blocks_perm D n
    have h2 := List.filter_append_perm (fun x : Cel => decide (x.f0 ≤ (n : Int))) (D.filter fun x : Cel => decide (1 ≤ x.f0 ∧ x.f0 ≤ ((n + 1 : Nat) : Int)))
    rw [List.filter_filter, List.filter_filter] at h2
    have e1 : (D.filter fun x : Cel => decide (x.f0 ≤ (n : Int)) && decide (1 ≤ x.f0 ∧ x.f0 ≤ ((n + 1 : Nat) : Int))) = D.filter fun x : Cel => decide (1 ≤ x.f0 ∧ x.f0 ≤ (n : Int)) := List.filter_congr fun x _ => by
      rw [Bool.eq_iff_iff]; simp; omega
    have e2 : (D.filter fun x : Cel => (!decide (x.f0 ≤ (n : Int))) && decide (1 ≤ x.f0 ∧ x.f0 ≤ ((n + 1 : Nat) : Int))) = [1 + 1 * n].flatMap (blockOf D) := by
      rw [List.flatMap_singleton]
      exact List.filter_congr fun x _ => by rw [Bool.eq_iff_iff]; simp; omega
    rw [e1, e2] at h2
    exact (h1.append_right _).trans h2

theorem blocks_sd (D : List Cel) (ht : D.Pairwise fun x y => x.tag < y.tag) : ∀ n k : Nat, Sd (ltOf cf) Cel.tag ((List.range' k n).flatMap (blockOf D)) ∧ ∀ x ∈ (List.range' k n).flatMap (blockOf D), (k : Int) ≤ x.f0
  | 0, k => ⟨List.Pairwise.nil, fun x hx => by simp at hx⟩
  | n + 1, k => by
    obtain ⟨h1, h2⟩ := blocks_sd D ht n (k + 1)
    have hB : ∀ x ∈ blockOf D k, x.f0 = k := fun x hx => by simpa using (List.mem_filter.1 hx).2
    rw [List.range'_succ, List.flatMap_cons]
    refine ⟨List.pairwise_append.2 ⟨?_, h1, fun x hx y hy => ?_⟩, fun x hx => ?_⟩
    · refine (ht.filter _).imp_of_mem fun {x y} hx hy hxy => ?_
      have e1 := hB x hx
      have e2 := hB y hy
      unfold llt
      rw [ltof, ltof]
      simp; omega
    · have e1 := hB x hx
      have e2 := h2 y hy
      unfold llt
      rw [ltof, ltof]
      simp; omega
    · rcases List.mem_append.1 hx with hx | hx
      · rw [hB x hx]; exact Int.le_refl _
      · have := h2 x hx; omega

/-- THE PLAIN LAW. -/
theorem sorted_first {D r : List Cel} (ht : D.Pairwise fun x y => x.tag < y.tag) (h : Sorted D r) : r = (List.range' 1 11).filterMap fun k => D.find? fun x : Cel => decide (x.f0 = ((k : Nat) : Int)) := by
  obtain ⟨S, hp, hs, rfl⟩ := h
  have hg : (D.filter fun x => !bad x) = D.filter fun x : Cel => decide (1 ≤ x.f0 ∧ x.f0 ≤ ((11 : Nat) : Int)) := List.filter_congr fun x _ => by
    unfold bad; rw [Bool.eq_iff_iff]; simp
  rw [hg] at hp
  obtain ⟨h1, h2⟩ := blocks_sd D ht 11 1
  have heq : S = (List.range' 1 11).flatMap (blockOf D) := by
    refine List.Perm.eq_of_pairwise (le := fun x y => llt (ltOf cf) Cel.tag y x = false) ?_ hs h1 (hp.trans (blocks_perm D 11).symm)
    intro x y hx hy hxy hyx
    have mx : x ∈ D := (List.mem_filter.1 (hp.mem_iff.1 hx)).1
    have my : y ∈ D := (List.mem_filter.1 ((blocks_perm D 11).mem_iff.1 hy)).1
    unfold llt at hxy hyx
    rw [ltof, ltof] at hxy hyx
    simp at hxy hyx
    have htag : x.tag = y.tag := by omega
    obtain ⟨i, hi, rfl⟩ := List.getElem_of_mem mx
    obtain ⟨j, hj, rfl⟩ := List.getElem_of_mem my
    rcases Nat.lt_trichotomy i j with h | h | h
    · have := List.pairwise_iff_getElem.1 ht i j hi hj h; omega
    · subst h; rfl
    · have := List.pairwise_iff_getElem.1 ht j i hj hi h; omega
  subst heq
  rw [cmpt_kp _ (fun x hx => h2 x hx)]
  exact kp_all D 11 1 0 (by decide)
end Go.Proofs.Ytkjddfmhledckaa.Lv
