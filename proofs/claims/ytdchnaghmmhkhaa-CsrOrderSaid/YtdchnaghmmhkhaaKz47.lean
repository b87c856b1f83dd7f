/- Printed by shake.py. -/
import Derived.Test.YtdchnaghmmhkhaaKz46
import Derived.Laws.BitsLemmas
import Derived.Test.YtdchnaghmmhkhaaKz39
set_option linter.unusedSimpArgs false
namespace Go.Proofs.Ytdchnaghmmhkhaa.Cs.Au
open Go.Shelf Go.RowKit Go.Lib Go.Sort Go.Proofs.Ytdchnaghmmhkhaa.RowAt Go.Proofs.Ytdchnaghmmhkhaa.Stab Go.Proofs.Ytdchnaghmmhkhaa.Stab.Au Go.Proofs.Ytdchnaghmmhkhaa.PCsrGraphs Go.Proofs.YtdchnaghmmhkhaaW.PrintWords
set_option linter.unusedSectionVars false
set_option linter.unusedVariables false
abbrev BV := BitVec 8
def B (x : Int) : BV := BitVec.ofInt 8 x
def Rg (x : Int) : Prop := IntKind.u8.wrap x = x
theorem wrap_rg (x : Int) : Rg (IntKind.u8.wrap x) := by unfold Rg; rw [IntKind.wrap_u8, IntKind.wrap_u8]; omega
theorem B_wrap (x : Int) : B (IntKind.u8.wrap x) = B x := by
 unfold B
 apply BitVec.eq_of_toNat_eq
 rw [BitVec.toNat_ofInt, BitVec.toNat_ofInt, IntKind.wrap_u8]
 simp only [Nat.reducePow, Int.reducePow]
 omega
theorem B_zero {x : Int} (h : Rg x) : B x = 0 ↔ x = 0 := by
 unfold Rg at h
 rw [IntKind.wrap_u8] at h
 constructor
 ·intro e
  have := congrArg BitVec.toNat e
  unfold B at this
  rw [BitVec.toNat_ofInt] at this
  simp only [Nat.reducePow, Int.reducePow, BitVec.toNat_zero, BitVec.ofNat_eq_ofNat, BitVec.toNat_ofNat] at this
  omega
 ·intro e; subst e; rfl
theorem B_inj {x y : Int} (hx : Rg x) (hy : Rg y) (h : B x = B y) : x = y := by
 unfold Rg at hx hy
 rw [IntKind.wrap_u8] at hx hy
 have := congrArg BitVec.toNat h
 unfold B at this
 rw [BitVec.toNat_ofInt, BitVec.toNat_ofInt] at this
 simp only [Nat.reducePow, Int.reducePow] at this
 omega
theorem or_rg (x y : Int) : Rg (Go.bits .or .u8 x y) := wrap_rg _
theorem B_or (x y : Int) : B (Go.bits .or .u8 x y) = B x ||| B y := by
 have e : Go.bits .or .u8 x y = IntKind.u8.wrap (((B x ||| B y).toNat : Nat) : Int) := rfl
 rw [e, B_wrap]
 generalize B x ||| B y = z
 unfold B
 rw [BitVec.ofInt_natCast, BitVec.ofNat_toNat, BitVec.setWidth_eq]
def mk (D : List Ar) (f t : Int) : BV := D.foldr (fun a m => if a.f0 = f ∧ a.f1 = t then B a.f2 ||| m else m) 0
theorem mk_cons (a : Ar) (D : List Ar) (f t : Int) : mk (a :: D) f t = if a.f0 = f ∧ a.f1 = t then B a.f2 ||| mk D f t else mk D f t := rfl
theorem mk_append (P Q : List Ar) (f t : Int) : mk (P ++ Q) f t = mk P f t ||| mk Q f t := by
 induction P with
 | nil => exact (BitVec.zero_or).symm
 | cons a P ih =>
  rw [List.cons_append, mk_cons, mk_cons, ih]
  split
  ·rw [BitVec.or_assoc]
  ·rfl
theorem mk_perm {P Q : List Ar} (h : P.Perm Q) (f t : Int) : mk P f t = mk Q f t := by
 induction h with
 | nil => rfl
 | cons a _ ih => rw [mk_cons, mk_cons, ih]
 | swap a b l =>
  simp only [mk_cons]
  split <;> split <;> first | rfl | (rw [← BitVec.or_assoc, ← BitVec.or_assoc, BitVec.or_comm (B _) (B _)])
 | trans _ _ h1 h2 => rw [h1, h2]
def Lx (a b : Ar) : Prop := a.f0 < b.f0 ∨ (a.f0 = b.f0 ∧ a.f1 < b.f1)
theorem Lx.trans {a b c : Ar} (h : Lx a b) (k : Lx b c) : Lx a c := by unfold Lx at *; omega
end Go.Proofs.Ytdchnaghmmhkhaa.Cs.Au
set_option linter.unusedSimpArgs false
namespace Go.Proofs.Ytdchnaghmmhkhaa.Cs.Au
open Go.Shelf Go.RowKit Go.Lib Go.Sort Go.Proofs.Ytdchnaghmmhkhaa.RowAt Go.Proofs.Ytdchnaghmmhkhaa.Stab Go.Proofs.Ytdchnaghmmhkhaa.Stab.Au Go.Proofs.Ytdchnaghmmhkhaa.PCsrGraphs Go.Proofs.YtdchnaghmmhkhaaW.PrintWords
set_option linter.unusedSectionVars false
set_option linter.unusedVariables false
theorem mk_none {D : List Ar} {f t : Int} (h : ∀ a ∈ D, ¬ (a.f0 = f ∧ a.f1 = t)) : mk D f t = 0 := by
 induction D with
 | nil => rfl
 | cons a D ih => rw [mk_cons, if_neg (h a (by simp))]; exact ih fun x hx => h x (by simp [hx])
theorem mk_uniq {r : List Ar} (h : r.Pairwise Lx) {b : Ar} (hb : b ∈ r) : mk r b.f0 b.f1 = B b.f2 := by
 induction r with
 | nil => cases hb
 | cons x r ih =>
  rw [List.pairwise_cons] at h
  rcases List.mem_cons.1 hb with rfl | hb
  ·rw [mk_cons, if_pos ⟨rfl, rfl⟩, mk_none (fun a ha e => by have := h.1 a ha; unfold Lx at this; omega)]
   exact BitVec.or_zero
  ·have hx := h.1 b hb
   rw [mk_cons, if_neg (fun e => by unfold Lx at hx; omega)]
   exact ih h.2 hb
theorem mk_some {r : List Ar} {f t : Int} (h : mk r f t ≠ 0) : ∃ b ∈ r, b.f0 = f ∧ b.f1 = t := by
 rcases Classical.em (∃ b ∈ r, b.f0 = f ∧ b.f1 = t) with hh | hh
 ·exact hh
 ·exact absurd (mk_none fun a ha e => hh ⟨a, ha, e⟩) h
def Gd (l out : List Ar) : Prop := out.Pairwise Lx ∧ (∀ f t, mk out f t = mk l f t) ∧ (∀ b ∈ out, Rg b.f2 ∧ B b.f2 ≠ 0) ∧ ((l = [] ∧ out = []) ∨ ∃ P b Q y, out = P ++ [b] ∧ l = Q ++ [y] ∧ b.f0 = y.f0 ∧ b.f1 = y.f1)
theorem or_ne {x y : BV} (h : x ≠ 0) : x ||| y ≠ 0 := fun e => h (by
 have e2 : x ||| (x ||| y) = x ||| 0 := by rw [e]
 rw [← BitVec.or_assoc, BitVec.or_self, e] at e2
 rw [e2]
 exact BitVec.or_zero.symm ▸ rfl)
theorem Gd.step {l out : List Ar} {a : Ar} (h : Gd l out) (hr : Rg a.f2) (hz : B a.f2 ≠ 0) (hs : ∀ Q y, l = Q ++ [y] → ¬ Lx a y) : Gd (l ++ [a]) (put out a) := by
 obtain ⟨h1, h2, h3, h4⟩ := h
 rcases h4 with ⟨rfl, rfl⟩ | ⟨P, b, Q, y, rfl, rfl, e0, e1⟩
 ·rw [put_nil]
  exact ⟨List.pairwise_singleton _ _, fun f t => rfl, fun b hb => by rw [List.mem_singleton] at hb; subst hb; exact ⟨hr, hz⟩, .inr ⟨[], a, [], a, rfl, rfl, rfl, rfl⟩⟩
 ·rw [put_snoc]
  rw [List.pairwise_append] at h1
  have hn := hs Q y rfl
  by_cases hc : cA b a = 0
  ·rw [if_pos hc]
   obtain ⟨k0, k1⟩ := cA_zero.1 hc
   refine ⟨List.pairwise_append.2 ⟨h1.1, List.pairwise_singleton _ _, fun x hx z hz2 => ?_⟩, fun f t => ?_, fun z hz2 => ?_, .inr ⟨P, _, Q ++ [y], a, rfl, rfl, k0, k1⟩⟩
   ·rw [List.mem_singleton] at hz2
    subst hz2
    exact h1.2.2 x hx b (by simp)
   ·rw [mk_append (Q ++ [y]) [a], ← h2 f t, mk_append, mk_append, BitVec.or_assoc]
    congr 1
    simp only [mk, List.foldr_cons, List.foldr_nil]
    by_cases hk : b.f0 = f ∧ b.f1 = t
    ·rw [if_pos hk, if_pos hk, if_pos ⟨by omega, by omega⟩, B_or]
     simp only [BitVec.ofNat_eq_ofNat, BitVec.or_zero]
    ·rw [if_neg hk, if_neg hk, if_neg (fun e => hk ⟨by omega, by omega⟩)]
     simp
   ·rcases List.mem_append.1 hz2 with hz2 | hz2
    ·exact h3 z (List.mem_append_left _ hz2)
    ·rw [List.mem_singleton] at hz2
     subst hz2
     exact ⟨or_rg _ _, by show B (Go.bits .or .u8 b.f2 a.f2) ≠ 0; rw [B_or]; exact or_ne (h3 b (by simp)).2⟩
  ·rw [if_neg hc]
   have hba : Lx b a := by
    have : ¬ (b.f0 = a.f0 ∧ b.f1 = a.f1) := fun e => hc (cA_zero.2 e)
    unfold Lx at *; omega
   refine ⟨List.pairwise_append.2 ⟨List.pairwise_append.2 h1, List.pairwise_singleton _ _, fun x hx z hz2 => ?_⟩, fun f t => ?_, fun z hz2 => ?_, .inr ⟨P ++ [b], a, Q ++ [y], a, rfl, rfl, rfl, rfl⟩⟩
   ·rw [List.mem_singleton] at hz2
    subst hz2
    rcases List.mem_append.1 hx with hx | hx
    ·exact (h1.2.2 x hx b (by simp)).trans hba
    ·rw [List.mem_singleton] at hx; subst hx; exact hba
   ·rw [mk_append (Q ++ [y]) [a], mk_append (P ++ [b]) [a], h2 f t]
   ·rcases List.mem_append.1 hz2 with hz2 | hz2
    ·exact h3 z hz2
    ·rw [List.mem_singleton] at hz2; subst hz2; exact ⟨hr, hz⟩
theorem fold_gd : ∀ n, ∀ l : List Ar, l.length = n → l.Pairwise (fun x y => ¬ Lx y x) → (∀ a ∈ l, Rg a.f2 ∧ B a.f2 ≠ 0) → Gd l (l.foldl put []) := by
 intro n
 induction n with
 | zero => intro l hl _ _; rw [List.eq_nil_of_length_eq_zero hl]; exact ⟨List.Pairwise.nil, fun _ _ => rfl, fun b hb => (by cases hb), .inl ⟨rfl, rfl⟩⟩
 | succ n ih =>
  intro l hl hp hr
  rcases List.eq_nil_or_concat l with rfl | ⟨L, a, rfl⟩
  ·cases hl
  ·rw [List.concat_eq_append] at *
   rw [List.pairwise_append] at hp
   rw [List.foldl_append]
   refine (ih L (by simpa using hl) hp.1 (fun x hx => hr x (by simp [hx]))).step (hr a (by simp)).1 (hr a (by simp)).2 fun Q y e => ?_
   exact hp.2.2 y (by rw [e]; simp) a (by simp)
def good (a : Ar) : Bool := !decide (a.f0 = a.f1 ∨ a.f2 = 0)
theorem zip_good (D : List Ar) : ((D.zipIdx.filter fun x => !bad x).map Prod.fst) = D.filter good := by
 have h : ∀ (D : List Ar) (n : Nat), ((D.zipIdx n).filter fun x => !bad x).map Prod.fst = D.filter good := by
  intro D
  induction D with
  | nil => intro n; rfl
  | cons a D ih =>
   intro n
   rw [List.zipIdx_cons, List.filter_cons, List.filter_cons]
   have e : (!bad (a, n)) = good a := rfl
   rw [e]
   split
   ·rw [List.map_cons, ih]
   ·exact ih _
 exact h D 0
theorem mk_good {D : List Ar} (hr : ∀ a ∈ D, Rg a.f2) (f t : Int) : mk (D.filter good) f t = if f = t then 0 else mk D f t := by
 induction D with
 | nil => split <;> rfl
 | cons a D ih =>
  have ih := ih fun x hx => hr x (by simp [hx])
  rw [List.filter_cons, mk_cons]
  by_cases hg : good a = true
  ·rw [if_pos hg, mk_cons, ih]
   have hg2 : ¬ (a.f0 = a.f1 ∨ a.f2 = 0) := by simpa [good] using hg
   by_cases hft : f = t
   ·rw [if_pos hft, if_pos hft, if_neg (fun e => hg2 (.inl (by omega)))]
   ·rw [if_neg hft, if_neg hft]
  ·rw [if_neg hg, ih]
   have hg2 : a.f0 = a.f1 ∨ a.f2 = 0 := by
    rcases Classical.em (a.f0 = a.f1 ∨ a.f2 = 0) with h | h
    ·exact h
    ·exact absurd (by simp [good, h]) hg
   by_cases hft : f = t
   ·rw [if_pos hft, if_pos hft]
   ·rw [if_neg hft, if_neg hft]
    by_cases hk : a.f0 = f ∧ a.f1 = t
    ·rw [if_pos hk]
     have hz : a.f2 = 0 := hg2.resolve_left (fun e => hft (by omega))
     rw [(B_zero (hr a (by simp))).2 hz]
     exact BitVec.zero_or.symm
    ·rw [if_neg hk]
theorem joined_is {D r : List Ar} (h : Joined D r) (hr : ∀ a ∈ D, Rg a.f2) : r.Pairwise Lx ∧ (∀ b ∈ r, Rg b.f2 ∧ b.f2 ≠ 0 ∧ b.f0 ≠ b.f1 ∧ B b.f2 = mk D b.f0 b.f1) ∧ ∀ f t, f ≠ t → mk D f t ≠ 0 → ∃ b ∈ r, b.f0 = f ∧ b.f1 = t := by
 obtain ⟨S, hp, hs, rfl⟩ := h
 have hpm : (S.map Prod.fst).Perm (D.filter good) := by rw [← zip_good]; exact hp.map _
 have hR : ∀ a ∈ S.map Prod.fst, (Rg a.f2 ∧ B a.f2 ≠ 0) ∧ a.f0 ≠ a.f1 := fun a ha => by
  have h1 := List.mem_filter.1 (hpm.mem_iff.1 ha)
  have h2 : ¬ (a.f0 = a.f1 ∨ a.f2 = 0) := by simpa [good] using h1.2
  exact ⟨⟨hr a h1.1, fun e => h2 (.inr ((B_zero (hr a h1.1)).1 e))⟩, fun e => h2 (.inl e)⟩
 have hsort : (S.map Prod.fst).Pairwise (fun x y => ¬ Lx y x) := by
  rw [List.pairwise_map]
  refine hs.imp fun {x y} hxy => ?_
  have := lt_of_llt hxy
  rw [ltof] at this
  unfold Lx
  exact of_decide_eq_false this
 have hg := fold_gd _ _ rfl hsort (fun a ha => (hR a ha).1)
 obtain ⟨h1, h2, h3, _⟩ := hg
 have hmk : ∀ f t, mk (jn S) f t = if f = t then 0 else mk D f t := fun f t => by
  rw [← mk_good hr, ← mk_perm hpm]; exact h2 f t
 refine ⟨h1, fun b hb => ?_, fun f t hft hz => ?_⟩
 ·have hu := mk_uniq h1 hb
  have h3b := h3 b hb
  have hm := hmk b.f0 b.f1
  have hne : b.f0 ≠ b.f1 := fun e => by
   rw [if_pos e] at hm
   exact h3b.2 (hu.symm.trans hm)
  rw [if_neg hne] at hm
  exact ⟨h3b.1, fun e => h3b.2 ((B_zero h3b.1).2 e), hne, hu.symm.trans hm⟩
 ·have hm := hmk f t
  rw [if_neg hft] at hm
  exact mk_some (by rw [hm]; exact hz)
end Go.Proofs.Ytdchnaghmmhkhaa.Cs.Au
set_option linter.unusedSimpArgs false
namespace Go.Proofs.Ytdchnaghmmhkhaa.Cs.Au
open Go.Shelf Go.RowKit Go.Lib Go.Sort Go.Proofs.Ytdchnaghmmhkhaa.RowAt Go.Proofs.Ytdchnaghmmhkhaa.Stab Go.Proofs.Ytdchnaghmmhkhaa.Stab.Au Go.Proofs.Ytdchnaghmmhkhaa.PCsrGraphs Go.Proofs.YtdchnaghmmhkhaaW.PrintWords
set_option linter.unusedSectionVars false
set_option linter.unusedVariables false
theorem zip_fst (D : List Ar) : D.zipIdx.map Prod.fst = D := by simp
set_option maxHeartbeats 1000000 in
set_option maxRecDepth 1000000 in
theorem arcs_c (n : Nat) (r : List Ar) (p : Value) (w : World) (h : Gr w p n r) (hr : r.length * 24 ≤ 140737488355328) : Calls Try.prog 25 #[p] w fun e w' => ∃ A c, e = .returned (.slice A r.length c) ∧ Reads w' A r ∧ r.length ≤ c ∧ Below w.heap.size w w' := by
 have e1 : ∀ args w, (callFunc 40 args).run Try.prog w = .ok (.enter 40 args) w := enters_of Try.func40 (by kernel_rfl) rfl
 obtain ⟨b, ga, ca, A, c, rfl, h2, h3, -, h5, h6, -⟩ := h
 have HC := Lib.hid (clone_c A c r w h6 hr)
 clear h6 hr
 go_enter Try.func25, Try.ntmps25
 go_wp2_with (go_at_fn 40; refine HC.out.mono ?_; rintro e w1 ⟨A1, c1, rfl, H1⟩; replace H1 := Lib.hid H1)
 go_ret
 have hR := H1.out.reads
 rw [zip_fst] at hR
 refine ⟨A1, c1, rfl, hR, ?_, H1.out.1⟩
 rcases H1.out.2 with ⟨_, h0, _⟩ | ⟨g, _, _, _, _, h1⟩
 ·have := congrArg List.length h0
  simp at this; subst this; exact Nat.zero_le _
 ·rw [List.length_zipIdx] at h1; exact h1
def Is (D r : List Ar) : Prop := r.Pairwise Lx ∧ (∀ b ∈ r, Rg b.f2 ∧ b.f2 ≠ 0 ∧ b.f0 ≠ b.f1 ∧ B b.f2 = mk D b.f0 b.f1) ∧ ∀ f t, f ≠ t → mk D f t ≠ 0 → ∃ b ∈ r, b.f0 = f ∧ b.f1 = t
theorem sorted_eq : ∀ (L M : List Ar), L.Pairwise Lx → M.Pairwise Lx → (∀ b, b ∈ L ↔ b ∈ M) → L = M
 | [], [], _, _, _ => rfl
 | [], b :: M, _, _, h => absurd ((h b).2 (by simp)) (by simp)
 | a :: L, [], _, _, h => absurd ((h a).1 (by simp)) (by simp)
 | a :: L, b :: M, hL, hM, h => by
  rw [List.pairwise_cons] at hL hM
  have hir : ∀ x : Ar, ¬ Lx x x := fun x hx => by unfold Lx at hx; omega
  have hab : a = b := by
   rcases List.mem_cons.1 ((h a).1 (by simp)) with e | e
   ·exact e
   ·rcases List.mem_cons.1 ((h b).2 (by simp)) with e2 | e2
    ·exact e2.symm
    ·exact absurd ((hM.1 a e).trans (hL.1 b e2)) (hir b)
  subst hab
  congr 1
  refine sorted_eq L M hL.2 hM.2 fun x => ⟨fun hx => ?_, fun hx => ?_⟩
  ·rcases List.mem_cons.1 ((h x).1 (by simp [hx])) with e | e
   ·subst e; exact absurd (hL.1 x hx) (hir x)
   ·exact e
  ·rcases List.mem_cons.1 ((h x).2 (by simp [hx])) with e | e
   ·subst e; exact absurd (hM.1 x hx) (hir x)
   ·exact e
theorem Is.sub {D L M : List Ar} (h : Is D L) (k : Is D M) {b : Ar} (hb : b ∈ L) : b ∈ M := by
 obtain ⟨h1, h2, h3, h4⟩ := h.2.1 b hb
 have hz : mk D b.f0 b.f1 ≠ 0 := fun e => h2 ((B_zero h1).1 (h4.trans e))
 obtain ⟨c, hc, e0, e1⟩ := k.2.2 _ _ h3 hz
 obtain ⟨k1, k2, k3, k4⟩ := k.2.1 c hc
 have e2 : c.f2 = b.f2 := B_inj k1 h1 (by rw [k4, h4, e0, e1])
 have : c = b := by
  cases c; cases b
  simp only at e0 e1 e2
  subst e0 e1 e2; rfl
 rw [← this]; exact hc
theorem Is.uniq {D L M : List Ar} (h : Is D L) (k : Is D M) : L = M := sorted_eq L M h.1 k.1 fun b => ⟨fun hb => h.sub k hb, fun hb => k.sub h hb⟩
end Go.Proofs.Ytdchnaghmmhkhaa.Cs.Au
set_option linter.unusedSimpArgs false
namespace Go.Proofs.Ytdchnaghmmhkhaa.Cs
open Go.Shelf Go.RowKit Go.Lib Go.Proofs.Ytdchnaghmmhkhaa.PCsrGraphs Go.Proofs.YtdchnaghmmhkhaaW.PrintWords
set_option linter.unusedVariables false
def small (a : Ar) : Prop := 0 ≤ a.f2 ∧ a.f2 ≤ 7
theorem small_cases {x : Int} (h : 0 ≤ x ∧ x ≤ 7) : x = 0 ∨ x = 1 ∨ x = 2 ∨ x = 3 ∨ x = 4 ∨ x = 5 ∨ x = 6 ∨ x = 7 := by omega
theorem B_small {x : Int} (h : 0 ≤ x ∧ x ≤ 7) : Ai.B x = (Au.B x).setWidth 64 := by
 rcases small_cases h with rfl | rfl | rfl | rfl | rfl | rfl | rfl | rfl <;> kernel_rfl
theorem mk_small (f t : Int) : ∀ D : List Ar, (∀ a ∈ D, small a) → Ai.mk D f t = (Au.mk D f t).setWidth 64
 | [], _ => rfl
 | a :: D, h => by
  rw [Ai.mk_cons, Au.mk_cons, mk_small f t D (fun b hb => h b (by simp [hb])), B_small (h a (by simp))]
  split
  ·exact (BitVec.setWidth_or ..).symm
  ·rfl
theorem Rg_small {x : Int} (h : 0 ≤ x ∧ x ≤ 7) : Au.Rg x := by unfold Au.Rg; rw [IntKind.wrap_u8]; omega
theorem is_u {D R : List Ar} (hs : ∀ a ∈ D, small a) (h : Ai.Is D R) : Au.Is D R := by
 refine ⟨h.1, fun b hb => ?_, fun f t hft hz => ?_⟩
 ·obtain ⟨k1, k2, k3, k4⟩ := h.2.1 b hb
  rw [mk_small _ _ D hs] at k4
  have hn : (Ai.B b.f2).toNat = (Au.mk D b.f0 b.f1).toNat := by
   rw [k4, BitVec.toNat_setWidth, Nat.mod_eq_of_lt]
   have := (Au.mk D b.f0 b.f1).isLt
   omega
  have hlt := (Au.mk D b.f0 b.f1).isLt
  have hb2 : b.f2 = ((Au.mk D b.f0 b.f1).toNat : Int) := by
   unfold Ai.Rg at k1
   rw [IntKind.wrap_i64] at k1
   unfold Ai.B at hn
   rw [BitVec.toNat_ofInt] at hn
   simp only [Nat.reducePow, Int.reducePow] at hn hlt
   omega
  refine ⟨?_, k2, k3, ?_⟩
  ·unfold Au.Rg
   rw [IntKind.wrap_u8]
   simp only [Nat.reducePow] at hlt
   omega
  ·rw [hb2]
   unfold Au.B
   rw [BitVec.ofInt_natCast, BitVec.ofNat_toNat, BitVec.setWidth_eq]
 ·refine h.2.2 f t hft ?_
  rw [mk_small _ _ D hs]
  intro e
  apply hz
  apply BitVec.eq_of_toNat_eq
  have := congrArg BitVec.toNat e
  rw [BitVec.toNat_setWidth] at this
  have hlt := (Au.mk D f t).isLt
  simp only [Nat.reducePow, BitVec.toNat_zero, BitVec.ofNat_eq_ofNat, BitVec.toNat_ofNat] at this hlt ⊢
  omega
theorem is_of {D E r : List Ar} (h : Au.Is D r) (he : ∀ f t, f ≠ t → Au.mk E f t = Au.mk D f t) : Au.Is E r :=
 ⟨h.1, fun b hb => by
  obtain ⟨h1, h2, h3, h4⟩ := h.2.1 b hb
  exact ⟨h1, h2, h3, by rw [h4, he _ _ h3]⟩, fun f t hft hz => h.2.2 f t hft (by rw [← he f t hft]; exact hz)⟩
def bits3 (a : Ar) : List Ar := [⟨a.f0, a.f1, Go.bits .and .u8 a.f2 1⟩, ⟨a.f0, a.f1, Go.bits .and .u8 a.f2 2⟩, ⟨a.f0, a.f1, Go.bits .and .u8 a.f2 4⟩]
theorem bits3_small {a b : Ar} (h : small a) (hb : b ∈ bits3 a) : Au.Rg b.f2 ∧ b.f0 = a.f0 ∧ b.f1 = a.f1 := by
 unfold bits3 at hb
 simp only [List.mem_cons, List.mem_nil_iff, or_false] at hb
 have hw : ∀ y : Int, Au.Rg (Go.bits .and .u8 a.f2 y) := fun y => Au.wrap_rg _
 rcases hb with rfl | rfl | rfl <;> exact ⟨hw _, rfl, rfl⟩
theorem mk_bits3 {a : Ar} (h : small a) (f t : Int) : Au.mk (bits3 a) f t = if a.f0 = f ∧ a.f1 = t then Au.B a.f2 else 0 := by
 unfold bits3
 rw [Au.mk_cons, Au.mk_cons, Au.mk_cons]
 by_cases e : a.f0 = f ∧ a.f1 = t
 ·simp only [if_pos e]
  rcases small_cases h with k | k | k | k | k | k | k | k <;> rw [k] <;> kernel_rfl
 ·simp only [if_neg e]; rfl
theorem mk_single (f t : Int) : ∀ D : List Ar, (∀ a ∈ D, small a) → Au.mk (D.flatMap bits3) f t = Au.mk D f t
 | [], _ => rfl
 | a :: D, h => by
  rw [List.flatMap_cons, Au.mk_append, mk_single f t D (fun b hb => h b (by simp [hb])), mk_bits3 (h a (by simp)), Au.mk_cons]
  split
  ·rfl
  ·exact BitVec.zero_or
def wr8 (a : Ar) : Ar := ⟨a.f0, a.f1, IntKind.u8.wrap a.f2⟩
theorem wr8_small {a : Ar} (h : small a) : wr8 a = a := by
 unfold wr8
 rw [show IntKind.u8.wrap a.f2 = a.f2 by rw [IntKind.wrap_u8]; unfold small at h; omega]
def rot (D : List Ar) (t k : Nat) : List Ar := (List.range k).map fun j => wr8 (D.getD ((j + t) % D.length) ⟨0, 0, 0⟩)
theorem rot_succ (D : List Ar) (t k : Nat) : rot D t (k + 1) = rot D t k ++ [wr8 (D.getD ((k + t) % D.length) ⟨0, 0, 0⟩)] := by
 unfold rot
 rw [List.range_succ, List.map_append]; rfl
theorem rot_perm (D : List Ar) (t : Nat) (hs : ∀ a ∈ D, small a) : (rot D t D.length).Perm D := by
 rcases Nat.eq_zero_or_pos D.length with h0 | h0
 ·rw [List.eq_nil_of_length_eq_zero h0]; exact List.Perm.refl _
 ·have hlt := Nat.mod_lt t h0
  have e : rot D t D.length = D.drop (t % D.length) ++ D.take (t % D.length) := by
   apply List.ext_getElem
   ·unfold rot
    rw [List.length_map, List.length_range, List.length_append, List.length_drop, List.length_take]
    omega
   ·intro k h1 h2
    have hk : k < D.length := by unfold rot at h1; rw [List.length_map, List.length_range] at h1; exact h1
    have e1 : (k + t) % D.length = if k + t % D.length < D.length then k + t % D.length else k + t % D.length - D.length := by
     rw [Nat.add_mod, Nat.mod_eq_of_lt hk]
     split
     ·rename_i h; exact Nat.mod_eq_of_lt h
     ·rename_i h
      rw [Nat.mod_eq_sub_mod (by omega), Nat.mod_eq_of_lt (by omega)]
    have hj : (k + t) % D.length < D.length := Nat.mod_lt _ h0
    have e2 : (rot D t D.length)[k] = D[(k + t) % D.length]'hj := by
     simp only [rot, List.getElem_map, List.getElem_range]
     rw [List.getD_eq_getElem?_getD, List.getElem?_eq_getElem hj]
     exact wr8_small (hs _ (List.getElem_mem hj))
    rw [e2]
    rw [List.getElem_append]
    split
    ·rename_i h
     rw [List.length_drop] at h
     rw [List.getElem_drop]
     congr 1
     rw [e1, if_pos (by omega)]; omega
    ·rename_i h
     rw [List.length_drop] at h
     rw [List.getElem_take]
     congr 1
     rw [e1, if_neg (by omega), List.length_drop]; omega
  rw [e]
  exact List.perm_append_comm.trans (by rw [List.take_append_drop])
end Go.Proofs.Ytdchnaghmmhkhaa.Cs
