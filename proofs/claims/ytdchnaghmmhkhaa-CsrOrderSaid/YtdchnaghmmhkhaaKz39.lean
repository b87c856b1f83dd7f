/- Printed by shake.py. -/
import Derived.Test.YtdchnaghmmhkhaaKz30
import Derived.Test.YtdchnaghmmhkhaaKz32
import Derived.Test.YtdchnaghmmhkhaaKz33
import Derived.Test.YtdchnaghmmhkhaaKz35
import Derived.Test.YtdchnaghmmhkhaaKz36
import Derived.Test.YtdchnaghmmhkhaaKz38
set_option linter.unusedSimpArgs false
namespace Go.Proofs.Ytdchnaghmmhkhaa.Cs.Ai
open Go.Shelf Go.RowKit Go.Lib Go.Proofs.Ytdchnaghmmhkhaa.PCsrGraphs Go.Proofs.YtdchnaghmmhkhaaW.PrintWords
set_option linter.unusedVariables false
def swp (a : Ar) : Ar := ⟨a.f1, a.f0, a.f2⟩
end Go.Proofs.Ytdchnaghmmhkhaa.Cs.Ai
set_option linter.unusedSimpArgs false
namespace Go.Proofs.Ytdchnaghmmhkhaa.Cs.Ai
open Go.Shelf Go.RowKit Go.Lib Go.Proofs.Ytdchnaghmmhkhaa.PCsrGraphs Go.Proofs.YtdchnaghmmhkhaaW.PrintWords
set_option linter.unusedVariables false
def ofR (x : S53) : Ar := ⟨x.f0, x.f1, x.f2⟩
theorem rd_at {l : List S53} {i : Nat} {x : S53} (h : l[i]? = some x) : rd_T53 l (i : Int) = x := by
 unfold rd_T53
 rw [Int.toNat_natCast, List.getD_eq_getElem?_getD, h]; rfl
theorem up_w (i : Nat) (h : i < 9000000000000000000) : wrap64 ((i : Int) + 1) = ((i + 1 : Nat) : Int) := by unfold wrap64; omega
theorem new_l0 (n : Nat) (l : List S53) (hl : l.length ≤ 5000000000000) (K : Nat) : ∀ m i, l.length - i = m → i ≤ l.length → coronerref19_New.l0 (m + 1 + K) n l i = if (l.drop i).any (fun x => outA n (ofR x)) then some (0, [], 2) else coronerref19_New.l1 K n l 0 n []
 | 0, i, hm, hi => by
  rw [show 0 + 1 + K = K + 1 by omega, coronerref19_New.l0, if_neg (by omega), List.drop_eq_nil_of_le (by omega)]
  rfl
 | m + 1, i, hm, hi => by
  have hx : l[i]? = some (l[i]'(by omega)) := List.getElem?_eq_getElem _
  rw [show m + 1 + 1 + K = (m + 1 + K) + 1 by omega, coronerref19_New.l0, if_pos (by omega), if_pos (by omega), rd_at hx, List.drop_eq_getElem_cons (by omega), List.any_cons, up_w i (by omega), new_l0 n l hl K m (i + 1) (by omega) (by omega)]
  generalize (l[i]'(by omega)) = x
  unfold outA outB ofR
  by_cases h1 : x.f0 < 0
  ·rw [if_pos h1, if_pos (by simp [h1])]
  ·rw [if_neg h1]
   by_cases h2 : x.f0 ≥ (n : Int)
   ·rw [if_pos h2, if_pos (by simp [h2])]
   ·rw [if_neg h2]
    by_cases h3 : x.f1 < 0
    ·rw [if_pos h3, if_pos (by simp [h3])]
    ·rw [if_neg h3]
     by_cases h4 : x.f1 ≥ (n : Int)
     ·rw [if_pos h4, if_pos (by simp [h4])]
     ·rw [if_neg h4]
      simp [h1, h2, h3, h4]
theorem new_l1 (n : Nat) (l : List S53) (hn : n ≤ 1024) (K : Nat) : ∀ m v, n - v = m → v ≤ n → coronerref19_New.l1 (m + 1 + K) n l v n (List.replicate v (List.replicate n 0)) = coronerref19_New.l2 K l 0 n (List.replicate n (List.replicate n 0))
 | 0, v, hm, hv => by
  have : v = n := by omega
  subst this
  rw [show 0 + 1 + K = K + 1 by omega, coronerref19_New.l1, if_neg (by omega)]
 | m + 1, v, hm, hv => by
  rw [show m + 1 + 1 + K = (m + 1 + K) + 1 by omega, coronerref19_New.l1, if_pos (by omega), if_pos (by omega), if_pos (by omega), if_pos (by rw [List.length_replicate]; omega), up_w v (by omega), Int.toNat_natCast, ← new_l1 n l hn K m (v + 1) (by omega) (by omega)]
  rw [show List.replicate v (List.replicate n (0 : Int)) ++ [List.replicate n 0] = List.replicate (v + 1) (List.replicate n 0) by rw [List.replicate_succ']]
def Sq (n : Nat) (M : List (List Int)) : Prop := M.length = n ∧ ∀ (i : Nat) (r : List Int), M[i]? = some r → r.length = n
def upd (M : List (List Int)) (x : S53) : List (List Int) := if x.f0 = x.f1 then M else M.set x.f0.toNat ((rd_L3 M x.f0).set x.f1.toNat (Go.bits .or .i64 (rd (rd_L3 M x.f0) x.f1) x.f2))
theorem Sq.row {n : Nat} {M : List (List Int)} (h : Sq n M) {v : Int} (h0 : 0 ≤ v) (h1 : v < n) : (rd_L3 M v).length = n := by
 unfold rd_L3
 have hl : v.toNat < M.length := by rw [h.1]; omega
 rw [List.getD_eq_getElem?_getD, List.getElem?_eq_getElem hl]
 exact h.2 v.toNat _ (List.getElem?_eq_getElem hl)
theorem Sq.upd {n : Nat} {M : List (List Int)} {x : S53} (h : Sq n M) (h0 : 0 ≤ x.f0) (h1 : x.f0 < n) : Sq n (upd M x) := by
 unfold Cs.Ai.upd
 split
 ·exact h
 ·refine ⟨by rw [List.length_set]; exact h.1, fun i r hr => ?_⟩
  rw [List.getElem?_set] at hr
  split at hr
  ·split at hr
   ·cases hr
    rw [List.length_set]; exact h.row h0 h1
   ·cases hr
  ·exact h.2 i r hr
theorem new_l2 (n : Nat) (l : List S53) (hl : l.length ≤ 5000000000000) (hok : ∀ x ∈ l, 0 ≤ x.f0 ∧ x.f0 < n ∧ 0 ≤ x.f1 ∧ x.f1 < n) : ∀ m i M, l.length - i = m → i ≤ l.length → Sq n M → coronerref19_New.l2 (m + 1) l i n M = some ((n : Int), (l.drop i).foldl upd M, 0)
 | 0, i, M, hm, hi, hM => by
  rw [coronerref19_New.l2, if_neg (by omega), List.drop_eq_nil_of_le (by omega)]; rfl
 | m + 1, i, M, hm, hi, hM => by
  have hx : l[i]? = some (l[i]'(by omega)) := List.getElem?_eq_getElem _
  obtain ⟨k0, k1, k2, k3⟩ := hok _ (List.mem_of_getElem? hx)
  rw [coronerref19_New.l2, if_pos (by omega), if_pos (by omega), rd_at hx, List.drop_eq_getElem_cons (by omega), List.foldl_cons, up_w i (by omega)]
  have hu := new_l2 n l hl hok m (i + 1) (upd M (l[i]'(by omega))) (by omega) (by omega) (hM.upd k0 k1)
  generalize (l[i]'(by omega)) = x at *
  rw [← hu]
  unfold Cs.Ai.upd
  by_cases he : x.f0 = x.f1
  ·rw [if_pos he, if_pos he]
  ·rw [if_neg he, if_neg he, if_pos k0, if_pos (by have := hM.1; omega), if_pos k2, if_pos (by have := hM.row k0 k1; omega)]
def en (M : List (List Int)) (v w : Int) : Int := rd (rd_L3 M v) w
theorem L3_set {M : List (List Int)} {a v : Int} {r : List Int} (ha : 0 ≤ a) (hv : 0 ≤ v) (hl : a.toNat < M.length) : rd_L3 (M.set a.toNat r) v = if a = v then r else rd_L3 M v := by
 unfold rd_L3
 rw [List.getD_eq_getElem?_getD, List.getD_eq_getElem?_getD, List.getElem?_set]
 by_cases h : a = v
 ·subst h; rw [if_pos rfl, if_pos hl, if_pos rfl]; rfl
 ·rw [if_neg (by omega), if_neg h]
theorem rd_set {r : List Int} {a v z : Int} (ha : 0 ≤ a) (hv : 0 ≤ v) (hl : a.toNat < r.length) : rd (r.set a.toNat z) v = if a = v then z else rd r v := by
 unfold rd
 rw [List.getD_eq_getElem?_getD, List.getD_eq_getElem?_getD, List.getElem?_set]
 by_cases h : a = v
 ·subst h; rw [if_pos rfl, if_pos hl, if_pos rfl]; rfl
 ·rw [if_neg (by omega), if_neg h]
theorem en_upd {n : Nat} {M : List (List Int)} {x : S53} (h : Sq n M) (h0 : 0 ≤ x.f0) (h1 : x.f0 < n) (h2 : 0 ≤ x.f1) (h3 : x.f1 < n) {v w : Int} (hv : 0 ≤ v) (hw : 0 ≤ w) :
 en (upd M x) v w = if x.f0 ≠ x.f1 ∧ x.f0 = v ∧ x.f1 = w then Go.bits .or .i64 (en M v w) x.f2 else en M v w := by
 unfold Cs.Ai.upd
 by_cases he : x.f0 = x.f1
 ·rw [if_pos he, if_neg (fun e => e.1 he)]
 ·rw [if_neg he]
  unfold en
  rw [L3_set h0 hv (by rw [h.1]; omega)]
  by_cases hk : x.f0 = v
  ·rw [if_pos hk, rd_set h2 hw (by have := h.row h0 h1; omega)]
   by_cases hk2 : x.f1 = w
   ·rw [if_pos hk2, if_pos ⟨he, hk, hk2⟩, hk, hk2]
   ·rw [if_neg hk2, if_neg (fun e => hk2 e.2.2), hk]
  ·rw [if_neg hk, if_neg (fun e => hk e.2.1)]
theorem en_fold (n : Nat) {v w : Int} (hv : 0 ≤ v) (hw : 0 ≤ w) : ∀ (l : List S53) (M : List (List Int)), (∀ x ∈ l, 0 ≤ x.f0 ∧ x.f0 < n ∧ 0 ≤ x.f1 ∧ x.f1 < n) → Sq n M → Rg (en M v w) → Rg (en (l.foldl upd M) v w) ∧ B (en (l.foldl upd M) v w) = (if v = w then 0 else mk (l.map ofR) v w) ||| B (en M v w)
 | [], M, _, _, hr => ⟨hr, by show B (en M v w) = (if v = w then 0 else 0) ||| B (en M v w); rw [ite_self]; exact BitVec.zero_or.symm⟩
 | x :: l, M, hok, hM, hr => by
  obtain ⟨k0, k1, k2, k3⟩ := hok x (by simp)
  have he := en_upd hM k0 k1 k2 k3 hv hw
  have hr2 : Rg (en (upd M x) v w) := by
   rw [he]
   split
   ·exact or_rg _ _
   ·exact hr
  obtain ⟨i1, i2⟩ := en_fold n hv hw l (upd M x) (fun y hy => hok y (by simp [hy])) (hM.upd k0 k1) hr2
  rw [List.foldl_cons]
  refine ⟨i1, ?_⟩
  rw [i2, he, List.map_cons, mk_cons]
  by_cases hvw : v = w
  ·rw [if_pos hvw, if_pos hvw, if_neg (fun e => e.1 (by omega))]
  ·rw [if_neg hvw, if_neg hvw]
   show _ = (if x.f0 = v ∧ x.f1 = w then B x.f2 ||| mk (l.map ofR) v w else mk (l.map ofR) v w) ||| B (en M v w)
   by_cases hk : x.f0 = v ∧ x.f1 = w
   ·rw [if_pos ⟨by omega, hk.1, hk.2⟩, if_pos hk, B_or, BitVec.or_assoc, BitVec.or_comm (B (en M v w)), ← BitVec.or_assoc, BitVec.or_comm (mk _ _ _), BitVec.or_assoc]
   ·rw [if_neg (fun e => hk e.2), if_neg hk]
def sq0 (n : Nat) : List (List Int) := List.replicate n (List.replicate n 0)
theorem sq0_sq (n : Nat) : Sq n (sq0 n) := ⟨List.length_replicate, fun i r h => by
 unfold sq0 at h
 rw [List.getElem?_replicate] at h
 split at h
 ·cases h; exact List.length_replicate
 ·cases h⟩
theorem en_sq0 (n : Nat) (v w : Int) : en (sq0 n) v w = 0 := by
 unfold en sq0 rd_L3 rd
 simp only [List.getD_eq_getElem?_getD, List.getElem?_replicate]
 split
 ·simp only [Option.getD_some, List.getElem?_replicate]
  split <;> rfl
 ·rfl
theorem new_f (n : Nat) (l : List S53) (hn : n ≤ 1024) (hl : l.length ≤ 5000000000000) : ∃ k, coronerref19_New.f k n l = if l.any (fun x => outA n (ofR x)) then some (0, [], 2) else some ((n : Int), l.foldl upd (sq0 n), 0) := by
 refine ⟨(l.length + 1 + (n + 1 + (l.length + 1))) + 1, ?_⟩
 unfold coronerref19_New.f
 rw [if_neg (by omega), decide_eq_false (by omega : ¬ (n : Int) > 1024), coronerref19_New.j0, if_neg Bool.false_ne_true]
 have h0 := new_l0 n l hl (n + 1 + (l.length + 1)) l.length 0 (by omega) (by omega)
 rw [List.drop_zero] at h0
 refine h0.trans ?_
 by_cases hany : l.any (fun x => outA n (ofR x)) = true
 ·rw [if_pos hany, if_pos hany]
 ·rw [if_neg hany, if_neg hany]
  have hok : ∀ x ∈ l, 0 ≤ x.f0 ∧ x.f0 < n ∧ 0 ≤ x.f1 ∧ x.f1 < n := fun x hx => by
   have := List.any_eq_false.1 (by simpa using hany) x hx
   unfold outA outB ofR at this
   simp only [Bool.or_eq_true, decide_eq_true_eq, not_or] at this
   omega
  have h1 := new_l1 n l hn (l.length + 1) n 0 (by omega) (by omega)
  have h2 := new_l2 n l hl hok l.length 0 (sq0 n) (by omega) (by omega) (sq0_sq n)
  rw [List.drop_zero] at h2
  exact h1.trans h2
end Go.Proofs.Ytdchnaghmmhkhaa.Cs.Ai
set_option linter.unusedSimpArgs false
namespace Go.Proofs.Ytdchnaghmmhkhaa.Cs.Ai
open Go.Shelf Go.RowKit Go.Lib Go.Proofs.Ytdchnaghmmhkhaa.PCsrGraphs Go.Proofs.YtdchnaghmmhkhaaW.PrintWords
set_option linter.unusedVariables false
def toR (x : Ar) : S53 := ⟨x.f0, x.f1, x.f2⟩
open Classical in
theorem same_l0 (l m : List S53) (hl : l.length ≤ 5000000000000) (he : l.length = m.length) : ∀ d i, l.length - i = d → i ≤ l.length → coronerref19_Same.l0 (d + 1) l m i = some (decide (l.drop i = m.drop i))
 | 0, i, hm, hi => by
  rw [coronerref19_Same.l0, if_neg (by omega), List.drop_eq_nil_of_le (by omega), List.drop_eq_nil_of_le (by omega)]; rfl
 | d + 1, i, hm, hi => by
  have hx : l[i]? = some (l[i]'(by omega)) := List.getElem?_eq_getElem _
  have hy : m[i]? = some (m[i]'(by omega)) := List.getElem?_eq_getElem _
  rw [coronerref19_Same.l0, if_pos (by omega), if_pos (by omega), if_pos (by omega), rd_at hx, rd_at hy, List.drop_eq_getElem_cons (by omega), List.drop_eq_getElem_cons (by omega : i < m.length), up_w i (by omega), same_l0 l m hl he d (i + 1) (by omega) (by omega)]
  generalize (l[i]'(by omega)) = x
  generalize (m[i]'(by omega)) = y
  cases x; cases y
  rename_i a0 a1 a2 b0 b1 b2
  by_cases h0 : a0 = b0 <;> by_cases h1 : a1 = b1 <;> by_cases h2 : a2 = b2 <;> simp [h0, h1, h2]
theorem few_l0 (n : Nat) (l : List S53) (hl : l.length ≤ 5000000000000) : ∀ m i, l.length - i = m → i ≤ l.length → coronerref19_Few.l0 (m + 1) n l i = some (!(l.drop i).any (fun x => outA n (ofR x)))
 | 0, i, hm, hi => by
  rw [coronerref19_Few.l0, if_neg (by omega), List.drop_eq_nil_of_le (by omega)]
  rfl
 | m + 1, i, hm, hi => by
  have hx : l[i]? = some (l[i]'(by omega)) := List.getElem?_eq_getElem _
  rw [coronerref19_Few.l0, if_pos (by omega), if_pos (by omega), rd_at hx, List.drop_eq_getElem_cons (by omega), List.any_cons, up_w i (by omega), few_l0 n l hl m (i + 1) (by omega) (by omega)]
  generalize (l[i]'(by omega)) = x
  unfold outA outB ofR
  by_cases h1 : x.f0 < 0
  ·rw [if_pos h1]; simp [h1]
  ·rw [if_neg h1]
   by_cases h2 : x.f0 ≥ (n : Int)
   ·rw [if_pos h2]; simp [h2]
   ·rw [if_neg h2]
    by_cases h3 : x.f1 < 0
    ·rw [if_pos h3]; simp [h3]
    ·rw [if_neg h3]
     by_cases h4 : x.f1 ≥ (n : Int)
     ·rw [if_pos h4]; simp [h4]
     ·rw [if_neg h4]
      simp [h1, h2, h3, h4]
end Go.Proofs.Ytdchnaghmmhkhaa.Cs.Ai
set_option linter.unusedSimpArgs false
namespace Go.Proofs.Ytdchnaghmmhkhaa.Cs.Ai
open Go.Shelf Go.RowKit Go.Lib Go.Sort Go.Proofs.Ytdchnaghmmhkhaa.RowAt Go.Proofs.Ytdchnaghmmhkhaa.Stab Go.Proofs.Ytdchnaghmmhkhaa.Stab.Ai Go.Proofs.Ytdchnaghmmhkhaa.PCsrGraphs Go.Proofs.YtdchnaghmmhkhaaW.PrintWords Go.ChangeShapes Go.WideShapes
set_option linter.unusedVariables false
theorem rg_wf {x : Int} (h : (Lit.int .i64 x).wf = true) : Rg x := by
 unfold Rg
 rw [IntKind.wrap_i64]
 have h' : (-9223372036854775808 ≤ x ∧ x ≤ 9223372036854775807) := by simpa [Lit.wf, IntKind.min, IntKind.max, IntKind.signed, IntKind.bits] using h
 omega
theorem opens_arc (W : World) : Opens Try.prog W 53 (fun (a : S53) cs => k53.K W a cs ∧ Rg a.f2) := by
 refine Opens.imp (opens_row (p := fun i v => ∃ n : Int, v = .int .i64 n ∧ (Lit.int .i64 n).wf = true)
  Try.underlying53 (by kernel_rfl) (three rfl ⟨rfl, by kernel_rfl⟩ ⟨rfl, by kernel_rfl⟩ ⟨rfl, by kernel_rfl⟩)
  (three rfl (cells_int Try.underlying3) (cells_int Try.underlying3) (cells_int Try.underlying3))) ?_
 rintro _ cs ⟨hl, hp⟩
 obtain ⟨a, b, c, rfl⟩ := list3 hl
 obtain ⟨x0, rfl, _⟩ := hp 0 _ rfl
 obtain ⟨x1, rfl, _⟩ := hp 1 _ rfl
 obtain ⟨x2, rfl, h2⟩ := hp 2 _ rfl
 exact ⟨⟨x0, x1, x2⟩, k53_mk W ⟨x0, x1, x2⟩, rg_wf h2⟩
def InA (W : World) (A : Option Addr) (l : List S53) : Prop := ReadsRow (fun (a : S53) cs => k53.K W a cs ∧ Rg a.f2) 3 W A l.length l
theorem opens_arcs (W : World) : Opens Try.prog W 22 (fun (l : List S53) cs => ∃ A c, cs = [.slice A l.length c] ∧ l.length ≤ c ∧ InA W A l) :=
 opens_slice Try.underlying22 (by kernel_rfl) (opens_arc W)
theorem InA.each {w : World} {A : Option Addr} {l : List S53} (h : InA w A l) : Kd.C k53 w A l.length l ∧ ∀ a ∈ l, Rg a.f2 := by
 obtain ⟨h1, h2, h3⟩ := h
 refine ⟨⟨h1, h2, fun h0 => ?_⟩, fun a ha => ?_⟩
 ·obtain ⟨ad, e, hc⟩ := h3 h0
  exact ⟨ad, e, fun j q hq => by obtain ⟨c, a1, a2, a3⟩ := hc j q hq; exact ⟨c, a1, a2.1, a3⟩⟩
 ·obtain ⟨j, hj, rfl⟩ := List.getElem_of_mem ha
  obtain ⟨ad, e, hc⟩ := h3 (by omega)
  obtain ⟨c, _, a2, _⟩ := hc j l[j] (List.getElem?_eq_getElem hj)
  exact a2.2
def fewB (n : Int) (l : List S53) (m : Int) (k : Nat) : Bool := decide (0 ≤ n) && decide (n ≤ m) && decide (l.length ≤ k) && !l.any (fun x => outA n (ofR x))
theorem few_f (n : Int) (l : List S53) (m : Int) (k : Nat) (hk : k ≤ 1000000) : ∃ f, coronerref19_Few.f f n l m k = some (fewB n l m k) := by
 refine ⟨l.length + 2, ?_⟩
 unfold coronerref19_Few.f fewB
 by_cases h1 : n < 0
 ·rw [if_pos h1, coronerref19_Few.j0, if_pos rfl, decide_eq_false (by omega : ¬ 0 ≤ n)]; rfl
 ·rw [if_neg h1]
  by_cases h2 : n > m
  ·rw [if_pos h2, coronerref19_Few.j0, if_pos rfl, decide_eq_false (by omega : ¬ n ≤ m), Bool.and_false]; rfl
  ·rw [if_neg h2, coronerref19_Few.j0, decide_eq_true (by omega : 0 ≤ n), decide_eq_true (by omega : n ≤ m)]
   by_cases h3 : (l.length : Int) > k
   ·rw [if_pos (decide_eq_true h3), decide_eq_false (by omega : ¬ l.length ≤ k)]; rfl
   ·rw [if_neg (by simpa using h3), decide_eq_true (by omega : l.length ≤ k)]
    obtain ⟨N, rfl⟩ : ∃ N : Nat, n = (N : Int) := ⟨n.toNat, by omega⟩
    have := few_l0 N l (by omega) l.length 0 (by omega) (by omega)
    rw [List.drop_zero] at this
    rw [Int.ofNat_zero] at this
    exact this
theorem few_ok {n : Int} {l : List S53} {m : Int} {k : Nat} (h : fewB n l m k = true) : ∃ N : Nat, n = (N : Int) ∧ (N : Int) ≤ m ∧ l.length ≤ k ∧ l.any (fun x => outA n (ofR x)) = false := by
 unfold fewB at h
 simp only [Bool.and_eq_true, decide_eq_true_eq, Bool.not_eq_true'] at h
 obtain ⟨⟨⟨h1, h2⟩, h3⟩, h4⟩ := h
 exact ⟨n.toNat, by omega, by omega, h3, h4⟩
structure GD (n : Nat) (D r : List Ar) : Prop where
 is : Is D r
 rng : ∀ a ∈ r, (0 ≤ a.f0 ∧ a.f0 < n) ∧ (0 ≤ a.f1 ∧ a.f1 < n)
 len : r.length ≤ D.length
theorem out_in {n : Nat} {D : List Ar} : D.any (outA n) = false ↔ ∀ a ∈ D, (0 ≤ a.f0 ∧ a.f0 < n) ∧ (0 ≤ a.f1 ∧ a.f1 < n) := by
 rw [List.any_eq_false]
 constructor
 ·intro h a ha
  have := h a ha
  unfold outA outB at this
  simp only [Bool.or_eq_true, decide_eq_true_eq, not_or] at this
  omega
 ·intro h a ha
  have := h a ha
  unfold outA outB
  simp only [Bool.or_eq_true, decide_eq_true_eq, not_or]
  omega
end Go.Proofs.Ytdchnaghmmhkhaa.Cs.Ai
