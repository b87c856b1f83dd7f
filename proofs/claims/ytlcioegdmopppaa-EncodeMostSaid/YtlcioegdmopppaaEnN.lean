/- The law EncodeMost, plainly: so many transactions of one read each. -/
import Derived.Test.YtlcioegdmopppaaEnL
import Derived.Test.YtlcioegdmopppaaStepsK
set_option linter.unusedSimpArgs false
namespace Go.Proofs.Ytlcioegdmopppaa.En
open Go.RowKit Go.Proofs.Ytlcioegdmopppaa.PEncodeBack Go.Proofs.YtlcioegdmopppaaW.PrintWords
set_option linter.unusedVariables false

def mostO (m : Nat) (x : Int) : S39 := ⟨true, 5, 0, List.replicate m x⟩
def mostT (m : Nat) (x : Int) (i : Nat) : S42 := ⟨(i : Int), false, [mostO m x]⟩
def mostH (n m : Nat) (x : Int) : List S42 := (List.range n).map (mostT m x)
def sizeP (m : Nat) (x : Int) : Nat → Nat
  | 0 => 0
  | n + 1 => sizeP m x n + (5 + (numS (n : Int)).length) + 4 + (5 + (numS x).length - 4) * m
theorem mostH_len (n m : Nat) (x : Int) : (mostH n m x).length = n := by simp [mostH]
theorem okN_nat {i : Nat} (h : i ≤ 2147483647) : okN (i : Int) = true := okN_iff.2 ⟨by omega, by omega⟩
theorem mostO_ok {m : Nat} {x : Int} (hx : okN x = true) : okOp (mostO m x) = true := by
  unfold okOp mostO
  simp only [if_true]
  have : okN 5 = true := by decide
  rw [this]
  simp [hx]
theorem mostT_ok {m : Nat} {x : Int} (hx : okN x = true) {i : Nat} (hi : i ≤ 2147483647) : okT (mostT m x i) = true := by
  unfold okT mostT
  simp [okN_nat hi, mostO_ok hx]
theorem texts_rep (x : Int) : ∀ m : Nat, (texts (List.replicate m x)).length = (1 + (numS x).length) * m
  | 0 => by simp [texts]
  | m + 1 => by
    rw [List.replicate_succ, texts_cons, List.length_append, List.length_cons, texts_rep x m, Nat.mul_add, Nat.mul_one]; omega
theorem texts_nil : texts [] = [] := rfl
theorem sizeP_succ (m : Nat) (x : Int) (n : Nat) : sizeP m x (n + 1) = sizeP m x n + (5 + (numS (n : Int)).length) + 4 + (5 + (numS x).length - 4) * m := rfl
theorem mostT_text (m : Nat) (x : Int) (i : Nat) : (txnT (mostT m x i)).length = (5 + (numS (i : Int)).length) + 4 + (1 + (numS x).length) * m := by
  have h5 : (numS 5).length = 1 := by have := numS_small (n := 5) (by decide); rw [show ((5 : Nat) : Int) = 5 from rfl] at this; rw [this]; rfl
  unfold txnT mostT headT opT mostO
  simp only [List.flatMap_cons, List.flatMap_nil, if_true, texts_one, texts_cons]
  simp only [List.length_append, List.length_cons, List.length_nil, texts_rep, texts_nil, h5]
  omega
theorem most_text (m : Nat) (x : Int) : ∀ n : Nat, (histT (mostH n m x)).length = sizeP m x n
  | 0 => rfl
  | n + 1 => by
    have e : mostH (n + 1) m x = mostH n m x ++ [mostT m x n] := by unfold mostH; rw [List.range_succ, List.map_append]; rfl
    have h1 := most_text m x n
    unfold histT at *
    rw [e, List.flatMap_append, List.length_append, h1]
    simp only [List.flatMap_cons, List.flatMap_nil, List.append_nil]
    rw [mostT_text]
    rw [sizeP_succ]
    have : 5 + (numS x).length - 4 = 1 + (numS x).length := by omega
    rw [this]; omega
theorem most_ops (m : Nat) (x : Int) : ∀ l : List Nat, opsN (l.map (mostT m x)) = l.length
  | [] => rfl
  | i :: l => by
    rw [List.map_cons]
    unfold opsN
    rw [most_ops m x l]
    simp [mostT]; omega
theorem most_opsP {m : Nat} {x : Int} (hx : okN x = true) (i : Nat) (met : List (Int × Int)) : opsP (mostT m x i).f2 met = (0, met) := by
  show opsP [mostO m x] met = _
  have h := mostO_ok (m := m) hx
  show (if okOp (mostO m x) = false then (2, met) else if (mostO m x).f0 = true then opsP [] met else _) = _
  rw [h, if_neg (by decide), if_pos (show (mostO m x).f0 = true from rfl)]; rfl
theorem most_parts {m : Nat} {x : Int} (hx : okN x = true) : ∀ (d k : Nat) (ids : List Int), k + d ≤ 2000 → (∀ i ∈ ids, i < (k : Int)) → txnsP ((List.range' k d).map (mostT m x)) ids [] = 0
  | 0, k, ids, _, _ => rfl
  | d + 1, k, ids, hk, hi => by
    rw [List.range'_succ, List.map_cons]
    have h1 : okN (mostT m x k).f0 = true := okN_nat (by omega)
    have h2 : ¬ (mostT m x k).f0 ∈ ids := fun h => by have := hi _ h; simp [mostT] at this
    have h3 := most_opsP (m := m) hx k []
    show (if okN (mostT m x k).f0 = false then 2 else if (mostT m x k).f0 ∈ ids then 5 else if (opsP (mostT m x k).f2 []).1 ≠ 0 then (opsP (mostT m x k).f2 []).1 else txnsP ((List.range' (k + 1) d).map (mostT m x)) ((mostT m x k).f0 :: ids) (opsP (mostT m x k).f2 []).2) = 0
    rw [h1, if_neg (by decide), if_neg h2, h3, if_neg (by simp)]
    refine most_parts hx d (k + 1) _ (by omega) fun i hi' => ?_
    rcases List.mem_cons.1 hi' with rfl | hi'
    · simp [mostT]; omega
    · have := hi i hi'; omega
theorem sizeP_le {m : Nat} {x : Int} (hx : okN x = true) (hm : m ≤ 300) : ∀ n : Nat, n ≤ 2000 → sizeP m x n ≤ n * 4000
  | 0, _ => Nat.le_refl 0
  | n + 1, hn => by
    have ih := sizeP_le hx hm n (by omega)
    have h1 := (numS_len (okN_nat (i := n) (by omega))).2
    have h2 := (numS_len hx).2
    have h3 : (5 + (numS x).length - 4) * m ≤ 11 * 300 := Nat.mul_le_mul (by omega) hm
    rw [sizeP_succ]
    omega
theorem most_fits {n m : Nat} {x : Int} (hn : n ≤ 2000) (hm : m ≤ 300) (hx : okN x = true) : Fits (mostH n m x) := by
  refine ⟨⟨by rw [mostH_len]; omega, fun t ht => ?_, fun t ht o ho => ?_⟩, fun _ => by rw [most_text]; have := sizeP_le hx hm n hn; omega⟩
  · unfold mostH at ht
    obtain ⟨i, _, rfl⟩ := List.mem_map.1 ht
    simp [mostT]
  · unfold mostH at ht
    obtain ⟨i, _, rfl⟩ := List.mem_map.1 ht
    simp [mostT] at ho
    subst ho
    simp [mostO]; omega
theorem most_check {n m : Nat} {x : Int} (hn : n ≤ 2000) (hx : okN x = true) : checkP (mostH n m x) = if 1024 < n then 3 else if 262144 < sizeP m x n then 3 else 0 := by
  unfold checkP
  rw [mostH_len, most_text]
  have ho : opsN (mostH n m x) = n := by unfold mostH; rw [most_ops]; simp
  rw [ho]
  by_cases h : 1024 < n
  · rw [if_pos (.inl h), if_pos h]
  · have hp : partsP (mostH n m x) = 0 := by
      unfold partsP mostH
      rw [List.range_eq_range']
      exact most_parts hx n 0 [] (by omega) (fun i hi => by simp at hi)
    rw [if_neg (by omega), if_neg h, if_neg (by simp [hp])]
theorem one_text {x : Int} (hx : okN x = true) : (histT [⟨x, false, []⟩]).length = 5 + (numS x).length := by
  unfold histT txnT headT
  simp only [List.flatMap_cons, List.flatMap_nil, texts_one]
  simp; omega
theorem one_fits (x : Int) : Fits [⟨x, false, []⟩] := by
  refine ⟨⟨by simp, fun t ht => by simp at ht; subst ht; simp, fun t ht o ho => by simp at ht; subst ht; simp at ho⟩, fun hok => ?_⟩
  have : okN x = true := by simpa [okT] using hok
  rw [one_text this]
  have := (numS_len this).2
  omega

/-! The row as it grows. -/
def El (W : World) (m lb : Nat) (i : Nat) (cs : List Value) : Prop := ∃ g, cs = [.int .i64 (i : Int), .bool false, .slice (some ⟨g, 0, none⟩) 1 1] ∧ Blk W g [.bool true, .int .i64 5, .int .i64 0, .slice (some ⟨lb, 0, none⟩) m m] 39
structure MJ (w wr : World) (lb tb m : Nat) (x : Int) (k : Nat) (v : Value) : Prop where
  lrow : Blk wr lb (List.replicate m (Value.int .i64 x)) 3
  box : Blk wr tb [v] 24
  row : ∃ xs, wr.ownsRow w.heap.size 42 3 v k xs ∧ Reps (El wr m lb) 3 (List.range k) xs
  bel : Below w.heap.size w wr
  htb : w.heap.size ≤ tb
theorem reps_map {α β : Type} {R : α → List Value → Prop} {R' : β → List Value → Prop} {sz : Nat} {l : List α} {cs : List Value} (f : α → β) (h : Reps R sz l cs) (hR : ∀ a c, R a c → R' (f a) c) : Reps R' sz (l.map f) cs := by
  refine ⟨by rw [List.length_map]; exact h.1, fun j p hp => ?_⟩
  rw [List.getElem?_map] at hp
  obtain ⟨a, ha, rfl⟩ := Option.map_eq_some_iff.1 hp
  exact hR _ _ (h.2 j a ha)
theorem MJ.C {w wr : World} {lb tb m n : Nat} {x : Int} {v : Value} (h : MJ w wr lb tb m x n v) (hm : m ≤ 300) : ∃ A c, v = .slice A n c ∧ n ≤ c ∧ Kd.C k42 wr A n (mostH n m x) := by
  obtain ⟨xs, ho, hr⟩ := h.row
  have hl : Kd.C (Kd.int .i64) wr (some ⟨lb, 0, none⟩) m (List.replicate m x) := by
    have hc : Cells wr (some ⟨lb, 0, none⟩) (nums .i64 (List.replicate m x)) := fun h0 => ⟨_, rfl, fun j u hu => by
      rw [Addr.add_lit, h.lrow.cell, Nat.zero_add]
      simpa [nums] using hu⟩
    have := cells_C hc (by simp; omega)
    simpa using this
  have hr2 : Reps (k42.K wr) 3 (mostH n m x) xs := reps_map (mostT m x) hr fun i c ⟨g, e, hB⟩ => by
    subst e
    refine k42_mk wr (mostT m x i) (Nat.le_refl 1) (one_row hB ?_)
    have hl2 : Kd.C (Kd.int .i64) wr (some ⟨lb, 0, none⟩) (mostO m x).f3.length (mostO m x).f3 := by
      have e : (mostO m x).f3.length = m := by simp [mostO]
      rw [e]; exact hl
    have hk := k39_mk wr (mostO m x) (A3 := some ⟨lb, 0, none⟩) (c3 := m) (by simp [mostO]) hl2
    have e : (mostO m x).f3.length = m := by simp [mostO]
    rw [e] at hk
    exact hk
  obtain ⟨A, c, e, hrd⟩ := own_reads_row ho hr2 (mostH_len _ _ _)
  have hc : n ≤ c := by
    subst e
    rcases ho.2 with ⟨e1, e2⟩ | ⟨g, cap, cur, e1, _, _, h3, _⟩
    · omega
    · injection e1 with _ _ e3; omega
  exact ⟨A, c, e, hc, hrd⟩
theorem blk_ne {W : World} {b base n sz : Nat} {cs xs : List Value} {t e : TypeId} {v : Value} (hB : Blk W b cs t) (ho : W.ownsRow base e sz v n xs) (hne : e ≠ t) : some b ≠ v.ownBlock := fun h => by
  obtain ⟨cells, hc⟩ := own_typed ho b h.symm
  unfold Blk at hB
  rw [hB] at hc
  injection hc with hc
  injection hc with _ hc
  exact hne hc.symm
theorem MJ.next {w wr w5 : World} {lb tb m : Nat} {x : Int} {k : Nat} {v v5 : Value} {xs : List Value} (h : MJ w wr lb tb m x k v) (ho : wr.ownsRow w.heap.size 42 3 v k xs) (hr : Reps (El wr m lb) 3 (List.range k) xs)
    (hg : (((wr.alloc (.cells #[.bool true, .int .i64 5, .int .i64 0, .slice (some ⟨lb, 0, none⟩) m m] 39)).alloc (.cells #[.int .i64 (k : Int), .bool false, .slice (some ⟨wr.heap.size, 0, none⟩) 1 1] 42))).grownBy w5 v.ownBlock)
    (ho5 : w5.ownsRow w.heap.size 42 3 v5 (k + 1) (xs ++ [.int .i64 (k : Int), .bool false, .slice (some ⟨wr.heap.size, 0, none⟩) 1 1])) (hb5 : Below w.heap.size w w5) : MJ w (w5.setCell ⟨tb, 0, none⟩ v5) lb tb m x (k + 1) v5 ∧ Blk w5 tb [v] 24 := by
  have n1 := blk_ne h.lrow ho (by decide)
  have n2 := blk_ne h.box ho (by decide)
  have hbox5 : Blk w5 tb [v] 24 := Blk.block_ ((h.box.alloc _).alloc _) hg n2
  have hl5 : Blk w5 lb (List.replicate m (Value.int .i64 x)) 3 := Blk.block_ ((h.lrow.alloc _).alloc _) hg n1
  have hltb : lb ≠ tb := fun e => by
    subst e
    have h1 := h.lrow
    have h2 := h.box
    unfold Blk at h1 h2
    rw [h1] at h2
    injection h2 with h2
    injection h2 with _ h2
    exact absurd h2 (by decide)
  have n5 := blk_ne hbox5 ho5 (by decide)
  have hEl : ∀ i c, El wr m lb i c → El (w5.setCell ⟨tb, 0, none⟩ v5) m lb i c := fun i c ⟨g, e, hB⟩ => by
    have ng := blk_ne hB ho (by decide)
    have hB5 := Blk.block_ ((hB.alloc _).alloc _) hg ng
    refine ⟨g, e, hB5.other (a := ⟨tb, 0, none⟩) (fun e => ?_) v5⟩
    subst e
    unfold Blk at hB5 hbox5
    rw [hB5] at hbox5
    injection hbox5 with hq
    injection hq with _ hq
    exact absurd hq (by decide)
  have hnew : El (w5.setCell ⟨tb, 0, none⟩ v5) m lb k [.int .i64 (k : Int), .bool false, .slice (some ⟨wr.heap.size, 0, none⟩) 1 1] := by
    have hB : Blk (((wr.alloc (.cells #[.bool true, .int .i64 5, .int .i64 0, .slice (some ⟨lb, 0, none⟩) m m] 39)).alloc (.cells #[.int .i64 (k : Int), .bool false, .slice (some ⟨wr.heap.size, 0, none⟩) 1 1] 42))) wr.heap.size [.bool true, .int .i64 5, .int .i64 0, .slice (some ⟨lb, 0, none⟩) m m] 39 := (Blk.new wr [.bool true, .int .i64 5, .int .i64 0, .slice (some ⟨lb, 0, none⟩) m m] 39).alloc _
    have ng : some wr.heap.size ≠ v.ownBlock := fun e => by have := own_lt ho _ e.symm; omega
    have hB5 := Blk.block_ hB hg ng
    refine ⟨_, rfl, hB5.other (a := ⟨tb, 0, none⟩) (fun e => ?_) v5⟩
    have := h.box.lt
    simp at e
    omega
  refine ⟨⟨hl5.other (a := ⟨tb, 0, none⟩) hltb v5, hbox5.set 0 v5, ⟨_, own_move ho5 (fun b hb => Below.heap_setCell w5 ⟨tb, 0, none⟩ v5 b (fun e => n5 (by rw [hb, e]))), ?_⟩, bset h.htb hb5, h.htb⟩, hbox5⟩
  rw [List.range_succ]
  exact Reps.snoc (hr.imp_ hEl) hnew rfl
end Go.Proofs.Ytlcioegdmopppaa.En
