/- Histories of few transactions and operations; histories that come in. -/
import Derived.Test.YtlcioegdmopppaaEnK
set_option linter.unusedSimpArgs false
namespace Go.Proofs.Ytlcioegdmopppaa.En
open Go.RowKit Go.Proofs.Ytlcioegdmopppaa.PEncodeBack Go.Proofs.YtlcioegdmopppaaW.PrintWords
set_option linter.unusedVariables false

def shortL (o : S39) : Bool := decide (o.f3.length ≤ 100)
def fewG (ops : Nat) : Nat → List S42 → Bool
  | _, [] => true
  | n, t :: h => if (ops : Int) - n < t.f2.length then false else t.f2.all shortL && fewG ops (n + t.f2.length) h
def fewP (txns ops : Nat) (h : List S42) : Bool := decide (h.length ≤ txns) && fewG ops 0 h
theorem few_l1 (h : List S42) (ops : Nat) (hops : ops ≤ 1000000) (hl : h.length ≤ big) (k : Nat) (hk : k < h.length) (n : Nat) (hn : h[k].f2.length ≤ 1000000) (R : Bool) (hR : Ev (fun r => coronerref03_Few.l0 r (ops : Int) (n : Int) ((k + 1 : Nat) : Int) h) R) : ∀ (d j : Nat), j + d = h[k].f2.length →
    Ev (fun r => coronerref03_Few.l1 r (ops : Int) (n : Int) (k : Int) (j : Int) h) ((h[k].f2.drop j).all shortL && R)
  | 0, j, hj => by
    unfold big at *
    rw [List.drop_eq_nil_of_le (by omega), List.all_nil, Bool.true_and]
    refine Ev.step (fun r => ?_) hR
    simp only [coronerref03_Few.l1]
    rw [if_pos (by omega), if_pos (by omega), rd42 hk, if_neg (by omega), wrapS hk (by omega)]
  | d + 1, j, hj => by
    have hlt : j < h[k].f2.length := by omega
    have ih := few_l1 h ops hops hl k hk n hn R hR d (j + 1) (by omega)
    unfold big at *
    rw [List.drop_eq_getElem_cons hlt, List.all_cons, Bool.and_assoc]
    have hstep : ∀ r, coronerref03_Few.l1 (r + 1) (ops : Int) (n : Int) (k : Int) (j : Int) h = if (h[k].f2[j].f3.length : Int) > 100 then some false else coronerref03_Few.l1 r (ops : Int) (n : Int) (k : Int) ((j + 1 : Nat) : Int) h := fun r => by
      simp only [coronerref03_Few.l1]
      rw [if_pos (by omega), if_pos (by omega), rd42 hk, if_pos (by omega), if_pos (by omega), rd39 hlt, wrapS hlt (by omega)]
    by_cases hs : h[k].f2[j].f3.length ≤ 100
    · have e : shortL h[k].f2[j] = true := by simp [shortL, hs]
      rw [e, Bool.true_and]
      exact Ev.step (fun r => by rw [hstep, if_neg (by omega)]) ih
    · have e : shortL h[k].f2[j] = false := by simp [shortL]; omega
      rw [e, Bool.false_and]
      exact Ev.step (f := fun _ => some false) (fun r => by rw [hstep, if_pos (by omega)]) (Ev.now _)
theorem few_l0 (h : List S42) (ops : Nat) (hops : ops ≤ 1000000) (hl : h.length ≤ big) : ∀ (d k n : Nat), k + d = h.length → n ≤ ops → Ev (fun r => coronerref03_Few.l0 r (ops : Int) (n : Int) (k : Int) h) (fewG ops n (h.drop k))
  | 0, k, n, hk, hn => by
    rw [List.drop_eq_nil_of_le (by omega)]
    exact Ev.step (f := fun _ => some true) (fun r => by simp only [coronerref03_Few.l0]; rw [if_neg (by omega)]) (Ev.now _)
  | d + 1, k, n, hk, hn => by
    have hlt : k < h.length := by omega
    rw [List.drop_eq_getElem_cons hlt]
    have e : fewG ops n (h[k] :: h.drop (k + 1)) = if (ops : Int) - n < h[k].f2.length then false else h[k].f2.all shortL && fewG ops (n + h[k].f2.length) (h.drop (k + 1)) := rfl
    rw [e]
    have hw : wrap64 ((ops : Int) - (n : Int)) = (ops : Int) - n := by unfold wrap64; omega
    have hstep : ∀ r, coronerref03_Few.l0 (r + 1) (ops : Int) (n : Int) (k : Int) h = if (h[k].f2.length : Int) > (ops : Int) - n then some false else coronerref03_Few.l1 r (ops : Int) (wrap64 ((n : Int) + (h[k].f2.length : Int))) (k : Int) ((0 : Nat) : Int) h := fun r => by
      simp only [coronerref03_Few.l0]
      rw [if_pos (by omega), if_pos (by omega), rd42 hlt, hw]
      rfl
    by_cases hc : (ops : Int) - n < h[k].f2.length
    · rw [if_pos hc]
      exact Ev.step (f := fun _ => some false) (fun r => by rw [hstep, if_pos hc]) (Ev.now _)
    · rw [if_neg hc]
      have hw2 : wrap64 ((n : Int) + (h[k].f2.length : Int)) = ((n + h[k].f2.length : Nat) : Int) := by unfold wrap64; omega
      have h1 := few_l1 h ops hops hl k hlt (n + h[k].f2.length) (by omega) _ (few_l0 h ops hops hl d (k + 1) (n + h[k].f2.length) (by omega) (by omega)) h[k].f2.length 0 (by omega)
      rw [List.drop_zero] at h1
      exact Ev.step (fun r => by rw [hstep, if_neg hc, hw2]) h1
theorem few_ev (h : List S42) (txns ops : Nat) (hops : ops ≤ 1000000) (hl : h.length ≤ big) : Ev (fun r => coronerref03_Few.f r h (txns : Int) (ops : Int)) (fewP txns ops h) := by
  unfold fewP
  by_cases hc : h.length ≤ txns
  · rw [decide_eq_true hc, Bool.true_and]
    have := few_l0 h ops hops hl h.length 0 0 (by omega) (by omega)
    rw [List.drop_zero] at this
    refine Ev.congr (fun r => ?_) this
    unfold coronerref03_Few.f
    rw [if_neg (by omega)]; rfl
  · rw [decide_eq_false hc, Bool.false_and]
    refine Ev.congr (f := fun _ => some false) (fun r => ?_) (Ev.now _)
    unfold coronerref03_Few.f
    rw [if_pos (by omega)]
theorem fewG_le (ops : Nat) : ∀ (h : List S42) (n : Nat), fewG ops n h = true → ∀ t ∈ h, t.f2.length ≤ ops ∧ ∀ o ∈ t.f2, o.f3.length ≤ 100
  | [], _, _, t, ht => by simp at ht
  | t0 :: h, n, hh, t, ht => by
    unfold fewG at hh
    split at hh
    · cases hh
    · simp only [Bool.and_eq_true] at hh
      rcases List.mem_cons.1 ht with rfl | ht
      · refine ⟨by omega, fun o ho => ?_⟩
        have := List.all_eq_true.1 hh.1 o ho
        simpa [shortL] using this
      · exact fewG_le ops h _ hh.2 t ht
theorem flat_bound {α β : Type} (f : α → List β) (B : Nat) : ∀ l : List α, (∀ x ∈ l, (f x).length ≤ B) → (l.flatMap f).length ≤ l.length * B
  | [], _ => by simp
  | x :: l, h => by
    rw [List.flatMap_cons, List.length_append, List.length_cons, Nat.add_mul, Nat.one_mul]
    have := flat_bound f B l fun y hy => h y (by simp [hy])
    have := h x (by simp)
    omega
theorem opT_len {o : S39} (hok : okOp o = true) (n : Nat) (hn : o.f3.length ≤ n) : (opT o).length ≤ 11 * n + 24 := by
  unfold okOp at hok
  simp only [Bool.and_eq_true] at hok
  have h1 := (numS_len hok.1).2
  unfold opT
  by_cases h0 : o.f0 = true
  · rw [if_pos h0] at hok ⊢
    simp only [Bool.and_eq_true] at hok
    have := texts_ok_len o.f3 hok.2.2
    rw [texts_cons]
    simp only [List.length_append, List.length_cons, List.length_nil]
    omega
  · rw [if_neg h0] at hok ⊢
    simp only [Bool.and_eq_true] at hok
    have h2 := (numS_len hok.2.1).2
    rw [texts_cons, texts_one]
    simp only [List.length_append, List.length_cons, List.length_nil]
    omega
theorem txnT_len {t : S42} (hok : okT t = true) (m n : Nat) (hm : t.f2.length ≤ m) (hn : ∀ o ∈ t.f2, o.f3.length ≤ n) : (txnT t).length ≤ 15 + m * (11 * n + 24) := by
  unfold okT at hok
  simp only [Bool.and_eq_true] at hok
  have h1 := (numS_len hok.1).2
  have h2 := flat_bound opT (11 * n + 24) t.f2 fun o ho => opT_len (List.all_eq_true.1 hok.2 o ho) n (hn o ho)
  have h3 : t.f2.length * (11 * n + 24) ≤ m * (11 * n + 24) := Nat.mul_le_mul_right _ hm
  unfold txnT headT
  rw [texts_one]
  simp only [List.length_append, List.length_cons, List.length_nil]
  omega
theorem few_fits {h : List S42} (hf : fewP 40 100 h = true) : Fits h := by
  unfold fewP at hf
  simp only [Bool.and_eq_true, decide_eq_true_eq] at hf
  have hl := fewG_le 100 h 0 hf.2
  refine ⟨⟨by omega, fun t ht => by have := (hl t ht).1; omega, fun t ht o ho => by have := (hl t ht).2 o ho; omega⟩, fun hok => ?_⟩
  have h1 := flat_bound txnT (15 + 100 * (11 * 100 + 24)) h fun t ht => txnT_len (List.all_eq_true.1 hok t ht) 100 100 (hl t ht).1 (hl t ht).2
  have h2 : h.length * (15 + 100 * (11 * 100 + 24)) ≤ 40 * (15 + 100 * (11 * 100 + 24)) := Nat.mul_le_mul_right _ hf.1
  unfold histT
  omega
theorem few_c (w : World) (h : List S42) (A : Option Addr) (c : Nat) (hr : Kd.C k42 w A h.length h) (hc : h.length ≤ c) : Calls Try.prog 11 #[.agg #[.slice A h.length c], .int .i64 40, .int .i64 100] w fun e w' => e = .returned (.bool (fewP 40 100 h)) ∧ Below w.heap.size w w' := by
  by_cases hl : h.length ≤ big
  · obtain ⟨K, hK⟩ := (few_ev h 40 100 (by decide) hl).rounds
    exact coronerref03_Few.calls K A c h 40 100 _ w hr hc hK
  · have e : fewP 40 100 h = false := by unfold fewP big at *; rw [decide_eq_false (by omega)]; rfl
    rw [e]
    refine coronerref03_Few.calls 1 A c h 40 100 false w hr hc ?_
    unfold coronerref03_Few.f
    rw [if_pos (by unfold big at hl; omega)]

/-! What comes in. -/
def SlK {α : Type} (K : α → List Value → Prop) (sz : Nat) (W : World) (v : Value) : Prop := ∃ (l : List α) (A : Option Addr) (c : Nat), v = .slice A l.length c ∧ l.length ≤ c ∧ ReadsRow K sz W A l.length l
theorem opens_ints (W : World) : Opens Try.prog W 3 ((Kd.int .i64).K W) := Opens.imp (opens_int Try.underlying3) (by rintro n cs ⟨rfl, _⟩; exact ⟨n, rfl⟩)
theorem opens_op (W : World) : Opens Try.prog W 39 (k39.K W) := by
  refine Opens.imp (opens_row (p := fun i v => match i with | 0 => ∃ n : Bool, v = .bool n | 1 => ∃ n : Int, v = .int .i64 n ∧ (Lit.int .i64 n).wf = true | 2 => ∃ n : Int, v = .int .i64 n ∧ (Lit.int .i64 n).wf = true | _ => SlK ((Kd.int .i64).K W) 1 W v)
    Try.underlying39 (by kernel_rfl) (four rfl ⟨rfl, by kernel_rfl⟩ ⟨rfl, by kernel_rfl⟩ ⟨rfl, by kernel_rfl⟩ ⟨rfl, by kernel_rfl⟩)
    (four rfl (cells_bool Try.underlying4) (cells_int Try.underlying3) (cells_int Try.underlying3) (cells_slice Try.underlying37 (by kernel_rfl) (opens_ints W)))) ?_
  rintro _ cs ⟨hl, hp⟩
  obtain ⟨a, b, c, d, rfl⟩ := list4 hl
  obtain ⟨x0, rfl⟩ := hp 0 _ rfl
  obtain ⟨x1, rfl, _⟩ := hp 1 _ rfl
  obtain ⟨x2, rfl, _⟩ := hp 2 _ rfl
  obtain ⟨l3, A3, c3, rfl, h3, g3⟩ := hp 3 _ rfl
  exact ⟨⟨x0, x1, x2, l3⟩, k39_mk W _ h3 g3⟩
theorem opens_txn (W : World) : Opens Try.prog W 42 (k42.K W) := by
  refine Opens.imp (opens_row (p := fun i v => match i with | 0 => ∃ n : Int, v = .int .i64 n ∧ (Lit.int .i64 n).wf = true | 1 => ∃ n : Bool, v = .bool n | _ => SlK (k39.K W) 4 W v)
    Try.underlying42 (by kernel_rfl) (three rfl ⟨rfl, by kernel_rfl⟩ ⟨rfl, by kernel_rfl⟩ ⟨rfl, by kernel_rfl⟩)
    (three rfl (cells_int Try.underlying3) (cells_bool Try.underlying4) (cells_slice Try.underlying40 (by kernel_rfl) (opens_op W)))) ?_
  rintro _ cs ⟨hl, hp⟩
  obtain ⟨a, b, c, rfl⟩ := list3 hl
  obtain ⟨x0, rfl, _⟩ := hp 0 _ rfl
  obtain ⟨x1, rfl⟩ := hp 1 _ rfl
  obtain ⟨l2, A2, c2, rfl, h2, g2⟩ := hp 2 _ rfl
  exact ⟨⟨x0, x1, l2⟩, k42_mk W _ h2 g2⟩
theorem one {fs : Array Field} {a : Field} (h : fs = #[a]) {p : Nat → Field → Prop} (h0 : p 0 a) : ∀ (i : Nat) (f : Field), fs[i]? = some f → p i f := by
  subst h
  intro i f hf
  match i, hf with
  | 0, hf => simp at hf; subst hf; exact h0
  | k + 1, hf => simp at hf
theorem opens_history (W : World) : Opens Try.prog W 24 (fun (h : List S42) cs => ∃ A c, cs = [.slice A h.length c] ∧ h.length ≤ c ∧ Kd.C k42 W A h.length h) := by
  refine Opens.imp (opens_row (p := fun _ v => SlK (k42.K W) 3 W v) Try.underlying24 (by kernel_rfl) (one rfl ⟨rfl, by kernel_rfl⟩)
    (one rfl (cells_slice Try.underlying22 (by kernel_rfl) (opens_txn W)))) ?_
  rintro _ cs ⟨hl, hp⟩
  obtain ⟨v, rfl⟩ : ∃ v, cs = [v] := by
    match cs, hl with
    | [v], _ => exact ⟨v, rfl⟩
  obtain ⟨l, A, c, rfl, h1, h2⟩ := hp 0 _ rfl
  exact ⟨l, A, c, rfl, h1, h2⟩
end Go.Proofs.Ytlcioegdmopppaa.En
