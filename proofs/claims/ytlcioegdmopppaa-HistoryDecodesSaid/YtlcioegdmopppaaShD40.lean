/- Printed by shake.py. -/
import Derived.Test.YtlcioegdmopppaaShD39
set_option linter.unusedSimpArgs false
namespace Go.Proofs.Ytlcioegdmopppaa.Hs
open Go.RowKit Go.Lib Go.Proofs.Ytlcioegdmopppaa.PEncodeBack Go.Proofs.YtlcioegdmopppaaW.PrintWords
set_option linter.unusedVariables false
theorem dres_none {w wr : World} (hb : Below w.heap.size w wr) (e x : Int) : DRes w ([], e, x) (.returned (.tuple #[.agg #[.slice none 0 0], .int .i64 e, .int .i64 x])) wr :=
  ⟨none, 0, rfl, Nat.le_refl _, Kd.C_nil _ _, hb⟩
set_option maxHeartbeats 800000 in
theorem rdecode_low (w : World) (A : Option Addr) (n c : Nat) (most : Int) (h : most < 0) :
    Calls Try.prog 21 #[.slice A n c, .int .i64 most] w (DRes w ([], 2, 0)) := by
  have HB := (Blk.new w [.slice none 0 0] 24).alloc (.cells #[.slice none 0 0] 24)
  have HF : Hid (DRes w ([], 2, 0) (.returned (.tuple #[.agg #[.slice none 0 0], .int .i64 2, .int .i64 0])) ((w.alloc (.cells #[.slice none 0 0] 24)).alloc (.cells #[.slice none 0 0] 24))) := Lib.hid (dres_none (below_alloc (below_alloc (Below.refl _ _) _) _) 2 0)
  have HBL := Lib.hid HB
  have y5 := HB.free 0
  have y6 := HB.cell 0
  simp only [List.getElem?_cons_zero] at y6
  clear HB
  go_enter Try.func21, Try.ntmps21
  go_wp2
  exact bodyPost_ret (results_row_tmps (u := 5) (u2 := 6) rfl _ _ w.heap.size _ _ (0, 0) _ rfl HBL.out rfl Try.underlying24 hist_info) rfl HF.out
set_option maxHeartbeats 800000 in
theorem rdecode_high (w : World) (A : Option Addr) (n c : Nat) (most : Int) (h : 4096 < most) :
    Calls Try.prog 21 #[.slice A n c, .int .i64 most] w (DRes w ([], 2, 0)) := by
  have HB := (Blk.new w [.slice none 0 0] 24).alloc (.cells #[.slice none 0 0] 24)
  have HF : Hid (DRes w ([], 2, 0) (.returned (.tuple #[.agg #[.slice none 0 0], .int .i64 2, .int .i64 0])) ((w.alloc (.cells #[.slice none 0 0] 24)).alloc (.cells #[.slice none 0 0] 24))) := Lib.hid (dres_none (below_alloc (below_alloc (Below.refl _ _) _) _) 2 0)
  have HBL := Lib.hid HB
  have y5 := HB.free 0
  have y6 := HB.cell 0
  simp only [List.getElem?_cons_zero] at y6
  clear HB
  have hn : ¬ most < 0 := by omega
  go_enter Try.func21, Try.ntmps21
  go_wp2
  exact bodyPost_ret (results_row_tmps (u := 5) (u2 := 6) rfl _ _ w.heap.size _ _ (0, 0) _ rfl HBL.out rfl Try.underlying24 hist_info) rfl HF.out
set_option maxHeartbeats 800000 in
theorem rdecode_long (w : World) (A : Option Addr) (n c : Nat) (most : Int) (m0 : 0 ≤ most) (m1 : most ≤ 4096) (h : (262144 : Int) < n) :
    Calls Try.prog 21 #[.slice A n c, .int .i64 most] w (DRes w ([], 3, 262144)) := by
  have HB := (Blk.new w [.slice none 0 0] 24).alloc (.cells #[.slice none 0 0] 24)
  have HF : Hid (DRes w ([], 3, 262144) (.returned (.tuple #[.agg #[.slice none 0 0], .int .i64 3, .int .i64 262144])) ((w.alloc (.cells #[.slice none 0 0] 24)).alloc (.cells #[.slice none 0 0] 24))) := Lib.hid (dres_none (below_alloc (below_alloc (Below.refl _ _) _) _) 3 262144)
  have HBL := Lib.hid HB
  have y5 := HB.free 0
  have y6 := HB.cell 0
  simp only [List.getElem?_cons_zero] at y6
  clear HB
  have hn : ¬ most < 0 := by omega
  have hn2 : ¬ 4096 < most := by omega
  go_enter Try.func21, Try.ntmps21
  go_wp2
  exact bodyPost_ret (results_row_tmps (u := 5) (u2 := 6) rfl _ _ w.heap.size _ _ (0, 0) _ rfl HBL.out rfl Try.underlying24 hist_info) rfl HF.out
theorem rdecode_c (w : World) (B : Option Addr) (l : List Int) (d : Nat) (most : Int) (hL : Kd.C (Kd.int .u8) w B l.length l) (hd : l.length ≤ d) :
    Calls Try.prog 21 #[.slice B l.length d, .int .i64 most] w (DRes w (decP l most)) := by
  rw [← rdec_eq]
  unfold rdec
  by_cases h1 : most < 0 ∨ 4096 < most
  · rw [if_pos h1]
    rcases h1 with h1 | h1
    · exact rdecode_low w B _ d most h1
    · exact rdecode_high w B _ d most h1
  · rw [if_neg h1]
    by_cases h2 : 262144 < l.length
    · rw [if_pos h2]
      exact rdecode_long w B _ d most (by omega) (by omega) (by omega)
    · rw [if_neg h2]
      exact rdecode_main w B l d most hL hd (by omega) (by omega) (by omega)
theorem decode_at (w : World) (A : Option Addr) (l : List Int) (c : Nat) (most : Int) (hC : Kd.C (Kd.int .u8) w A l.length l) (hc : l.length ≤ c) (hb : Bytes l) : Calls Try.prog 20 #[.slice A l.length c, .int .i64 most] w (DRes w (decP l most)) := by
  refine (decode_c w A l c most hC hc hb).mono ?_
  rintro r w' ⟨v, h1, h2, h3⟩
  obtain ⟨B, d, rfl, hd, hr⟩ := Kd.S_reads h2
  exact ⟨B, d, h1, hd, hr, h3⟩
def Ls (L : Nat) (h : List S42) : Prop := ∀ t ∈ h, ∀ o ∈ t.f2, o.f3.length ≤ L
theorem ls_snoc {L : Nat} {h : List S42} {t : S42} (h1 : Ls L h) (h2 : ∀ o ∈ t.f2, o.f3.length ≤ L) : Ls L (h ++ [t]) := fun x hx => by
  rcases List.mem_append.1 hx with hx | hx
  · exact h1 x hx
  · rw [List.mem_singleton] at hx
    subst hx
    exact h2
theorem ls_add {L : Nat} {h : List S42} {o : S39} (hn : h ≠ []) (h1 : Ls L h) (h2 : o.f3.length ≤ L) : Ls L (addOp h o) := by
  obtain ⟨hs, t, rfl, hadd⟩ := last_splitA hn
  rw [hadd]
  refine ls_snoc (fun x hx => h1 x (List.mem_append_left _ hx)) (fun q hq => ?_)
  rcases List.mem_append.1 hq with hq | hq
  · exact h1 t (List.mem_append_right _ (List.mem_singleton.2 rfl)) q hq
  · rw [List.mem_singleton] at hq
    subst hq
    exact h2
theorem list_few (l : List Int) (a : Int) : (list l a).1.length ≤ l.length + 1 := by
  unfold list
  split
  · exact Nat.zero_le _
  · exact listGo_len l (l.length + 1) a []
theorem rend_ls {L : Nat} {l : List Int} {h : List S42} {o : S39} {a : Int} (hn : h ≠ []) (h1 : Ls L h) (h2 : o.f3.length ≤ L) : Ls L (rend l h o a).1 := by
  unfold rend
  split
  · exact h1
  · exact ls_add hn h1 h2
theorem rstep_ls {l : List Int} {h : List S42} {a most : Int} (h1 : Ls (l.length + 1) h) : Ls (l.length + 1) (rstep l h a most).1 := by
  unfold rstep
  split
  · unfold rtx
    repeat' split
    all_goals first | exact h1 | exact ls_snoc h1 (fun o ho => by simp at ho)
  · split
    · unfold rop
      split
      · exact h1
      · rename_i hn
        unfold rread rapp
        repeat' split
        all_goals first | exact h1 | exact rend_ls hn h1 (list_few _ _) | exact rend_ls hn h1 (Nat.zero_le _)
    · exact h1
theorem rstep_bd {l : List Int} {most : Int} {h : List S42} {a : Int} (b : Bd l most h a) (he : (rstep l h a most).2.2.1 = 0) : Bd l most (rstep l h a most).1 (rstep l h a most).2.1 := by
  unfold rstep at he ⊢
  by_cases h1 : rd l a = 116
  · rw [if_pos h1] at he ⊢; exact (rtx_bd b he).1
  · rw [if_neg h1] at he ⊢
    by_cases h2 : rd l a = 97 ∨ rd l a = 114
    · rw [if_pos h2] at he ⊢; exact (rop_bd b he).1
    · rw [if_neg h2] at he; exact absurd he (by simp)
theorem rlines_few {l : List Int} {most : Int} (m0 : 0 ≤ most) : ∀ (n : Nat) {h : List S42} {a : Int}, Bd l most h a → Ls (l.length + 1) h → (rlines l most n h a).1.length ≤ 1024 ∧ (opsN (rlines l most n h a).1 : Int) ≤ most ∧ Ls (l.length + 1) (rlines l most n h a).1
  | 0, h, a, b, s => ⟨b.1, b.2.1, s⟩
  | n + 1, h, a, b, s => by
    unfold rlines
    split
    · split
      · next he => exact rlines_few m0 n (rstep_bd b he) (rstep_ls s)
      · exact ⟨Nat.zero_le _, m0, fun t ht => by simp at ht⟩
    · exact ⟨b.1, b.2.1, s⟩
theorem dec_sb {l : List Int} {most : Int} : SB (decP l most).1 ∧ opsN (decP l most).1 ≤ big := by
  have key : (decP l most).1.length ≤ 1024 ∧ opsN (decP l most).1 ≤ 4096 ∧ Ls 262145 (decP l most).1 := by
    rw [← rdec_eq]
    unfold rdec
    split
    · exact ⟨Nat.zero_le _, Nat.zero_le _, fun t ht => by simp at ht⟩
    · split
      · exact ⟨Nat.zero_le _, Nat.zero_le _, fun t ht => by simp at ht⟩
      · have := rlines_few (l := l) (most := most) (by omega) (l.length + 1) (h := []) (a := 0) ⟨Nat.zero_le _, by simp [opsN]; omega, Int.le_refl _, by omega⟩ (fun t ht => by simp at ht)
        exact ⟨this.1, by have := this.2.1; omega, fun t ht o ho => by have := this.2.2 t ht o ho; omega⟩
  obtain ⟨h1, h2, h3⟩ := key
  unfold SB big
  exact ⟨⟨by omega, fun t ht => ⟨by have := mem_ops ht; omega, fun o ho => by have := h3 t ht o ho; omega⟩⟩, by omega⟩
theorem eqL_refl {α : Type} {R : α → α → Bool} : ∀ {xs : List α}, (∀ x ∈ xs, R x x = true) → eqL R xs xs = true
  | [], _ => rfl
  | x :: xs, h => by
    unfold eqL
    rw [h x (List.mem_cons_self ..), eqL_refl (fun y hy => h y (List.mem_cons_of_mem _ hy))]
    rfl
theorem eqH_refl (h : List S42) : eqH h h = true := by
  refine eqL_refl (fun t _ => ?_)
  unfold eqT
  rw [eqL_refl (fun o _ => by unfold eqO; rw [eqL_refl (fun x _ => by unfold eqI; simp)]; simp)]
  simp
end Go.Proofs.Ytlcioegdmopppaa.Hs
