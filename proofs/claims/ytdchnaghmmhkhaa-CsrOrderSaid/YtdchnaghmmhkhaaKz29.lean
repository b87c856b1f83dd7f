/- Printed by shake.py. -/
import Derived.Test.YtdchnaghmmhkhaaKz27
import Derived.Test.YtdchnaghmmhkhaaKz28
import Derived.Deep.RegionWith
import Derived.Stop.RegionWithIn
import Derived.LoopIn
import Derived.TacticsInMore
import Derived.OwnWalkIn
set_option linter.unusedSimpArgs false
namespace Go.Proofs.Ytdchnaghmmhkhaa.Cs.Ai
open Go.Shelf Go.RowKit Go.Lib Go.Sort Go.Proofs.Ytdchnaghmmhkhaa.RowAt Go.Proofs.Ytdchnaghmmhkhaa.Stab Go.Proofs.Ytdchnaghmmhkhaa.Stab.Ai Go.Proofs.Ytdchnaghmmhkhaa.PCsrGraphs Go.Proofs.YtdchnaghmmhkhaaW.PrintWords
set_option linter.unusedSectionVars false
set_option linter.unusedVariables false
theorem zip_fst (D : List Ar) : D.zipIdx.map Prod.fst = D := by simp
set_option maxHeartbeats 1000000 in
set_option maxRecDepth 1000000 in
theorem len_c (n : Nat) (r : List Ar) (p : Value) (w : World) (h : Gr w p n r) (hn : n ≤ 1024) : Calls Try.prog 12 #[p] w fun e w' => e = .returned (.int .i64 (n : Int)) ∧ w' = w := by
 obtain ⟨b, ga, ca, A, c, rfl, h2, h3, -, -, -, -⟩ := h
 have r1 : wrap64 (((n : Int) + 1) - 1) = (n : Int) := by unfold wrap64; omega
 have r2 : wrap64 ((n : Int)) = (n : Int) := by unfold wrap64; omega
 go_enter Try.func12, Try.ntmps12
 go_wp2
 go_ret
 exact ⟨rfl, rfl⟩
set_option maxHeartbeats 1000000 in
set_option maxRecDepth 1000000 in
theorem arcs_c (n : Nat) (r : List Ar) (p : Value) (w : World) (h : Gr w p n r) (hr : r.length * 24 ≤ 140737488355328) : Calls Try.prog 15 #[p] w fun e w' => ∃ A c, e = .returned (.slice A r.length c) ∧ Reads w' A r ∧ r.length ≤ c ∧ Below w.heap.size w w' := by
 have e1 : ∀ args w, (callFunc 30 args).run Try.prog w = .ok (.enter 30 args) w := enters_of Try.func30 (by kernel_rfl) rfl
 obtain ⟨b, ga, ca, A, c, rfl, h2, h3, -, h5, h6, -⟩ := h
 have HC := Lib.hid (clone_c A c r w h6 hr)
 clear h6 hr
 go_enter Try.func15, Try.ntmps15
 go_wp2_with (go_at_fn 30; refine HC.out.mono ?_; rintro e w1 ⟨A1, c1, rfl, H1⟩; replace H1 := Lib.hid H1)
 go_ret
 have hR := H1.out.reads
 rw [zip_fst] at hR
 refine ⟨A1, c1, rfl, hR, ?_, H1.out.1⟩
 rcases H1.out.2 with ⟨_, h0, _⟩ | ⟨g, _, _, _, _, h1⟩
 ·have := congrArg List.length h0
  simp at this; subst this; exact Nat.zero_le _
 ·rw [List.length_zipIdx] at h1; exact h1
def rowW (r : List Ar) (v : Nat) : List Ar := (r.drop (cnt r v)).take (cnt r (v + 1) - cnt r v)
theorem cnt_mono (r : List Ar) (v : Nat) : cnt r v ≤ cnt r (v + 1) := by rw [cnt_succ]; omega
theorem rowW_len (r : List Ar) (v : Nat) : (rowW r v).length = cnt r (v + 1) - cnt r v := by
 unfold rowW
 rw [List.length_take, List.length_drop]
 have := cnt_le r (v + 1); omega
theorem Reads.row_of {w : World} {A : Option Addr} {r : List Ar} (h : Reads w A r) (v : Nat) : Reads w (A.map fun a => a.add (cnt r v * 3)) (rowW r v) := fun hr => by
 have hr0 : r ≠ [] := by
  intro e; apply hr; rw [e]; unfold rowW; simp
 obtain ⟨b, o, rfl, hc⟩ := h hr0
 refine ⟨b, o + cnt r v * 3, by rw [Option.map_some, Addr.add_lit], fun i x hx => ?_⟩
 unfold rowW at hx
 rw [List.getElem?_take] at hx
 split at hx
 ·rw [List.getElem?_drop] at hx
  have := hc _ x hx
  rw [show o + cnt r v * 3 + i * 3 = o + (cnt r v + i) * 3 by omega]; exact this
 ·cases hx
def GrA (W : World) (b ga ca : Nat) (A : Option Addr) (c n : Nat) (r : List Ar) : Prop :=
 W.cell? ⟨b, 0, none⟩ = some (.slice (some ⟨ga, 0, none⟩) (n + 1) ca) ∧ W.cell? ⟨b, 1, none⟩ = some (.slice A r.length c) ∧ n + 1 ≤ ca ∧ r.length ≤ c ∧ Reads W A r ∧ ∀ v, v ≤ n → W.cell? ⟨ga, v, none⟩ = some (.int .i64 (cnt r v))
theorem Gr.a {W : World} {p : Value} {n : Nat} {r : List Ar} (h : Gr W p n r) : ∃ b ga ca A c, p = .pointer (some ⟨b, 0, none⟩) ∧ GrA W b ga ca A c n r := by
 obtain ⟨b, ga, ca, A, c, h1, h2, h3, h4, h5, h6, h7⟩ := h
 exact ⟨b, ga, ca, A, c, h1, h2, h3, h4, h5, h6, h7⟩
theorem GrA.gr {W : World} {b ga ca : Nat} {A : Option Addr} {c n : Nat} {r : List Ar} (h : GrA W b ga ca A c n r) : Gr W (.pointer (some ⟨b, 0, none⟩)) n r := ⟨b, ga, ca, A, c, rfl, h⟩
theorem GrA.below {W W' : World} {b ga ca : Nat} {A : Option Addr} {c n : Nat} {r : List Ar} (h : GrA W b ga ca A c n r) (hb : Below W.heap.size W W') : GrA W' b ga ca A c n r :=
 ⟨below_cell hb _ _ h.1, below_cell hb _ _ h.2.1, h.2.2.1, h.2.2.2.1, h.2.2.2.2.1.below hb, fun v hv => below_cell hb _ _ (h.2.2.2.2.2 v hv)⟩
def rAd (A : Option Addr) (c x : Nat) : Option Addr := if c = x then A else A.map fun a => a.add (x * 3)
def RowAt (W : World) (p : Value) (v : Int) (A : Option Addr) (D : List Ar) : Prop :=
 Reads W A D ∧ Calls Try.prog 31 #[p, .int .i64 v] W fun e w' => ∃ c, e = .returned (.slice A D.length c) ∧ Drawn0 W w'
theorem RowAt.none {W : World} {p : Value} {v : Int} (h : Calls Try.prog 31 #[p, .int .i64 v] W fun e w' => e = .returned (.slice none 0 0) ∧ w' = W) : RowAt W p v none [] :=
 ⟨fun h => absurd rfl h, h.mono fun e w' ⟨he, hw⟩ => ⟨0, he, by rw [hw]; exact Drawn0.refl _⟩⟩
set_option maxHeartbeats 2000000 in
set_option maxRecDepth 1000000 in
theorem row_in (n : Nat) (r : List Ar) (b ga ca : Nat) (A : Option Addr) (c : Nat) (v : Nat) (w : World) (h : GrA w b ga ca A c n r) (hn : n ≤ 1024) (hr : r.length * 24 ≤ 140737488355328) (hv : v < n) : RowAt w (.pointer (some ⟨b, 0, none⟩)) (v : Int) (rAd A c (cnt r v)) (rowW r v) := by
 have e1 : ∀ args w, (callFunc 12 args).run Try.prog w = .ok (.enter 12 args) w := enters_of Try.func12 (by kernel_rfl) rfl
 have HL := Lib.hid (len_c n r _ w h.gr hn)
 obtain ⟨h2, h3, h4, h5, h6, h7⟩ := h
 have HRR := Lib.hid (h6.row_of v)
 have l1 := h7 v (by omega)
 have l2 := h7 (v + 1) (by omega)
 have hc0 := cnt_mono r v
 have hc1 := cnt_le r (v + 1)
 have HLN := Lib.hid (rowW_len r v)
 generalize cnt r v = x at *
 generalize cnt r (v + 1) = y at *
 have k1 : ¬ (v : Int) < 0 := by omega
 have k2 : ¬ (v : Int) ≥ (n : Int) := by omega
 have k3 : wrap64 ((v : Int) + 1) = (v : Int) + 1 := by unfold wrap64; omega
 have k4 : (v : Int) < (n : Int) + 1 := by omega
 have k5 : (v : Int) + 1 < (n : Int) + 1 := by omega
 have k6 : ((v : Int) + 1).toNat = v + 1 := by omega
 have k7 : 0 ≤ (v : Int) + 1 := by omega
 have HRD : Reads w (rAd A c x) (rowW r v) := fun hne => by
  unfold rAd
  rw [if_neg (fun e => hne (List.eq_nil_of_length_eq_zero (by rw [HLN.out]; omega)))]
  exact HRR.out hne
 refine ⟨HRD, ?_⟩
 clear h6 h7 HRD HRR
 obtain ⟨Ar, hAr⟩ : ∃ Z, rAd A c x = Z := ⟨_, rfl⟩
 have HAR := Lib.hid hAr
 rw [hAr]
 clear hAr
 go_enter Try.func31, Try.ntmps31
 go_wp2_with (go_at_fn 12; refine HL.out.mono ?_; rintro e w' ⟨rfl, rfl⟩)
 go_quiet (fail)
 go_wp2
 ·go_ret
  refine ⟨⟨0, ret_eq (show Value.slice A (y - x) 0 = .slice Ar (rowW r v).length 0 by rw [HLN.out, ← HAR.out, rAd, if_pos (by assumption)])⟩, ⟨nq, rfl⟩⟩
 ·go_ret
  refine ⟨⟨c - x, ret_eq (show Value.slice (A.map fun a => a.add (x * 3)) (y - x) (c - x) = .slice Ar (rowW r v).length (c - x) by rw [HLN.out, ← HAR.out, rAd, if_neg (by assumption)])⟩, ⟨nq, rfl⟩⟩
end Go.Proofs.Ytdchnaghmmhkhaa.Cs.Ai
set_option linter.unusedSimpArgs false
namespace Go.Proofs.Ytdchnaghmmhkhaa.Cs.Ai
open Go.Shelf Go.RowKit Go.Lib Go.Sort Go.Proofs.Ytdchnaghmmhkhaa.RowAt Go.Proofs.Ytdchnaghmmhkhaa.Stab Go.Proofs.Ytdchnaghmmhkhaa.Stab.Ai Go.Proofs.Ytdchnaghmmhkhaa.PCsrGraphs Go.Proofs.YtdchnaghmmhkhaaW.PrintWords
set_option linter.unusedSectionVars false
set_option linter.unusedVariables false
set_option maxHeartbeats 1000000 in
set_option maxRecDepth 1000000 in
theorem mask1 (x : Ar) (t : Int) (w : World) : Calls Try.prog 33 (#[.agg (enc1 x).toArray, .int .i64 t] ++ #[]) w fun e w' => e = .returned (.int .i64 (cmpI x.f1 t)) ∧ Below w.heap.size w w' := by
 have e1 : ∀ args w, (callFunc 34 args).run Try.prog w = .ok (.enter 34 args) w := enters_of Try.func34 (by kernel_rfl) rfl
 have HC := Lib.hid (compare x.f1 t)
 rw [Array.append_empty]
 have hB : Aside (Below w.heap.size w (w.alloc (.cells (enc1 x).toArray 62))) := (Below.refl _ w).alloc (Nat.le_refl _) _
 unfold enc1 at hB ⊢
 go_enter Try.func33, Try.ntmps33
 go_wp2_with (go_at_fn 34; refine (HC.out _).mono ?_; rintro e w' ⟨rfl, hd⟩; replace hd := Lib.hid hd)
 go_ret
 exact ⟨rfl, hB.out.trans (hd.out.below.mono hB.out.size)⟩
def Rising (D : List Ar) : Prop := ∀ (i j : Nat) (a b : Ar), i < j → D[i]? = some a → D[j]? = some b → a.f1 < b.f1
theorem half {i j : Nat} (h : i < j) : ∃ m : Nat, ((i : Int) + (j : Int)) / 2 = (m : Int) ∧ i ≤ m ∧ m < j := ⟨(i + j) / 2, by omega, by omega, by omega⟩
theorem up1 {m N : Nat} (h : m < N) (hN : N ≤ 6000000000000) : wrap64 ((m : Int) + 1) = ((m + 1 : Nat) : Int) := by unfold wrap64; omega
def SOut (w : World) (D : List Ar) (t : Int) (e : Ending) (w' : World) : Prop := ∃ k : Nat, ∃ f : Bool, e = .returned (.tuple #[.int .i64 (k : Int), .bool f]) ∧ k ≤ D.length ∧ (f = true ↔ ∃ a, D[k]? = some a ∧ a.f1 = t) ∧ (f = false → ∀ a ∈ D, a.f1 ≠ t) ∧ Below w.heap.size w w'
set_option maxHeartbeats 2000000 in
set_option maxRecDepth 1000000 in
theorem search_c (A : Option Addr) (c : Nat) (D : List Ar) (t : Int) (w : World) (R : Reads w A D) (hD : Rising D) (hr : D.length * 24 ≤ 140737488355328) :
 Calls Try.prog 32 #[.slice A D.length c, .int .i64 t, .func (.func 33) #[] #[]] w (SOut w D t) := by
 have e1 : ∀ args w, (callFunc 33 args).run Try.prog w = .ok (.enter 33 args) w := enters_of Try.func33 (by kernel_rfl) rfl
 obtain ⟨N, hN⟩ : ∃ N, D.length = N := ⟨_, rfl⟩
 have HN := Lib.hid hN
 have HR := Lib.hid R
 have HD := Lib.hid hD
 have HM := Lib.hid mask1
 have hNs : N ≤ 6000000000000 := by omega
 rw [hN]
 clear R hD hr hN
 go_enter Try.func32, Try.ntmps32
 go_wp2
 go_loopg [9, 10, 11] N (fun kx v9 v10 _ wr => ∃ i j : Nat, v9 = .int .i64 i ∧ v10 = .int .i64 j ∧ i ≤ j ∧ j ≤ N ∧ j - i ≤ kx ∧ Aside (∀ q a, q < i → D[q]? = some a → a.f1 < t) ∧ Aside (∀ q a, j ≤ q → D[q]? = some a → t ≤ a.f1) ∧ Aside (Below w.heap.size w wr))
 case atStart => exact ⟨0, N, rfl, rfl, by omega, by omega, by omega, fun q a h => by omega, fun q a h h2 => by have := (List.getElem?_eq_some_iff.1 h2).1; rw [HN.out] at this; omega, Below.refl _ _⟩
 case round =>
  obtain ⟨i, j, rfl, rfl, hij, hj, hkx, HL, HH, HB⟩ := hrel
  by_cases hlt : i < j
  ·have hlti : (i : Int) < (j : Int) := by omega
   obtain ⟨m, hq, hh1, hh2⟩ := half hlt
   have hmN : m < N := by omega
   have hmi : (m : Int) < (N : Int) := by omega
   have hup := up1 hmN hNs
   have hx : D[m]? = some (D[m]'(by rw [HN.out]; exact hmN)) := List.getElem?_eq_getElem _
   generalize (D[m]'(by rw [HN.out]; exact hmN)) = x at hx
   obtain ⟨b, o, rfl, hcell⟩ := HR.out (by intro e; rw [e] at hx; cases hx)
   obtain ⟨q0, q1, q2⟩ := hcell m x hx
   have l0 := below_cell HB.out _ _ q0
   have l1 := below_cell HB.out _ _ q1
   have l2 := below_cell HB.out _ _ q2
   have HX := Lib.hid hx
   have hcall := HM.out x t wr
   rw [Array.append_empty] at hcall
   unfold enc1 at hcall
   clear q0 q1 q2 hcell hx
   by_cases hc : x.f1 < t
   ·have hcd : decide (cmpI x.f1 t < 0) = true := decide_eq_true (cmpI_neg.2 hc)
    have hcd2 : cmpI x.f1 t < 0 := cmpI_neg.2 hc
    generalize cmpI x.f1 t = z at hcall hcd hcd2
    go_wp2_with (go_at_fn 33; refine hcall.mono ?_; rintro e w' ⟨rfl, hb⟩; replace hb := Lib.hid hb)
    go_roundg (j - (m + 1))
    case measure => omega
    case rel => exact ⟨m + 1, j, by first | rfl | rw [hup], rfl, hh2, hj, Nat.le_refl _, (show Aside _ from fun q a h1 h2 => by
     rcases Nat.lt_or_ge q m with h | h
     ·have := HD.out q m a x h h2 HX.out; omega
     ·have e : q = m := by omega
      subst e
      rw [HX.out] at h2; cases h2; exact hc), HH, HB.out.trans (hb.out.mono HB.out.size)⟩
   ·have hcd : decide (cmpI x.f1 t < 0) = false := decide_eq_false (fun h => hc (cmpI_neg.1 h))
    have hcd2 : ¬ cmpI x.f1 t < 0 := fun h => hc (cmpI_neg.1 h)
    generalize cmpI x.f1 t = z at hcall hcd hcd2
    go_wp2_with (go_at_fn 33; refine hcall.mono ?_; rintro e w' ⟨rfl, hb⟩; replace hb := Lib.hid hb)
    go_roundg (m - i)
    case measure => omega
    case rel => exact ⟨i, m, rfl, rfl, hh1, by omega, Nat.le_refl _, HL, (show Aside _ from fun q a h1 h2 => by
     rcases Nat.lt_or_ge m q with h | h
     ·have := HD.out m q x a h HX.out h2; omega
     ·have e : q = m := by omega
      subst e
      rw [HX.out] at h2; cases h2; omega), HB.out.trans (hb.out.mono HB.out.size)⟩
  ·have hji : j = i := by omega
   subst hji
   have hlti : ¬ (j : Int) < (j : Int) := by omega
   by_cases hjN : j < N
   ·have hji : (j : Int) < (N : Int) := by omega
    have hx : D[j]? = some (D[j]'(by rw [HN.out]; exact hjN)) := List.getElem?_eq_getElem _
    generalize (D[j]'(by rw [HN.out]; exact hjN)) = x at hx
    obtain ⟨b, o, rfl, hcell⟩ := HR.out (by intro e; rw [e] at hx; cases hx)
    obtain ⟨q0, q1, q2⟩ := hcell j x hx
    have l0 := below_cell HB.out _ _ q0
    have l1 := below_cell HB.out _ _ q1
    have l2 := below_cell HB.out _ _ q2
    have HX := Lib.hid hx
    have hcall := HM.out x t wr
    rw [Array.append_empty] at hcall
    unfold enc1 at hcall
    have HZ : Hid ((cmpI x.f1 t == 0) = true ↔ x.f1 = t) := Lib.hid (by rw [beq_iff_eq]; exact cmpI_zero)
    clear q0 q1 q2 hcell hx
    generalize cmpI x.f1 t = z at hcall HZ
    go_wp2_with (go_at_fn 33; refine hcall.mono ?_; rintro e w' ⟨rfl, hb⟩; replace hb := Lib.hid hb)
    refine bodyPost_ret (results_tmp2 (t := 6) (u := 7) rfl _ _ _) rfl ?_
    unfold SOut
    rw [HN.out]
    refine ⟨j, (z == 0), rfl, hj, ⟨fun h => ⟨x, HX.out, HZ.out.1 h⟩, fun ⟨a, h1, h2⟩ => ?_⟩, fun h a ha e => ?_, HB.out.trans (hb.out.mono HB.out.size)⟩
    ·rw [HX.out] at h1; cases h1; exact HZ.out.2 h2
    ·obtain ⟨q, hq, rfl⟩ := List.getElem_of_mem ha
     have hq2 := List.getElem?_eq_getElem hq
     rcases Nat.lt_trichotomy q j with h1 | h1 | h1
     ·have := HL.out q _ h1 hq2; omega
     ·subst h1
      rw [HX.out] at hq2
      have := Option.some.inj hq2
      rw [← this] at e
      rw [HZ.out.2 e] at h; cases h
     ·have h3 := HD.out j q x _ h1 HX.out hq2
      have h4 := HH.out j x (Nat.le_refl _) HX.out
      omega
   ·have hjn : j = N := by omega
    have hji : ¬ (j : Int) < (N : Int) := by omega
    go_wp2
    refine bodyPost_ret (results_tmp2 (t := 6) (u := 7) rfl _ _ _) rfl ?_
    unfold SOut
    rw [HN.out]
    refine ⟨j, false, by rw [hjn]; rfl, hj, ⟨fun h => (by cases h), fun ⟨a, h1, h2⟩ => ?_⟩, fun _ a ha e => ?_, HB.out⟩
    ·have := (List.getElem?_eq_some_iff.1 h1).1
     rw [HN.out] at this; omega
    ·obtain ⟨q, hq, rfl⟩ := List.getElem_of_mem ha
     have := HL.out q _ (by rw [hjn, ← HN.out]; exact hq) (List.getElem?_eq_getElem hq)
     omega
end Go.Proofs.Ytdchnaghmmhkhaa.Cs.Ai
set_option linter.unusedSimpArgs false
namespace Go.Proofs.Ytdchnaghmmhkhaa.Cs.Ai
open Go.Shelf Go.RowKit Go.Lib Go.Sort Go.Proofs.Ytdchnaghmmhkhaa.RowAt Go.Proofs.Ytdchnaghmmhkhaa.Stab Go.Proofs.Ytdchnaghmmhkhaa.Stab.Ai Go.Proofs.Ytdchnaghmmhkhaa.PCsrGraphs Go.Proofs.YtdchnaghmmhkhaaW.PrintWords
set_option linter.unusedSectionVars false
set_option linter.unusedVariables false
def lookD (D : List Ar) (t : Int) : Int := ((D.find? fun a => decide (a.f1 = t)).map (·.f2)).getD 0
theorem lookD_at {D : List Ar} {t : Int} {k : Nat} {a : Ar} (hD : Rising D) (hk : D[k]? = some a) (ha : a.f1 = t) : lookD D t = a.f2 := by
 unfold lookD
 obtain ⟨b, hb⟩ : ∃ b, (D.find? fun a => decide (a.f1 = t)) = some b := by
  rw [← Option.isSome_iff_exists, List.find?_isSome]
  exact ⟨a, List.mem_of_getElem? hk, decide_eq_true ha⟩
 rw [hb]
 have h1 : b.f1 = t := of_decide_eq_true (List.find?_some (p := fun a : Ar => decide (a.f1 = t)) hb)
 obtain ⟨q, hq, e⟩ := List.getElem_of_mem (List.mem_of_find?_eq_some hb)
 have hq2 : D[q]? = some b := by rw [List.getElem?_eq_getElem hq, e]
 rcases Nat.lt_trichotomy q k with h | h | h
 ·have := hD q k b a h hq2 hk; omega
 ·subst h; rw [hk] at hq2; cases hq2; rfl
 ·have := hD k q a b h hk hq2; omega
theorem lookD_none {D : List Ar} {t : Int} (h : ∀ a ∈ D, a.f1 ≠ t) : lookD D t = 0 := by
 unfold lookD
 rw [List.find?_eq_none.2 (fun a ha => by simp [h a ha])]
 rfl
set_option maxHeartbeats 1000000 in
set_option maxRecDepth 1000000 in
theorem mask_c (p : Value) (v t : Int) (A : Option Addr) (D : List Ar) (w : World) (h : RowAt w p v A D) (hD : Rising D) (hr : D.length * 24 ≤ 140737488355328) :
 Calls Try.prog 17 #[p, .int .i64 v, .int .i64 t] w fun e w' => e = .returned (.int .i64 (lookD D t)) ∧ Below w.heap.size w w' := by
 have e1 : ∀ args w, (callFunc 31 args).run Try.prog w = .ok (.enter 31 args) w := enters_of Try.func31 (by kernel_rfl) rfl
 have e2 : ∀ args w, (callFunc 32 args).run Try.prog w = .ok (.enter 32 args) w := enters_of Try.func32 (by kernel_rfl) rfl
 have HR := Lib.hid h.1
 have HC := Lib.hid h.2
 have HS : Hid (∀ c w1, Drawn0 w w1 → Calls Try.prog 32 #[.slice A D.length c, .int .i64 t, .func (.func 33) #[] #[]] w1 (SOut w1 D t)) := Lib.hid fun c w1 hd => search_c A c D t w1 (h.1.below hd.below) hD hr
 clear h hr
 go_enter Try.func17, Try.ntmps17
 go_wp2_with (go_at_fn 31; refine HC.out.mono ?_; rintro e w1 ⟨c, rfl, hd⟩; replace hd := Lib.hid hd)
 refine (HS.out _ _ hd.out).mono ?_
 rintro e w2 ⟨k, f, rfl, hk, hf1, hf2, hb⟩
 have HB : Hid (Below w.heap.size w w2) := Lib.hid (hd.out.below.trans (hb.mono hd.out.below.size))
 cases f with
 | false =>
  have hl := lookD_none (hf2 rfl)
  have HL := Lib.hid hl
  clear hf1 hf2 hk hb hl hd
  go_wp2
  go_ret
  exact ⟨by rw [HL.out]; rfl, HB.out⟩
 | true =>
  obtain ⟨a, ha, hat⟩ := hf1.1 rfl
  have hl := lookD_at hD ha hat
  have HL := Lib.hid hl
  have hkl := (List.getElem?_eq_some_iff.1 ha).1
  obtain ⟨b, o, rfl, hcell⟩ := HR.out (by intro e; rw [e] at ha; cases ha)
  have l2 := below_cell HB.out _ _ (hcell k a ha).2.2
  have hki : (k : Int) < (D.length : Int) := by omega
  clear hf1 hf2 hk hb hl hd hcell ha hat hkl
  go_wp2
  go_ret
  exact ⟨by rw [HL.out]; rfl, HB.out⟩
end Go.Proofs.Ytdchnaghmmhkhaa.Cs.Ai
set_option linter.unusedSimpArgs false
namespace Go.Proofs.Ytdchnaghmmhkhaa.Cs.Ai
open Go.Shelf Go.RowKit Go.Lib Go.Sort Go.Proofs.Ytdchnaghmmhkhaa.RowAt Go.Proofs.Ytdchnaghmmhkhaa.Stab Go.Proofs.Ytdchnaghmmhkhaa.Stab.Ai Go.Proofs.Ytdchnaghmmhkhaa.PCsrGraphs Go.Proofs.YtdchnaghmmhkhaaW.PrintWords
set_option linter.unusedSectionVars false
set_option linter.unusedVariables false
attribute [local go_sem] Oper.semAt_some
set_option maxHeartbeats 1000000 in
set_option maxRecDepth 1000000 in
theorem out_c (p : Option Addr) (v m : Int) (w : World) :
 Calls Try.prog 20 #[.pointer p, .int .i64 v, .int .i64 m] w fun e w' => e = .returned (.func (.func 35) #[] #[.pointer (some ⟨w.heap.size, 0, none⟩), .pointer (some ⟨w.heap.size + 1, 0, none⟩), .pointer (some ⟨w.heap.size + 2, 0, none⟩)]) ∧ w' = ((w.alloc (.cells #[.pointer p] 24)).alloc (.cells #[.int .i64 v] 3)).alloc (.cells #[.int .i64 m] 3) := by
 go_enter Try.func20, Try.ntmps20
 go_wp2
 go_ret
 exact ⟨rfl, rfl⟩
def flt (m : Int) (D : List Ar) : List Ar := D.filter fun a => Go.bits .and .i64 a.f2 m != 0
theorem flt_snoc {m : Int} {D : List Ar} {i : Nat} {a : Ar} (h : D[i]? = some a) : flt m (D.take (i + 1)) = flt m (D.take i) ++ if (Go.bits .and .i64 a.f2 m != 0) = true then [a] else [] := by
 unfold flt
 rw [List.take_add_one, h, List.filter_append]
 congr 1
 by_cases hb : (Go.bits .and .i64 a.f2 m != 0) = true <;> simp [hb]
theorem flt_get {m : Int} {D : List Ar} {i : Nat} {a : Ar} (h : D[i]? = some a) (hb : (Go.bits .and .i64 a.f2 m != 0) = true) : (flt m (D.take i)).length < (flt m D).length ∧ (flt m D).getD (flt m (D.take i)).length ⟨0, 0, 0⟩ = a := by
 have e : flt m D = flt m (D.take i) ++ a :: flt m (D.drop (i + 1)) := by
  obtain ⟨h1, h2⟩ := List.getElem?_eq_some_iff.1 h
  have : D = D.take i ++ a :: D.drop (i + 1) := by rw [← h2, ← List.drop_eq_getElem_cons h1, List.take_append_drop]
  have h3 := congrArg (List.filter fun a : Ar => Go.bits .and .i64 a.f2 m != 0) this
  rw [List.filter_append, List.filter_cons, if_pos hb] at h3
  exact h3
 rw [e]
 constructor
 ·simp
 ·rw [List.getD_eq_getElem?_getD, List.getElem?_append_right (Nat.le_refl _), Nat.sub_self]; rfl
theorem meas {i N : Nat} (h : i < N) (hN : N ≤ 6000000000000) : N - (intOf (Value.int .i64 (wrap64 ((i : Int) + 1)))).toNat < N - (intOf (Value.int .i64 (i : Int))).toNat := by
 rw [up1 h hN]
 show N - ((i + 1 : Nat) : Int).toNat < N - (i : Int).toNat
 rw [Int.toNat_natCast, Int.toNat_natCast]; omega
set_option maxRecDepth 1000000 in
set_option maxHeartbeats 2000000 in
theorem out1_goes (l g : Nat) (p : Option Addr) (v m : Int) (A : Option Addr) (D : List Ar) (hr : D.length * 24 ≤ 140737488355328) (W : World) :
 Goes Try.prog 35 #[.pointer (some ⟨g, 0, none⟩), .pointer (some ⟨g + 1, 0, none⟩), .pointer (some ⟨g + 2, 0, none⟩)] (flt m D).length (fun k => #[.int .i64 ((flt m D).getD k ⟨0, 0, 0⟩).f1, .int .i64 ((flt m D).getD k ⟨0, 0, 0⟩).f2]) (fun W W' => Below W.heap.size W W')
  (fun W => W.cell? ⟨g, 0, none⟩ = some (.pointer p) ∧ W.cell? ⟨g + 1, 0, none⟩ = some (.int .i64 v) ∧ W.cell? ⟨g + 2, 0, none⟩ = some (.int .i64 m) ∧ RowAt W (.pointer p) v A D) l W := by
 intro Y Yx h0 hInv hSt hStx hY
 refine callsIn_of_wp Try.func35 rfl trivial ?_ rfl
 simp only [Try.ntmps35, List.size_toArray, List.length_cons, List.length_nil, Nat.reduceAdd, Nat.reduceSub, Array.replicate_succ, Array.replicate_zero, List.push_toArray, List.append_toArray, List.nil_append, List.cons_append]
 have hF : ∀ f, Fence.wide.fn f = True := fun _ => rfl
 have hD : Fence.wide.depth = none := rfl
 obtain ⟨hg0, hg1, hg2, hrd, hrow⟩ := hInv 0 W h0
 have HROW := Lib.hid hrow
 obtain ⟨N, hN⟩ : ∃ N, D.length = N := ⟨_, rfl⟩
 have HN := Lib.hid hN
 have HNS : Hid (N ≤ 6000000000000) := Lib.hid (by omega)
 rw [hN] at HROW
 have e1 : ∀ args w, (callFunc 31 args).run Try.prog w = .ok (.enter 31 args) w := enters_of Try.func31 (by kernel_rfl) rfl
 clear hrow hrd hN
 gi_wp2_with (gi_at_call 31; refine (callsIn_wide.2 HROW.out).mono ?_; rintro e w1 ⟨c, rfl, hd⟩; replace hd := Lib.hid hd)
 have hY1 := hSt 0 W w1 hd.out.below h0
 gi_loopw [6, 11] (fun _ v11 wr => ∃ i : Nat, i ≤ N ∧ v11 = .int .i64 i ∧ Y (flt m (D.take i)).length wr) (fun _ v11 _ => N - (intOf v11).toNat)
 case atStart => exact ⟨0, Nat.zero_le _, rfl, hY1⟩
 case round =>
  obtain ⟨i, hi, rfl, hYk⟩ := hrel
  by_cases hlt : i < N
  ·have hlti : (i : Int) < (N : Int) := by omega
   obtain ⟨b0, b1, b2, hrd, _⟩ := hInv _ wr hYk
   have hx : D[i]? = some (D[i]'(by rw [HN.out]; exact hlt)) := List.getElem?_eq_getElem _
   generalize (D[i]'(by rw [HN.out]; exact hlt)) = x at hx
   obtain ⟨b, o, rfl, hcell⟩ := hrd (by intro e; rw [e] at hx; cases hx)
   obtain ⟨l0, l1, l2⟩ := hcell i x hx
   have HX := Lib.hid hx
   have hYa := Lib.hid (hSt _ wr (wr.alloc (.cells #[.int .i64 x.f0, .int .i64 x.f1, .int .i64 x.f2] 62)) ((Below.refl _ _).alloc (Nat.le_refl _) _) hYk)
   have hb2 : (wr.alloc (.cells #[.int .i64 x.f0, .int .i64 x.f1, .int .i64 x.f2] 62)).cell? ⟨g + 2, 0, none⟩ = some (.int .i64 m) := Lib.cell?_alloc_some _ b2
   have hnx : Hid (Value.int .i64 (wrap64 ((i : Int) + 1)) = Value.int .i64 ((i + 1 : Nat) : Int)) := Lib.hid (wnext hlt HNS.out)
   clear hrd hcell hx b0 b1 hYk
   by_cases hb : (Go.bits .and .i64 x.f2 m != 0) = true
   ·obtain ⟨hk1, hk2⟩ := flt_get HX.out hb
    have hk3 := flt_snoc (m := m) HX.out
    rw [if_pos hb] at hk3
    obtain ⟨fn, tmps, assign, body, hRy⟩ := hY _ hk1
    obtain ⟨hyr, hyR⟩ := hRy _ hYa.out
    rw [hk2] at hyr
    have HyR := Lib.hid hyR
    have HK3 := Lib.hid hk3
    have hbb : (Go.bits .and .i64 x.f2 m == 0) = false := by simpa using hb
    clear hRy hyR hk1 hk2 hk3 hY hYa
    gi_wp2
    refine RoundIn.mono HyR.out ?_
    rintro e w' ⟨bv, rfl, hy1, hy2⟩
    cases bv
    ·gi_wp2
     refine bodyPost_ret (results_none rfl _ _ _) rfl ?_
     exact ⟨⟨_, rfl⟩, .inr (hy2 (by first | rfl | trivial))⟩
    ·gi_wp2
     go_roundw
     case rel => exact ⟨i + 1, hlt, by first | exact hnx.out | go_num, by rw [HK3.out, List.length_append]; exact hy1 (by first | rfl | trivial)⟩
     case measure => exact meas hlt HNS.out
   ·have hk3 := flt_snoc (m := m) HX.out
    rw [if_neg hb, List.append_nil] at hk3
    have HK3 := Lib.hid hk3
    have hbb : (Go.bits .and .i64 x.f2 m == 0) = true := by simpa using hb
    have hb0 : Go.bits .and .i64 x.f2 m = 0 := by simpa using hb
    clear hk3 hY hb
    gi_wp2
    go_roundw
    case rel => exact ⟨i + 1, hlt, by first | exact hnx.out | go_num, by rw [HK3.out]; exact hYa.out⟩
    case measure => exact meas hlt HNS.out
  ·have hin : N = i := by omega
   subst hin
   have hlti : ¬ (N : Int) < (N : Int) := by omega
   rw [List.take_of_length_le (by rw [HN.out]; exact Nat.le_refl _)] at hYk
   have HY := Lib.hid hYk
   gi_wp2
   go_end0
   exact ⟨⟨_, rfl⟩, .inl HY.out⟩
end Go.Proofs.Ytdchnaghmmhkhaa.Cs.Ai
