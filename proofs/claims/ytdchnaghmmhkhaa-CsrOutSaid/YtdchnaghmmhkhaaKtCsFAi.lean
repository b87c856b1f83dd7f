/- csr at Arc[int]: Len, Arcs and row of a graph, and of none. -/
import Derived.Test.YtdchnaghmmhkhaaKtCsEAi
set_option linter.unusedSimpArgs false
namespace Go.Proofs.Ytdchnaghmmhkhaa.Cs.Ai
open Go.Shelf Go.RowKit Go.Lib Go.Sort Go.Proofs.Ytdchnaghmmhkhaa.RowAt Go.Proofs.Ytdchnaghmmhkhaa.Stab Go.Proofs.Ytdchnaghmmhkhaa.Stab.Ai Go.Proofs.Ytdchnaghmmhkhaa.PCsrGraphs Go.Proofs.YtdchnaghmmhkhaaW.PrintWords
set_option linter.unusedSectionVars false
set_option linter.unusedVariables false

theorem zip_fst (D : List Ar) : D.zipIdx.map Prod.fst = D := by simp

set_option maxHeartbeats 1000000 in
set_option maxRecDepth 1000000 in
theorem len_c (n : Nat) (r : List Ar) (p : Value) (w : World) (h : Gr w p n r) (hn : n ≤ 1024) : Calls Try.prog 12 #[p] w fun e w' => e = .returned (.int .i64 (n : Int)) ∧ w' = w := by
  obtain ⟨b, ga, ca, A, c, rfl, h2, h3, -, -, -, -⟩ := h
  have r1 : wrap64 (((n : Int) + 1) - 1) = (n : Int) := by unfold wrap64; omega
  have r2 : wrap64 ((n : Int)) = (n : Int) := by unfold wrap64; omega
  go_enter Try.func12, Try.ntmps12
  go_wp2
  go_ret
  exact ⟨rfl, rfl⟩
set_option maxHeartbeats 1000000 in
set_option maxRecDepth 1000000 in
theorem len_nil (w : World) : Calls Try.prog 12 #[.pointer none] w fun e w' => e = .returned (.int .i64 0) ∧ w' = w := by
  go_enter Try.func12, Try.ntmps12
  go_wp2
  go_ret
  exact ⟨rfl, rfl⟩
set_option maxHeartbeats 1000000 in
set_option maxRecDepth 1000000 in
theorem arcs_c (n : Nat) (r : List Ar) (p : Value) (w : World) (h : Gr w p n r) (hr : r.length * 24 ≤ 140737488355328) : Calls Try.prog 15 #[p] w fun e w' => ∃ A c, e = .returned (.slice A r.length c) ∧ Reads w' A r ∧ r.length ≤ c ∧ Below w.heap.size w w' := by
  have e1 : ∀ args w, (callFunc 30 args).run Try.prog w = .ok (.enter 30 args) w := enters_of Try.func30 (by kernel_rfl) rfl
  obtain ⟨b, ga, ca, A, c, rfl, h2, h3, -, h5, h6, -⟩ := h
  have HC := Lib.hid (clone_c A c r w h6 hr)
  clear h6 hr
  go_enter Try.func15, Try.ntmps15
  go_wp2_with (go_at_fn 30; refine HC.out.mono ?_; rintro e w1 ⟨A1, c1, rfl, H1⟩; replace H1 := Lib.hid H1)
  go_ret
  have hR := H1.out.reads
  rw [zip_fst] at hR
  refine ⟨A1, c1, rfl, hR, ?_, H1.out.1⟩
  rcases H1.out.2 with ⟨_, h0, _⟩ | ⟨g, _, _, _, _, h1⟩
  · have := congrArg List.length h0
    simp at this; subst this; exact Nat.zero_le _
  · rw [List.length_zipIdx] at h1; exact h1
set_option maxHeartbeats 1000000 in
set_option maxRecDepth 1000000 in
theorem arcs_nil (w : World) : Calls Try.prog 15 #[.pointer none] w fun e w' => e = .returned (.slice none 0 0) ∧ w' = w := by
  go_enter Try.func15, Try.ntmps15
  go_wp2
  go_ret
  exact ⟨rfl, rfl⟩

/-- The arcs from a vertex on, as they stand. -/
def rowW (r : List Ar) (v : Nat) : List Ar := (r.drop (cnt r v)).take (cnt r (v + 1) - cnt r v)
theorem cnt_mono (r : List Ar) (v : Nat) : cnt r v ≤ cnt r (v + 1) := by rw [cnt_succ]; omega
theorem rowW_len (r : List Ar) (v : Nat) : (rowW r v).length = cnt r (v + 1) - cnt r v := by
  unfold rowW
  rw [List.length_take, List.length_drop]
  have := cnt_le r (v + 1); omega
theorem Reads.row_of {w : World} {A : Option Addr} {r : List Ar} (h : Reads w A r) (v : Nat) : Reads w (A.map fun a => a.add (cnt r v * 3)) (rowW r v) := fun hr => by
  have hr0 : r ≠ [] := by
    intro e; apply hr; rw [e]; unfold rowW; simp
  obtain ⟨b, o, rfl, hc⟩ := h hr0
  refine ⟨b, o + cnt r v * 3, by rw [Option.map_some, Addr.add_lit], fun i x hx => ?_⟩
  unfold rowW at hx
  rw [List.getElem?_take] at hx
  split at hx
  · rw [List.getElem?_drop] at hx
    have := hc _ x hx
    rw [show o + cnt r v * 3 + i * 3 = o + (cnt r v + i) * 3 by omega]; exact this
  · cases hx
/-- Without it, nothing. -/
def rowP (n : Nat) (r : List Ar) (v : Int) : List Ar := if 0 ≤ v ∧ v < n then rowW r v.toNat else []

set_option maxHeartbeats 1000000 in
set_option maxRecDepth 1000000 in
theorem row_out (n : Nat) (r : List Ar) (p : Value) (v : Int) (w : World) (h : Gr w p n r) (hn : n ≤ 1024) (hv : ¬ (0 ≤ v ∧ v < n)) : Calls Try.prog 31 #[p, .int .i64 v] w fun e w' => e = .returned (.slice none 0 0) ∧ w' = w := by
  have e1 : ∀ args w, (callFunc 12 args).run Try.prog w = .ok (.enter 12 args) w := enters_of Try.func12 (by kernel_rfl) rfl
  have HL := Lib.hid (len_c n r p w h hn)
  clear h
  by_cases h1 : v < 0
  · go_enter Try.func31, Try.ntmps31
    go_wp2_with (go_at_fn 12; refine HL.out.mono ?_; rintro e w' ⟨rfl, rfl⟩)
    go_ret
    exact ⟨rfl, rfl⟩
  · have h2 : v ≥ (n : Int) := by omega
    go_enter Try.func31, Try.ntmps31
    go_wp2_with (go_at_fn 12; refine HL.out.mono ?_; rintro e w' ⟨rfl, rfl⟩)
    go_ret
    exact ⟨rfl, rfl⟩
set_option maxHeartbeats 1000000 in
set_option maxRecDepth 1000000 in
theorem row_nil (v : Int) (w : World) : Calls Try.prog 31 #[.pointer none, .int .i64 v] w fun e w' => e = .returned (.slice none 0 0) ∧ w' = w := by
  have e1 : ∀ args w, (callFunc 12 args).run Try.prog w = .ok (.enter 12 args) w := enters_of Try.func12 (by kernel_rfl) rfl
  have HL := Lib.hid (len_nil w)
  by_cases h1 : v < 0
  · go_enter Try.func31, Try.ntmps31
    go_wp2_with (go_at_fn 12; refine HL.out.mono ?_; rintro e w' ⟨rfl, rfl⟩)
    go_ret
    exact ⟨rfl, rfl⟩
  · have h2 : v ≥ 0 := by omega
    go_enter Try.func31, Try.ntmps31
    go_wp2_with (go_at_fn 12; refine HL.out.mono ?_; rintro e w' ⟨rfl, rfl⟩)
    go_ret
    exact ⟨rfl, rfl⟩
/-- A graph whose cells are told. -/
def GrA (W : World) (b ga ca : Nat) (A : Option Addr) (c n : Nat) (r : List Ar) : Prop :=
  W.cell? ⟨b, 0, none⟩ = some (.slice (some ⟨ga, 0, none⟩) (n + 1) ca) ∧ W.cell? ⟨b, 1, none⟩ = some (.slice A r.length c) ∧ n + 1 ≤ ca ∧ r.length ≤ c ∧ Reads W A r ∧ ∀ v, v ≤ n → W.cell? ⟨ga, v, none⟩ = some (.int .i64 (cnt r v))
theorem Gr.a {W : World} {p : Value} {n : Nat} {r : List Ar} (h : Gr W p n r) : ∃ b ga ca A c, p = .pointer (some ⟨b, 0, none⟩) ∧ GrA W b ga ca A c n r := by
  obtain ⟨b, ga, ca, A, c, h1, h2, h3, h4, h5, h6, h7⟩ := h
  exact ⟨b, ga, ca, A, c, h1, h2, h3, h4, h5, h6, h7⟩
theorem GrA.gr {W : World} {b ga ca : Nat} {A : Option Addr} {c n : Nat} {r : List Ar} (h : GrA W b ga ca A c n r) : Gr W (.pointer (some ⟨b, 0, none⟩)) n r := ⟨b, ga, ca, A, c, rfl, h⟩
theorem GrA.below {W W' : World} {b ga ca : Nat} {A : Option Addr} {c n : Nat} {r : List Ar} (h : GrA W b ga ca A c n r) (hb : Below W.heap.size W W') : GrA W' b ga ca A c n r :=
  ⟨below_cell hb _ _ h.1, below_cell hb _ _ h.2.1, h.2.2.1, h.2.2.2.1, h.2.2.2.2.1.below hb, fun v hv => below_cell hb _ _ (h.2.2.2.2.2 v hv)⟩
/-- Where a row begins. -/
def rAd (A : Option Addr) (c x : Nat) : Option Addr := if c = x then A else A.map fun a => a.add (x * 3)
/-- What row hands back, wherever it is asked. -/
def RowAt (W : World) (p : Value) (v : Int) (A : Option Addr) (D : List Ar) : Prop :=
  Reads W A D ∧ Calls Try.prog 31 #[p, .int .i64 v] W fun e w' => ∃ c, e = .returned (.slice A D.length c) ∧ Drawn0 W w'
theorem RowAt.none {W : World} {p : Value} {v : Int} (h : Calls Try.prog 31 #[p, .int .i64 v] W fun e w' => e = .returned (.slice none 0 0) ∧ w' = W) : RowAt W p v none [] :=
  ⟨fun h => absurd rfl h, h.mono fun e w' ⟨he, hw⟩ => ⟨0, he, by rw [hw]; exact Drawn0.refl _⟩⟩
set_option maxHeartbeats 2000000 in
set_option maxRecDepth 1000000 in
theorem row_in (n : Nat) (r : List Ar) (b ga ca : Nat) (A : Option Addr) (c : Nat) (v : Nat) (w : World) (h : GrA w b ga ca A c n r) (hn : n ≤ 1024) (hr : r.length * 24 ≤ 140737488355328) (hv : v < n) : RowAt w (.pointer (some ⟨b, 0, none⟩)) (v : Int) (rAd A c (cnt r v)) (rowW r v) := by
  have e1 : ∀ args w, (callFunc 12 args).run Try.prog w = .ok (.enter 12 args) w := enters_of Try.func12 (by kernel_rfl) rfl
  have HL := Lib.hid (len_c n r _ w h.gr hn)
  obtain ⟨h2, h3, h4, h5, h6, h7⟩ := h
  have HRR := Lib.hid (h6.row_of v)
  have l1 := h7 v (by omega)
  have l2 := h7 (v + 1) (by omega)
  have hc0 := cnt_mono r v
  have hc1 := cnt_le r (v + 1)
  have HLN := Lib.hid (rowW_len r v)
  generalize cnt r v = x at *
  generalize cnt r (v + 1) = y at *
  have k1 : ¬ (v : Int) < 0 := by omega
  have k2 : ¬ (v : Int) ≥ (n : Int) := by omega
  have k3 : wrap64 ((v : Int) + 1) = (v : Int) + 1 := by unfold wrap64; omega
  have k4 : (v : Int) < (n : Int) + 1 := by omega
  have k5 : (v : Int) + 1 < (n : Int) + 1 := by omega
  have k6 : ((v : Int) + 1).toNat = v + 1 := by omega
  have k7 : 0 ≤ (v : Int) + 1 := by omega
  have HRD : Reads w (rAd A c x) (rowW r v) := fun hne => by
    unfold rAd
    rw [if_neg (fun e => hne (List.eq_nil_of_length_eq_zero (by rw [HLN.out]; omega)))]
    exact HRR.out hne
  refine ⟨HRD, ?_⟩
  clear h6 h7 HRD HRR
  obtain ⟨Ar, hAr⟩ : ∃ Z, rAd A c x = Z := ⟨_, rfl⟩
  have HAR := Lib.hid hAr
  rw [hAr]
  clear hAr
  go_enter Try.func31, Try.ntmps31
  go_wp2_with (go_at_fn 12; refine HL.out.mono ?_; rintro e w' ⟨rfl, rfl⟩)
  go_quiet (fail)
  go_wp2
  · go_ret
    refine ⟨⟨0, ret_eq (show Value.slice A (y - x) 0 = .slice Ar (rowW r v).length 0 by rw [HLN.out, ← HAR.out, rAd, if_pos (by assumption)])⟩, ⟨nq, rfl⟩⟩
  · go_ret
    refine ⟨⟨c - x, ret_eq (show Value.slice (A.map fun a => a.add (x * 3)) (y - x) (c - x) = .slice Ar (rowW r v).length (c - x) by rw [HLN.out, ← HAR.out, rAd, if_neg (by assumption)])⟩, ⟨nq, rfl⟩⟩
end Go.Proofs.Ytdchnaghmmhkhaa.Cs.Ai
