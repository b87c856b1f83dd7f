/- csr at Arc[int]: Mask, Out, and what Out goes through. -/
import Derived.Test.YtdchnaghmmhkhaaKtCsGAi
import Derived.Test.YtdchnaghmmhkhaaKtRange
set_option linter.unusedSimpArgs false
namespace Go.Proofs.Ytdchnaghmmhkhaa.Cs.Ai
open Go.Shelf Go.RowKit Go.Lib Go.Sort Go.Proofs.Ytdchnaghmmhkhaa.RowAt Go.Proofs.Ytdchnaghmmhkhaa.Stab Go.Proofs.Ytdchnaghmmhkhaa.Stab.Ai Go.Proofs.Ytdchnaghmmhkhaa.PCsrGraphs Go.Proofs.YtdchnaghmmhkhaaW.PrintWords
set_option linter.unusedSectionVars false
set_option linter.unusedVariables false

/-- The mask in a row. -/
def lookD (D : List Ar) (t : Int) : Int := ((D.find? fun a => decide (a.f1 = t)).map (·.f2)).getD 0
theorem lookD_at {D : List Ar} {t : Int} {k : Nat} {a : Ar} (hD : Rising D) (hk : D[k]? = some a) (ha : a.f1 = t) : lookD D t = a.f2 := by
  unfold lookD
  obtain ⟨b, hb⟩ : ∃ b, (D.find? fun a => decide (a.f1 = t)) = some b := by
    rw [← Option.isSome_iff_exists, List.find?_isSome]
    exact ⟨a, List.mem_of_getElem? hk, decide_eq_true ha⟩
  rw [hb]
  have h1 : b.f1 = t := of_decide_eq_true (List.find?_some (p := fun a : Ar => decide (a.f1 = t)) hb)
  obtain ⟨q, hq, e⟩ := List.getElem_of_mem (List.mem_of_find?_eq_some hb)
  have hq2 : D[q]? = some b := by rw [List.getElem?_eq_getElem hq, e]
  rcases Nat.lt_trichotomy q k with h | h | h
  · have := hD q k b a h hq2 hk; omega
  · subst h; rw [hk] at hq2; cases hq2; rfl
  · have := hD k q a b h hk hq2; omega
theorem lookD_none {D : List Ar} {t : Int} (h : ∀ a ∈ D, a.f1 ≠ t) : lookD D t = 0 := by
  unfold lookD
  rw [List.find?_eq_none.2 (fun a ha => by simp [h a ha])]
  rfl
set_option maxHeartbeats 1000000 in
set_option maxRecDepth 1000000 in
theorem mask_c (p : Value) (v t : Int) (A : Option Addr) (D : List Ar) (w : World) (h : RowAt w p v A D) (hD : Rising D) (hr : D.length * 24 ≤ 140737488355328) :
    Calls Try.prog 17 #[p, .int .i64 v, .int .i64 t] w fun e w' => e = .returned (.int .i64 (lookD D t)) ∧ Below w.heap.size w w' := by
  have e1 : ∀ args w, (callFunc 31 args).run Try.prog w = .ok (.enter 31 args) w := enters_of Try.func31 (by kernel_rfl) rfl
  have e2 : ∀ args w, (callFunc 32 args).run Try.prog w = .ok (.enter 32 args) w := enters_of Try.func32 (by kernel_rfl) rfl
  have HR := Lib.hid h.1
  have HC := Lib.hid h.2
  have HS : Hid (∀ c w1, Drawn0 w w1 → Calls Try.prog 32 #[.slice A D.length c, .int .i64 t, .func (.func 33) #[] #[]] w1 (SOut w1 D t)) := Lib.hid fun c w1 hd => search_c A c D t w1 (h.1.below hd.below) hD hr
  clear h hr
  go_enter Try.func17, Try.ntmps17
  go_wp2_with (go_at_fn 31; refine HC.out.mono ?_; rintro e w1 ⟨c, rfl, hd⟩; replace hd := Lib.hid hd)
  refine (HS.out _ _ hd.out).mono ?_
  rintro e w2 ⟨k, f, rfl, hk, hf1, hf2, hb⟩
  have HB : Hid (Below w.heap.size w w2) := Lib.hid (hd.out.below.trans (hb.mono hd.out.below.size))
  cases f with
  | false =>
    have hl := lookD_none (hf2 rfl)
    have HL := Lib.hid hl
    clear hf1 hf2 hk hb hl hd
    go_wp2
    go_ret
    exact ⟨by rw [HL.out]; rfl, HB.out⟩
  | true =>
    obtain ⟨a, ha, hat⟩ := hf1.1 rfl
    have hl := lookD_at hD ha hat
    have HL := Lib.hid hl
    have hkl := (List.getElem?_eq_some_iff.1 ha).1
    obtain ⟨b, o, rfl, hcell⟩ := HR.out (by intro e; rw [e] at ha; cases ha)
    have l2 := below_cell HB.out _ _ (hcell k a ha).2.2
    have hki : (k : Int) < (D.length : Int) := by omega
    clear hf1 hf2 hk hb hl hd hcell ha hat hkl
    go_wp2
    go_ret
    exact ⟨by rw [HL.out]; rfl, HB.out⟩
end Go.Proofs.Ytdchnaghmmhkhaa.Cs.Ai
