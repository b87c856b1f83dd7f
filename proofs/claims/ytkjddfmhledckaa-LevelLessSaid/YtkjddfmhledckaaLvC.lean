/- level.Sort: its contract, over a row of findings' cells. -/
import Derived.Test.YtkjddfmhledckaaLvB
import Derived.Test.YtkjddfmhledckaaRowFlat
import Derived.Lib.OwnBridge
set_option linter.unusedSimpArgs false
namespace Go.Proofs.Ytkjddfmhledckaa.Lv
open Go.Shelf Go.RowKit Go.Lib Go.Sort Go.Proofs.Ytkjddfmhledckaa.RowAt Go.Proofs.Ytkjddfmhledckaa.Stab
set_option linter.unusedSectionVars false
set_option linter.unusedVariables false

/-- What level.Sort makes of D. -/
def Sorted (D r : List Cel) : Prop := ∃ S, S.Perm (D.filter fun x => !bad x) ∧ Sd (ltOf cf) Cel.tag S ∧ r = cmpt eqk S
def P1 (w : World) (D : List Cel) (g cap : Nat) (w1 : World) : Prop := Row enc 7 w1 g 0 D ∧ w.heap.size ≤ g ∧ g < w1.heap.size ∧ D.length ≤ cap ∧ Below w.heap.size w w1

theorem swl_row {w2 w3 : World} {g : Nat} {D D' : List Cel} {B : Nat} (hB : B ≤ g) (hB2 : B ≤ w2.heap.size) (R : RowK enc 7 w2 g 0 D.toArray) (h : SWL enc 7 w2 g 0 D' w3) (hl : D'.length = D.length) : Row enc 7 w3 g 0 D' ∧ g < w3.heap.size ∧ Below B w2 w3 := by
  have h' : SWK enc 7 w2 g 0 D'.toArray w3 := h
  refine ⟨Row.of (h'.holds R.hblk R.hH (by simpa using hl)) enc_len, Nat.lt_of_lt_of_le R.hblk h'.le, ?_⟩
  obtain ⟨m, os, rfl⟩ := h
  have h1 : Below B w2 (putRowK enc 7 (Sort.ahead w2 m) g 0 D'.toArray) := Lib.below_putRow (enc := id) (Below.refl B w2) hB
  unfold sortWorldK
  exact h1.trans ⟨rfl, rfl, rfl, by simp [grow], fun k hk => by
    have : k < (putRowK enc 7 (Sort.ahead w2 m) g 0 D'.toArray).heap.size := by have := h1.size; omega
    simp [grow, Array.getElem?_append, this]⟩

theorem cmpLays (blk off size : Nat) (w : World) : CmpLays Try.prog 27 #[] enc 7 cf blk off size w := by
  intro m os dk _ x y
  rw [Array.append_empty]
  exact sort2 _ x y

set_option maxHeartbeats 2000000 in
set_option maxRecDepth 1000000 in
theorem sort_row (ad : Addr) (cap : Nat) (D : List Cel) (w : World) (R : ∀ j u, (D.flatMap enc)[j]? = some u → w.cell? (ad.add j) = some u) (htag : D.Pairwise fun x y => x.tag < y.tag) (hsz : D.length * 72 ≤ 140737488355328) :
    Calls Try.prog 14 #[.slice (some ad) D.length cap] w fun e w' => ∃ g c r, e = .returned (.slice (some ⟨g, 0, none⟩) r.length c) ∧ Sorted D r ∧ r.length ≤ c ∧ Row enc 7 w' g 0 r ∧ Below w.heap.size w w' := by
  obtain ⟨i0, U⟩ := lu
  have e24 : ∀ args w, (callFunc 24 args).run Try.prog w = .ok (.enter 24 args) w := enters_of Try.func24 (by kernel_rfl) rfl
  have e23 : ∀ args w, (callFunc 23 args).run Try.prog w = .ok (.enter 23 args) w := enters_of Try.func23 (by kernel_rfl) rfl
  have e26 : ∀ args w, (callFunc 26 args).run Try.prog w = .ok (.enter 26 args) w := enters_of Try.func26 (by kernel_rfl) rfl
  have e29 : ∀ args w, (callFunc 29 args).run Try.prog w = .ok (.enter 29 args) w := enters_of Try.func29 (by kernel_rfl) rfl
  have e25 : ∀ args w, (callFunc 25 args).run Try.prog w = .ok (.enter 25 args) w := enters_of Try.func25 (by kernel_rfl) rfl
  have e27 : ∀ args w, (callFunc 27 args).run Try.prog w = .ok (.enter 27 args) w := enters_of Try.func27 (by kernel_rfl) rfl
  have e30 : ∀ args w, (callFunc 30 args).run Try.prog w = .ok (.enter 30 args) w := enters_of Try.func30 (by kernel_rfl) rfl
  have hc1 : Calls Try.prog 24 #[.slice (some ad) D.length cap] w fun e w1 => ∃ g c, e = .returned (.slice (some ⟨g, 0, none⟩) D.length c) ∧ Aside (P1 w D g c w1) :=
    (clone_any lt U Try.func24 ad D.length cap (D.flatMap enc) w (flat_len enc_len D) (by unfold maxLen; omega) hsz R (flat_one enc_one)).mono fun e w1 ⟨v, he, hown, hne, hb⟩ => by
      obtain ⟨g, c, rfl, hg1, hg2, hc, hR⟩ := Row.owns enc_len hown hne
      exact ⟨g, c, he, hR, hg1, hg2, hc, hb⟩
  have HC1 := Lib.hid hc1
  obtain ⟨FD, hFD⟩ : ∃ FD, (D.filter fun x => !bad x) = FD := ⟨_, rfl⟩
  have hFl : FD.length ≤ D.length := by rw [← hFD]; exact List.length_filter_le ..
  have hFt : FD.Pairwise fun x y => x.tag < y.tag := by rw [← hFD]; exact htag.filter _
  have hc2 : ∀ g c w1, P1 w D g c w1 → Calls Try.prog 23 #[.slice (some ⟨g, 0, none⟩) D.length c, .func (.func 25) #[] #[]] w1 fun e w2 => e = .returned (.slice (some ⟨g, 0, none⟩) FD.length c) ∧ Aside (P1 w FD g c w2) := fun g c w1 ⟨h1, h2, h3, h4, h5⟩ =>
    (deleteFunc_any lt U Try.func33 Try.func23 enc enc_len enc_one bad 25 #[] e25 w.heap.size g 0 c D w1 sort1 h1 h2 h3 (by omega) h4).mono fun e w2 ⟨he, k1, k2, k3⟩ => by
      rw [hFD] at he k1
      exact ⟨he, k1, h2, k2, by omega, h5.trans k3⟩
  have hc3 : ∀ g c w2, P1 w FD g c w2 → Calls Try.prog 26 #[.slice (some ⟨g, 0, none⟩) FD.length c, .func (.func 27) #[] #[]] w2 fun e w3 => e = .returned (.tuple #[]) ∧ ∃ S, Aside (S.Perm FD ∧ Sd (ltOf cf) Cel.tag S ∧ P1 w S g c w3) := fun g c w2 ⟨h1, h2, h3, h4, h5⟩ => by
    have hRK : RowK enc 7 w2 g 0 FD.toArray := ⟨enc_len, enc_one, h1.holds enc_len, h3⟩
    refine (sortStable_any lt Try.func40 Try.func39 Try.func38 Try.func37 Try.func34 Try.func26 enc 27 #[] cf Cel.tag swo g 0 c w2 e27 FD hRK (cmpLays _ _ _ _) hFt (by omega)).mono ?_
    rintro e w3 ⟨he, S, hp, hs, hw⟩
    obtain ⟨k1, k2, k3⟩ := swl_row (B := w.heap.size) h2 h5.size hRK hw hp.length_eq
    exact ⟨he, S, hp, hs, k1, h2, k2, by rw [hp.length_eq]; exact h4, h5.trans k3⟩
  have hc4 : ∀ g c w3 S, (S.Perm FD ∧ Sd (ltOf cf) Cel.tag S ∧ P1 w S g c w3) → Calls Try.prog 29 #[.slice (some ⟨g, 0, none⟩) FD.length c, .func (.func 30) #[] #[]] w3 fun e w4 => ∃ r, e = .returned (.slice (some ⟨g, 0, none⟩) r.length c) ∧ Aside (Sorted D r ∧ P1 w r g c w4) := fun g c w3 S ⟨hp, hs, h1, h2, h3, h4, h5⟩ => by
    rw [← hp.length_eq]
    refine (compactFunc_any lt U Try.func29 enc enc_len enc_one eqk 30 #[] e30 w.heap.size g 0 c S w3 sort3 h1 h2 h5.size h3 (by have := hp.length_eq; omega) h4).mono ?_
    rintro e w4 ⟨he, k1, k2, k3⟩
    refine ⟨_, he, ⟨S, by rw [hFD]; exact hp, hs, rfl⟩, k1, h2, k2, ?_, h5.trans k3⟩
    refine Nat.le_trans ?_ h4
    cases S with
    | nil => exact Nat.le_refl _
    | cons x l =>
      have : ∀ (l : List Cel) p, (keep eqk p l).length ≤ l.length := by
        intro l
        induction l with
        | nil => intro p; exact Nat.le_refl _
        | cons y l ih => intro p; unfold keep; split <;> simp <;> have := ih y <;> omega
      simp [cmpt]; exact this l x
  have HC2 := Lib.hid hc2
  have HC3 := Lib.hid hc3
  have HC4 := Lib.hid hc4
  clear hc1 hc2 hc3 hc4 R htag hFt hFl hFD
  go_enter Try.func14, Try.ntmps14
  go_wp2_with (first
    | (go_at_fn 24; refine HC1.out.mono ?_; rintro e w1 ⟨g, c, rfl, H1⟩)
    | (go_at_fn 23; refine (HC2.out _ _ _ H1.out).mono ?_; rintro e w2 ⟨rfl, H2⟩)
    | (go_at_fn 26; refine (HC3.out _ _ _ H2.out).mono ?_; rintro e w3 ⟨rfl, S, H3⟩)
    | (go_at_fn 29; refine (HC4.out _ _ _ _ H3.out).mono ?_; rintro e w4 ⟨r, rfl, H4⟩))
  go_ret
  obtain ⟨hs, h1, h2, h3, h4, h5⟩ := H4.out
  exact ⟨_, _, _, rfl, hs, h4, h1, h5⟩
end Go.Proofs.Ytkjddfmhledckaa.Lv
