/- level.Sort's first closure, and what a kind's name says. -/
import Derived.Test.YtkjddfmhledckaaLvA
import Derived.Test.YtkjddfmhledckaaLvP2
set_option linter.unusedSimpArgs false
namespace Go.Proofs.Ytkjddfmhledckaa.Lv
open Go.Shelf Go.RowKit Go.Lib Go.Sort Go.Proofs.Ytkjddfmhledckaa.RowAt Go.Proofs.Ytkjddfmhledckaa.Stab Go.Proofs.Ytkjddfmhledckaa.PLevelOf Go.Proofs.YtkjddfmhledckaaW.PrintWords
set_option linter.unusedSectionVars false
set_option linter.unusedVariables false

/-- The kinds' names, as bytes. -/
def kindNames : List ByteArray := ((level_names.f).getD ([], [])).2
theorem names_f : level_names.f = some (((level_names.f).getD ([], [])).1, kindNames) := rfl
theorem kindNames_len : kindNames.length = 12 := rfl
def nameOf (l : List ByteArray) (a : Int) : ByteArray := if 0 ≤ a ∧ a < l.length then l.getD a.toNat ⟨#[]⟩ else ⟨#[]⟩
theorem at_f (l : List ByteArray) (a : Int) : level_at.f l a = some (nameOf l a) := by
  unfold level_at.f nameOf
  by_cases h1 : a < 0
  · rw [if_pos h1, if_neg (by omega)]
  · rw [if_neg h1]
    by_cases h2 : a ≥ (l.length : Int)
    · rw [if_pos h2, if_neg (by omega)]
    · rw [if_neg h2, if_pos (by omega), if_pos (by omega), if_pos (by omega)]
      unfold rdOf
      rfl
theorem phen_f (a : Int) : level_Phenomenon.f a = some (nameOf kindNames a) := by
  unfold level_Phenomenon.f
  rw [names_f]
  show (level_at.f kindNames a).bind _ = _
  rw [at_f]; rfl
theorem bad_name (x : Cel) : (nameOf kindNames x.f0 == (⟨#[]⟩ : ByteArray)) = bad x := by
  unfold bad nameOf
  rw [kindNames_len]
  by_cases h : 0 ≤ x.f0 ∧ x.f0 < (12 : Nat)
  · rw [if_pos h]
    obtain ⟨n, hn⟩ : ∃ n : Nat, x.f0 = n := ⟨x.f0.toNat, by omega⟩
    rw [hn]
    have hn12 : n < 12 := by omega
    match n, hn12 with
    | 0, _ => rfl
    | 1, _ => rfl
    | 2, _ => rfl
    | 3, _ => rfl
    | 4, _ => rfl
    | 5, _ => rfl
    | 6, _ => rfl
    | 7, _ => rfl
    | 8, _ => rfl
    | 9, _ => rfl
    | 10, _ => rfl
    | 11, _ => rfl
    | n + 12, h => omega
  · rw [if_neg h]
    have : decide (x.f0 < 1 ∨ 11 < x.f0) = true := decide_eq_true (by omega)
    rw [this]; rfl

set_option maxHeartbeats 1000000 in
set_option maxRecDepth 1000000 in
theorem sort1 : PredB Try.prog 25 #[] enc bad := by
  intro W x
  have e10 : ∀ args w, (callFunc 10 args).run Try.prog w = .ok (.enter 10 args) w := enters_of Try.func10 (by kernel_rfl) rfl
  have hc := fun w => level_Phenomenon.calls x.f0 _ w (phen_f x.f0)
  have hr := bad_name x
  generalize nameOf kindNames x.f0 = r at hc hr
  have HE := Lib.hid hr
  clear hr
  go_enter Try.func25, Try.ntmps25
  unfold enc
  go_wp2_with (go_at_fn 10; refine (hc _).mono ?_; rintro e w' ⟨rfl, hb⟩)
  go_ret
  refine ⟨?_, ?_⟩
  · have e : r.toList.isEmpty = (r == { data := #[] }) := by
      rw [Lib.toList_data]
      obtain ⟨⟨l⟩⟩ := r
      cases l with
      | nil => rfl
      | cons b l => rfl
    rw [← HE.out, ← e]; rfl
  · exact ((Below.refl _ W).alloc (Nat.le_refl _) _).trans (hb.mono (by simp))
end Go.Proofs.Ytkjddfmhledckaa.Lv
