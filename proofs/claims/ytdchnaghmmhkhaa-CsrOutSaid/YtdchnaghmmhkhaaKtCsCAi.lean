/- csr at Arc[int]: joined. -/
import Derived.Test.YtdchnaghmmhkhaaKtB
import Derived.Test.YtdchnaghmmhkhaaKtStepsK
import Derived.Laws.OwnMore
import Derived.Lib.OwnBridge
set_option linter.unusedSimpArgs false
namespace Go.Proofs.Ytdchnaghmmhkhaa.Cs.Ai
open Go.Shelf Go.RowKit Go.Lib Go.Sort Go.Proofs.Ytdchnaghmmhkhaa.RowAt Go.Proofs.Ytdchnaghmmhkhaa.Stab Go.Proofs.Ytdchnaghmmhkhaa.Stab.Ai Go.Proofs.Ytdchnaghmmhkhaa.PCsrGraphs Go.Proofs.YtdchnaghmmhkhaaW.PrintWords
set_option linter.unusedSectionVars false
set_option linter.unusedVariables false

/-- One more arc. -/
def put (out : List Ar) (a : Ar) : List Ar := match out.getLast? with
  | some b => if cA b a = 0 then out.dropLast ++ [⟨b.f0, b.f1, Go.bits .or .i64 b.f2 a.f2⟩] else out ++ [a]
  | none => out ++ [a]
theorem put_nil (a : Ar) : put [] a = [a] := rfl
theorem put_snoc (L : List Ar) (b a : Ar) : put (L ++ [b]) a = if cA b a = 0 then L ++ [⟨b.f0, b.f1, Go.bits .or .i64 b.f2 a.f2⟩] else (L ++ [b]) ++ [a] := by
  unfold put
  rw [List.getLast?_append, List.getLast?_singleton, Option.some_or, List.dropLast_concat]
def jn (S : List (Ar × Nat)) : List Ar := (S.map Prod.fst).foldl put []
theorem jn_snoc (S : List (Ar × Nat)) (x : Ar × Nat) : jn (S ++ [x]) = put (jn S) x.1 := by
  unfold jn
  rw [List.map_append, List.foldl_append]; rfl
theorem put_len (out : List Ar) (a : Ar) : (put out a).length ≤ out.length + 1 := by
  rcases List.eq_nil_or_concat out with rfl | ⟨L, b, rfl⟩
  · simp [put_nil]
  · rw [List.concat_eq_append, put_snoc]; split <;> simp
theorem jn_len (S : List (Ar × Nat)) : (jn S).length ≤ S.length := by
  have h : ∀ n, ∀ S : List (Ar × Nat), S.length = n → (jn S).length ≤ S.length := by
    intro n
    induction n with
    | zero => intro S hS; rw [List.eq_nil_of_length_eq_zero hS]; exact Nat.le_refl _
    | succ n ih =>
      intro S hS
      rcases List.eq_nil_or_concat S with rfl | ⟨L, x, rfl⟩
      · cases hS
      · rw [List.concat_eq_append] at hS ⊢
        rw [jn_snoc]
        rw [List.length_append] at hS ⊢
        have := put_len (jn L) x.1
        have := ih L (by simpa using hS)
        simp only [List.length_singleton]; omega
  exact h _ S rfl
/-- What joined makes of D. -/
def Joined (D r : List Ar) : Prop := ∃ S : List (Ar × Nat), S.Perm (D.zipIdx.filter fun x => !bad x) ∧ Sd (ltOf cf) Prod.snd S ∧ r = jn S

theorem flat1_len (L : List Ar) : (L.flatMap enc1).length = L.length * 3 := flat_len enc1_len L
theorem flat_set (L : List Ar) (b : Ar) (v : Int) : ((L ++ [b]).flatMap enc1).set (L.length * 3 + 2) (.int .i64 v) = (L ++ [(⟨b.f0, b.f1, v⟩ : Ar)]).flatMap enc1 := by
  rw [List.flatMap_append, List.flatMap_append, List.set_append, flat1_len, if_neg (by omega)]
  simp [enc1, show L.length * 3 + 2 - L.length * 3 = 2 by omega]
theorem flat_at3 (L : List Ar) (b : Ar) : ((L ++ [b]).flatMap enc1)[L.length * 3]? = some (.int .i64 b.f0) ∧ ((L ++ [b]).flatMap enc1)[L.length * 3 + 1]? = some (.int .i64 b.f1) ∧ ((L ++ [b]).flatMap enc1)[L.length * 3 + 2]? = some (.int .i64 b.f2) := by
  refine ⟨?_, ?_, ?_⟩ <;> rw [List.flatMap_append, List.getElem?_append_right (by rw [flat1_len]; omega), flat1_len]
  · rw [Nat.sub_self]; rfl
  · rw [show L.length * 3 + 1 - L.length * 3 = 1 by omega]; rfl
  · rw [show L.length * 3 + 2 - L.length * 3 = 2 by omega]; rfl
end Go.Proofs.Ytdchnaghmmhkhaa.Cs.Ai
