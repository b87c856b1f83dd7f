/- The contract of the reference's Same, and rows that a call has just laid. -/
import Derived.Test.YtndciilmnnaemaaPDigitsListsx1
import Derived.Test.YtndciilmnnaemaaBase
set_option linter.unusedVariables false
set_option linter.unusedSimpArgs false
namespace Go.Proofs.Ytndciilmnnaemaa
open Go.RowKit Go.Proofs.Ytndciilmnnaemaa.PDigitsLists Go.Proofs.YtndciilmnnaemaaW.PrintWords

theorem same_l0 (l m : List Int) (hlm : l.length = m.length) (hl : (l.length : Int) ≤ 9223372036854775806) : ∀ (d : Nat) (K : Nat) (k : Int), 0 ≤ k → (l.length : Int) - k = d → d < K →
    coronerref01_Same.l0 K l m k = some (decide (l.drop k.toNat = m.drop k.toNat)) := by
  intro d
  induction d with
  | zero =>
    intro K k h0 hd hK
    obtain ⟨K, rfl⟩ : ∃ m, K = m + 1 := ⟨K - 1, by omega⟩
    simp only [coronerref01_Same.l0]
    rw [if_neg (by omega), List.drop_eq_nil_of_le (by omega), List.drop_eq_nil_of_le (by omega)]
    simp
  | succ d ih =>
    intro K k h0 hd hK
    obtain ⟨K, rfl⟩ : ∃ m, K = m + 1 := ⟨K - 1, by omega⟩
    have h1 : k.toNat < l.length := by omega
    have h2 : k.toNat < m.length := by omega
    have e1 : rd l k = l[k.toNat] := by unfold rd; rw [List.getD_eq_getElem?_getD, List.getElem?_eq_getElem h1]; rfl
    have e2 : rd m k = m[k.toNat] := by unfold rd; rw [List.getD_eq_getElem?_getD, List.getElem?_eq_getElem h2]; rfl
    simp only [coronerref01_Same.l0]
    rw [if_pos (by omega), if_pos h0, if_pos (by omega), List.drop_eq_getElem_cons h1, List.drop_eq_getElem_cons h2, ← e1, ← e2]
    by_cases h : rd l k = rd m k
    · rw [if_pos h, IntWalk.wrap64_in (k + 1) (by omega), ih K (k + 1) (by omega) (by omega) (by omega), show (k + 1).toNat = k.toNat + 1 from by omega]
      congr 1; simp [h]
    · rw [if_neg h]; simp [h]
theorem same_f (l m : List Int) (hl : (l.length : Int) ≤ 9223372036854775806) (K : Nat) (hK : l.length < K) : coronerref01_Same.f K l m = some (decide (l = m)) := by
  unfold coronerref01_Same.f
  by_cases h : l.length = m.length
  · rw [if_pos (by omega), same_l0 l m h hl l.length K 0 (by omega) (by omega) hK]; simp
  · rw [if_neg (by omega)]
    congr 1; symm
    simp only [decide_eq_false_iff_not]
    intro e; exact h (by rw [e])

theorem same_calls (l m : List Int) (A : Option Addr) (c : Nat) (A' : Option Addr) (c' : Nat) (w : World) (hr : Kd.C (Kd.int .i64) w A l.length l) (hc : l.length ≤ c) (hr' : Kd.C (Kd.int .i64) w A' m.length m) (hc' : m.length ≤ c') (hl : (l.length : Int) ≤ 9223372036854775806) :
    Calls Try.prog 24 #[.slice A l.length c, .slice A' m.length c'] w fun e w' => e = .returned (.bool (decide (l = m))) ∧ Drawn0 w w' :=
  coronerref01_Same.calls _ A c l A' c' m _ w hr hc hr' hc' (same_f l m hl _ (Nat.lt_succ_self _))
/-- A row of numbers that the call itself has just laid. -/
theorem C_laid {w : World} {b : Nat} {k : IntKind} {t : TypeId} {fz : Nat × Nat} (l : List Int) (hl : l.length ≤ 9223372036854775807) (h : w.heap[b]? = some (.cells (l.map fun x => .int k x).toArray t fz)) :
    Kd.C (Kd.int k) w (some ⟨b, 0, none⟩) l.length l := by
  refine Kd.C_of_reads (enc := Value.int k) (d := (0 : Int)) (h1 := fun _ => rfl) ⟨rfl, hl, fun _ => ⟨_, rfl, fun j hj => ?_⟩⟩
  rw [add_plain, cell_of_row w b j _ t fz h, List.getElem?_toArray, List.getElem?_map, List.getD_eq_getElem?_getD, List.getElem?_eq_getElem hj]
  rfl
theorem alloc_at (w : World) (o : Obj) : (w.alloc o).heap[w.heap.size]? = some o := heap_alloc_new w o

end Go.Proofs.Ytndciilmnnaemaa
