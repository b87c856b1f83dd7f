/- level.Sort's contract, over findings. -/
import Derived.Test.YtkjddfmhledckaaLvD
import Derived.Test.YtkjddfmhledckaaLvE
set_option linter.unusedSimpArgs false
namespace Go.Proofs.Ytkjddfmhledckaa.Lv
open Go.Shelf Go.RowKit Go.Lib Go.Sort Go.Proofs.Ytkjddfmhledckaa.RowAt Go.Proofs.Ytkjddfmhledckaa.Stab Go.Proofs.Ytkjddfmhledckaa.PLevelOf Go.Proofs.YtkjddfmhledckaaW.PrintWords
set_option linter.unusedSectionVars false
set_option linter.unusedVariables false

/-- Kind by kind the first one. -/
def sortP (l : List S32) : List S32 := (List.range' 1 11).filterMap fun k => l.find? fun p : S32 => decide (p.f0 = ((k : Nat) : Int))

theorem cels {w : World} {ad : Addr} {l : List S32} (h : ∀ j p, l[j]? = some p → ∃ c, c.length = 7 ∧ k32.K w p c ∧ ∀ i u, c[i]? = some u → w.cell? (ad.add (j * 7 + i)) = some u) :
    ∀ m, m ≤ l.length → ∃ Z : List (Cel × S32), Z.map Prod.snd = l.take m ∧ ∀ (j : Nat) (z : Cel × S32), Z[j]? = some z → z.1.tag = j ∧ z.1.f0 = z.2.f0 ∧ k32.K w z.2 (enc z.1) ∧ ∀ (i : Nat) (u : Value), (enc z.1)[i]? = some u → w.cell? (ad.add (j * 7 + i)) = some u
  | 0, _ => ⟨[], rfl, fun j z hz => by simp at hz⟩
  | m + 1, hm => by
    obtain ⟨Z, hZ, hR⟩ := cels h m (by omega)
    have hl : l[m]? = some (l[m]'(by omega)) := List.getElem?_eq_getElem _
    generalize (l[m]'(by omega)) = p at hl
    obtain ⟨c, hc, hK, hcell⟩ := h m p hl
    obtain ⟨A6, c6, rfl, l6, g6⟩ := k32_open hK
    have hZl : Z.length = m := by
      have := congrArg List.length hZ
      rw [List.length_map, List.length_take] at this; omega
    refine ⟨Z ++ [(⟨p.f0, p.f1, p.f2, p.f3, p.f4, p.f5, A6, p.f6.length, c6, m⟩, p)], ?_, fun j z hz => ?_⟩
    · rw [List.map_append, hZ, List.take_add_one, hl]; rfl
    · rcases Nat.lt_or_ge j m with hj | hj
      · rw [List.getElem?_append_left (by omega)] at hz
        exact hR j z hz
      · rw [List.getElem?_append_right (by omega), hZl] at hz
        have hj0 : j - m = 0 := by
          have := (List.getElem?_eq_some_iff.1 hz).1
          simp at this; omega
        have hjm : j = m := by omega
        subst hjm
        rw [Nat.sub_self] at hz
        cases hz
        exact ⟨rfl, rfl, hK, hcell⟩

theorem find_fst (Z : List (Cel × S32)) (k : Nat) : (Z.map Prod.fst).find? (fun x : Cel => decide (x.f0 = ((k : Nat) : Int))) = (Z.find? fun z : Cel × S32 => decide (z.1.f0 = ((k : Nat) : Int))).map Prod.fst := by
  rw [List.find?_map]; rfl
theorem find_snd (k : Nat) : ∀ (Z : List (Cel × S32)), (∀ z ∈ Z, z.1.f0 = z.2.f0) → (Z.map Prod.snd).find? (fun x : S32 => decide (x.f0 = ((k : Nat) : Int))) = (Z.find? fun z : Cel × S32 => decide (z.1.f0 = ((k : Nat) : Int))).map Prod.snd
  | [], _ => rfl
  | z :: Z, h => by
    rw [List.map_cons, List.find?_cons, List.find?_cons, h z (by simp)]
    split
    · rfl
    · exact find_snd k Z fun x hx => h x (by simp [hx])
theorem filterMap_map {α β γ : Type} (f : α → Option β) (g : β → γ) : ∀ l : List α, l.filterMap (fun a => (f a).map g) = (l.filterMap f).map g
  | [] => rfl
  | a :: l => by
    rw [List.filterMap_cons, List.filterMap_cons]
    cases f a with
    | none => exact filterMap_map f g l
    | some b => rw [List.map_cons, ← filterMap_map f g l]; rfl

/-- THE CONTRACT. -/
theorem sort_calls (A : Option Addr) (c : Nat) (l : List S32) (w : World) (hr : Kd.C k32 w A l.length l) (hbig : l.length * 72 ≤ 140737488355328) :
    Calls Try.prog 14 #[.slice A l.length c] w fun e w' => ∃ A' c', e = .returned (.slice A' (sortP l).length c') ∧ (sortP l).length ≤ c' ∧ Kd.C k32 w' A' (sortP l).length (sortP l) ∧ (∀ ad, A' = some ad → ∃ g, ad = ⟨g, 0, none⟩) ∧ Below w.heap.size w w' := by
  cases A with
  | none =>
    have hl : l = [] := by
      cases l with
      | nil => rfl
      | cons p l => obtain ⟨ad, e, _⟩ := hr.2.2 (by simp); cases e
    subst hl
    refine (sort_nil 0 c w).mono ?_
    rintro e w' ⟨rfl, rfl⟩
    exact ⟨none, 0, rfl, Nat.le_refl _, ⟨rfl, by decide, fun h => absurd h (by decide)⟩, (fun ad h => nomatch h), Below.refl _ _⟩
  | some ad =>
    have h7 : ∀ j p, l[j]? = some p → ∃ c, c.length = 7 ∧ k32.K w p c ∧ ∀ i u, c[i]? = some u → w.cell? (ad.add (j * 7 + i)) = some u := fun j p hp => by
      have hjl := (List.getElem?_eq_some_iff.1 hp).1
      obtain ⟨ad2, e, hc⟩ := hr.2.2 (by omega)
      cases e
      exact hc j p hp
    obtain ⟨Z, hZ, hR⟩ := cels h7 l.length (Nat.le_refl _)
    rw [List.take_length] at hZ
    have hZl : (Z.map Prod.fst).length = l.length := by rw [← hZ, List.length_map, List.length_map]
    have hD : ∀ (j : Nat) (x : Cel), (Z.map Prod.fst)[j]? = some x → x.tag = j ∧ ∀ (i : Nat) (u : Value), (enc x)[i]? = some u → w.cell? (ad.add (j * 7 + i)) = some u := fun j x hx => by
      rw [List.getElem?_map] at hx
      obtain ⟨z, hz, rfl⟩ := Option.map_eq_some_iff.1 hx
      exact ⟨(hR j z hz).1, (hR j z hz).2.2.2⟩
    have htag : (Z.map Prod.fst).Pairwise fun x y => x.tag < y.tag := List.pairwise_iff_getElem.2 fun i j hi hj hij => by
      rw [(hD i _ (List.getElem?_eq_getElem hi)).1, (hD j _ (List.getElem?_eq_getElem hj)).1]; exact hij
    have hcells : ∀ j u, ((Z.map Prod.fst).flatMap enc)[j]? = some u → w.cell? (ad.add j) = some u := fun j u hu => by
      obtain ⟨i, c, x, rfl, hx, hc⟩ := flat_at enc_len _ hu
      exact (hD i x hx).2 c u hc
    have hmem : ∀ z ∈ Z, z.1.f0 = z.2.f0 ∧ k32.K w z.2 (enc z.1) := fun z hz => by
      obtain ⟨j, hj, rfl⟩ := List.getElem_of_mem hz
      have := hR j _ (List.getElem?_eq_getElem hj)
      exact ⟨this.2.1, this.2.2.1⟩
    have hc := sort_row ad c (Z.map Prod.fst) w hcells htag (by rw [hZl]; exact hbig)
    rw [hZl] at hc
    refine hc.mono ?_
    rintro e w' ⟨g, c', r, rfl, hs, hrc, hRow, hb⟩
    have e1 := sorted_first htag hs
    have e2 : r = ((List.range' 1 11).filterMap fun k => Z.find? fun z : Cel × S32 => decide (z.1.f0 = ((k : Nat) : Int))).map Prod.fst := by
      rw [e1, ← filterMap_map]
      congr 1
      funext k
      exact find_fst Z k
    have e3 : sortP l = ((List.range' 1 11).filterMap fun k => Z.find? fun z : Cel × S32 => decide (z.1.f0 = ((k : Nat) : Int))).map Prod.snd := by
      unfold sortP
      rw [← hZ, ← filterMap_map]
      congr 1
      funext k
      exact find_snd k Z fun z hz => (hmem z hz).1
    have hRZ : ∀ z ∈ ((List.range' 1 11).filterMap fun k => Z.find? fun z : Cel × S32 => decide (z.1.f0 = ((k : Nat) : Int))), z ∈ Z := fun z hz => by
      obtain ⟨k, _, hk⟩ := List.mem_filterMap.1 hz
      exact List.mem_of_find?_eq_some hk
    have hlen : ((List.range' 1 11).filterMap fun k => Z.find? fun z : Cel × S32 => decide (z.1.f0 = ((k : Nat) : Int))).length ≤ 11 := Nat.le_trans (List.length_filterMap_le ..) (by simp)
    generalize ((List.range' 1 11).filterMap fun k => Z.find? fun z : Cel × S32 => decide (z.1.f0 = ((k : Nat) : Int))) = RZ at e2 e3 hRZ hlen
    subst e2
    rw [e3]
    have hl1 : (RZ.map Prod.fst).length = RZ.length := List.length_map ..
    have hl2 : (RZ.map Prod.snd).length = RZ.length := List.length_map ..
    refine ⟨some ⟨g, 0, none⟩, c', by rw [hl1, hl2], by omega, ⟨rfl, by omega, fun _ => ⟨_, rfl, fun j p hp => ?_⟩⟩, fun ad h => ⟨g, (Option.some.inj h).symm⟩, hb⟩
    rw [List.getElem?_map] at hp
    obtain ⟨z, hz, rfl⟩ := Option.map_eq_some_iff.1 hp
    refine ⟨enc z.1, rfl, k32.K_below hb (hmem z (hRZ z (List.mem_of_getElem? hz))).2, fun i u hu => ?_⟩
    have := (hRow j z.1 (by rw [List.getElem?_map, hz]; rfl) i u hu).1
    show w'.cell? ((⟨g, 0, none⟩ : Addr).add (j * 7 + i)) = some u
    rw [Addr.add_lit, ← Nat.add_assoc]
    exact this
end Go.Proofs.Ytkjddfmhledckaa.Lv
