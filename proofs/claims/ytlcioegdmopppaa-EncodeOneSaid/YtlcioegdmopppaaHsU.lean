/- The plain law of EncodeOne: bytes that were read without an error are those of the history that was read; it may be. -/
import Derived.Test.YtlcioegdmopppaaGrD
import Derived.Test.YtlcioegdmopppaaGrF
set_option linter.unusedSimpArgs false
namespace Go.Proofs.Ytlcioegdmopppaa.Hs
open Go.RowKit Go.Maps Go.Proofs.Ytlcioegdmopppaa.PEncodeBack Go.Proofs.YtlcioegdmopppaaW.PrintWords
open Cur (Cr At peek fail byte number nums_ Ok)
open En (okN okOp okT opT headT txnT histT opsP txnsP partsP okN_iff checkP encP)
set_option linter.unusedVariables false
set_option linter.unusedSectionVars false

/-! How much there may be. -/
section
variable {l : List Int} {most : Int}
theorem inv_line {s : RS} {ni nm : Nat} (h : Inv l most s ni nm) : ∃ ni' nm', Inv l most (line l most s) ni' nm' := by
  unfold line
  split
  · exact ⟨_, _, inv_apps h⟩
  · split
    · exact ⟨_, _, inv_reads h⟩
    · split
      · exact ⟨_, _, inv_txn h⟩
      · exact ⟨ni + 1, nm, inv_txn (s := s.to (fail s.c 4 s.c.p)) ⟨Cur.ok_fail h.ok _ _, fun hh => (e_failed (by decide) hh).elim⟩⟩
theorem inv_lines : ∀ (n : Nat) {s : RS} {ni nm : Nat}, Inv l most s ni nm → ∃ ni' nm', Inv l most (lines l most n s) ni' nm'
  | 0, _, _, _, h => ⟨_, _, h⟩
  | n + 1, s, _, _, h => by
    unfold lines
    split
    · obtain ⟨_, _, h1⟩ := inv_line h
      exact inv_lines n h1
    · exact ⟨_, _, h⟩

/-! What was read. -/
theorem tk_byte {c : Cr} {y : Int} (ok : Ok l c) (h : (byte l c y).e = 0) : l.take (byte l c y).p.toNat = l.take c.p.toNat ++ [y] := by
  unfold byte at h ⊢
  split at h
  · next hc =>
    rw [if_pos hc]
    have hp := peek_yes hc.1
    have hy : y = rd l c.p := by
      have h3 := hc.2
      unfold peek at h3
      rw [if_pos hp] at h3
      exact h3
    have := ok.1
    have hl : c.p.toNat < l.length := by omega
    have e : (c.p + 1).toNat = c.p.toNat + 1 := by omega
    simp only [e]
    rw [List.take_succ_eq_append_getElem hl, hy]
    unfold rd
    rw [List.getD_eq_getElem?_getD, List.getElem?_eq_getElem hl]
    rfl
  · exact (e_failed (by decide) h).elim
theorem tk_number {c : Cr} (ok : Ok l c) (h : (number l c).1.e = 0) : okN (number l c).2 = true ∧ l.take (number l c).1.p.toNat = l.take c.p.toNat ++ En.numS (number l c).2 := by
  have h0 := e_number h
  unfold number at h ⊢
  rw [if_pos h0] at h ⊢
  split at h
  · next hp =>
    rw [if_pos hp]
    obtain ⟨m, e1, e2, e3⟩ := parse_text l c.p ok.1 ok.2 hp
    simp only [e1]
    refine ⟨okN_iff.2 (by omega), ?_⟩
    unfold En.numS
    rw [Int.toNat_natCast]
    exact e3
  · exact (e_failed (by decide) h).elim
theorem tk_nums {c : Cr} (ok : Ok l c) (h : (nums_ l c).1.e = 0) : (nums_ l c).2.all okN = true ∧ l.take (nums_ l c).1.p.toNat = l.take c.p.toNat ++ texts (nums_ l c).2 := by
  have h0 := e_nums h
  unfold nums_ at h ⊢
  rw [if_pos h0] at h ⊢
  split at h
  · next hp =>
    rw [if_pos hp]
    obtain ⟨e2, e3⟩ := list_text l c.p ok.1 ok.2 hp
    exact ⟨List.all_eq_true.2 fun x hx => okN_iff.2 (e2 x hx), e3⟩
  · exact (e_failed (by decide) h).elim
end

/-! The histories that may be, from their end on. -/
theorem opsP_snoc : ∀ (l : List S39) (o : S39) (met : List (Int × Int)), (opsP l met).1 = 0 → opsP (l ++ [o]) met = opsP [o] (opsP l met).2
  | [], o, met, _ => rfl
  | x :: l, o, met, h => by
    rw [List.cons_append]
    unfold opsP at h
    conv => lhs; unfold opsP
    conv => rhs; arg 2; unfold opsP
    by_cases h1 : okOp x = false
    · rw [if_pos h1] at h; exact absurd h (by simp)
    · rw [if_neg h1] at h ⊢
      rw [if_neg h1]
      by_cases h2 : x.f0 = true
      · rw [if_pos h2] at h ⊢
        rw [if_pos h2]
        exact opsP_snoc l o met h
      · rw [if_neg h2] at h ⊢
        rw [if_neg h2]
        by_cases h3 : (x.f1, x.f2) ∈ met
        · rw [if_pos h3] at h; exact absurd h (by simp)
        · rw [if_neg h3] at h ⊢
          rw [if_neg h3]
          exact opsP_snoc l o _ h
def idsOf : List S42 → List Int → List Int
  | [], ids => ids
  | t :: h, ids => idsOf h (t.f0 :: ids)
def metOf : List S42 → List (Int × Int) → List (Int × Int)
  | [], met => met
  | t :: h, met => metOf h (opsP t.f2 met).2
theorem idsOf_snoc : ∀ (h : List S42) (t : S42) (ids : List Int), idsOf (h ++ [t]) ids = t.f0 :: idsOf h ids
  | [], t, ids => rfl
  | _ :: h, t, ids => idsOf_snoc h t _
theorem metOf_snoc : ∀ (h : List S42) (t : S42) (met : List (Int × Int)), metOf (h ++ [t]) met = (opsP t.f2 (metOf h met)).2
  | [], t, met => rfl
  | _ :: h, t, met => metOf_snoc h t _
theorem txnsP_snoc : ∀ (h : List S42) (t : S42) (ids : List Int) (met : List (Int × Int)), txnsP (h ++ [t]) ids met = 0 ↔ (txnsP h ids met = 0 ∧ okN t.f0 = true ∧ t.f0 ∉ idsOf h ids ∧ (opsP t.f2 (metOf h met)).1 = 0)
  | [], t, ids, met => by
    simp only [List.nil_append, txnsP, idsOf, metOf]
    by_cases h1 : okN t.f0 = false
    · rw [if_pos h1]; simp [h1]
    · rw [if_neg h1]
      have h1' : okN t.f0 = true := by simpa using h1
      by_cases h2 : t.f0 ∈ ids
      · rw [if_pos h2]; simp [h2]
      · rw [if_neg h2]
        by_cases h3 : (opsP t.f2 met).1 ≠ 0
        · rw [if_pos h3]; simp [h3]
        · rw [if_neg h3]
          have h3' : (opsP t.f2 met).1 = 0 := by simpa using h3
          simp [h1', h2, h3']
  | x :: h, t, ids, met => by
    rw [List.cons_append]
    simp only [txnsP, idsOf, metOf]
    by_cases h1 : okN x.f0 = false
    · rw [if_pos h1, if_pos h1]; simp
    · rw [if_neg h1, if_neg h1]
      by_cases h2 : x.f0 ∈ ids
      · rw [if_pos h2, if_pos h2]; simp
      · rw [if_neg h2, if_neg h2]
        by_cases h3 : (opsP x.f2 met).1 ≠ 0
        · rw [if_pos h3, if_pos h3]; simp [h3]
        · rw [if_neg h3, if_neg h3]
          exact txnsP_snoc h t _ _
/-- A history's last transaction. -/
theorem last_split {h : List S42} (h0 : h ≠ []) : ∃ hs t, h = hs ++ [t] ∧ ∀ o, addOp h o = hs ++ [{ t with f2 := t.f2 ++ [o] }] := by
  obtain ⟨hs, t, rfl⟩ : ∃ hs t, h = hs ++ [t] := ⟨h.dropLast, h.getLast h0, (List.dropLast_concat_getLast h0).symm⟩
  refine ⟨hs, t, rfl, fun o => ?_⟩
  have hl : (hs ++ [t]).length - 1 = hs.length := by simp
  have hd : (hs ++ [t]).getD hs.length z42 = t := by rw [List.getD_eq_getElem?_getD, List.getElem?_append_right (Nat.le_refl _), Nat.sub_self]; rfl
  unfold addOp
  rw [hl, hd, List.set_append, if_neg (by omega), Nat.sub_self]
  rfl
theorem hist_snoc (h : List S42) (t : S42) : histT (h ++ [t]) = histT h ++ txnT t := by unfold histT; simp
theorem hist_add {h : List S42} (h0 : h ≠ []) (o : S39) : histT (addOp h o) = histT h ++ opT o := by
  obtain ⟨hs, t, e, ha⟩ := last_split h0
  rw [ha, e, hist_snoc, hist_snoc, List.append_assoc]
  unfold txnT headT
  simp
/-- What holds of the reader while there is no error. -/
structure Told (l : List Int) (s : RS) : Prop where
  text : histT s.h = l.take s.c.p.toNat
  may : txnsP s.h [] [] = 0
  ids : s.ids = idsOf s.h []
  met : s.met = metOf s.h []
theorem told_add {l : List Int} {s : RS} (T : Told l s) (h0 : s.h ≠ []) {o : S39} {met : List (Int × Int)} {c : Cr} (ht : l.take c.p.toNat = l.take s.c.p.toNat ++ opT o) (ho : ∀ m, m = s.met → (opsP [o] m).1 = 0 ∧ (opsP [o] m).2 = met) : Told l ⟨c, addOp s.h o, s.ids, met⟩ := by
  obtain ⟨hs, t, e, ha⟩ := last_split h0
  have hm := T.may
  have hmet := T.met
  have hids := T.ids
  rw [e] at hm hmet hids
  obtain ⟨m1, m2, m3, m4⟩ := (txnsP_snoc _ _ _ _).1 hm
  rw [metOf_snoc] at hmet
  obtain ⟨o1, o2⟩ := ho _ rfl
  rw [hmet] at o1 o2
  have hs2 := opsP_snoc t.f2 o _ m4
  refine ⟨by rw [ht, ← T.text]; exact hist_add h0 o, ?_, ?_, ?_⟩
  · rw [ha]
    exact (txnsP_snoc _ _ _ _).2 ⟨m1, m2, m3, by simp only [hs2]; exact o1⟩
  · simp only [ha]
    rw [hids, idsOf_snoc, idsOf_snoc]
  · simp only [ha]
    rw [metOf_snoc]
    simp only [hs2]
    exact o2.symm
section
variable {l : List Int} {most : Int} {s : RS} (ok : Ok l s.c) (T : Told l s)
include ok T
theorem tk_op1 {x : Int} (h : (op1 l most x s).e = 0) : s.c.e = 0 ∧ okN (opKey l most x s) = true ∧ l.take (op1 l most x s).p.toNat = l.take s.c.p.toNat ++ ([x, 32] ++ En.numS (opKey l most x s)) := by
  have h0 : (op0 l most x s).e = 0 := e_number h
  obtain ⟨hne, hlt⟩ := op0_ok h0
  have hs : op0 l most x s = byte l (byte l s.c x) 32 := by unfold op0; rw [if_neg hne, if_neg (by omega)]
  have o1 : Ok l (byte l s.c x) := (To.byte _ _ ok).1
  have o0 : Ok l (op0 l most x s) := (To.op0 most x s ok).1
  obtain ⟨k1, k2⟩ := tk_number o0 h
  rw [hs] at h0
  have t2 := tk_byte o1 h0
  have t1 := tk_byte ok (e_byte h0)
  refine ⟨e_byte (e_byte h0), k1, ?_⟩
  show l.take (number l (op0 l most x s)).1.p.toNat = _
  rw [k2, hs, t2, t1]
  unfold opKey
  rw [hs]
  simp
theorem told_apps (he : (apps l most s).c.e = 0) : Told l (apps l most s) := by
  have o1 : Ok l (op1 l most 97 s) := (To.op1 most 97 s ok).1
  have o2 : Ok l (app0 l (op1 l most 97 s)) := (To.byte _ 32 o1).1
  have o3 : Ok l (app1 l s.met (opKey l most 97 s) (op1 l most 97 s)) := (To.app1 _ _ _ o1).1
  have hb : (byte l (app1 l s.met (opKey l most 97 s) (op1 l most 97 s)) 10).e = 0 := he
  have h1 := e_byte hb
  have hne := (op0_ok (e_number (e_app1 h1))).1
  obtain ⟨-, k1, t1⟩ := tk_op1 (most := most) ok T (e_app1 h1)
  have hin : ¬ ((opKey l most 97 s, appV l (op1 l most 97 s)) ∈ s.met ∧ (number l (app0 l (op1 l most 97 s))).1.e = 0) := by
    intro hh
    unfold app1 at h1
    simp only at h1
    rw [if_pos hh] at h1
    exact e_failed (by decide) h1
  have ha : app1 l s.met (opKey l most 97 s) (op1 l most 97 s) = (number l (app0 l (op1 l most 97 s))).1 := by unfold app1; simp only; rw [if_neg hin]
  have hn : (number l (app0 l (op1 l most 97 s))).1.e = 0 := by rw [← ha]; exact h1
  have hnm : (opKey l most 97 s, appV l (op1 l most 97 s)) ∉ s.met := fun hh => hin ⟨hh, hn⟩
  obtain ⟨k2, t3⟩ := tk_number o2 hn
  have t2 := tk_byte o1 (e_number hn)
  have t4 := tk_byte o3 hb
  have hh : apps l most s = ⟨byte l (app1 l s.met (opKey l most 97 s) (op1 l most 97 s)) 10, addOp s.h ⟨false, opKey l most 97 s, appV l (op1 l most 97 s), []⟩, s.ids, (opKey l most 97 s, appV l (op1 l most 97 s)) :: s.met⟩ := by
    unfold apps fin
    rw [if_pos hb]
  rw [hh]
  have k3 : okN (appV l (op1 l most 97 s)) = true := k2
  refine told_add T hne ?_ ?_
  · rw [t4, ha, t3, show l.take (app0 l (op1 l most 97 s)).p.toNat = _ from t2, t1]
    unfold opT appV
    simp [texts, En.numS]
  · rintro m rfl
    unfold opsP
    have hok : ¬ okOp ⟨false, opKey l most 97 s, appV l (op1 l most 97 s), []⟩ = false := by unfold okOp; simp [k1, k3]
    rw [if_neg hok, if_neg (by simp), if_neg hnm]
    exact ⟨rfl, rfl⟩
theorem told_reads (he : (reads l most s).c.e = 0) : Told l (reads l most s) := by
  have o1 : Ok l (op1 l most 114 s) := (To.op1 most 114 s ok).1
  have o2 : Ok l (nums_ l (op1 l most 114 s)).1 := (To.nums _ o1).1
  have hb : (byte l (nums_ l (op1 l most 114 s)).1 10).e = 0 := he
  have h1 := e_byte hb
  have h2 := e_nums h1
  have hne := (op0_ok (e_number h2)).1
  obtain ⟨-, k1, t1⟩ := tk_op1 (most := most) ok T h2
  obtain ⟨k2, t2⟩ := tk_nums o1 h1
  have t3 := tk_byte o2 hb
  have hh : reads l most s = ⟨byte l (nums_ l (op1 l most 114 s)).1 10, addOp s.h ⟨true, opKey l most 114 s, 0, (nums_ l (op1 l most 114 s)).2⟩, s.ids, s.met⟩ := by
    unfold reads fin
    rw [if_pos hb]
  rw [hh]
  refine told_add T hne ?_ ?_
  · rw [t3, t2, t1]
    unfold opT
    simp [texts, En.numS]
  · rintro m rfl
    unfold opsP
    have hok : ¬ okOp ⟨true, opKey l most 114 s, 0, (nums_ l (op1 l most 114 s)).2⟩ = false := by unfold okOp; simp only [k1, k2]; simp
    rw [if_neg hok, if_pos rfl]
    exact ⟨rfl, rfl⟩
theorem told_txn (he : (txn l s).c.e = 0) : Told l (txn l s) := by
  obtain ⟨hlt⟩ : s.h.length < 1024 ∧ True := ⟨txn_ok he, trivial⟩
  have e0 : txn l s = txnFrom l s s.c := by unfold txn; rw [if_neg (by omega)]
  rw [e0] at he ⊢
  unfold txnFrom at he ⊢
  have o1 : Ok l (byte l s.c 116) := (To.byte _ _ ok).1
  have o2 : Ok l (byte l (byte l s.c 116) 32) := (To.byte _ _ o1).1
  generalize hc2 : byte l (byte l s.c 116) 32 = c2 at he ⊢
  rw [hc2] at o2
  unfold txnNum at he ⊢
  have o3 : Ok l (number l c2).1 := (To.number _ o2).1
  generalize hc3 : (if (number l c2).2 ∈ s.ids ∧ (number l c2).1.e = 0 then fail (number l c2).1 5 c2.p else (number l c2).1) = c3 at he ⊢
  have o3' : Ok l c3 := by
    rw [← hc3]; split
    · exact Cur.ok_fail o3 _ _
    · exact o3
  unfold txnEnd at he ⊢
  have o4 : Ok l (byte l c3 32) := (To.byte _ _ o3').1
  generalize hx : (if (peek l (byte l c3 32)).1 = 97 then (97 : Int) else 99) = x at he ⊢
  have hx2 : x = 97 ∨ x = 99 := by rw [← hx]; split <;> simp
  have o5 : Ok l (byte l (byte l c3 32) x) := (To.byte _ _ o4).1
  have h6 : (byte l (byte l (byte l c3 32) x) 10).e = 0 := he
  have h5 := e_byte h6
  have h4 := e_byte h5
  have h3 := e_byte h4
  have hin : ¬ ((number l c2).2 ∈ s.ids ∧ (number l c2).1.e = 0) := by
    intro hh
    rw [if_pos hh] at hc3
    rw [← hc3] at h3
    exact e_failed (by decide) h3
  rw [if_neg hin] at hc3
  rw [← hc3] at h3
  have h2 := e_number h3
  have hid : (number l c2).2 ∉ s.ids := fun hh => hin ⟨hh, h3⟩
  obtain ⟨k1, t3⟩ := tk_number o2 h3
  rw [← hc2] at h2
  have t2 := tk_byte o1 h2
  have t1 := tk_byte ok (e_byte h2)
  rw [hc2] at t2
  have t4 := tk_byte o3' (show (byte l c3 32).e = 0 from h4)
  have t5 := tk_byte o4 h5
  have t6 := tk_byte o5 h6
  rw [← hc3] at t4
  have hm := T.may
  refine ⟨?_, ?_, ?_, ?_⟩
  · show histT (s.h ++ [⟨(number l c2).2, decide (x = 97), []⟩]) = l.take (byte l (byte l (byte l c3 32) x) 10).p.toNat
    rw [hist_snoc, T.text, t6, t5, ← hc3, t4, t3, t2, t1]
    unfold txnT headT
    rcases hx2 with rfl | rfl <;> simp [texts, En.numS]
  · show txnsP (s.h ++ [⟨(number l c2).2, decide (x = 97), []⟩]) [] [] = 0
    exact (txnsP_snoc _ _ _ _).2 ⟨hm, k1, by rw [← T.ids]; exact hid, rfl⟩
  · show (number l c2).2 :: s.ids = idsOf (s.h ++ [⟨(number l c2).2, decide (x = 97), []⟩]) []
    rw [idsOf_snoc, ← T.ids]
  · show s.met = metOf (s.h ++ [⟨(number l c2).2, decide (x = 97), []⟩]) []
    rw [metOf_snoc, ← T.met]
    rfl
theorem told_line (he : (line l most s).c.e = 0) : Told l (line l most s) := by
  unfold line at he ⊢
  split at he
  · next h1 => rw [if_pos h1]; exact told_apps ok T he
  · next h1 =>
    rw [if_neg h1]
    split at he
    · next h2 => rw [if_pos h2]; exact told_reads ok T he
    · next h2 =>
      rw [if_neg h2]
      split at he
      · next h3 => rw [if_pos h3]; exact told_txn ok T he
      · next h3 => exact (e_failed (c := s.c) (by decide) (To.txn (l := l) (s.to (fail s.c 4 s.c.p)) (Cur.ok_fail ok _ _) |>.2 he).1).elim
end
theorem e_lines {l : List Int} {most : Int} : ∀ (n : Nat) {s : RS}, Ok l s.c → (lines l most n s).c.e = 0 → s.c.e = 0
  | 0, _, _, h => h
  | n + 1, s, ok, h => by
    unfold lines at h
    split at h
    · have h1 := To.line (l := l) most s ok
      exact (h1.2 (e_lines n h1.1 h)).1
    · exact h
theorem told_lines {l : List Int} {most : Int} : ∀ (n : Nat) {s : RS}, Ok l s.c → Told l s → left l s ≤ n → (lines l most n s).c.e = 0 → Told l (lines l most n s) ∧ l.length ≤ (lines l most n s).c.p
  | 0, s, ok, T, hn, h => by
    have h0 : s.c.e = 0 := h
    unfold left at hn
    rw [if_pos h0] at hn
    omega
  | n + 1, s, ok, T, hn, h => by
    cases hp : (peek l s.c).2 with
    | false =>
      rw [peek_no hp] at h ⊢
      refine ⟨T, ?_⟩
      unfold peek at hp
      by_cases hc : s.c.e = 0 ∧ s.c.p < l.length
      · rw [if_pos hc] at hp; simp at hp
      · have : ¬ s.c.p < l.length := fun hh => hc ⟨h, hh⟩
        omega
    | true =>
      have hs : lines l most (n + 1) s = lines l most n (line l most s) := by conv => lhs; unfold lines; rw [if_pos hp]
      rw [hs] at h ⊢
      have h1 := To.line (l := l) most s ok
      have he := e_lines n h1.1 h
      have hpy := peek_yes hp
      have hlt := left_line (most := most) ok hpy.1 hpy.2
      exact told_lines n h1.1 (told_line ok T he) (by omega) h
theorem told_start (l : List Int) : Told l start := ⟨by simp [start, histT], rfl, rfl, rfl⟩
theorem opsN_eq : ∀ h : List S42, En.opsN h = opsN h
  | [] => rfl
  | t :: h => by
    have := opsN_eq h
    have e : opsN (t :: h) = t.f2.length + opsN h := rfl
    rw [e, ← this]; rfl
theorem dec_one {l : List Int} {x : Int} {h : List S42} (hl : l.length ≤ 262144) (hd : decP l 4096 = (h, 0, x)) : histT h = l ∧ checkP h = 0 ∧ encP h = l ∧ h.length ≤ 1024 ∧ opsN h ≤ 4096 := by
  unfold decP at hd
  rw [if_neg (by omega), if_neg (by omega)] at hd
  by_cases h0 : (last l 4096).c.e = 0
  · rw [if_pos h0] at hd
    simp only [Prod.mk.injEq] at hd
    have ok0 : Ok l start.c := ⟨by simp [start], by simp [start]⟩
    obtain ⟨_, _, h1⟩ := inv_lines (l := l) (l.length + 1) (inv_start l 4096 (by omega))
    have hg := h1.good h0
    obtain ⟨T, hp⟩ := told_lines (most := 4096) (l.length + 1) ok0 (told_start l) (by rw [left_start]; exact Nat.le_refl _) h0
    have hpe := h1.ok.2
    rw [show lines l 4096 (l.length + 1) start = last l 4096 from rfl] at T hp hg hpe
    have htx := T.text
    rw [List.take_of_length_le (by omega)] at htx
    have hm := T.may
    rw [hd.1] at htx hm hg
    have hc : checkP h = 0 := by
      unfold checkP
      rw [if_neg (by rw [opsN_eq]; have := hg.2.1; omega), if_neg (by unfold partsP; simp [hm]), if_neg (by rw [htx]; omega)]
    exact ⟨htx, hc, by unfold encP; rw [if_pos hc, htx], hg.1, by have := hg.2.1; omega⟩
  · rw [if_neg h0] at hd
    simp only [Prod.mk.injEq] at hd
    exact absurd hd.2.1 h0
end Go.Proofs.Ytlcioegdmopppaa.Hs
