/- Printed by shake.py. -/
import Derived.Test.YtdchnaghmmhkhaaKz45
import Derived.Deep.OwnRows
import Derived.Laws.MakeOwn
import Derived.Laws.EntriesVeiled
set_option linter.unusedSimpArgs false
namespace Go.Proofs.Ytdchnaghmmhkhaa.Cs.Au
open Go.Shelf Go.RowKit Go.Lib Go.Sort Go.Proofs.Ytdchnaghmmhkhaa.RowAt Go.Proofs.Ytdchnaghmmhkhaa.Stab Go.Proofs.Ytdchnaghmmhkhaa.Stab.Au Go.Proofs.Ytdchnaghmmhkhaa.PCsrGraphs Go.Proofs.YtdchnaghmmhkhaaW.PrintWords Go.Proofs.YtdchnaghmmhkhaaW.PrintLast
set_option linter.unusedSectionVars false
set_option linter.unusedVariables false
def PP (w : World) (D : List (Ar × Nat)) (A : Option Addr) (c : Nat) (w1 : World) : Prop :=
 Below w.heap.size w w1 ∧ ((A = none ∧ D = [] ∧ c = 0) ∨ ∃ g, A = some ⟨g, 0, none⟩ ∧ Row enc 3 w1 g 0 D ∧ w.heap.size ≤ g ∧ g < w1.heap.size ∧ D.length ≤ c)
theorem PP.reads {w w1 : World} {S : List (Ar × Nat)} {A : Option Addr} {c : Nat} (h : PP w S A c w1) : Reads w1 A (S.map Prod.fst) := fun hS => by
 rcases h.2 with ⟨_, rfl, _⟩ | ⟨g, rfl, hR, _⟩
 ·exact absurd rfl hS
 ·exact Reads.row (D := S.map Prod.fst) (fun i x hx c v hv => by
   rw [List.getElem?_map] at hx
   obtain ⟨y, hy, rfl⟩ := Option.map_eq_some_iff.1 hx
   exact hR i y hy c v hv) hS
theorem swl_row {w2 w3 : World} {g : Nat} {D D' : List (Ar × Nat)} {B : Nat} (hB : B ≤ g) (hB2 : B ≤ w2.heap.size) (R : RowK enc 3 w2 g 0 D.toArray) (h : SWL enc 3 w2 g 0 D' w3) (hl : D'.length = D.length) : Row enc 3 w3 g 0 D' ∧ g < w3.heap.size ∧ Below B w2 w3 := by
 have h' : SWK enc 3 w2 g 0 D'.toArray w3 := h
 refine ⟨Row.of (h'.holds R.hblk R.hH (by simpa using hl)) enc_len, Nat.lt_of_lt_of_le R.hblk h'.le, ?_⟩
 obtain ⟨m, os, rfl⟩ := h
 have h1 : Below B w2 (putRowK enc 3 (Sort.ahead w2 m) g 0 D'.toArray) := Lib.below_putRow (enc := id) (Below.refl B w2) hB
 unfold sortWorldK
 exact h1.trans ⟨rfl, rfl, rfl, by simp [grow], fun k hk => by
  have : k < (putRowK enc 3 (Sort.ahead w2 m) g 0 D'.toArray).heap.size := by have := h1.size; omega
  simp [grow, Array.getElem?_append, this]⟩
theorem cmpLays (blk off size : Nat) (w : World) : CmpLays Try.prog 51 #[] enc 3 cf blk off size w := by
 intro m os dk _ x y
 rw [Array.append_empty]
 exact stands _ x y
theorem clone_c (A : Option Addr) (cap : Nat) (D : List Ar) (w : World) (R : Reads w A D) (hsz : D.length * 24 ≤ 140737488355328) :
 Calls Try.prog 40 #[.slice A D.length cap] w fun e w' => ∃ A' c', e = .returned (.slice A' D.length c') ∧ PP w D.zipIdx A' c' w' := by
 cases A with
 | none =>
  have hD : D = [] := by
   cases D with
   | nil => rfl
   | cons x l => obtain ⟨b, o, e, _⟩ := R (by simp); cases e
  subst hD
  exact (clone_nil _ _ w).mono fun e w' ⟨he, hw⟩ => ⟨none, 0, he, by subst hw; exact Below.refl _ _, .inl ⟨rfl, rfl, rfl⟩⟩
 | some ad =>
  obtain ⟨i0, U⟩ := lu
  refine (clone_any lt U Try.func40 ad D.length cap (D.flatMap enc1) w (flat1_len D) (by unfold maxLen; omega) hsz (fun j u hu => ?_) (flat_one enc1_one)).mono fun e w1 ⟨v, he, hown, hne, hb⟩ => ?_
  ·obtain ⟨i, c, x, rfl, hx, hc⟩ := flat_at enc1_len D hu
   obtain ⟨b, o, e, h3⟩ := R (by intro e; subst e; cases hx)
   cases e
   have := h3 i x hx
   rw [Addr.add_lit]
   match c, hc with
   | 0, hc => cases hc; exact this.1
   | 1, hc => cases hc; rw [← Nat.add_assoc]; exact this.2.1
   | 2, hc => cases hc; rw [← Nat.add_assoc]; exact this.2.2
  ·obtain ⟨g, c, rfl, hg1, hg2, hc, hR⟩ := Row.owns enc1_len hown hne
   refine ⟨some ⟨g, 0, none⟩, c, he, hb, .inr ⟨g, rfl, fun i x hx j u hu => ?_, hg1, hg2, by rw [List.length_zipIdx]; exact hc⟩⟩
   rw [List.getElem?_zipIdx] at hx
   obtain ⟨y, hy, rfl⟩ := Option.map_eq_some_iff.1 hx
   exact hR i y hy j u hu
theorem delete_c (A : Option Addr) (c : Nat) (D : List (Ar × Nat)) (w w1 : World) (h : PP w D A c w1) (hsz : D.length < 1152921504606846976) :
 Calls Try.prog 48 #[.slice A D.length c, .func (.func 49) #[] #[]] w1 fun e w2 => e = .returned (.slice A (D.filter fun x => !bad x).length c) ∧ PP w (D.filter fun x => !bad x) A c w2 := by
 have e25 : ∀ args w, (callFunc 49 args).run Try.prog w = .ok (.enter 49 args) w := enters_of Try.func49 (by kernel_rfl) rfl
 obtain ⟨i0, U⟩ := lu
 rcases h.2 with ⟨rfl, rfl, rfl⟩ | ⟨g, rfl, h1, h2, h3, h4⟩
 ·exact (delete_nil _ w1).mono fun e w2 ⟨he, hw⟩ => ⟨he, by subst hw; exact h.1, .inl ⟨rfl, rfl, rfl⟩⟩
 ·exact (deleteFunc_any lt U Try.func47 Try.func48 enc enc_len enc_one bad 49 #[] e25 w.heap.size g 0 c D w1 joined1 h1 h2 h3 hsz h4).mono fun e w2 ⟨he, k1, k2, k3⟩ =>
   ⟨he, h.1.trans k3, .inr ⟨g, rfl, k1, h2, k2, Nat.le_trans (List.length_filter_le ..) h4⟩⟩
theorem sort_c (A : Option Addr) (c : Nat) (D : List (Ar × Nat)) (w w1 : World) (h : PP w D A c w1) (hsz : D.length < 1152921504606846976) (htag : D.Pairwise fun x y => x.2 < y.2) :
 Calls Try.prog 50 #[.slice A D.length c, .func (.func 51) #[] #[]] w1 fun e w2 => e = .returned (.tuple #[]) ∧ ∃ S, S.Perm D ∧ Sd (ltOf cf) Prod.snd S ∧ PP w S A c w2 := by
 have e27 : ∀ args w, (callFunc 51 args).run Try.prog w = .ok (.enter 51 args) w := enters_of Try.func51 (by kernel_rfl) rfl
 rcases h.2 with ⟨rfl, rfl, rfl⟩ | ⟨g, rfl, h1, h2, h3, h4⟩
 ·exact (sortStable_nil _ w1).mono fun e w2 ⟨he, hw⟩ => ⟨he, [], List.Perm.refl _, List.Pairwise.nil, by subst hw; exact h.1, .inl ⟨rfl, rfl, rfl⟩⟩
 ·have hRK : RowK enc 3 w1 g 0 D.toArray := ⟨enc_len, enc_one, h1.holds enc_len, h3⟩
  refine (sortStable_any lt Try.func62 Try.func60 Try.func58 Try.func57 Try.func54 Try.func50 enc 51 #[] cf Prod.snd swo g 0 c w1 e27 D hRK (cmpLays _ _ _ _) htag hsz).mono ?_
  rintro e w3 ⟨he, S, hp, hs, hw⟩
  obtain ⟨k1, k2, k3⟩ := swl_row (B := w.heap.size) h2 h.1.size hRK hw hp.length_eq
  exact ⟨he, S, hp, hs, h.1.trans k3, .inr ⟨g, rfl, k1, h2, k2, by rw [hp.length_eq]; exact h4⟩⟩
theorem zip_tags (D : List Ar) : D.zipIdx.Pairwise fun x y => x.2 < y.2 := List.pairwise_iff_getElem.2 fun i j hi hj hij => by simpa using hij
theorem own_below {w w' : World} {base k n : Nat} {e : TypeId} {v : Value} {xs : List Value} (h : w.ownsRow base e k v n xs) (hb : Below w.heap.size w w') : w'.ownsRow base e k v n xs := by
 refine ⟨h.1, ?_⟩
 rcases h.2 with h0 | ⟨g, cap, cur, h1, h2, h3, h4⟩
 ·exact .inl h0
 ·have hlt : g < w.heap.size := by
   rcases Nat.lt_or_ge g w.heap.size with h | h
   ·exact h
   ·rw [Array.getElem?_eq_none h] at h3; cases h3
  exact .inr ⟨g, cap, cur, h1, h2, by rw [hb.block g hlt]; exact h3, h4⟩
theorem own_base {w : World} {base base' k n : Nat} {e : TypeId} {v : Value} {xs : List Value} (h : w.ownsRow base e k v n xs) (hb : base' ≤ base) : w.ownsRow base' e k v n xs := by
 refine ⟨h.1, ?_⟩
 rcases h.2 with h0 | ⟨g, cap, cur, h1, h2, h3, h4⟩
 ·exact .inl h0
 ·exact .inr ⟨g, cap, cur, h1, Nat.le_trans hb h2, h3, h4⟩
theorem own_slice {w : World} {base k n : Nat} {e : TypeId} {v : Value} {xs : List Value} (h : w.ownsRow base e k v n xs) : ∃ A c, v = .slice A n c := by
 rcases h.2 with ⟨rfl, rfl⟩ | ⟨g, cap, cur, rfl, _⟩
 ·exact ⟨none, 0, rfl⟩
 ·exact ⟨_, _, rfl⟩
def RgJA.T : Bool × List (List Nat × List Nat) := (true, [([], []), ([0], [0]), ([1], [1]), ([2], [2]), ([2], [2]), ([4, 2], [2, 4]), ([3, 5, 2], [2, 3, 5]), ([6, 2], [2, 6]), ([2], [2]), ([7, 8, 2, 2], [2, 7, 8]), ([9, 2], [2, 9]), ([2, 10], [2, 10])])
def RgJA.B : List Nat := [0, 1, 3, 7, 7, 23, 63, 127, 7, 511, 1023, 2047]
theorem RgJA.tab : rtab .any (opsOf Try.f39 8) = RgJA.T := by kernel_rfl
theorem RgJA.bits : waitsOk RgJA.T.2 RgJA.B = true := by kernel_rfl
def RgJB.T : Bool × List (List Nat × List Nat) := (true, [([], []), ([0], [0]), ([1], [1]), ([2], [2]), ([2], [2]), ([4, 2], [2, 4]), ([3, 5, 2], [2, 3, 5]), ([6, 2], [2, 6]), ([2], [2]), ([7, 8, 2, 2], [2, 7, 8]), ([9, 2], [2, 9]), ([2, 10], [2, 10])])
def RgJB.B : List Nat := [0, 1, 3, 7, 7, 23, 63, 127, 7, 511, 1023, 2047]
theorem RgJB.tab : rtab .any (opsOf Try.f39 8) = RgJB.T := by kernel_rfl
theorem RgJB.bits : waitsOk RgJB.T.2 RgJB.B = true := by kernel_rfl
def RgJS.T : Bool × List (List Nat × List Nat) := (true, [([], []), ([], []), ([1], [1]), ([0, 2], [0, 2]), ([3], [3]), ([4], [4]), ([], []), ([6], [6]), ([5, 7], [5, 7]), ([0, 2, 0, 1, 2, 3, 4, 5, 6, 7, 8], [0, 2]), ([9, 0, 1, 2, 3, 4, 5, 6, 7, 8], [9]), ([10, 8, 0, 1, 2, 3, 4, 5, 6, 7, 8], [8, 10])])
def RgJS.B : List Nat := [0, 0, 2, 7, 15, 31, 0, 64, 255, 511, 1023, 2047]
theorem RgJS.tab : rtab .any (opsOf Try.f39 9) = RgJS.T := by kernel_rfl
theorem RgJS.bits : waitsOk RgJS.T.2 RgJS.B = true := by kernel_rfl
set_option maxHeartbeats 4000000 in
set_option maxRecDepth 1000000 in
theorem joined_c (A : Option Addr) (cap : Nat) (D : List Ar) (w : World) (R : Reads w A D) (hsz : D.length * 24 ≤ 140737488355328) :
 Calls Try.prog 39 #[.slice A D.length cap] w fun e w' => ∃ v r, e = .returned v ∧ Joined D r ∧ r.length ≤ D.length ∧ w'.ownsRow w.heap.size 55 3 v r.length (r.flatMap enc1) ∧ Below w.heap.size w w' := by
 obtain ⟨i0, U⟩ := lu
 have e24 : ∀ args w, (callFunc 40 args).run Try.prog w = .ok (.enter 40 args) w := enters_of Try.func40 (by kernel_rfl) rfl
 have e23 : ∀ args w, (callFunc 48 args).run Try.prog w = .ok (.enter 48 args) w := enters_of Try.func48 (by kernel_rfl) rfl
 have e26 : ∀ args w, (callFunc 50 args).run Try.prog w = .ok (.enter 50 args) w := enters_of Try.func50 (by kernel_rfl) rfl
 have e27 : ∀ args w, (callFunc 51 args).run Try.prog w = .ok (.enter 51 args) w := enters_of Try.func51 (by kernel_rfl) rfl
 have hc1 := clone_c A cap D w R hsz
 obtain ⟨N0, hN0⟩ : ∃ n, D.length = n := ⟨_, rfl⟩
 have HN0 := Lib.hid hN0
 obtain ⟨FD, hFD⟩ : ∃ FD, (D.zipIdx.filter fun x => !bad x) = FD := ⟨_, rfl⟩
 have HFD := Lib.hid hFD
 have hFl : FD.length ≤ N0 := by rw [← hFD, ← hN0]; exact Nat.le_trans (List.length_filter_le ..) (by rw [List.length_zipIdx]; exact Nat.le_refl _)
 have HC2 : Hid (∀ A' c w1, PP w D.zipIdx A' c w1 → Calls Try.prog 48 #[.slice A' N0 c, .func (.func 49) #[] #[]] w1 fun e w2 => e = .returned (.slice A' FD.length c) ∧ PP w FD A' c w2) := Lib.hid fun A' c w1 h => by
  have := delete_c A' c D.zipIdx w w1 h (by rw [List.length_zipIdx]; omega)
  rw [List.length_zipIdx, hN0, hFD] at this; exact this
 have HC3 : Hid (∀ A' c w1, PP w FD A' c w1 → Calls Try.prog 50 #[.slice A' FD.length c, .func (.func 51) #[] #[]] w1 fun e w2 => e = .returned (.tuple #[]) ∧ ∃ S, S.Perm FD ∧ Sd (ltOf cf) Prod.snd S ∧ PP w S A' c w2) := Lib.hid fun A' c w1 h => sort_c A' c FD w w1 h (by omega) (by rw [← hFD]; exact (zip_tags D).filter _)
 rw [hN0] at hc1 ⊢
 have HC1 := Lib.hid hc1
 have HST := Lib.hid stands
 clear hc1 R hFD hN0
 go_enter Try.func39, Try.ntmps39
 go_wp2_with (first
  | (go_at_fn 40; refine HC1.out.mono ?_; rintro e w1 ⟨A1, c1, rfl, H1⟩; replace H1 := Lib.hid H1)
  | (go_at_fn 48; refine (HC2.out _ _ _ H1.out).mono ?_; rintro e w2 ⟨rfl, H2⟩; replace H2 := Lib.hid H2)
  | (go_at_fn 50; refine (HC3.out _ _ _ H2.out).mono ?_; rintro e w3 ⟨rfl, S, HP, HS, H3⟩; replace H3 := Lib.hid H3))
 have hSl : S.length = FD.length := HP.length_eq
 have HSL := Lib.hid hSl
 have HR3 := Lib.hid H3.out.reads
 obtain ⟨NF, hNF⟩ : ∃ n, FD.length = n := ⟨_, rfl⟩
 rw [hNF] at HSL hFl ⊢
 clear HC1 HC2 HC3 H1 H2 hSl hNF
 go_loopg [4, 6, 7, 15] NF (fun kx v4 _ _ v15 wr => ∃ i : Nat, v15 = .int .i64 i ∧ i ≤ NF ∧ NF - i ≤ kx ∧ Aside (wr.ownsRow w3.heap.size 55 3 v4 (jn (S.take i)).length ((jn (S.take i)).flatMap enc1)) ∧ Aside (Below w3.heap.size w3 wr))
 case atStart => exact ⟨0, rfl, by omega, by omega, World.ownsRow_nil _ _ _ _, Below.refl _ _⟩
 case round =>
  obtain ⟨i, rfl, hi, hkx, HO, HB⟩ := hrel
  by_cases hlt : i < NF
  ·have hlti : (i : Int) < (NF : Int) := by omega
   have hx : S[i]? = some (S[i]'(by rw [HSL.out]; exact hlt)) := List.getElem?_eq_getElem _
   have htk : S.take (i + 1) = S.take i ++ [S[i]'(by rw [HSL.out]; exact hlt)] := by rw [List.take_add_one, hx]; rfl
   generalize (S[i]'(by rw [HSL.out]; exact hlt)) = x at hx htk
   obtain ⟨b, o, rfl, hcell⟩ := HR3.out (by intro e; have := congrArg List.length e; rw [List.length_map, HSL.out] at this; simp at this; omega)
   obtain ⟨q0, q1, q2⟩ := hcell i x.1 (by rw [List.getElem?_map, hx]; rfl)
   have l0 := below_cell HB.out _ _ q0
   have l1 := below_cell HB.out _ _ q1
   have l2 := below_cell HB.out _ _ q2
   have HNEXT : Hid (jn (S.take (i + 1)) = put (jn (S.take i)) x.1) := Lib.hid (by rw [htk, jn_snoc])
   have hjl := jn_len (S.take i)
   rw [List.length_take, HSL.out, Nat.min_eq_left (by omega)] at hjl
   clear q0 q1 q2 hcell hx htk
   generalize jn (S.take i) = out at HO HNEXT hjl
   have hc8 : (IntKind.i64.wrap ((i : Int) + 1)) = ((i + 1 : Nat) : Int) := by have := HN0.out; rw [IntKind.wrap_i64]; omega
   obtain ⟨A4, c4, rfl⟩ := own_slice HO.out
   go_wp2_with fail
   have HO6 := World.ownsRow.alloc HO.out (.cells #[.int .i64 x.1.f0, .int .i64 x.1.f1, .int .u8 x.1.f2] 55)
   have HB6 := below_alloc HB.out (.cells #[.int .i64 x.1.f0, .int .i64 x.1.f1, .int .u8 x.1.f2] 55)
   have BK6 := Blk.new wr (enc1 x.1) 55
   unfold enc1 at BK6
   have hsz6 : (wr.alloc (.cells #[.int .i64 x.1.f0, .int .i64 x.1.f1, .int .u8 x.1.f2] 55)).heap.size = wr.heap.size + 1 := World.size_alloc _ _
   have hpge : w3.heap.size ≤ wr.heap.size := HB.out.size
   clear HO l0 l1 l2 HB
   generalize wr.heap.size = p at *
   generalize wr.alloc (.cells #[.int .i64 x.1.f0, .int .i64 x.1.f1, .int .u8 x.1.f2] 55) = w6 at *
   have HSZ6 := Lib.hid hsz6
   have HPGE := Lib.hid hpge
   clear hsz6 hpge
   rcases List.eq_nil_or_concat out with rfl | ⟨L, y, rfl⟩
   ·rw [put_nil] at HNEXT
    refine start_ (n := 12) (S := fun _ => True) (ds := []) #[false, false, false, false, false, false, false, false, false, false, false, false] (by kernel_rfl) rfl rfl trivial (fun hHeld => ?_)
    refine with_tabW RgJA.tab RgJA.bits (fun HT_ HW_ => ?_)
    refine pure_ (i := 0) (N := some 21) (v := ?_) (a' := ?_) #[true, false, false, false, false, false, false, false, false, false, false, false] rfl rfl (any_of HT_.out (by kernel_rfl)) (fun _ _ _ h => h) (Or.inl ⟨by rfl, ?_⟩) ?_ ?_
    rotate_left
    ·intro w'
     go_simp
     with_reducible rfl
    rotate_left
    ·simp only [Act.put, List.setIfInBounds_toArray, List.set_cons_zero, List.set_cons_succ, i64_w, i32_w]
     rfl
    refine pure_ (i := 1) (N := some 22) (v := ?_) (a' := ?_) #[true, true, false, false, false, false, false, false, false, false, false, false] rfl rfl (any_of HT_.out (by kernel_rfl)) (fun _ _ _ h => h) (Or.inl ⟨by rfl, ?_⟩) ?_ ?_
    rotate_left
    ·intro w'
     go_simp
     with_reducible rfl
    rotate_left
    ·simp only [Act.put, List.setIfInBounds_toArray, List.set_cons_zero, List.set_cons_succ, i64_w, i32_w]
     rfl
    refine pure_ (i := 2) (N := some 23) (v := ?_) (a' := ?_) #[true, true, true, false, false, false, false, false, false, false, false, false] rfl rfl (any_of HT_.out (by kernel_rfl)) (fun _ _ _ h => h) (Or.inl ⟨by rfl, ?_⟩) ?_ ?_
    rotate_left
    ·intro w'
     go_simp
     with_reducible rfl
    rotate_left
    ·simp only [Act.put, List.setIfInBounds_toArray, List.set_cons_zero, List.set_cons_succ, i64_w, i32_w]
     rfl
    refine pure_ (i := 3) (N := some 24) (v := undef) (a' := ?_) #[true, true, true, true, false, false, false, false, false, false, false, false] rfl rfl (any_of HT_.out (by kernel_rfl)) (fun _ _ _ h => h) (Or.inr ⟨by rfl, rfl⟩) ?_ ?_
    rotate_left
    ·simp only [Act.put, List.setIfInBounds_toArray, List.set_cons_zero, List.set_cons_succ, i64_w, i32_w]
     rfl
    refine pure_ (i := 4) (N := some 25) (v := undef) (a' := ?_) #[true, true, true, true, true, false, false, false, false, false, false, false] rfl rfl (any_of HT_.out (by kernel_rfl)) (fun _ _ _ h => h) (Or.inr ⟨by rfl, rfl⟩) ?_ ?_
    rotate_left
    ·simp only [Act.put, List.setIfInBounds_toArray, List.set_cons_zero, List.set_cons_succ, i64_w, i32_w]
     rfl
    refine pure_ (i := 5) (N := some 26) (v := undef) (a' := ?_) #[true, true, true, true, true, true, false, false, false, false, false, false] rfl rfl (any_of HT_.out (by kernel_rfl)) (fun _ _ _ h => h) (Or.inr ⟨by rfl, rfl⟩) ?_ ?_
    rotate_left
    ·simp only [Act.put, List.setIfInBounds_toArray, List.set_cons_zero, List.set_cons_succ, i64_w, i32_w]
     rfl
    refine pure_ (i := 6) (N := some 27) (v := undef) (a' := ?_) #[true, true, true, true, true, true, true, false, false, false, false, false] rfl rfl (any_of HT_.out (by kernel_rfl)) (fun _ _ _ h => h) (Or.inr ⟨by rfl, rfl⟩) ?_ ?_
    rotate_left
    ·simp only [Act.put, List.setIfInBounds_toArray, List.set_cons_zero, List.set_cons_succ, i64_w, i32_w]
     rfl
    refine pure_ (i := 7) (N := some 28) (v := undef) (a' := ?_) #[true, true, true, true, true, true, true, true, false, false, false, false] rfl rfl (any_of HT_.out (by kernel_rfl)) (fun _ _ _ h => h) (Or.inr ⟨by rfl, rfl⟩) ?_ ?_
    rotate_left
    ·simp only [Act.put, List.setIfInBounds_toArray, List.set_cons_zero, List.set_cons_succ, i64_w, i32_w]
     rfl
    refine pure_ (i := 8) (N := some 29) (v := undef) (a' := ?_) #[true, true, true, true, true, true, true, true, true, false, false, false] rfl rfl (any_of HT_.out (by kernel_rfl)) (fun _ _ _ h => h) (Or.inr ⟨by rfl, rfl⟩) ?_ ?_
    rotate_left
    ·simp only [Act.put, List.setIfInBounds_toArray, List.set_cons_zero, List.set_cons_succ, i64_w, i32_w]
     rfl
    refine pure_ (i := 9) (N := some 30) (v := undef) (a' := ?_) #[true, true, true, true, true, true, true, true, true, true, false, false] rfl rfl (any_of HT_.out (by kernel_rfl)) (fun _ _ _ h => h) (Or.inr ⟨by rfl, rfl⟩) ?_ ?_
    rotate_left
    ·simp only [Act.put, List.setIfInBounds_toArray, List.set_cons_zero, List.set_cons_succ, i64_w, i32_w]
     rfl
    refine pure_ (i := 10) (N := some 31) (v := undef) (a' := ?_) #[true, true, true, true, true, true, true, true, true, true, true, false] rfl rfl (any_of HT_.out (by kernel_rfl)) (fun _ _ _ h => h) (Or.inr ⟨by rfl, rfl⟩) ?_ ?_
    rotate_left
    ·simp only [Act.put, List.setIfInBounds_toArray, List.set_cons_zero, List.set_cons_succ, i64_w, i32_w]
     rfl
    refine pure_ (i := 11) (N := some 32) (v := ?_) (a' := ?_) #[true, true, true, true, true, true, true, true, true, true, true, true] rfl rfl (any_of HT_.out (by kernel_rfl)) (fun _ _ _ h => h) (Or.inl ⟨by rfl, ?_⟩) ?_ ?_
    rotate_left
    ·intro w'
     go_simp
     with_reducible rfl
    rotate_left
    ·simp only [Act.put, List.setIfInBounds_toArray, List.set_cons_zero, List.set_cons_succ, i64_w, i32_w]
     rfl
    refine done_ (done_of HT_.out (by kernel_rfl)) ?_
    have HO7 : Hid ((w6.drew.alloc (.cells #[.int .i64 x.1.f0, .int .i64 x.1.f1, .int .u8 x.1.f2] 55)).ownsRow w3.heap.size 55 3 (.slice A4 0 c4) 0 []) := Lib.hid (World.ownsRow.alloc (World.ownsRow.drew HO6) _)
    have HB7 : Hid (Below w3.heap.size w3 (w6.drew.alloc (.cells #[.int .i64 x.1.f0, .int .i64 x.1.f1, .int .u8 x.1.f2] 55))) := Lib.hid (below_alloc HB6.drew _)
    have HC7 : Hid (Cells (w6.drew.alloc (.cells #[.int .i64 x.1.f0, .int .i64 x.1.f1, .int .u8 x.1.f2] 55)) (some ⟨w6.heap.size, 0, none⟩) (enc1 x.1)) := Lib.hid (Cells.new w6.drew (enc1 x.1) 55)
    have hk0 := (BK6.drew.cell 0).trans rfl
    have hk1 := (BK6.drew.cell 1).trans rfl
    have hk2 := (BK6.drew.cell 2).trans rfl
    simp only [List.getElem?_cons_zero, List.getElem?_cons_succ] at hk0 hk1 hk2
    clear HO6 HB6 BK6
    go_wp2_with (at_builtin; refine wpl_appK (w0 := w3) w3.heap.size rfl _ _ 51 55 (.agg zc) 3 24 rfl Try.underlying51 arc_info rfl (by decide) (by decide) (.slice A4 0 c4) [] (enc1 x.1) (some ⟨w6.heap.size, 0, none⟩) 0 1 1 rfl rfl rfl ?qo ?qc (enc1_one x.1) ?qb ?qs ?ql ?_)
    case qo => exact HO7.out
    case qc => exact HC7.out
    case qb => exact HB7.out
    case qs => exact HB7.out.size
    case ql => decide
    intro A5 c5 w7 hown hb7 _ _ _
    go_wp2
    go_roundg (NF - (i + 1))
    case measure => omega
    case rel => exact ⟨i + 1, by go_num, by omega, Nat.le_refl _, (by rw [HNEXT.out]; exact hown), hb7⟩
   ·rw [List.concat_eq_append] at HO6 HNEXT hjl ⊢
    rw [put_snoc] at HNEXT
    have hlen : (L ++ [y]).length = L.length + 1 := by simp
    rw [hlen] at HO6 hjl ⊢
    obtain ⟨g2, hA4⟩ : ∃ g2, A4 = some ⟨g2, 0, none⟩ := by
     rcases HO6.2 with ⟨h0, h1⟩ | ⟨g, cap, cur, h0, _⟩
     ·omega
     ·injection h0 with h0 _ _; exact ⟨g, h0⟩
    subst hA4
    obtain ⟨q0, q1, q2⟩ := flat_at3 L y
    have HK0 := Lib.hid ((World.ownsRow.cellAt HO6 (L.length * 3) (by omega)).trans q0)
    have HK1 := Lib.hid ((World.ownsRow.cellAt HO6 (L.length * 3 + 1) (by omega)).trans q1)
    have HK2 := Lib.hid ((World.ownsRow.cellAt HO6 (L.length * 3 + 2) (by omega)).trans q2)
    have hg2 : w3.heap.size ≤ g2 ∧ g2 < w6.heap.size := World.ownsRow.lt HO6 g2 rfl
    have HG2 := Lib.hid hg2
    clear q0 q1 q2 hg2
    have HX : Hid (∀ W, Gw w6 W → W.cell? ⟨g2, L.length * 3, none⟩ = some (.int .i64 y.f0) ∧ W.cell? ⟨g2, L.length * 3 + 1, none⟩ = some (.int .i64 y.f1) ∧ W.cell? ⟨g2, L.length * 3 + 2, none⟩ = some (.int .u8 y.f2) ∧ W.cell? ⟨p, 0, none⟩ = some (.int .i64 x.1.f0) ∧ W.cell? ⟨p, 1, none⟩ = some (.int .i64 x.1.f1) ∧ W.cell? ⟨p, 2, none⟩ = some (.int .u8 x.1.f2)) := Lib.hid fun W h =>
     ⟨h.cell HK0.out, h.cell HK1.out, h.cell HK2.out, h.cell ((BK6.cell 0).trans rfl), h.cell ((BK6.cell 1).trans rfl), h.cell ((BK6.cell 2).trans rfl)⟩
    have HCALL : Hid (∀ W, Gw w6 W → Calls Try.prog 51 #[.agg #[.int .i64 y.f0, .int .i64 y.f1, .int .u8 y.f2], .agg #[.int .i64 x.1.f0, .int .i64 x.1.f1, .int .u8 x.1.f2]] W fun e w' => e = .returned (.int .i64 (cA y x.1)) ∧ Gw w6 w') := Lib.hid fun W h => (HST.out W (y, 0) x).mono fun e w' ⟨he, hw⟩ => ⟨he, h.trans hw⟩
    have r1 : IntKind.i64.wrap (((L.length + 1 : Nat) : Int) - 1) = (L.length : Int) := by have := HN0.out; rw [IntKind.wrap_i64]; omega
    have r2 : decide (((L.length + 1 : Nat) : Int) > 0) = true := decide_eq_true (by omega)
    have r3 : (0 : Int) ≤ (L.length : Int) := by omega
    have r4 : (L.length : Int) < ((L.length + 1 : Nat) : Int) := by omega
    have r5 : ((L.length : Int)).toNat = L.length := by omega
    have HLD : Hid (L.length + 1 + 1 ≤ D.length) := Lib.hid (by have := HN0.out; omega)
    have HFL : Hid ((L ++ [y] ++ [x.1]).flatMap enc1 = L.flatMap enc1 ++ (enc1 y ++ enc1 x.1)) := Lib.hid (by rw [List.append_assoc, List.flatMap_append]; rfl)
    have r6 : wrap64 (L.length : Int) = (L.length : Int) := by have := HN0.out; unfold wrap64; omega
    have r7 : (L.length : Int) < (L.length : Int) + 1 := by omega
    refine start_ (n := 12) (S := fun w' => Gw w6 w') (ds := []) #[false, false, false, false, false, false, false, false, false, false, false, false] (by kernel_rfl) rfl rfl (Gw.refl w6).drew (fun hHeld => ?_)
    refine with_tabW RgJB.tab RgJB.bits (fun HT_ HW_ => ?_)
    refine pure_ (i := 0) (N := some 21) (v := ?_) (a' := ?_) #[true, false, false, false, false, false, false, false, false, false, false, false] rfl rfl (any_of HT_.out (by kernel_rfl)) (fun _ _ _ h => h) (Or.inl ⟨by rfl, ?_⟩) ?_ ?_
    rotate_left
    ·intro w'
     go_simp
     with_reducible rfl
    rotate_left
    ·simp only [Act.put, List.setIfInBounds_toArray, List.set_cons_zero, List.set_cons_succ, i64_w, i32_w]
     rfl
    refine pure_ (i := 1) (N := some 22) (v := ?_) (a' := ?_) #[true, true, false, false, false, false, false, false, false, false, false, false] rfl rfl (any_of HT_.out (by kernel_rfl)) (fun _ _ _ h => h) (Or.inl ⟨by rfl, ?_⟩) ?_ ?_
    rotate_left
    ·intro w'
     go_simp
     with_reducible rfl
    rotate_left
    ·simp only [Act.put, List.setIfInBounds_toArray, List.set_cons_zero, List.set_cons_succ, i64_w, i32_w]
     rfl
    refine pure_ (i := 2) (N := some 23) (v := ?_) (a' := ?_) #[true, true, true, false, false, false, false, false, false, false, false, false] rfl rfl (any_of HT_.out (by kernel_rfl)) (fun _ _ _ h => h) (Or.inl ⟨by rfl, ?_⟩) ?_ ?_
    rotate_left
    ·intro w'
     go_simp
     with_reducible rfl
    rotate_left
    ·simp only [Act.put, List.setIfInBounds_toArray, List.set_cons_zero, List.set_cons_succ, i64_w, i32_w]
     rfl
    refine pure_ (i := 3) (N := some 24) (v := ?_) (a' := ?_) #[true, true, true, true, false, false, false, false, false, false, false, false] rfl rfl (any_of HT_.out (by kernel_rfl)) (fun _ _ _ h => h) (Or.inl ⟨by rfl, ?_⟩) ?_ ?_
    rotate_left
    ·intro w'
     go_simp
     with_reducible rfl
    rotate_left
    ·simp only [Act.put, List.setIfInBounds_toArray, List.set_cons_zero, List.set_cons_succ, i64_w, i32_w]
     rfl
    refine pure_ (i := 4) (N := some 25) (v := ?_) (a' := ?_) #[true, true, true, true, true, false, false, false, false, false, false, false] rfl rfl (any_of HT_.out (by kernel_rfl)) (fun _ _ _ h => h) (Or.inl ⟨by rfl, ?_⟩) ?_ ?_
    rotate_left
    ·intro w'
     go_simp
     with_reducible rfl
    rotate_left
    ·simp only [Act.put, List.setIfInBounds_toArray, List.set_cons_zero, List.set_cons_succ, i64_w, i32_w]
     rfl
    refine pure_ (i := 5) (N := some 26) (v := ?_) (a' := ?_) #[true, true, true, true, true, true, false, false, false, false, false, false] rfl rfl (any_of HT_.out (by kernel_rfl)) (fun _ _ _ h => h) (Or.inl ⟨by rfl, ?_⟩) ?_ ?_
    rotate_left
    ·intro w'
     go_simp
     with_reducible rfl
    rotate_left
    ·simp only [Act.put, List.setIfInBounds_toArray, List.set_cons_zero, List.set_cons_succ, i64_w, i32_w]
     rfl
    refine pure_ (i := 6) (N := some 27) (v := ?_) (a' := ?_) #[true, true, true, true, true, true, true, false, false, false, false, false] rfl rfl (any_of HT_.out (by kernel_rfl)) (fun _ _ _ h => h) (Or.inl ⟨by rfl, ?_⟩) ?_ ?_
    rotate_left
    ·intro w'
     go_simp
     with_reducible rfl
    rotate_left
    ·simp only [Act.put, List.setIfInBounds_toArray, List.set_cons_zero, List.set_cons_succ, i64_w, i32_w]
     rfl
    refine take_ (i := 7) (N := some 28) (v := ?_) (a' := ?_) #[true, true, true, true, true, true, true, true, false, false, false, false] rfl rfl (take_ofW HT_.out HW_.out (by kernel_rfl)) (fun _ _ _ h => h) (Or.inl ⟨by rfl, ?_⟩) hHeld ?_ ?_
    rotate_left
    ·intro w' hW
     obtain ⟨s0, s1, s2, s3, s4, s5⟩ := HX.out w' hW
     go_simp
     with_reducible rfl
    rotate_left
    ·simp only [Act.put, List.setIfInBounds_toArray, List.set_cons_zero, List.set_cons_succ, i64_w, i32_w]
     rfl
    refine take_ (i := 8) (N := some 29) (v := ?_) (a' := ?_) #[true, true, true, true, true, true, true, true, true, false, false, false] rfl rfl (take_ofW HT_.out HW_.out (by kernel_rfl)) (fun _ _ _ h => h) (Or.inl ⟨by rfl, ?_⟩) hHeld ?_ ?_
    rotate_left
    ·intro w' hW
     obtain ⟨s0, s1, s2, s3, s4, s5⟩ := HX.out w' hW
     go_simp
     with_reducible rfl
    rotate_left
    ·simp only [Act.put, List.setIfInBounds_toArray, List.set_cons_zero, List.set_cons_succ, i64_w, i32_w]
     rfl
    refine one_ (i := 9) (N := some 30) #[true, true, true, true, true, true, true, true, true, true, false, false] rfl rfl (one_of HT_.out (by kernel_rfl)) (by decide) (fun K hK => ?_)
    refine goes_ Try.func51 (by kernel_rfl) rfl #[.agg #[.int .i64 y.f0, .int .i64 y.f1, .int .u8 y.f2], .agg #[.int .i64 x.1.f0, .int .i64 x.1.f1, .int .u8 x.1.f2]] (by rfl) rfl rfl (by (try simp only [List.map_toArray, List.map_cons, List.map_nil]); first | done | rfl) ?_
    refine (HCALL.out _ hHeld).mono ?_
    rintro e_ w_1 ⟨rfl, hH_⟩
    refine ⟨_, rfl, ?_⟩
    refine hK.out _ _ hH_ (fun hHeld => ?_)
    clear hK K hH_
    refine norm_ (a' := ?_) ?_ ?_
    rotate_left
    ·show Act.put _ (some 30) _ = _
     simp only [Act.put, List.setIfInBounds_toArray, List.set_cons_zero, List.set_cons_succ, i64_w, i32_w]
     rfl
    refine pure_ (i := 10) (N := some 31) (v := ?_) (a' := ?_) #[true, true, true, true, true, true, true, true, true, true, true, false] rfl rfl (any_of HT_.out (by kernel_rfl)) (fun _ _ _ h => h) (Or.inl ⟨by rfl, ?_⟩) ?_ ?_
    rotate_left
    ·intro w'
     go_simp
     with_reducible rfl
    rotate_left
    ·simp only [Act.put, List.setIfInBounds_toArray, List.set_cons_zero, List.set_cons_succ, i64_w, i32_w]
     rfl
    refine pure_ (i := 11) (N := some 32) (v := ?_) (a' := ?_) #[true, true, true, true, true, true, true, true, true, true, true, true] rfl rfl (any_of HT_.out (by kernel_rfl)) (fun _ _ _ h => h) (Or.inl ⟨by rfl, ?_⟩) ?_ ?_
    rotate_left
    ·intro w'
     go_simp
     with_reducible rfl
    rotate_left
    ·simp only [Act.put, List.setIfInBounds_toArray, List.set_cons_zero, List.set_cons_succ, i64_w, i32_w]
     rfl
    refine done_ (done_of HT_.out (by kernel_rfl)) ?_
    have HGW := Lib.hid hHeld
    have hbw := hHeld.below
    have hszw := hbw.size
    have HOB : Hid (∀ W, Below w_1.heap.size w_1 W → W.ownsRow w3.heap.size 55 3 (.slice (some ⟨g2, 0, none⟩) (L.length + 1) c4) (L.length + 1) ((L ++ [y]).flatMap enc1)) := Lib.hid fun W h => own_below HO6 (hbw.trans (h.mono hszw))
    have HBB : Hid (∀ W, Below w_1.heap.size w_1 W → Below w3.heap.size w3 W) := Lib.hid fun W h => HB6.trans ((hbw.trans (h.mono hszw)).mono HB6.size)
    have hX9 : ∀ W, Below w_1.heap.size w_1 W → (W.cell? ⟨g2, L.length * 3 + 2, none⟩ = some (.int .u8 y.f2) ∧ W.frozen? ⟨g2, L.length * 3 + 2, none⟩ = false) ∧ W.cell? ⟨p, 2, none⟩ = some (.int .u8 x.1.f2) := fun W h => ⟨⟨below_cell h _ _ (HX.out _ HGW.out).2.2.1, World.ownsRow.frozenAt (HOB.out W h) _⟩, below_cell h _ _ (HX.out _ HGW.out).2.2.2.2.2⟩
    have HX9 := Lib.hid hX9
    have hXp : ∀ W, Below w_1.heap.size w_1 W → W.cell? ⟨p, 0, none⟩ = some (.int .i64 x.1.f0) ∧ W.cell? ⟨p, 1, none⟩ = some (.int .i64 x.1.f1) ∧ W.cell? ⟨p, 2, none⟩ = some (.int .u8 x.1.f2) := fun W h => ⟨below_cell h _ _ (HX.out _ HGW.out).2.2.2.1, below_cell h _ _ (HX.out _ HGW.out).2.2.2.2.1, below_cell h _ _ (HX.out _ HGW.out).2.2.2.2.2⟩
    have HXP := Lib.hid hXp
    clear hHeld hX9 hXp hbw hszw HO6 HB6
    by_cases hcA : cA y x.1 = 0
    ·rw [if_pos hcA] at HNEXT
     have hcd : (cA y x.1 == 0) = true := by rw [beq_iff_eq]; exact hcA
     clear hcA
     go_wp2_with fail
     have hbD := (Below.refl w_1.heap.size w_1).drew
     refine start_ (n := 12) (S := fun w' => Below w_1.heap.size w_1 w') (ds := [11]) #[false, false, false, false, false, false, false, false, false, false, false, false] (by kernel_rfl) rfl rfl hbD (fun hHeld => ?_)
     refine with_tabW RgJS.tab RgJS.bits (fun HT_ HW_ => ?_)
     generalize w_1.drew = wb at *
     refine pure_ (i := 0) (N := some 33) (v := ?_) (a' := ?_) #[true, false, false, false, false, false, false, false, false, false, false, false] rfl rfl (any_of HT_.out (by kernel_rfl)) (fun _ _ _ h => h) (Or.inl ⟨by rfl, ?_⟩) ?_ ?_
     rotate_left
     ·intro w'
      go_simp
      with_reducible rfl
     rotate_left
     ·simp only [Act.put, List.setIfInBounds_toArray, List.set_cons_zero, List.set_cons_succ, i64_w, i32_w]
      rfl
     refine pure_ (i := 1) (N := some 34) (v := ?_) (a' := ?_) #[true, true, false, false, false, false, false, false, false, false, false, false] rfl rfl (any_of HT_.out (by kernel_rfl)) (fun _ _ _ h => h) (Or.inl ⟨by rfl, ?_⟩) ?_ ?_
     rotate_left
     ·intro w'
      go_simp
      with_reducible rfl
     rotate_left
     ·simp only [Act.put, List.setIfInBounds_toArray, List.set_cons_zero, List.set_cons_succ, i64_w, i32_w]
      rfl
     refine pure_ (i := 2) (N := some 35) (v := ?_) (a' := ?_) #[true, true, true, false, false, false, false, false, false, false, false, false] rfl rfl (any_of HT_.out (by kernel_rfl)) (fun _ _ _ h => h) (Or.inl ⟨by rfl, ?_⟩) ?_ ?_
     rotate_left
     ·intro w'
      go_simp
      with_reducible rfl
     rotate_left
     ·simp only [Act.put, List.setIfInBounds_toArray, List.set_cons_zero, List.set_cons_succ, i64_w, i32_w]
      rfl
     refine pure_ (i := 3) (N := some 36) (v := ?_) (a' := ?_) #[true, true, true, true, false, false, false, false, false, false, false, false] rfl rfl (any_of HT_.out (by kernel_rfl)) (fun _ _ _ h => h) (Or.inl ⟨by rfl, ?_⟩) ?_ ?_
     rotate_left
     ·intro w'
      go_simp
      with_reducible rfl
     rotate_left
     ·simp only [Act.put, List.setIfInBounds_toArray, List.set_cons_zero, List.set_cons_succ, i64_w, i32_w]
      rfl
     refine pure_ (i := 4) (N := some 37) (v := ?_) (a' := ?_) #[true, true, true, true, true, false, false, false, false, false, false, false] rfl rfl (any_of HT_.out (by kernel_rfl)) (fun _ _ _ h => h) (Or.inl ⟨by rfl, ?_⟩) ?_ ?_
     rotate_left
     ·intro w'
      go_simp
      with_reducible rfl
     rotate_left
     ·simp only [Act.put, List.setIfInBounds_toArray, List.set_cons_zero, List.set_cons_succ, i64_w, i32_w]
      rfl
     refine take_ (i := 5) (N := some 38) (v := ?_) (a' := ?_) #[true, true, true, true, true, true, false, false, false, false, false, false] rfl rfl (take_ofW HT_.out HW_.out (by kernel_rfl)) (fun _ _ _ h => h) (Or.inl ⟨by rfl, ?_⟩) hHeld ?_ ?_
     rotate_left
     ·intro w' hW
      obtain ⟨⟨s0, z0⟩, s1⟩ := HX9.out w' hW
      go_simp
      with_reducible rfl
     rotate_left
     ·simp only [Act.put, List.setIfInBounds_toArray, List.set_cons_zero, List.set_cons_succ, i64_w, i32_w]
      rfl
     refine pure_ (i := 6) (N := some 39) (v := ?_) (a' := ?_) #[true, true, true, true, true, true, true, false, false, false, false, false] rfl rfl (any_of HT_.out (by kernel_rfl)) (fun _ _ _ h => h) (Or.inl ⟨by rfl, ?_⟩) ?_ ?_
     rotate_left
     ·intro w'
      go_simp
      with_reducible rfl
     rotate_left
     ·simp only [Act.put, List.setIfInBounds_toArray, List.set_cons_zero, List.set_cons_succ, i64_w, i32_w]
      rfl
     refine take_ (i := 7) (N := some 40) (v := ?_) (a' := ?_) #[true, true, true, true, true, true, true, true, false, false, false, false] rfl rfl (take_ofW HT_.out HW_.out (by kernel_rfl)) (fun _ _ _ h => h) (Or.inl ⟨by rfl, ?_⟩) hHeld ?_ ?_
     rotate_left
     ·intro w' hW
      obtain ⟨⟨s0, z0⟩, s1⟩ := HX9.out w' hW
      go_simp
      with_reducible rfl
     rotate_left
     ·simp only [Act.put, List.setIfInBounds_toArray, List.set_cons_zero, List.set_cons_succ, i64_w, i32_w]
      rfl
     refine pure_ (i := 8) (N := some 41) (v := ?_) (a' := ?_) #[true, true, true, true, true, true, true, true, true, false, false, false] rfl rfl (any_of HT_.out (by kernel_rfl)) (fun _ _ _ h => h) (Or.inl ⟨by rfl, ?_⟩) ?_ ?_
     rotate_left
     ·intro w'
      go_simp
      with_reducible rfl
     rotate_left
     ·simp only [Act.put, List.setIfInBounds_toArray, List.set_cons_zero, List.set_cons_succ, i64_w, i32_w]
      rfl
     refine pure_ (i := 9) (N := some 42) (v := ?_) (a' := ?_) #[true, true, true, true, true, true, true, true, true, true, false, false] rfl rfl (any_of HT_.out (by kernel_rfl)) (fun _ _ _ h => h) (Or.inl ⟨by rfl, ?_⟩) ?_ ?_
     rotate_left
     ·intro w'
      go_simp
      with_reducible rfl
     rotate_left
     ·simp only [Act.put, List.setIfInBounds_toArray, List.set_cons_zero, List.set_cons_succ, i64_w, i32_w]
      rfl
     refine pure_ (i := 10) (N := some 43) (v := ?_) (a' := ?_) #[true, true, true, true, true, true, true, true, true, true, true, false] rfl rfl (any_of HT_.out (by kernel_rfl)) (fun _ _ _ h => h) (Or.inl ⟨by rfl, ?_⟩) ?_ ?_
     rotate_left
     ·intro w'
      go_simp
      with_reducible rfl
     rotate_left
     ·simp only [Act.put, List.setIfInBounds_toArray, List.set_cons_zero, List.set_cons_succ, i64_w, i32_w]
      rfl
     refine last_ (i := 11) (N := none) #[true, true, true, true, true, true, true, true, true, true, true, true] rfl rfl (one_of HT_.out (by kernel_rfl)) (by decide) (fun K hK => ?_)
     obtain ⟨⟨s0_, z0_⟩, s1_⟩ := HX9.out _ hHeld
     refine skip_ (w1 := wb.setCell ⟨g2, L.length * 3 + 2, none⟩ (.int .u8 (Go.bits .or .u8 y.f2 x.1.f2))) (by rfl) rfl (by first | (go_simp; done) | (go_simp; rfl)) ?_
     refine hK.out _ _ ?_
     clear hK K
     refine done_ (done_of HT_.out (by kernel_rfl)) ?_
     have hst := World.ownsRow.stored (HOB.out _ hHeld) (L.length * 3 + 2) (.int .u8 (Go.bits .or .u8 y.f2 x.1.f2))
     rw [flat_set] at hst
     have HST1 := Lib.hid hst.1
     have HBS : Hid (Below w3.heap.size w3 (wb.setCell ⟨g2, L.length * 3 + 2, none⟩ (.int .u8 (Go.bits .or .u8 y.f2 x.1.f2)))) := Lib.hid ((HBB.out _ hHeld).setCell (p := ⟨g2, L.length * 3 + 2, none⟩) HG2.out.1 _)
     clear hst
     go_wp2
     go_roundg (NF - (i + 1))
     case measure => omega
     case rel => exact ⟨i + 1, by go_num, by omega, Nat.le_refl _, (by rw [HNEXT.out, List.length_append]; exact HST1.out), HBS.out⟩
    ·rw [if_neg hcA] at HNEXT
     have hcd : (cA y x.1 == 0) = false := by rw [beq_eq_false_iff_ne]; exact hcA
     clear hcA
     have HO7 : Hid ((w_1.alloc (.cells #[.int .i64 x.1.f0, .int .i64 x.1.f1, .int .u8 x.1.f2] 55)).ownsRow w3.heap.size 55 3 (.slice (some ⟨g2, 0, none⟩) (L.length + 1) c4) (L.length + 1) ((L ++ [y]).flatMap enc1)) := Lib.hid (HOB.out _ (below_alloc (Below.refl _ _) _))
     have HB7 : Hid (Below w3.heap.size w3 (w_1.alloc (.cells #[.int .i64 x.1.f0, .int .i64 x.1.f1, .int .u8 x.1.f2] 55))) := Lib.hid (HBB.out _ (below_alloc (Below.refl _ _) _))
     have HC7 : Hid (Cells (w_1.alloc (.cells #[.int .i64 x.1.f0, .int .i64 x.1.f1, .int .u8 x.1.f2] 55)) (some ⟨w_1.heap.size, 0, none⟩) (enc1 x.1)) := Lib.hid (Cells.new w_1 (enc1 x.1) 55)
     obtain ⟨hk0, hk1, hk2⟩ := HXP.out _ (Below.refl _ _)
     go_wp2_with (at_builtin; refine wpl_appK (w0 := w3) w3.heap.size rfl _ _ 51 55 (.agg zc) 3 24 rfl Try.underlying51 arc_info rfl (by decide) (by decide) (.slice (some ⟨g2, 0, none⟩) (L.length + 1) c4) ((L ++ [y]).flatMap enc1) (enc1 x.1) (some ⟨w_1.heap.size, 0, none⟩) (L.length + 1) 1 1 rfl rfl rfl ?qo ?qc (enc1_one x.1) ?qb ?qs ?ql ?_)
     case qo => exact HO7.out
     case qc => exact HC7.out
     case qb => exact HB7.out
     case qs => exact HB7.out.size
     case ql => exact Nat.le_trans (Nat.mul_le_mul_right 24 HLD.out) hsz
     intro A5 c5 w7 hown hb7 _ _ _
     replace hown := Lib.hid hown
     go_wp2
     go_roundg (NF - (i + 1))
     case measure => omega
     case rel => exact ⟨i + 1, by go_num, by omega, Nat.le_refl _, (by rw [HNEXT.out, HFL.out, List.length_append, List.length_append]; exact hown.out), hb7⟩
  ·have hin : i = NF := by omega
   subst hin
   have hlti : ¬ (i : Int) < (i : Int) := by omega
   go_wp2
   go_ret
   rw [List.take_of_length_le (by rw [HSL.out]; exact Nat.le_refl _)] at HO
   refine ⟨_, rfl, jn S, ⟨S, by rw [HFD.out]; exact HP, HS, rfl⟩, ?_, ?_, ?_⟩
   ·have := jn_len S; rw [HSL.out] at this; omega
   ·exact own_base HO.out H3.out.1.size
   ·exact H3.out.1.trans (HB.out.mono H3.out.1.size)
end Go.Proofs.Ytdchnaghmmhkhaa.Cs.Au
set_option linter.unusedSimpArgs false
namespace Go.Proofs.Ytdchnaghmmhkhaa.Cs.Au
open Go.Shelf Go.RowKit Go.Lib Go.Sort Go.Proofs.Ytdchnaghmmhkhaa.RowAt Go.Proofs.Ytdchnaghmmhkhaa.Stab Go.Proofs.Ytdchnaghmmhkhaa.Stab.Au Go.Proofs.Ytdchnaghmmhkhaa.PCsrGraphs Go.Proofs.YtdchnaghmmhkhaaW.PrintWords
set_option linter.unusedSectionVars false
set_option linter.unusedVariables false
theorem put_mem {out : List Ar} {a b : Ar} (h : b ∈ put out a) : (∃ y ∈ out, b.f0 = y.f0 ∧ b.f1 = y.f1) ∨ (b.f0 = a.f0 ∧ b.f1 = a.f1) := by
 rcases List.eq_nil_or_concat out with rfl | ⟨L, y, rfl⟩
 ·rw [put_nil] at h
  have : b = a := by simpa using h
  exact .inr ⟨by rw [this], by rw [this]⟩
 ·rw [List.concat_eq_append] at *
  rw [put_snoc] at h
  split at h
  ·rcases List.mem_append.1 h with h | h
   ·exact .inl ⟨b, by simp [h], rfl, rfl⟩
   ·have : b = ⟨y.f0, y.f1, Go.bits .or .u8 y.f2 a.f2⟩ := by simpa using h
    exact .inl ⟨y, by simp, by rw [this], by rw [this]⟩
  ·rcases List.mem_append.1 h with h | h
   ·exact .inl ⟨b, h, rfl, rfl⟩
   ·have : b = a := by simpa using h
    exact .inr ⟨by rw [this], by rw [this]⟩
theorem fold_mem (l : List Ar) : ∀ (out : List Ar) (b : Ar), b ∈ l.foldl put out → (∃ y ∈ out, b.f0 = y.f0 ∧ b.f1 = y.f1) ∨ ∃ y ∈ l, b.f0 = y.f0 ∧ b.f1 = y.f1 := by
 induction l with
 | nil => intro out b h; exact .inl ⟨b, h, rfl, rfl⟩
 | cons a l ih =>
  intro out b h
  rcases ih _ _ h with ⟨y, hy, h1, h2⟩ | ⟨y, hy, h1, h2⟩
  ·rcases put_mem hy with ⟨z, hz, h3, h4⟩ | ⟨h3, h4⟩
   ·exact .inl ⟨z, hz, h1.trans h3, h2.trans h4⟩
   ·exact .inr ⟨a, by simp, h1.trans h3, h2.trans h4⟩
  ·exact .inr ⟨y, by simp [hy], h1, h2⟩
theorem Joined.mem {D r : List Ar} (h : Joined D r) {b : Ar} (hb : b ∈ r) : ∃ y ∈ D, b.f0 = y.f0 ∧ b.f1 = y.f1 := by
 obtain ⟨S, hp, _, rfl⟩ := h
 rcases fold_mem _ _ _ hb with ⟨y, hy, _⟩ | ⟨y, hy, h1, h2⟩
 ·simp at hy
 ·obtain ⟨z, hz, rfl⟩ := List.mem_map.1 hy
  have := (List.mem_filter.1 (hp.mem_iff.1 hz)).1
  exact ⟨z.1, List.mem_of_getElem? (List.mem_zipIdx_iff_getElem?.1 this), h1, h2⟩
def cnt (r : List Ar) (v : Nat) : Nat := (r.filter fun a => decide (a.f0 < (v : Int))).length
def c1 (r : List Ar) (i j : Nat) : Nat := ((r.take i).filter fun a => decide (a.f0 + 1 = (j : Int))).length
theorem c1_succ {r : List Ar} {i : Nat} {a : Ar} (h : r[i]? = some a) (j : Nat) : c1 r (i + 1) j = c1 r i j + if a.f0 + 1 = (j : Int) then 1 else 0 := by
 unfold c1
 rw [List.take_add_one, h, List.filter_append, List.length_append]
 congr 1
 by_cases hj : a.f0 + 1 = (j : Int) <;> simp [hj]
theorem c1_le (r : List Ar) (i j : Nat) : c1 r i j ≤ r.length := Nat.le_trans (List.length_filter_le ..) (by rw [List.length_take]; omega)
theorem cnt_le (r : List Ar) (v : Nat) : cnt r v ≤ r.length := List.length_filter_le ..
theorem cnt_zero {r : List Ar} (h : ∀ a ∈ r, 0 ≤ a.f0) : cnt r 0 = 0 := by
 unfold cnt
 rw [List.length_eq_zero_iff, List.filter_eq_nil_iff]
 intro a ha; have := h a ha; simp; omega
theorem cnt_succ (r : List Ar) (v : Nat) : cnt r (v + 1) = cnt r v + c1 r r.length (v + 1) := by
 unfold cnt c1
 rw [List.take_length]
 induction r with
 | nil => rfl
 | cons a r ih =>
  simp only [List.filter_cons]
  by_cases h1 : a.f0 < (v : Int)
  ·rw [if_pos (decide_eq_true (by omega : a.f0 < ((v + 1 : Nat) : Int))), if_pos (decide_eq_true h1), if_neg (by simp; omega)]
   simp only [List.length_cons]; omega
  ·by_cases h2 : a.f0 = (v : Int)
   ·rw [if_pos (decide_eq_true (by omega : a.f0 < ((v + 1 : Nat) : Int))), if_neg (by simp; omega), if_pos (decide_eq_true (by omega : a.f0 + 1 = ((v + 1 : Nat) : Int)))]
    simp only [List.length_cons]; omega
   ·rw [if_neg (by simp; omega), if_neg (by simp; omega), if_neg (by simp; omega)]
    exact ih
def Tb (W : World) (g n : Nat) (f : Nat → Nat) : Prop := ∀ j, j < n → W.cell? ⟨g, j, none⟩ = some (.int .i64 (f j)) ∧ W.frozen? ⟨g, j, none⟩ = false
theorem Tb.set {W : World} {g n k v : Nat} {f : Nat → Nat} (h : Tb W g n f) (hk : k < n) : Tb (W.setCell ⟨g, k, none⟩ (.int .i64 v)) g n (fun j => if j = k then v else f j) := fun j hj => by
 obtain ⟨h1, h2⟩ := h j hj
 rw [World.frozen?_setCell]
 refine ⟨?_, h2⟩
 show _ = some (Value.int .i64 ((if j = k then v else f j : Nat) : Int))
 by_cases e : j = k
 ·subst e
  rw [if_pos rfl, World.cell?_setCell_same' _ _ _ (by rw [h1]; rfl)]
 ·rw [if_neg e, World.cell?_setCell_other _ _ _ _ (fun h => e (by injection h with _ h _; exact h.symm))]
  exact h1
theorem Tb.keep {W W' : World} {g n : Nat} {f : Nat → Nat} (h : Tb W g n f) (hb : Below W.heap.size W W') (hg : g < W.heap.size) : Tb W' g n f := fun j hj => by
 rw [hb.cell (p := ⟨g, j, none⟩) hg, hb.frozen (p := ⟨g, j, none⟩) hg]
 exact h j hj
def Bx (g : Nat) (W W' : World) : Prop := W.heap.size ≤ W'.heap.size ∧ ∀ a : Addr, a.block < W.heap.size → a.block ≠ g → W'.cell? a = W.cell? a
theorem Bx.refl (g : Nat) (W : World) : Bx g W W := ⟨Nat.le_refl _, fun _ _ _ => rfl⟩
theorem Bx.below {g : Nat} {W W1 W2 : World} (h : Bx g W W1) (hb : Below W1.heap.size W1 W2) : Bx g W W2 := ⟨Nat.le_trans h.1 hb.size, fun a ha hg => by rw [hb.cell (Nat.lt_of_lt_of_le ha h.1)]; exact h.2 a ha hg⟩
theorem Bx.set {g k : Nat} {W W1 : World} {v : Value} (h : Bx g W W1) : Bx g W (W1.setCell ⟨g, k, none⟩ v) := ⟨by rw [World.size_setCell]; exact h.1, fun a ha hg => by
 rw [World.cell?_setCell_other _ _ _ _ (fun e => hg (by rw [← e]))]; exact h.2 a ha hg⟩
def Gr (W : World) (p : Value) (n : Nat) (r : List Ar) : Prop :=
 ∃ b ga ca A c, p = .pointer (some ⟨b, 0, none⟩) ∧ W.cell? ⟨b, 0, none⟩ = some (.slice (some ⟨ga, 0, none⟩) (n + 1) ca) ∧ W.cell? ⟨b, 1, none⟩ = some (.slice A r.length c) ∧ n + 1 ≤ ca ∧ r.length ≤ c ∧ Reads W A r ∧ ∀ v, v ≤ n → W.cell? ⟨ga, v, none⟩ = some (.int .i64 (cnt r v))
theorem Gr.below {W W' : World} {p : Value} {n : Nat} {r : List Ar} (h : Gr W p n r) (hb : Below W.heap.size W W') : Gr W' p n r := by
 obtain ⟨b, ga, ca, A, c, h1, h2, h3, h4, h5, h6, h7⟩ := h
 exact ⟨b, ga, ca, A, c, h1, below_cell hb _ _ h2, below_cell hb _ _ h3, h4, h5, h6.below hb, fun v hv => below_cell hb _ _ (h7 v hv)⟩
end Go.Proofs.Ytdchnaghmmhkhaa.Cs.Au
set_option linter.unusedSimpArgs false
namespace Go.Proofs.Ytdchnaghmmhkhaa.Cs.Au
open Go.Shelf Go.RowKit Go.Lib Go.Sort Go.Proofs.Ytdchnaghmmhkhaa.RowAt Go.Proofs.Ytdchnaghmmhkhaa.Stab Go.Proofs.Ytdchnaghmmhkhaa.Stab.Au Go.Proofs.Ytdchnaghmmhkhaa.PCsrGraphs Go.Proofs.YtdchnaghmmhkhaaW.PrintWords Go.Proofs.YtdchnaghmmhkhaaW.PrintLast
set_option linter.unusedSectionVars false
set_option linter.unusedVariables false
theorem int_info : (Try.prog.info? 3).map (fun i => (i.zero, i.size, i.bytes)) = some (some (.int .i64 0), 1, 8) := by kernel_rfl
theorem made_list (n : Nat) (z : Value) : madeCells #[z] n = (List.replicate n z).toArray := by
 unfold madeCells
 apply Array.ext
 ·simp
 ·intro i h1 h2
  simp [Nat.mod_one]
theorem made (i : Int) (n : Nat) (hi : Hid (i = n)) (hn : n ≤ 4294967296) : ∀ W : World, (Instr.makeSlice 46 (.int .i64 i) (.int .i64 i)).run Try.prog W = .ok (.slice (some ⟨W.heap.size, 0, none⟩) n n) (W.alloc (.cells (List.replicate n (Value.int .i64 0)).toArray 3)) := by
 intro W
 rw [hi.out, ← made_list]
 exact run_make_row' 46 3 (.int .i64 0) 8 Try.underlying46 int_info rfl .i64 .i64 n (by omega) (by omega) W
theorem made_tb (W : World) (n : Nat) : Tb (W.alloc (.cells (List.replicate n (Value.int .i64 0)).toArray 3)) W.heap.size n (fun _ => 0) := fun j hj => by
 have b := Blk.new W (List.replicate n (Value.int .i64 0)) 3
 refine ⟨?_, b.free j⟩
 rw [b.cell j, List.getElem?_replicate, if_pos hj]; rfl
theorem rk {k m : Nat} (h : k < m) (hm : m ≤ 1024) : wrap64 ((k : Int) + 1) = (k : Int) + 1 ∧ ((k : Int) + 1).toNat = k + 1 ∧ 0 ≤ (k : Int) + 1 ∧ (k : Int) + 1 < (m : Int) + 1 ∧ (k : Int) < (m : Int) + 1 ∧ k + 1 < m + 1 := by
 unfold wrap64; omega
theorem wnext {i n : Nat} (h : i < n) (hn : n ≤ 6000000000000) : Value.int .i64 (wrap64 ((i : Int) + 1)) = Value.int .i64 ((i + 1 : Nat) : Int) := by
 have : wrap64 ((i : Int) + 1) = ((i + 1 : Nat) : Int) := by unfold wrap64; omega
 rw [this]
theorem rc1 {c n : Nat} (h : c ≤ n) (hn : n ≤ 6000000000000) : wrap64 ((c : Int) + 1) = (c : Int) + 1 := by unfold wrap64; omega
theorem rc2 {c d n : Nat} (h : c ≤ n) (hd : d ≤ n) (hn : n ≤ 6000000000000) : wrap64 ((c : Int) + (d : Int)) = (c : Int) + (d : Int) := by unfold wrap64; omega
def okN (n : Int) (D : List Ar) : Bool := decide (0 ≤ n) && decide (n ≤ 1024) && !D.any (outA n)
def NewOut (w : World) (n : Int) (D : List Ar) (e : Ending) (w' : World) : Prop :=
 Below w.heap.size w w' ∧ ((okN n D = false ∧ e = .returned (.tuple #[.pointer none, .int .i64 2])) ∨ (okN n D = true ∧ ∃ p r, e = .returned (.tuple #[p, .int .i64 0]) ∧ Joined D r ∧ r.length ≤ D.length ∧ Gr w' p n.toNat r))
theorem own_reads {w : World} {base c : Nat} {e : TypeId} {A : Option Addr} {r : List Ar} (h : w.ownsRow base e 3 (.slice A r.length c) r.length (r.flatMap enc1)) : Reads w A r ∧ r.length ≤ c ∧ ∀ g o, A = some ⟨g, o, none⟩ → base ≤ g ∧ g < w.heap.size := by
 refine ⟨fun hr => ?_, ?_, fun g o e => ?_⟩
 ·rcases h.2 with ⟨_, h0⟩ | ⟨g, cap, cur, h0, _⟩
  ·exact absurd (List.eq_nil_of_length_eq_zero h0) hr
  ·injection h0 with h0 _ h1
   subst h0
   refine ⟨g, 0, rfl, fun i x hx => ?_⟩
   have hi := (List.getElem?_eq_some_iff.1 hx).1
   have hc : ∀ d v, (enc1 x)[d]? = some v → w.cell? ⟨g, 0 + i * 3 + d, none⟩ = some v := fun d v hv => by
    have hd := (List.getElem?_eq_some_iff.1 hv).1
    rw [enc1_len] at hd
    rw [Nat.zero_add, World.ownsRow.cellAt h (i * 3 + d) (by omega), flat_get enc1_len r i d hd, hx]; exact hv
   exact ⟨hc 0 _ rfl, hc 1 _ rfl, hc 2 _ rfl⟩
 ·rcases h.2 with ⟨h0, h1⟩ | ⟨g, cap, cur, h0, _, _, h1, _⟩
  ·omega
  ·injection h0 with _ _ h2; omega
 ·subst e
  exact World.ownsRow.lt h g rfl
theorem Tb.next {W : World} {g n i k : Nat} {r : List Ar} {a : Ar} (h : Tb W g n (c1 r i)) (ha : r[i]? = some a) (hk : a.f0 = (k : Int)) (hkn : k + 1 < n) : Tb (W.setCell ⟨g, k + 1, none⟩ (.int .i64 ((c1 r i (k + 1) + 1 : Nat) : Int))) g n (c1 r (i + 1)) := by
 have := h.set (k := k + 1) (v := c1 r i (k + 1) + 1) hkn
 have e : (fun j => if j = k + 1 then c1 r i (k + 1) + 1 else c1 r i j) = c1 r (i + 1) := by
  funext j
  rw [c1_succ ha j]
  by_cases hj : j = k + 1
  ·subst hj; rw [if_pos rfl, if_pos (by rw [hk]; omega)]
  ·rw [if_neg hj, if_neg (by rw [hk]; omega)]; rfl
 rw [e] at this; exact this
def sums (r : List Ar) (v j : Nat) : Nat := if j ≤ v then cnt r j else c1 r r.length j
theorem Tb.add {W : World} {g n v : Nat} {r : List Ar} (h : Tb W g n (sums r v)) (hv : v + 1 < n) : Tb (W.setCell ⟨g, v + 1, none⟩ (.int .i64 ((c1 r r.length (v + 1) + cnt r v : Nat) : Int))) g n (sums r (v + 1)) := by
 have := h.set (k := v + 1) (v := c1 r r.length (v + 1) + cnt r v) hv
 have e : (fun j => if j = v + 1 then c1 r r.length (v + 1) + cnt r v else sums r v j) = sums r (v + 1) := by
  funext j
  unfold sums
  by_cases hj : j = v + 1
  ·subst hj; rw [if_pos rfl, if_pos (Nat.le_refl _), cnt_succ]; omega
  ·rw [if_neg hj]
   by_cases h2 : j ≤ v
   ·rw [if_pos h2, if_pos (by omega)]
   ·rw [if_neg h2, if_neg (by omega)]
 rw [e] at this; exact this
def RgN4.T : Bool × List (List Nat × List Nat) := (true, [([], []), ([0], [0]), ([1, 1], [1]), ([], []), ([3], [3]), ([2, 4], [2, 4]), ([5], [5]), ([6, 4, 0, 1, 2, 3, 4, 5, 6], [6])])
def RgN4.B : List Nat := [0, 1, 3, 0, 8, 31, 63, 127]
theorem RgN4.tab : rtab .any (opsOf Try.f24 4) = RgN4.T := by kernel_rfl
theorem RgN4.bits : waitsOk RgN4.T.2 RgN4.B = true := by kernel_rfl
def RgN8.T : Bool × List (List Nat × List Nat) := (true, [([], []), ([0], [0]), ([1], [1]), ([2], [2]), ([], []), ([4], [4]), ([5], [5]), ([3, 6], [3, 6]), ([7], [7]), ([8], [8]), ([3, 6, 0, 1, 2, 3, 4, 5, 6, 7, 8, 9], [3, 6]), ([10, 9, 0, 1, 2, 3, 4, 5, 6, 7, 8, 9], [9, 10])])
def RgN8.B : List Nat := [0, 1, 3, 7, 0, 16, 48, 127, 255, 511, 1023, 2047]
theorem RgN8.tab : rtab .any (opsOf Try.f24 8) = RgN8.T := by kernel_rfl
theorem RgN8.bits : waitsOk RgN8.T.2 RgN8.B = true := by kernel_rfl
def RgN13.T : Bool × List (List Nat × List Nat) := (true, [([], []), ([0], [0]), ([1], [1]), ([2], [2]), ([], []), ([4], [4]), ([3, 5], [3, 5]), ([6], [6]), ([], []), ([8], [8]), ([9], [9]), ([10], [10]), ([], []), ([11, 12], [11, 12]), ([13], [13]), ([7, 14], [7, 14]), ([3, 5, 0, 1, 2, 3, 4, 5, 6, 7, 8, 9, 10, 11, 12, 13, 14, 15], [3, 5]), ([16, 15, 0, 1, 2, 3, 4, 5, 6, 7, 8, 9, 10, 11, 12, 13, 14, 15], [15, 16])])
def RgN13.B : List Nat := [0, 1, 3, 7, 0, 16, 63, 127, 0, 256, 768, 1792, 0, 7936, 16128, 32767, 65535, 131071]
theorem RgN13.tab : rtab .any (opsOf Try.f24 13) = RgN13.T := by kernel_rfl
theorem RgN13.bits : waitsOk RgN13.T.2 RgN13.B = true := by kernel_rfl
set_option maxHeartbeats 4000000 in
set_option maxRecDepth 1000000 in
theorem new_c (n : Int) (A : Option Addr) (cap : Nat) (D : List Ar) (w : World) (R : Reads w A D) (hsz : D.length * 24 ≤ 140737488355328) :
 Calls Try.prog 24 #[.int .i64 n, .slice A D.length cap] w (NewOut w n D) := by
 have e1 : ∀ args w, (callFunc 36 args).run Try.prog w = .ok (.enter 36 args) w := enters_of Try.func36 (by kernel_rfl) rfl
 have e2 : ∀ args w, (callFunc 38 args).run Try.prog w = .ok (.enter 38 args) w := enters_of Try.func38 (by kernel_rfl) rfl
 have e3 : ∀ args w, (callFunc 37 args).run Try.prog w = .ok (.enter 37 args) w := enters_of Try.func37 (by kernel_rfl) rfl
 have HR := Lib.hid R
 obtain ⟨N, hN⟩ : ∃ N, D.length = N := ⟨_, rfl⟩
 have HN := Lib.hid hN
 have HCC : Hid (∀ (q p : Addr) (W : World), Below w.heap.size w W → q.block < W.heap.size → p.block < W.heap.size → W.cell? p = some (.int .i64 n) → W.cell? q = some (.func (.func 36) #[] #[.pointer (some p)]) →
  Calls Try.prog 37 #[.slice A N cap, .func (.func 38) #[] #[.pointer (some q)]] W fun e w' => e = .returned (.bool (D.any (outA n))) ∧ Below W.heap.size W w') := Lib.hid fun q p W hb hq hp h1 h2 => by
  have := containsFunc_w 38 #[.pointer (some q)] (outA n) A cap D W e2 (fun W2 hb2 x => new2 n x p q W2 (below_cell hb2 _ _ h1) (below_cell hb2 _ _ h2)) (HR.out.below hb) (by omega)
  rw [hN] at this; exact this
 have HF : Hid (∀ w' , Below w.heap.size w w' → okN n D = false → NewOut w n D (.returned (.tuple #[.pointer none, .int .i64 2])) w') := Lib.hid fun w' hb h => ⟨hb, .inl ⟨h, rfl⟩⟩
 rw [hN]
 clear R hN
 by_cases h1 : n < 0
 ·have hk : okN n D = false := by unfold okN; rw [decide_eq_false (by omega)]; rfl
  have HK := Lib.hid hk
  have HB : Hid (Below w.heap.size w ((((w.alloc (.cells #[.int .i64 n] 3)).alloc (.cells #[.func (.func 36) #[] #[.pointer (some ⟨w.heap.size, 0, none⟩)]] 63))))) := Lib.hid (((Below.refl _ w).alloc (Nat.le_refl _) _).alloc (by simp) _)
  clear hk
  go_enter Try.func24, Try.ntmps24
  go_wp2
  refine bodyPost_ret (results_tmp2 (t := 4) (u := 5) rfl _ _ _) rfl ?_
  exact HF.out _ HB.out HK.out
 ·by_cases h2 : n > 1024
  ·have hk : okN n D = false := by unfold okN; rw [decide_eq_false (by omega : ¬ n ≤ 1024), Bool.and_false]; rfl
   have HK := Lib.hid hk
   have HB : Hid (Below w.heap.size w ((((w.alloc (.cells #[.int .i64 n] 3)).alloc (.cells #[.func (.func 36) #[] #[.pointer (some ⟨w.heap.size, 0, none⟩)]] 63))))) := Lib.hid (((Below.refl _ w).alloc (Nat.le_refl _) _).alloc (by simp) _)
   clear hk
   go_enter Try.func24, Try.ntmps24
   go_wp2
   refine bodyPost_ret (results_tmp2 (t := 4) (u := 5) rfl _ _ _) rfl ?_
   exact HF.out _ HB.out HK.out
  ·obtain ⟨m, rfl⟩ : ∃ m : Nat, n = m := ⟨n.toNat, by omega⟩
   have HM : Hid (m ≤ 1024) := Lib.hid (by omega)
   have hB : Below w.heap.size w ((((w.alloc (.cells #[.int .i64 m] 3)).alloc (.cells #[.func (.func 36) #[] #[.pointer (some ⟨w.heap.size, 0, none⟩)]] 63)))) := ((Below.refl _ w).alloc (Nat.le_refl _) _).alloc (by simp) _
   have b1 := (Blk.new w [.int .i64 (m : Int)] 3).alloc (.cells #[.func (.func 36) #[] #[.pointer (some ⟨w.heap.size, 0, none⟩)]] 63)
   have b2 := Blk.new (w.alloc (.cells #[.int .i64 (m : Int)] 3)) [.func (.func 36) #[] #[.pointer (some ⟨w.heap.size, 0, none⟩)]] 63
   rw [World.size_alloc] at b2
   have HC := Lib.hid (HCC.out ⟨w.heap.size + 1, 0, none⟩ ⟨w.heap.size, 0, none⟩ _ hB b2.lt b1.lt ((b1.cell 0).trans rfl) ((b2.cell 0).trans rfl))
   have BN := Lib.hid b1
   have HB := Lib.hid hB
   clear HCC hB b1 b2
   cases hany : D.any (outA m) with
   | true =>
    have hk : okN (m : Int) D = false := by unfold okN; rw [hany]; simp
    have HK := Lib.hid hk
    rw [hany] at HC
    clear hk hany
    go_enter Try.func24, Try.ntmps24
    go_wp2_with (go_at_fn 37; refine HC.out.mono ?_; rintro e w' ⟨rfl, hb⟩; replace hb := Lib.hid hb)
    refine bodyPost_ret (results_tmp2 (t := 4) (u := 5) rfl _ _ _) rfl ?_
    exact HF.out _ (HB.out.trans (hb.out.mono HB.out.size)) HK.out
   | false =>
    have hk : okN (m : Int) D = true := by unfold okN; rw [hany, decide_eq_true (by omega), decide_eq_true (by omega)]; rfl
    have HK := Lib.hid hk
    rw [hany] at HC
    have HIN : Hid (∀ x ∈ D, 0 ≤ x.f0 ∧ x.f0 < m) := Lib.hid fun x hx => by
     have := List.any_eq_false.1 hany x hx
     unfold outA outB at this
     simp only [Bool.or_eq_true, decide_eq_true_eq, not_or] at this
     omega
    clear hk hany
    go_enter Try.func24, Try.ntmps24
    go_wp2_with (go_at_fn 37; refine HC.out.mono ?_; rintro e w4 ⟨rfl, hb⟩; replace hb := Lib.hid hb)
    have HB4 : Hid (Below w.heap.size w w4) := Lib.hid (HB.out.trans (hb.out.mono HB.out.size))
    have HN4 : Hid (w4.cell? ⟨w.heap.size, 0, none⟩ = some (.int .i64 (m : Int))) := Lib.hid (below_cell hb.out _ _ ((BN.out.cell 0).trans rfl))
    have HR4 : Hid (Reads w4 A D) := Lib.hid (HR.out.below HB4.out)
    have HML : Hid (∀ W : World, (Instr.makeSlice 46 (.int .i64 ((m : Int) + 1)) (.int .i64 ((m : Int) + 1))).run Try.prog W = .ok (.slice (some ⟨W.heap.size, 0, none⟩) (m + 1) (m + 1)) (W.alloc (.cells (List.replicate (m + 1) (Value.int .i64 0)).toArray 3))) := Lib.hid (made ((m : Int) + 1) (m + 1) (Lib.hid (by omega)) (by have := HM.out; omega))
    have HJ : Hid (∀ W : World, Below w4.heap.size w4 W → Calls Try.prog 39 #[.slice A N cap] W fun e w' => ∃ v r, e = .returned v ∧ Joined D r ∧ r.length ≤ D.length ∧ w'.ownsRow W.heap.size 55 3 v r.length (r.flatMap enc1) ∧ Below W.heap.size W w') := Lib.hid fun W hb => by
     have := joined_c A cap D W (HR4.out.below hb) hsz
     rw [HN.out] at this
     exact this.mono fun e w' ⟨v, r, h1, h2, h3, h4⟩ => ⟨v, r, h1, h2, by rw [HN.out]; exact h3, h4⟩
    have hN4 : ∀ W, Below w4.heap.size w4 W → W.cell? ⟨w.heap.size, 0, none⟩ = some (.int .i64 (m : Int)) := fun W h => below_cell h _ _ HN4.out
    have HN4' := Lib.hid hN4
    have rm : wrap64 ((m : Int) + 1) = (m : Int) + 1 := by have := HM.out; unfold wrap64; omega
    clear HB HC hb BN hN4
    refine start_ (n := 8) (S := fun w' => Below w4.heap.size w4 w') (ds := []) #[false, false, false, false, false, false, false, false] (by kernel_rfl) rfl rfl (Below.refl w4.heap.size w4).drew (fun hHeld => ?_)
    refine with_tabW RgN4.tab RgN4.bits (fun HT_ HW_ => ?_)
    generalize w4.drew = wd at *
    refine take_ (i := 0) (N := some 23) (v := ?_) (a' := ?_) #[true, false, false, false, false, false, false, false] rfl rfl (take_ofW HT_.out HW_.out (by kernel_rfl)) (fun _ _ _ h => h) (Or.inl ⟨by rfl, ?_⟩) hHeld ?_ ?_
    rotate_left
    ·intro w' hW
     have x0_ := HN4'.out w' hW
     go_simp
     with_reducible rfl
    rotate_left
    ·simp only [Act.put, List.setIfInBounds_toArray, List.set_cons_zero, List.set_cons_succ, i64_w, i32_w]
     rfl
    refine pure_ (i := 1) (N := some 24) (v := ?_) (a' := ?_) #[true, true, false, false, false, false, false, false] rfl rfl (any_of HT_.out (by kernel_rfl)) (fun _ _ _ h => h) (Or.inl ⟨by rfl, ?_⟩) ?_ ?_
    rotate_left
    ·intro w'
     go_simp
     with_reducible rfl
    rotate_left
    ·simp only [Act.put, List.setIfInBounds_toArray, List.set_cons_zero, List.set_cons_succ, i64_w, i32_w]
     rfl
    refine pure_ (i := 3) (N := some 26) (v := ?_) (a' := ?_) #[true, true, false, true, false, false, false, false] rfl rfl (any_of HT_.out (by kernel_rfl)) (fun _ _ _ h => h) (Or.inl ⟨by rfl, ?_⟩) ?_ ?_
    rotate_left
    ·intro w'
     go_simp
     with_reducible rfl
    rotate_left
    ·simp only [Act.put, List.setIfInBounds_toArray, List.set_cons_zero, List.set_cons_succ, i64_w, i32_w]
     rfl
    refine join_ (σ := Nat × Option Addr × Nat × List Ar) 3 #[true, true, true, true, true, false, false, false] (fun s_ => [(25, .slice (some ⟨s_.1, 0, none⟩) (m + 1) (m + 1)), (27, .slice s_.2.1 s_.2.2.2.length s_.2.2.1)]) (fun s_ w' => Below w4.heap.size w4 w' ∧ Tb w' s_.1 (m + 1) (fun _ => 0) ∧ s_.1 < w'.heap.size ∧ w4.heap.size ≤ s_.1 ∧ Joined D s_.2.2.2 ∧ s_.2.2.2.length ≤ D.length ∧ w'.ownsRow w4.heap.size 55 3 (.slice s_.2.1 s_.2.2.2.length s_.2.2.1) s_.2.2.2.length (s_.2.2.2.flatMap enc1) ∧ ∀ g o, s_.2.1 = some ⟨g, o, none⟩ → g ≠ s_.1) ?_ ?_
    rotate_left
    ·intro hCont
     refine two_ (i := 2) (j := 4) (Ni := some 25) (Nj := some 27) #[true, true, true, true, false, false, false, false] #[true, true, false, true, true, false, false, false] rfl rfl rfl rfl (two_of HT_.out (by kernel_rfl)) (by decide) (by decide) (fun K hK => ?_) (fun K hK => ?_)
     ·refine value_ (v := .slice (some ⟨wd.heap.size, 0, none⟩) (m + 1) (m + 1)) (w1 := wd.alloc (.cells (List.replicate (m + 1) (Value.int .i64 0)).toArray 3)) (by rfl) rfl (by first | (go_simp; done) | (go_simp; rfl) | (go_simp; simp only [HML.out]; rfl)) ?_
      have hT := made_tb wd (m + 1)
      have hga : w4.heap.size ≤ wd.heap.size := hHeld.size
      have hs1 : (wd.alloc (.cells (List.replicate (m + 1) (Value.int .i64 0)).toArray 3)).heap.size = wd.heap.size + 1 := World.size_alloc _ _
      have hn_ := below_alloc hHeld (.cells (List.replicate (m + 1) (Value.int .i64 0)).toArray 3)
      refine hK.out _ _ hn_ (fun hHeld => ?_)
      clear hK K hn_
      generalize wd.alloc (.cells (List.replicate (m + 1) (Value.int .i64 0)).toArray 3) = wk at *
      generalize wd.heap.size = ga at *
      refine norm_ (a' := ?_) ?_ ?_
      rotate_left
      ·show Act.put _ (some 25) _ = _
       simp only [Act.put, List.setIfInBounds_toArray, List.set_cons_zero, List.set_cons_succ, i64_w, i32_w]
       rfl
      refine one_ (i := 4) (N := some 27) #[true, true, true, true, true, false, false, false] rfl rfl (one_of HT_.out (by kernel_rfl)) (by decide) (fun K hK => ?_)
      refine goes_ Try.func39 (by kernel_rfl) rfl #[.slice A N cap] (by rfl) rfl rfl (by (try simp only [List.map_toArray, List.map_cons, List.map_nil]); first | done | rfl) ?_
      refine (HJ.out _ hHeld).mono ?_
      rintro e_ wj ⟨v5, r, rfl, hj, hlr, hown, hbj⟩
      refine ⟨_, rfl, ?_⟩
      obtain ⟨A5, c5, rfl⟩ := own_slice hown
      have hn_ := hHeld.trans (hbj.mono hHeld.size)
      have hlt := (own_reads hown).2.2
      replace hown := own_base hown hHeld.size
      have hT := hT.keep hbj (by rw [hs1]; exact Nat.lt_succ_self _)
      have hne : ∀ g o, A5 = some ⟨g, o, none⟩ → g ≠ ga := fun g o e => by have := (hlt g o e).1; rw [hs1] at this; omega
      have hgs : ga < wj.heap.size := by have := hbj.size; omega
      refine hK.out _ _ hn_ (fun hHeld => ?_)
      clear hK K hn_
      refine norm_ (a' := ?_) ?_ ?_
      rotate_left
      ·show Act.put _ (some 27) _ = _
       simp only [Act.put, List.setIfInBounds_toArray, List.set_cons_zero, List.set_cons_succ, i64_w, i32_w]
       rfl
      exact norm_ (by simp only [putAll, Act.put, List.setIfInBounds_toArray, List.set_cons_zero, List.set_cons_succ]) (hCont (ga, A5, c5, r) _ ⟨hHeld, hT, hgs, hga, hj, hlr, hown, hne⟩)
     ·refine goes_ Try.func39 (by kernel_rfl) rfl #[.slice A N cap] (by rfl) rfl rfl (by (try simp only [List.map_toArray, List.map_cons, List.map_nil]); first | done | rfl) ?_
      refine (HJ.out _ hHeld).mono ?_
      rintro e_ wj ⟨v5, r, rfl, hj, hlr, hown, hbj⟩
      refine ⟨_, rfl, ?_⟩
      obtain ⟨A5, c5, rfl⟩ := own_slice hown
      have hn_ := hHeld.trans (hbj.mono hHeld.size)
      have hlt := (own_reads hown).2.2
      replace hown := own_base hown hHeld.size
      refine hK.out _ _ hn_ (fun hHeld => ?_)
      clear hK K hn_
      refine norm_ (a' := ?_) ?_ ?_
      rotate_left
      ·show Act.put _ (some 27) _ = _
       simp only [Act.put, List.setIfInBounds_toArray, List.set_cons_zero, List.set_cons_succ, i64_w, i32_w]
       rfl
      refine one_ (i := 2) (N := some 25) #[true, true, true, true, true, false, false, false] rfl rfl (one_of HT_.out (by kernel_rfl)) (by decide) (fun K hK => ?_)
      refine value_ (v := .slice (some ⟨wj.heap.size, 0, none⟩) (m + 1) (m + 1)) (w1 := wj.alloc (.cells (List.replicate (m + 1) (Value.int .i64 0)).toArray 3)) (by rfl) rfl (by first | (go_simp; done) | (go_simp; rfl) | (go_simp; simp only [HML.out]; rfl)) ?_
      have hT := made_tb wj (m + 1)
      have hga : w4.heap.size ≤ wj.heap.size := hHeld.size
      have hs1 : (wj.alloc (.cells (List.replicate (m + 1) (Value.int .i64 0)).toArray 3)).heap.size = wj.heap.size + 1 := World.size_alloc _ _
      have hn_ := below_alloc hHeld (.cells (List.replicate (m + 1) (Value.int .i64 0)).toArray 3)
      have hne : ∀ g o, A5 = some ⟨g, o, none⟩ → g ≠ wj.heap.size := fun g o e => Nat.ne_of_lt (hlt g o e).2
      have hown := World.ownsRow.alloc hown (.cells (List.replicate (m + 1) (Value.int .i64 0)).toArray 3)
      refine hK.out _ _ hn_ (fun hHeld => ?_)
      clear hK K hn_
      generalize wj.alloc (.cells (List.replicate (m + 1) (Value.int .i64 0)).toArray 3) = wk at *
      generalize wj.heap.size = ga at *
      refine norm_ (a' := ?_) ?_ ?_
      rotate_left
      ·show Act.put _ (some 25) _ = _
       simp only [Act.put, List.setIfInBounds_toArray, List.set_cons_zero, List.set_cons_succ, i64_w, i32_w]
       rfl
      exact norm_ (by simp only [putAll, Act.put, List.setIfInBounds_toArray, List.set_cons_zero, List.set_cons_succ]) (hCont (ga, A5, c5, r) _ ⟨hHeld, hT, (by omega), hga, hj, hlr, hown, hne⟩)
    intro s_ w_ hF_
    obtain ⟨ga, A5, c5, r⟩ := s_
    obtain ⟨hHeld, hT, hgs, hga, hj, hlr, hown, hne⟩ := hF_
    simp only at hHeld hT hgs hga hj hlr hown hne
    refine norm_ (a' := ?_) ?_ ?_
    rotate_left
    ·simp only [putAll, Act.put, List.setIfInBounds_toArray, List.set_cons_zero, List.set_cons_succ]
     rfl
    refine pure_ (i := 5) (N := some 28) (v := ?_) (a' := ?_) #[true, true, true, true, true, true, false, false] rfl rfl (any_of HT_.out (by kernel_rfl)) (fun _ _ _ h => h) (Or.inl ⟨by rfl, ?_⟩) ?_ ?_
    rotate_left
    ·intro w'
     go_simp
     with_reducible rfl
    rotate_left
    ·simp only [Act.put, List.setIfInBounds_toArray, List.set_cons_zero, List.set_cons_succ, i64_w, i32_w]
     rfl
    refine one_ (i := 6) (N := some 29) #[true, true, true, true, true, true, true, false] rfl rfl (one_of HT_.out (by kernel_rfl)) (by decide) (fun K hK => ?_)
    refine value_ (v := .pointer (some ⟨w_.heap.size, 0, none⟩)) (w1 := w_.alloc (.cells #[.slice (some ⟨ga, 0, none⟩) (m + 1) (m + 1), .slice A5 r.length c5] 77)) (by rfl) rfl (by first | (go_simp; done) | (go_simp; rfl)) ?_
    have bg := Blk.new w_ [.slice (some ⟨ga, 0, none⟩) (m + 1) (m + 1), .slice A5 r.length c5] 77
    have hn_ := below_alloc hHeld (.cells #[.slice (some ⟨ga, 0, none⟩) (m + 1) (m + 1), .slice A5 r.length c5] 77)
    have hown := World.ownsRow.alloc hown (.cells #[.slice (some ⟨ga, 0, none⟩) (m + 1) (m + 1), .slice A5 r.length c5] 77)
    have hT := hT.keep ((Below.refl _ w_).alloc (Nat.le_refl _) (.cells #[.slice (some ⟨ga, 0, none⟩) (m + 1) (m + 1), .slice A5 r.length c5] 77)) hgs
    have hbs : (w_.alloc (.cells #[.slice (some ⟨ga, 0, none⟩) (m + 1) (m + 1), .slice A5 r.length c5] 77)).heap.size = w_.heap.size + 1 := World.size_alloc _ _
    refine hK.out _ _ hn_ (fun hHeld => ?_)
    clear hK K hn_
    generalize w_.alloc (.cells #[.slice (some ⟨ga, 0, none⟩) (m + 1) (m + 1), .slice A5 r.length c5] 77) = w5 at *
    generalize w_.heap.size = b at *
    refine norm_ (a' := ?_) ?_ ?_
    rotate_left
    ·show Act.put _ (some 29) _ = _
     simp only [Act.put, List.setIfInBounds_toArray, List.set_cons_zero, List.set_cons_succ, i64_w, i32_w]
     rfl
    refine pure_ (i := 7) (N := some 7) (v := ?_) (a' := ?_) #[true, true, true, true, true, true, true, true] rfl rfl (any_of HT_.out (by kernel_rfl)) (fun _ _ _ h => h) (Or.inl ⟨by rfl, ?_⟩) ?_ ?_
    rotate_left
    ·intro w'
     go_simp
     with_reducible rfl
    rotate_left
    ·simp only [Act.put, List.setIfInBounds_toArray, List.set_cons_zero, List.set_cons_succ, i64_w, i32_w]
     rfl
    refine done_ (done_of HT_.out (by kernel_rfl)) ?_
    obtain ⟨hRd, hrc, hge⟩ := own_reads hown
    have HW45 : Hid (w4.heap.size ≤ w5.heap.size) := Lib.hid hHeld.size
    have HGA4 : Hid (w4.heap.size ≤ ga) := Lib.hid hga
    have HN45 : Hid (w5.cell? ⟨w.heap.size, 0, none⟩ = some (.int .i64 (m : Int))) := Lib.hid (HN4'.out _ hHeld)
    have HLD5 : Hid (r.length ≤ D.length) := Lib.hid hlr
    have HHB : Hid (Below w.heap.size w w5) := Lib.hid (HB4.out.trans (hHeld.mono HB4.out.size))
    have HGA : Hid (w.heap.size ≤ ga) := Lib.hid (Nat.le_trans HB4.out.size hga)
    have hb0 := (bg.cell 0).trans rfl
    have hb1 := (bg.cell 1).trans rfl
    simp only [List.getElem?_cons_zero, List.getElem?_cons_succ] at hb0 hb1
    have HRd := Lib.hid hRd
    have HJD := Lib.hid hj
    obtain ⟨NR, hNR⟩ : ∃ NR, r.length = NR := ⟨_, rfl⟩
    have HNR := Lib.hid hNR
    have HNE := Lib.hid hne
    have HRC := Lib.hid hrc
    have HB5 : Hid (∀ W, Bx ga w5 W → W.cell? ⟨b, 0, none⟩ = some (.slice (some ⟨ga, 0, none⟩) (m + 1) (m + 1)) ∧ W.cell? ⟨b, 1, none⟩ = some (.slice A5 NR c5)) := Lib.hid fun W h => ⟨(h.2 ⟨b, 0, none⟩ (by show b < _; omega) (by show b ≠ ga; omega)).trans hb0, (h.2 ⟨b, 1, none⟩ (by show b < _; omega) (by show b ≠ ga; omega)).trans (by rw [hb1, hNR])⟩
    have HX5 : Hid (∀ W, Bx ga w5 W → Reads W A5 r) := Lib.hid fun W h hr => by
     obtain ⟨bb, o, e, hc⟩ := HRd.out hr
     subst e
     have hne2 := HNE.out _ _ rfl
     refine ⟨bb, o, rfl, fun i x hx => ?_⟩
     obtain ⟨q0, q1, q2⟩ := hc i x hx
     exact ⟨(h.2 _ (cell_lt q0) hne2).trans q0, (h.2 _ (cell_lt q1) hne2).trans q1, (h.2 _ (cell_lt q2) hne2).trans q2⟩
    have HLR : Hid (NR ≤ 6000000000000) := Lib.hid (by omega)
    rw [hNR] at hb1 ⊢
    clear hRd hrc hge hj hNR hne hHeld bg hown hlr HR4 HJ HML HRd
    have HT5 : Hid (Tb w5 ga (m + 1) (c1 r 0)) := Lib.hid hT
    have HGS5 : Hid (ga < w5.heap.size) := Lib.hid (by omega)
    clear hT hbs hgs hga rm
    go_wp2_with fail
    go_loopg [9, 35] NR (fun kx _ v35 wr => ∃ i : Nat, v35 = .int .i64 i ∧ i ≤ NR ∧ NR - i ≤ kx ∧ Aside (Bx ga w5 wr) ∧ Aside (Tb wr ga (m + 1) (c1 r i)) ∧ Aside (Below w.heap.size w wr))
    case atStart => exact ⟨0, rfl, by omega, by omega, Bx.refl _ _, HT5.out, HHB.out⟩
    case round =>
     obtain ⟨i, rfl, hi, hkx, HBX, HTB, HBW⟩ := hrel
     by_cases hlt : i < NR
     ·have hlti : (i : Int) < (NR : Int) := by omega
      have hx : r[i]? = some (r[i]'(by rw [HNR.out]; exact hlt)) := List.getElem?_eq_getElem _
      generalize (r[i]'(by rw [HNR.out]; exact hlt)) = x at hx
      obtain ⟨y, hy, hy0, hy1⟩ := HJD.out.mem (List.mem_of_getElem? hx)
      obtain ⟨hin1, hin2⟩ := HIN.out y hy
      obtain ⟨k, hk⟩ : ∃ k : Nat, x.f0 = (k : Int) := ⟨x.f0.toNat, by omega⟩
      have hkm : k < m := by omega
      obtain ⟨bb, o, rfl, hcell⟩ := HX5.out _ HBX.out (by intro e; rw [e] at hx; cases hx)
      obtain ⟨l0, l1, l2⟩ := hcell i x hx
      rw [hk] at l0
      have HA := Lib.hid hx
      have HK0 := Lib.hid hk
      have rci := c1_le r i (k + 1)
      rw [HNR.out] at rci
      clear hcell hx hk hy hy0 hy1 hin1 hin2
      go_wp2_with fail
      have BK6 := Blk.new wr [.int .i64 (k : Int), .int .i64 x.f1, .int .u8 x.f2] 55
      have HB6 := Lib.hid (HBW.out.alloc (HBW.out.size) (.cells #[.int .i64 (k : Int), .int .i64 x.f1, .int .u8 x.f2] 55))
      have hbl := (Below.refl wr.heap.size wr).alloc (Nat.le_refl _) (.cells #[.int .i64 (k : Int), .int .i64 x.f1, .int .u8 x.f2] 55)
      have HBX6 := Lib.hid (HBX.out.below hbl)
      have hgr : ga < wr.heap.size := Nat.lt_of_lt_of_le HGS5.out HBX.out.1
      have hT := HTB.out.keep hbl hgr
      have HGS6 : Hid (ga < (wr.alloc (.cells #[.int .i64 (k : Int), .int .i64 x.f1, .int .u8 x.f2] 55)).heap.size) := Lib.hid (Nat.lt_of_lt_of_le hgr hbl.size)
      clear HBX HTB HBW l0 l1 l2 hbl hgr
      generalize wr.heap.size = p at *
      generalize wr.alloc (.cells #[.int .i64 (k : Int), .int .i64 x.f1, .int .u8 x.f2] 55) = w6 at *
      have HY : Hid (∀ W, Below w6.heap.size w6 W → W.cell? ⟨b, 0, none⟩ = some (.slice (some ⟨ga, 0, none⟩) (m + 1) (m + 1)) ∧ W.cell? ⟨p, 0, none⟩ = some (.int .i64 (k : Int)) ∧ (W.cell? ⟨ga, k + 1, none⟩ = some (.int .i64 (c1 r i (k + 1) : Int)) ∧ W.frozen? ⟨ga, k + 1, none⟩ = false) ∧ True) := Lib.hid fun W h => ⟨(HB5.out W (HBX6.out.below h)).1, below_cell h _ _ ((BK6.cell 0).trans rfl), hT.keep h HGS6.out (k + 1) (Nat.succ_lt_succ hkm), trivial⟩
      obtain ⟨r1, r2, r3, r4, -, -⟩ := rk hkm HM.out
      have r5 := rc1 rci HLR.out
      clear BK6
      refine start_ (n := 12) (S := fun w' => Below w6.heap.size w6 w') (ds := [11]) #[false, false, false, false, false, false, false, false, false, false, false, false] (by kernel_rfl) rfl rfl (Below.refl w6.heap.size w6).drew (fun hHeld => ?_)
      refine with_tabW RgN8.tab RgN8.bits (fun HT_ HW_ => ?_)
      generalize w6.drew = wx at *
      refine pure_ (i := 0) (N := some 39) (v := ?_) (a' := ?_) #[true, false, false, false, false, false, false, false, false, false, false, false] rfl rfl (any_of HT_.out (by kernel_rfl)) (fun _ _ _ h => h) (Or.inl ⟨by rfl, ?_⟩) ?_ ?_
      rotate_left
      ·intro w'
       go_simp
       with_reducible rfl
      rotate_left
      ·simp only [Act.put, List.setIfInBounds_toArray, List.set_cons_zero, List.set_cons_succ, i64_w, i32_w]
       rfl
      refine pure_ (i := 1) (N := some 40) (v := ?_) (a' := ?_) #[true, true, false, false, false, false, false, false, false, false, false, false] rfl rfl (any_of HT_.out (by kernel_rfl)) (fun _ _ _ h => h) (Or.inl ⟨by rfl, ?_⟩) ?_ ?_
      rotate_left
      ·intro w'
       go_simp
       with_reducible rfl
      rotate_left
      ·simp only [Act.put, List.setIfInBounds_toArray, List.set_cons_zero, List.set_cons_succ, i64_w, i32_w]
       rfl
      refine pure_ (i := 2) (N := some 41) (v := ?_) (a' := ?_) #[true, true, true, false, false, false, false, false, false, false, false, false] rfl rfl (any_of HT_.out (by kernel_rfl)) (fun _ _ _ h => h) (Or.inl ⟨by rfl, ?_⟩) ?_ ?_
      rotate_left
      ·intro w'
       go_simp
       with_reducible rfl
      rotate_left
      ·simp only [Act.put, List.setIfInBounds_toArray, List.set_cons_zero, List.set_cons_succ, i64_w, i32_w]
       rfl
      refine take_ (i := 3) (N := some 42) (v := ?_) (a' := ?_) #[true, true, true, true, false, false, false, false, false, false, false, false] rfl rfl (take_ofW HT_.out HW_.out (by kernel_rfl)) (fun _ _ _ h => h) (Or.inl ⟨by rfl, ?_⟩) hHeld ?_ ?_
      rotate_left
      ·intro w' hW
       obtain ⟨y0_, y1_, ⟨y2_, y3_⟩, y4_⟩ := HY.out w' hW
       go_simp
       with_reducible rfl
      rotate_left
      ·simp only [Act.put, List.setIfInBounds_toArray, List.set_cons_zero, List.set_cons_succ, i64_w, i32_w]
       rfl
      refine pure_ (i := 4) (N := some 43) (v := ?_) (a' := ?_) #[true, true, true, true, true, false, false, false, false, false, false, false] rfl rfl (any_of HT_.out (by kernel_rfl)) (fun _ _ _ h => h) (Or.inl ⟨by rfl, ?_⟩) ?_ ?_
      rotate_left
      ·intro w'
       go_simp
       with_reducible rfl
      rotate_left
      ·simp only [Act.put, List.setIfInBounds_toArray, List.set_cons_zero, List.set_cons_succ, i64_w, i32_w]
       rfl
      refine take_ (i := 5) (N := some 44) (v := ?_) (a' := ?_) #[true, true, true, true, true, true, false, false, false, false, false, false] rfl rfl (take_ofW HT_.out HW_.out (by kernel_rfl)) (fun _ _ _ h => h) (Or.inl ⟨by rfl, ?_⟩) hHeld ?_ ?_
      rotate_left
      ·intro w' hW
       obtain ⟨y0_, y1_, ⟨y2_, y3_⟩, y4_⟩ := HY.out w' hW
       go_simp
       with_reducible rfl
      rotate_left
      ·simp only [Act.put, List.setIfInBounds_toArray, List.set_cons_zero, List.set_cons_succ, i64_w, i32_w]
       rfl
      refine pure_ (i := 6) (N := some 45) (v := ?_) (a' := ?_) #[true, true, true, true, true, true, true, false, false, false, false, false] rfl rfl (any_of HT_.out (by kernel_rfl)) (fun _ _ _ h => h) (Or.inl ⟨by rfl, ?_⟩) ?_ ?_
      rotate_left
      ·intro w'
       go_simp
       with_reducible rfl
      rotate_left
      ·simp only [Act.put, List.setIfInBounds_toArray, List.set_cons_zero, List.set_cons_succ, i64_w, i32_w]
       rfl
      refine pure_ (i := 7) (N := some 46) (v := ?_) (a' := ?_) #[true, true, true, true, true, true, true, true, false, false, false, false] rfl rfl (any_of HT_.out (by kernel_rfl)) (fun _ _ _ h => h) (Or.inl ⟨by rfl, ?_⟩) ?_ ?_
      rotate_left
      ·intro w'
       go_simp
       with_reducible rfl
      rotate_left
      ·simp only [Act.put, List.setIfInBounds_toArray, List.set_cons_zero, List.set_cons_succ, i64_w, i32_w]
       rfl
      refine take_ (i := 8) (N := some 47) (v := ?_) (a' := ?_) #[true, true, true, true, true, true, true, true, true, false, false, false] rfl rfl (take_ofW HT_.out HW_.out (by kernel_rfl)) (fun _ _ _ h => h) (Or.inl ⟨by rfl, ?_⟩) hHeld ?_ ?_
      rotate_left
      ·intro w' hW
       obtain ⟨y0_, y1_, ⟨y2_, y3_⟩, y4_⟩ := HY.out w' hW
       go_simp
       with_reducible rfl
      rotate_left
      ·simp only [Act.put, List.setIfInBounds_toArray, List.set_cons_zero, List.set_cons_succ, i64_w, i32_w]
       rfl
      refine pure_ (i := 9) (N := some 48) (v := ?_) (a' := ?_) #[true, true, true, true, true, true, true, true, true, true, false, false] rfl rfl (any_of HT_.out (by kernel_rfl)) (fun _ _ _ h => h) (Or.inl ⟨by rfl, ?_⟩) ?_ ?_
      rotate_left
      ·intro w'
       go_simp
       with_reducible rfl
      rotate_left
      ·simp only [Act.put, List.setIfInBounds_toArray, List.set_cons_zero, List.set_cons_succ, i64_w, i32_w]
       rfl
      refine pure_ (i := 10) (N := some 49) (v := ?_) (a' := ?_) #[true, true, true, true, true, true, true, true, true, true, true, false] rfl rfl (any_of HT_.out (by kernel_rfl)) (fun _ _ _ h => h) (Or.inl ⟨by rfl, ?_⟩) ?_ ?_
      rotate_left
      ·intro w'
       go_simp
       with_reducible rfl
      rotate_left
      ·simp only [Act.put, List.setIfInBounds_toArray, List.set_cons_zero, List.set_cons_succ, i64_w, i32_w]
       rfl
      refine last_ (i := 11) (N := none) #[true, true, true, true, true, true, true, true, true, true, true, true] rfl rfl (one_of HT_.out (by kernel_rfl)) (by decide) (fun K hK => ?_)
      obtain ⟨y0_, y1_, ⟨y2_, y3_⟩, y4_⟩ := HY.out _ hHeld
      refine skip_ (w1 := wx.setCell ⟨ga, k + 1, none⟩ (.int .i64 ((c1 r i (k + 1) : Int) + 1))) (by rfl) rfl (by first | (go_simp; done) | (go_simp; rfl)) ?_
      refine hK.out _ _ ?_
      clear hK K
      refine done_ (done_of HT_.out (by kernel_rfl)) ?_
      have hst := Tb.next (hT.keep hHeld HGS6.out) HA.out HK0.out (Nat.succ_lt_succ hkm)
      replace hst := Lib.hid hst
      have hBX := Lib.hid (Bx.set (k := k + 1) (v := .int .i64 ((c1 r i (k + 1) : Int) + 1)) (HBX6.out.below hHeld))
      have hBW := Lib.hid ((HB6.out.trans (hHeld.mono HB6.out.size)).setCell (p := ⟨ga, k + 1, none⟩) HGA.out (.int .i64 ((c1 r i (k + 1) : Int) + 1)))
      clear hHeld hT r1 r2 r3 r4 r5 rci
      go_wp2
      go_roundg (NR - (i + 1))
      case measure => exact Nat.lt_of_lt_of_le (Nat.sub_lt_sub_left hlt (Nat.lt_succ_self i)) hkx
      case rel => exact ⟨i + 1, wnext hlt HLR.out, hlt, Nat.le_refl _, hBX.out, hst.out, hBW.out⟩
     ·have hin : NR = i := by omega
      subst hin
      have hlti : ¬ (NR : Int) < (NR : Int) := by omega
      have hn4 := (HBX.out.below (Below.refl _ _)).2
      have hcn : wr.cell? ⟨w.heap.size, 0, none⟩ = some (.int .i64 (m : Int)) := by
       rw [HBX.out.2 ⟨w.heap.size, 0, none⟩ (Nat.lt_of_lt_of_le (cell_lt HN4.out) HW45.out) (by show w.heap.size ≠ ga; exact Nat.ne_of_lt (Nat.lt_of_lt_of_le (cell_lt HN4.out) HGA4.out))]
       exact HN45.out
      clear hn4
      go_wp2_with fail
      have HT2 : Hid (Tb wr ga (m + 1) (sums r 0)) := Lib.hid (fun j hj => by
       have := HTB.out j hj
       have e : sums r 0 j = c1 r NR j := by
        unfold sums
        by_cases h0 : j ≤ 0
        ·have : j = 0 := by omega
         subst this
         rw [if_pos (Nat.le_refl _), cnt_zero (fun a ha => by obtain ⟨y, hy, e1, _⟩ := HJD.out.mem ha; rw [e1]; exact (HIN.out y hy).1)]
         unfold c1
         symm
         rw [List.length_eq_zero_iff, List.filter_eq_nil_iff]
         intro a ha
         obtain ⟨y, hy, e1, _⟩ := HJD.out.mem (List.mem_of_mem_take ha)
         have := (HIN.out y hy).1
         simp; omega
        ·rw [if_neg h0, HNR.out]
       rw [e]; exact this)
      have HBX1 := Lib.hid HBX.out
      have HBW1 := Lib.hid HBW.out
      clear HBX HTB HBW hcn
      go_loopg [10, 52] m (fun kx _ v52 wr => ∃ v : Nat, v52 = .int .i64 v ∧ v ≤ m ∧ m - v ≤ kx ∧ Aside (Bx ga w5 wr) ∧ Aside (Tb wr ga (m + 1) (sums r v)) ∧ Aside (Below w.heap.size w wr))
      case atStart => exact ⟨0, rfl, by omega, by omega, HBX1.out, HT2.out, HBW1.out⟩
      case round =>
       obtain ⟨v, rfl, hv, hkv, HBX, HTB, HBW⟩ := hrel
       by_cases hlv : v < m
       ·have hlvi : (v : Int) < (m : Int) := by omega
        go_wp2_with fail
        have HB6 := Lib.hid HBW.out
        have HBX6 := Lib.hid HBX.out
        have hT := HTB.out
        have HGS6 : Hid (ga < wr.heap.size) := Lib.hid (Nat.lt_of_lt_of_le HGS5.out HBX.out.1)
        clear HBX HTB HBW
        generalize wr = w6 at *
        have HY : Hid (∀ W, Below w6.heap.size w6 W → W.cell? ⟨b, 0, none⟩ = some (.slice (some ⟨ga, 0, none⟩) (m + 1) (m + 1)) ∧ W.cell? ⟨ga, v, none⟩ = some (.int .i64 (cnt r v : Int)) ∧ (W.cell? ⟨ga, v + 1, none⟩ = some (.int .i64 (c1 r NR (v + 1) : Int)) ∧ W.frozen? ⟨ga, v + 1, none⟩ = false) ∧ True) := Lib.hid fun W h => by
         have q1 := hT.keep h HGS6.out v (by omega)
         have q2 := hT.keep h HGS6.out (v + 1) (by omega)
         unfold sums at q1 q2
         rw [if_pos (Nat.le_refl _)] at q1
         rw [if_neg (by omega), HNR.out] at q2
         exact ⟨(HB5.out W (HBX6.out.below h)).1, q1.1, q2, trivial⟩
        have rcA := c1_le r NR (v + 1)
        have rcB := cnt_le r v
        rw [HNR.out] at rcA rcB
        obtain ⟨r1, r2, r3, r4, r6, -⟩ := rk hlv HM.out
        have r5 := Cs.Au.rc2 rcA rcB HLR.out
        refine start_ (n := 18) (S := fun w' => Below w6.heap.size w6 w') (ds := [17]) #[false, false, false, false, false, false, false, false, false, false, false, false, false, false, false, false, false, false] (by kernel_rfl) rfl rfl (Below.refl w6.heap.size w6).drew (fun hHeld => ?_)
        refine with_tabW RgN13.tab RgN13.bits (fun HT_ HW_ => ?_)
        generalize w6.drew = wx at *
        refine pure_ (i := 0) (N := some 55) (v := ?_) (a' := ?_) #[true, false, false, false, false, false, false, false, false, false, false, false, false, false, false, false, false, false] rfl rfl (any_of HT_.out (by kernel_rfl)) (fun _ _ _ h => h) (Or.inl ⟨by rfl, ?_⟩) ?_ ?_
        rotate_left
        ·intro w'
         go_simp
         with_reducible rfl
        rotate_left
        ·simp only [Act.put, List.setIfInBounds_toArray, List.set_cons_zero, List.set_cons_succ, i64_w, i32_w]
         rfl
        refine pure_ (i := 1) (N := some 56) (v := ?_) (a' := ?_) #[true, true, false, false, false, false, false, false, false, false, false, false, false, false, false, false, false, false] rfl rfl (any_of HT_.out (by kernel_rfl)) (fun _ _ _ h => h) (Or.inl ⟨by rfl, ?_⟩) ?_ ?_
        rotate_left
        ·intro w'
         go_simp
         with_reducible rfl
        rotate_left
        ·simp only [Act.put, List.setIfInBounds_toArray, List.set_cons_zero, List.set_cons_succ, i64_w, i32_w]
         rfl
        refine pure_ (i := 2) (N := some 57) (v := ?_) (a' := ?_) #[true, true, true, false, false, false, false, false, false, false, false, false, false, false, false, false, false, false] rfl rfl (any_of HT_.out (by kernel_rfl)) (fun _ _ _ h => h) (Or.inl ⟨by rfl, ?_⟩) ?_ ?_
        rotate_left
        ·intro w'
         go_simp
         with_reducible rfl
        rotate_left
        ·simp only [Act.put, List.setIfInBounds_toArray, List.set_cons_zero, List.set_cons_succ, i64_w, i32_w]
         rfl
        refine take_ (i := 3) (N := some 58) (v := ?_) (a' := ?_) #[true, true, true, true, false, false, false, false, false, false, false, false, false, false, false, false, false, false] rfl rfl (take_ofW HT_.out HW_.out (by kernel_rfl)) (fun _ _ _ h => h) (Or.inl ⟨by rfl, ?_⟩) hHeld ?_ ?_
        rotate_left
        ·intro w' hW
         obtain ⟨y0_, y1_, ⟨y2_, y3_⟩, y4_⟩ := HY.out w' hW
         go_simp
         with_reducible rfl
        rotate_left
        ·simp only [Act.put, List.setIfInBounds_toArray, List.set_cons_zero, List.set_cons_succ, i64_w, i32_w]
         rfl
        refine pure_ (i := 4) (N := some 59) (v := ?_) (a' := ?_) #[true, true, true, true, true, false, false, false, false, false, false, false, false, false, false, false, false, false] rfl rfl (any_of HT_.out (by kernel_rfl)) (fun _ _ _ h => h) (Or.inl ⟨by rfl, ?_⟩) ?_ ?_
        rotate_left
        ·intro w'
         go_simp
         with_reducible rfl
        rotate_left
        ·simp only [Act.put, List.setIfInBounds_toArray, List.set_cons_zero, List.set_cons_succ, i64_w, i32_w]
         rfl
        refine pure_ (i := 5) (N := some 60) (v := ?_) (a' := ?_) #[true, true, true, true, true, true, false, false, false, false, false, false, false, false, false, false, false, false] rfl rfl (any_of HT_.out (by kernel_rfl)) (fun _ _ _ h => h) (Or.inl ⟨by rfl, ?_⟩) ?_ ?_
        rotate_left
        ·intro w'
         go_simp
         with_reducible rfl
        rotate_left
        ·simp only [Act.put, List.setIfInBounds_toArray, List.set_cons_zero, List.set_cons_succ, i64_w, i32_w]
         rfl
        refine pure_ (i := 6) (N := some 61) (v := ?_) (a' := ?_) #[true, true, true, true, true, true, true, false, false, false, false, false, false, false, false, false, false, false] rfl rfl (any_of HT_.out (by kernel_rfl)) (fun _ _ _ h => h) (Or.inl ⟨by rfl, ?_⟩) ?_ ?_
        rotate_left
        ·intro w'
         go_simp
         with_reducible rfl
        rotate_left
        ·simp only [Act.put, List.setIfInBounds_toArray, List.set_cons_zero, List.set_cons_succ, i64_w, i32_w]
         rfl
        refine take_ (i := 7) (N := some 62) (v := ?_) (a' := ?_) #[true, true, true, true, true, true, true, true, false, false, false, false, false, false, false, false, false, false] rfl rfl (take_ofW HT_.out HW_.out (by kernel_rfl)) (fun _ _ _ h => h) (Or.inl ⟨by rfl, ?_⟩) hHeld ?_ ?_
        rotate_left
        ·intro w' hW
         obtain ⟨y0_, y1_, ⟨y2_, y3_⟩, y4_⟩ := HY.out w' hW
         go_simp
         with_reducible rfl
        rotate_left
        ·simp only [Act.put, List.setIfInBounds_toArray, List.set_cons_zero, List.set_cons_succ, i64_w, i32_w]
         rfl
        refine pure_ (i := 8) (N := some 63) (v := ?_) (a' := ?_) #[true, true, true, true, true, true, true, true, true, false, false, false, false, false, false, false, false, false] rfl rfl (any_of HT_.out (by kernel_rfl)) (fun _ _ _ h => h) (Or.inl ⟨by rfl, ?_⟩) ?_ ?_
        rotate_left
        ·intro w'
         go_simp
         with_reducible rfl
        rotate_left
        ·simp only [Act.put, List.setIfInBounds_toArray, List.set_cons_zero, List.set_cons_succ, i64_w, i32_w]
         rfl
        refine pure_ (i := 9) (N := some 64) (v := ?_) (a' := ?_) #[true, true, true, true, true, true, true, true, true, true, false, false, false, false, false, false, false, false] rfl rfl (any_of HT_.out (by kernel_rfl)) (fun _ _ _ h => h) (Or.inl ⟨by rfl, ?_⟩) ?_ ?_
        rotate_left
        ·intro w'
         go_simp
         with_reducible rfl
        rotate_left
        ·simp only [Act.put, List.setIfInBounds_toArray, List.set_cons_zero, List.set_cons_succ, i64_w, i32_w]
         rfl
        refine pure_ (i := 10) (N := some 65) (v := ?_) (a' := ?_) #[true, true, true, true, true, true, true, true, true, true, true, false, false, false, false, false, false, false] rfl rfl (any_of HT_.out (by kernel_rfl)) (fun _ _ _ h => h) (Or.inl ⟨by rfl, ?_⟩) ?_ ?_
        rotate_left
        ·intro w'
         go_simp
         with_reducible rfl
        rotate_left
        ·simp only [Act.put, List.setIfInBounds_toArray, List.set_cons_zero, List.set_cons_succ, i64_w, i32_w]
         rfl
        refine take_ (i := 11) (N := some 66) (v := ?_) (a' := ?_) #[true, true, true, true, true, true, true, true, true, true, true, true, false, false, false, false, false, false] rfl rfl (take_ofW HT_.out HW_.out (by kernel_rfl)) (fun _ _ _ h => h) (Or.inl ⟨by rfl, ?_⟩) hHeld ?_ ?_
        rotate_left
        ·intro w' hW
         obtain ⟨y0_, y1_, ⟨y2_, y3_⟩, y4_⟩ := HY.out w' hW
         go_simp
         with_reducible rfl
        rotate_left
        ·simp only [Act.put, List.setIfInBounds_toArray, List.set_cons_zero, List.set_cons_succ, i64_w, i32_w]
         rfl
        refine pure_ (i := 12) (N := some 67) (v := ?_) (a' := ?_) #[true, true, true, true, true, true, true, true, true, true, true, true, true, false, false, false, false, false] rfl rfl (any_of HT_.out (by kernel_rfl)) (fun _ _ _ h => h) (Or.inl ⟨by rfl, ?_⟩) ?_ ?_
        rotate_left
        ·intro w'
         go_simp
         with_reducible rfl
        rotate_left
        ·simp only [Act.put, List.setIfInBounds_toArray, List.set_cons_zero, List.set_cons_succ, i64_w, i32_w]
         rfl
        refine pure_ (i := 13) (N := some 68) (v := ?_) (a' := ?_) #[true, true, true, true, true, true, true, true, true, true, true, true, true, true, false, false, false, false] rfl rfl (any_of HT_.out (by kernel_rfl)) (fun _ _ _ h => h) (Or.inl ⟨by rfl, ?_⟩) ?_ ?_
        rotate_left
        ·intro w'
         go_simp
         with_reducible rfl
        rotate_left
        ·simp only [Act.put, List.setIfInBounds_toArray, List.set_cons_zero, List.set_cons_succ, i64_w, i32_w]
         rfl
        refine take_ (i := 14) (N := some 69) (v := ?_) (a' := ?_) #[true, true, true, true, true, true, true, true, true, true, true, true, true, true, true, false, false, false] rfl rfl (take_ofW HT_.out HW_.out (by kernel_rfl)) (fun _ _ _ h => h) (Or.inl ⟨by rfl, ?_⟩) hHeld ?_ ?_
        rotate_left
        ·intro w' hW
         obtain ⟨y0_, y1_, ⟨y2_, y3_⟩, y4_⟩ := HY.out w' hW
         go_simp
         with_reducible rfl
        rotate_left
        ·simp only [Act.put, List.setIfInBounds_toArray, List.set_cons_zero, List.set_cons_succ, i64_w, i32_w]
         rfl
        refine pure_ (i := 15) (N := some 70) (v := ?_) (a' := ?_) #[true, true, true, true, true, true, true, true, true, true, true, true, true, true, true, true, false, false] rfl rfl (any_of HT_.out (by kernel_rfl)) (fun _ _ _ h => h) (Or.inl ⟨by rfl, ?_⟩) ?_ ?_
        rotate_left
        ·intro w'
         go_simp
         with_reducible rfl
        rotate_left
        ·simp only [Act.put, List.setIfInBounds_toArray, List.set_cons_zero, List.set_cons_succ, i64_w, i32_w]
         rfl
        refine pure_ (i := 16) (N := some 71) (v := ?_) (a' := ?_) #[true, true, true, true, true, true, true, true, true, true, true, true, true, true, true, true, true, false] rfl rfl (any_of HT_.out (by kernel_rfl)) (fun _ _ _ h => h) (Or.inl ⟨by rfl, ?_⟩) ?_ ?_
        rotate_left
        ·intro w'
         go_simp
         with_reducible rfl
        rotate_left
        ·simp only [Act.put, List.setIfInBounds_toArray, List.set_cons_zero, List.set_cons_succ, i64_w, i32_w]
         rfl
        refine last_ (i := 17) (N := none) #[true, true, true, true, true, true, true, true, true, true, true, true, true, true, true, true, true, true] rfl rfl (one_of HT_.out (by kernel_rfl)) (by decide) (fun K hK => ?_)
        obtain ⟨y0_, y1_, ⟨y2_, y3_⟩, y4_⟩ := HY.out _ hHeld
        refine skip_ (w1 := wx.setCell ⟨ga, v + 1, none⟩ (.int .i64 ((c1 r NR (v + 1) : Int) + (cnt r v : Int)))) (by rfl) rfl (by first | (go_simp; done) | (go_simp; rfl)) ?_
        refine hK.out _ _ ?_
        clear hK K
        refine done_ (done_of HT_.out (by kernel_rfl)) ?_
        have hst := Tb.add (hT.keep hHeld HGS6.out) (Nat.succ_lt_succ hlv)
        replace hst := Lib.hid hst
        have hBX := Lib.hid (Bx.set (k := v + 1) (v := .int .i64 ((c1 r NR (v + 1) : Int) + (cnt r v : Int))) (HBX6.out.below hHeld))
        have hBW := Lib.hid ((HB6.out.trans (hHeld.mono HB6.out.size)).setCell (p := ⟨ga, v + 1, none⟩) HGA.out (.int .i64 ((c1 r NR (v + 1) : Int) + (cnt r v : Int))))
        clear hHeld hT r1 r2 r3 r4 r5 r6 rcA rcB
        go_wp2
        go_roundg (m - (v + 1))
        case measure => exact Nat.lt_of_lt_of_le (Nat.sub_lt_sub_left hlv (Nat.lt_succ_self v)) hkv
        case rel => exact ⟨v + 1, rfl, hlv, Nat.le_refl _, hBX.out, (by have := hst.out; rw [HNR.out] at this; exact this), hBW.out⟩
       ·have hvm : v = m := by omega
        subst hvm
        have hlvi : ¬ (v : Int) < (v : Int) := by omega
        go_wp2
        refine bodyPost_ret (results_tmp2 (t := 4) (u := 5) rfl _ _ _) rfl ?_
        refine ⟨HBW.out, .inr ⟨HK.out, _, r, rfl, HJD.out, HLD5.out, b, ga, v + 1, A5, c5, rfl, (HB5.out _ HBX.out).1, ?_, Nat.le_refl _, HRC.out, HX5.out _ HBX.out, fun j hj => ?_⟩⟩
        ·rw [(HB5.out _ HBX.out).2, HNR.out]
        ·have := (HTB.out j (by have h_ : (v : Int).toNat = v := (by omega); omega)).1
         unfold sums at this
         rw [if_pos (by have h_ : (v : Int).toNat = v := (by omega); omega)] at this
         exact this
end Go.Proofs.Ytdchnaghmmhkhaa.Cs.Au
