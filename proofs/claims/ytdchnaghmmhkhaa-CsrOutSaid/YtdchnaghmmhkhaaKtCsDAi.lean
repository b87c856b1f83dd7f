/- csr at Arc[int]: joined, walked. -/
import Derived.Test.YtdchnaghmmhkhaaKtCsCAi
set_option linter.unusedSimpArgs false
namespace Go.Proofs.Ytdchnaghmmhkhaa.Cs.Ai
open Go.Shelf Go.RowKit Go.Lib Go.Sort Go.Proofs.Ytdchnaghmmhkhaa.RowAt Go.Proofs.Ytdchnaghmmhkhaa.Stab Go.Proofs.Ytdchnaghmmhkhaa.Stab.Ai Go.Proofs.Ytdchnaghmmhkhaa.PCsrGraphs Go.Proofs.YtdchnaghmmhkhaaW.PrintWords Go.Proofs.YtdchnaghmmhkhaaW.PrintLast
set_option linter.unusedSectionVars false
set_option linter.unusedVariables false

/-- A row of one's own, or nothing. -/
def PP (w : World) (D : List (Ar × Nat)) (A : Option Addr) (c : Nat) (w1 : World) : Prop :=
  Below w.heap.size w w1 ∧ ((A = none ∧ D = [] ∧ c = 0) ∨ ∃ g, A = some ⟨g, 0, none⟩ ∧ Row enc 3 w1 g 0 D ∧ w.heap.size ≤ g ∧ g < w1.heap.size ∧ D.length ≤ c)
theorem PP.reads {w w1 : World} {S : List (Ar × Nat)} {A : Option Addr} {c : Nat} (h : PP w S A c w1) : Reads w1 A (S.map Prod.fst) := fun hS => by
  rcases h.2 with ⟨_, rfl, _⟩ | ⟨g, rfl, hR, _⟩
  · exact absurd rfl hS
  · exact Reads.row (D := S.map Prod.fst) (fun i x hx c v hv => by
      rw [List.getElem?_map] at hx
      obtain ⟨y, hy, rfl⟩ := Option.map_eq_some_iff.1 hx
      exact hR i y hy c v hv) hS

theorem swl_row {w2 w3 : World} {g : Nat} {D D' : List (Ar × Nat)} {B : Nat} (hB : B ≤ g) (hB2 : B ≤ w2.heap.size) (R : RowK enc 3 w2 g 0 D.toArray) (h : SWL enc 3 w2 g 0 D' w3) (hl : D'.length = D.length) : Row enc 3 w3 g 0 D' ∧ g < w3.heap.size ∧ Below B w2 w3 := by
  have h' : SWK enc 3 w2 g 0 D'.toArray w3 := h
  refine ⟨Row.of (h'.holds R.hblk R.hH (by simpa using hl)) enc_len, Nat.lt_of_lt_of_le R.hblk h'.le, ?_⟩
  obtain ⟨m, os, rfl⟩ := h
  have h1 : Below B w2 (putRowK enc 3 (Sort.ahead w2 m) g 0 D'.toArray) := Lib.below_putRow (enc := id) (Below.refl B w2) hB
  unfold sortWorldK
  exact h1.trans ⟨rfl, rfl, rfl, by simp [grow], fun k hk => by
    have : k < (putRowK enc 3 (Sort.ahead w2 m) g 0 D'.toArray).heap.size := by have := h1.size; omega
    simp [grow, Array.getElem?_append, this]⟩
theorem cmpLays (blk off size : Nat) (w : World) : CmpLays Try.prog 45 #[] enc 3 cf blk off size w := by
  intro m os dk _ x y
  rw [Array.append_empty]
  exact stands _ x y

theorem clone_c (A : Option Addr) (cap : Nat) (D : List Ar) (w : World) (R : Reads w A D) (hsz : D.length * 24 ≤ 140737488355328) :
    Calls Try.prog 30 #[.slice A D.length cap] w fun e w' => ∃ A' c', e = .returned (.slice A' D.length c') ∧ PP w D.zipIdx A' c' w' := by
  cases A with
  | none =>
    have hD : D = [] := by
      cases D with
      | nil => rfl
      | cons x l => obtain ⟨b, o, e, _⟩ := R (by simp); cases e
    subst hD
    exact (clone_nil _ _ w).mono fun e w' ⟨he, hw⟩ => ⟨none, 0, he, by subst hw; exact Below.refl _ _, .inl ⟨rfl, rfl, rfl⟩⟩
  | some ad =>
    obtain ⟨i0, U⟩ := lu
    refine (clone_any lt U Try.func30 ad D.length cap (D.flatMap enc1) w (flat1_len D) (by unfold maxLen; omega) hsz (fun j u hu => ?_) (flat_one enc1_one)).mono fun e w1 ⟨v, he, hown, hne, hb⟩ => ?_
    · obtain ⟨i, c, x, rfl, hx, hc⟩ := flat_at enc1_len D hu
      obtain ⟨b, o, e, h3⟩ := R (by intro e; subst e; cases hx)
      cases e
      have := h3 i x hx
      rw [Addr.add_lit]
      match c, hc with
      | 0, hc => cases hc; exact this.1
      | 1, hc => cases hc; rw [← Nat.add_assoc]; exact this.2.1
      | 2, hc => cases hc; rw [← Nat.add_assoc]; exact this.2.2
    · obtain ⟨g, c, rfl, hg1, hg2, hc, hR⟩ := Row.owns enc1_len hown hne
      refine ⟨some ⟨g, 0, none⟩, c, he, hb, .inr ⟨g, rfl, fun i x hx j u hu => ?_, hg1, hg2, by rw [List.length_zipIdx]; exact hc⟩⟩
      rw [List.getElem?_zipIdx] at hx
      obtain ⟨y, hy, rfl⟩ := Option.map_eq_some_iff.1 hx
      exact hR i y hy j u hu
theorem delete_c (A : Option Addr) (c : Nat) (D : List (Ar × Nat)) (w w1 : World) (h : PP w D A c w1) (hsz : D.length < 1152921504606846976) :
    Calls Try.prog 42 #[.slice A D.length c, .func (.func 43) #[] #[]] w1 fun e w2 => e = .returned (.slice A (D.filter fun x => !bad x).length c) ∧ PP w (D.filter fun x => !bad x) A c w2 := by
  have e25 : ∀ args w, (callFunc 43 args).run Try.prog w = .ok (.enter 43 args) w := enters_of Try.func43 (by kernel_rfl) rfl
  obtain ⟨i0, U⟩ := lu
  rcases h.2 with ⟨rfl, rfl, rfl⟩ | ⟨g, rfl, h1, h2, h3, h4⟩
  · exact (delete_nil _ w1).mono fun e w2 ⟨he, hw⟩ => ⟨he, by subst hw; exact h.1, .inl ⟨rfl, rfl, rfl⟩⟩
  · exact (deleteFunc_any lt U Try.func41 Try.func42 enc enc_len enc_one bad 43 #[] e25 w.heap.size g 0 c D w1 joined1 h1 h2 h3 hsz h4).mono fun e w2 ⟨he, k1, k2, k3⟩ =>
      ⟨he, h.1.trans k3, .inr ⟨g, rfl, k1, h2, k2, Nat.le_trans (List.length_filter_le ..) h4⟩⟩
theorem sort_c (A : Option Addr) (c : Nat) (D : List (Ar × Nat)) (w w1 : World) (h : PP w D A c w1) (hsz : D.length < 1152921504606846976) (htag : D.Pairwise fun x y => x.2 < y.2) :
    Calls Try.prog 44 #[.slice A D.length c, .func (.func 45) #[] #[]] w1 fun e w2 => e = .returned (.tuple #[]) ∧ ∃ S, S.Perm D ∧ Sd (ltOf cf) Prod.snd S ∧ PP w S A c w2 := by
  have e27 : ∀ args w, (callFunc 45 args).run Try.prog w = .ok (.enter 45 args) w := enters_of Try.func45 (by kernel_rfl) rfl
  rcases h.2 with ⟨rfl, rfl, rfl⟩ | ⟨g, rfl, h1, h2, h3, h4⟩
  · exact (sortStable_nil _ w1).mono fun e w2 ⟨he, hw⟩ => ⟨he, [], List.Perm.refl _, List.Pairwise.nil, by subst hw; exact h.1, .inl ⟨rfl, rfl, rfl⟩⟩
  · have hRK : RowK enc 3 w1 g 0 D.toArray := ⟨enc_len, enc_one, h1.holds enc_len, h3⟩
    refine (sortStable_any lt Try.func61 Try.func59 Try.func56 Try.func55 Try.func52 Try.func44 enc 45 #[] cf Prod.snd swo g 0 c w1 e27 D hRK (cmpLays _ _ _ _) htag hsz).mono ?_
    rintro e w3 ⟨he, S, hp, hs, hw⟩
    obtain ⟨k1, k2, k3⟩ := swl_row (B := w.heap.size) h2 h.1.size hRK hw hp.length_eq
    exact ⟨he, S, hp, hs, h.1.trans k3, .inr ⟨g, rfl, k1, h2, k2, by rw [hp.length_eq]; exact h4⟩⟩
theorem zip_tags (D : List Ar) : D.zipIdx.Pairwise fun x y => x.2 < y.2 := List.pairwise_iff_getElem.2 fun i j hi hj hij => by simpa using hij

theorem own_below {w w' : World} {base k n : Nat} {e : TypeId} {v : Value} {xs : List Value} (h : w.ownsRow base e k v n xs) (hb : Below w.heap.size w w') : w'.ownsRow base e k v n xs := by
  refine ⟨h.1, ?_⟩
  rcases h.2 with h0 | ⟨g, cap, cur, h1, h2, h3, h4⟩
  · exact .inl h0
  · have hlt : g < w.heap.size := by
      rcases Nat.lt_or_ge g w.heap.size with h | h
      · exact h
      · rw [Array.getElem?_eq_none h] at h3; cases h3
    exact .inr ⟨g, cap, cur, h1, h2, by rw [hb.block g hlt]; exact h3, h4⟩
theorem own_base {w : World} {base base' k n : Nat} {e : TypeId} {v : Value} {xs : List Value} (h : w.ownsRow base e k v n xs) (hb : base' ≤ base) : w.ownsRow base' e k v n xs := by
  refine ⟨h.1, ?_⟩
  rcases h.2 with h0 | ⟨g, cap, cur, h1, h2, h3, h4⟩
  · exact .inl h0
  · exact .inr ⟨g, cap, cur, h1, Nat.le_trans hb h2, h3, h4⟩
theorem own_slice {w : World} {base k n : Nat} {e : TypeId} {v : Value} {xs : List Value} (h : w.ownsRow base e k v n xs) : ∃ A c, v = .slice A n c := by
  rcases h.2 with ⟨rfl, rfl⟩ | ⟨g, cap, cur, rfl, _⟩
  · exact ⟨none, 0, rfl⟩
  · exact ⟨_, _, rfl⟩
def RgJA.T : Bool × List (List Nat × List Nat) := (true, [([], []), ([0], [0]), ([1], [1]), ([2], [2]), ([2], [2]), ([4, 2], [2, 4]), ([3, 5, 2], [2, 3, 5]), ([6, 2], [2, 6]), ([2], [2]), ([7, 8, 2, 2], [2, 7, 8]), ([9, 2], [2, 9]), ([2, 10], [2, 10])])
def RgJA.B : List Nat := [0, 1, 3, 7, 7, 23, 63, 127, 7, 511, 1023, 2047]
theorem RgJA.tab : rtab .any (opsOf Try.f29 8) = RgJA.T := by kernel_rfl
theorem RgJA.bits : waitsOk RgJA.T.2 RgJA.B = true := by kernel_rfl
def RgJB.T : Bool × List (List Nat × List Nat) := (true, [([], []), ([0], [0]), ([1], [1]), ([2], [2]), ([2], [2]), ([4, 2], [2, 4]), ([3, 5, 2], [2, 3, 5]), ([6, 2], [2, 6]), ([2], [2]), ([7, 8, 2, 2], [2, 7, 8]), ([9, 2], [2, 9]), ([2, 10], [2, 10])])
def RgJB.B : List Nat := [0, 1, 3, 7, 7, 23, 63, 127, 7, 511, 1023, 2047]
theorem RgJB.tab : rtab .any (opsOf Try.f29 8) = RgJB.T := by kernel_rfl
theorem RgJB.bits : waitsOk RgJB.T.2 RgJB.B = true := by kernel_rfl
def RgJS.T : Bool × List (List Nat × List Nat) := (true, [([], []), ([], []), ([1], [1]), ([0, 2], [0, 2]), ([3], [3]), ([4], [4]), ([], []), ([6], [6]), ([5, 7], [5, 7]), ([0, 2, 0, 1, 2, 3, 4, 5, 6, 7, 8], [0, 2]), ([9, 0, 1, 2, 3, 4, 5, 6, 7, 8], [9]), ([10, 8, 0, 1, 2, 3, 4, 5, 6, 7, 8], [8, 10])])
def RgJS.B : List Nat := [0, 0, 2, 7, 15, 31, 0, 64, 255, 511, 1023, 2047]
theorem RgJS.tab : rtab .any (opsOf Try.f29 9) = RgJS.T := by kernel_rfl
theorem RgJS.bits : waitsOk RgJS.T.2 RgJS.B = true := by kernel_rfl
set_option maxHeartbeats 4000000 in
set_option maxRecDepth 1000000 in
theorem joined_c (A : Option Addr) (cap : Nat) (D : List Ar) (w : World) (R : Reads w A D) (hsz : D.length * 24 ≤ 140737488355328) :
    Calls Try.prog 29 #[.slice A D.length cap] w fun e w' => ∃ v r, e = .returned v ∧ Joined D r ∧ r.length ≤ D.length ∧ w'.ownsRow w.heap.size 62 3 v r.length (r.flatMap enc1) ∧ Below w.heap.size w w' := by
  obtain ⟨i0, U⟩ := lu
  have e24 : ∀ args w, (callFunc 30 args).run Try.prog w = .ok (.enter 30 args) w := enters_of Try.func30 (by kernel_rfl) rfl
  have e23 : ∀ args w, (callFunc 42 args).run Try.prog w = .ok (.enter 42 args) w := enters_of Try.func42 (by kernel_rfl) rfl
  have e26 : ∀ args w, (callFunc 44 args).run Try.prog w = .ok (.enter 44 args) w := enters_of Try.func44 (by kernel_rfl) rfl
  have e27 : ∀ args w, (callFunc 45 args).run Try.prog w = .ok (.enter 45 args) w := enters_of Try.func45 (by kernel_rfl) rfl
  have hc1 := clone_c A cap D w R hsz
  obtain ⟨N0, hN0⟩ : ∃ n, D.length = n := ⟨_, rfl⟩
  have HN0 := Lib.hid hN0
  obtain ⟨FD, hFD⟩ : ∃ FD, (D.zipIdx.filter fun x => !bad x) = FD := ⟨_, rfl⟩
  have HFD := Lib.hid hFD
  have hFl : FD.length ≤ N0 := by rw [← hFD, ← hN0]; exact Nat.le_trans (List.length_filter_le ..) (by rw [List.length_zipIdx]; exact Nat.le_refl _)
  have HC2 : Hid (∀ A' c w1, PP w D.zipIdx A' c w1 → Calls Try.prog 42 #[.slice A' N0 c, .func (.func 43) #[] #[]] w1 fun e w2 => e = .returned (.slice A' FD.length c) ∧ PP w FD A' c w2) := Lib.hid fun A' c w1 h => by
    have := delete_c A' c D.zipIdx w w1 h (by rw [List.length_zipIdx]; omega)
    rw [List.length_zipIdx, hN0, hFD] at this; exact this
  have HC3 : Hid (∀ A' c w1, PP w FD A' c w1 → Calls Try.prog 44 #[.slice A' FD.length c, .func (.func 45) #[] #[]] w1 fun e w2 => e = .returned (.tuple #[]) ∧ ∃ S, S.Perm FD ∧ Sd (ltOf cf) Prod.snd S ∧ PP w S A' c w2) := Lib.hid fun A' c w1 h => sort_c A' c FD w w1 h (by omega) (by rw [← hFD]; exact (zip_tags D).filter _)
  rw [hN0] at hc1 ⊢
  have HC1 := Lib.hid hc1
  have HST := Lib.hid stands
  clear hc1 R hFD hN0
  go_enter Try.func29, Try.ntmps29
  go_wp2_with (first
    | (go_at_fn 30; refine HC1.out.mono ?_; rintro e w1 ⟨A1, c1, rfl, H1⟩; replace H1 := Lib.hid H1)
    | (go_at_fn 42; refine (HC2.out _ _ _ H1.out).mono ?_; rintro e w2 ⟨rfl, H2⟩; replace H2 := Lib.hid H2)
    | (go_at_fn 44; refine (HC3.out _ _ _ H2.out).mono ?_; rintro e w3 ⟨rfl, S, HP, HS, H3⟩; replace H3 := Lib.hid H3))
  have hSl : S.length = FD.length := HP.length_eq
  have HSL := Lib.hid hSl
  have HR3 := Lib.hid H3.out.reads
  obtain ⟨NF, hNF⟩ : ∃ n, FD.length = n := ⟨_, rfl⟩
  rw [hNF] at HSL hFl ⊢
  clear HC1 HC2 HC3 H1 H2 hSl hNF
  go_loopg [4, 6, 7, 15] NF (fun kx v4 _ _ v15 wr => ∃ i : Nat, v15 = .int .i64 i ∧ i ≤ NF ∧ NF - i ≤ kx ∧ Aside (wr.ownsRow w3.heap.size 62 3 v4 (jn (S.take i)).length ((jn (S.take i)).flatMap enc1)) ∧ Aside (Below w3.heap.size w3 wr))
  case atStart => exact ⟨0, rfl, by omega, by omega, World.ownsRow_nil _ _ _ _, Below.refl _ _⟩
  case round =>
    obtain ⟨i, rfl, hi, hkx, HO, HB⟩ := hrel
    by_cases hlt : i < NF
    · have hlti : (i : Int) < (NF : Int) := by omega
      have hx : S[i]? = some (S[i]'(by rw [HSL.out]; exact hlt)) := List.getElem?_eq_getElem _
      have htk : S.take (i + 1) = S.take i ++ [S[i]'(by rw [HSL.out]; exact hlt)] := by rw [List.take_add_one, hx]; rfl
      generalize (S[i]'(by rw [HSL.out]; exact hlt)) = x at hx htk
      obtain ⟨b, o, rfl, hcell⟩ := HR3.out (by intro e; have := congrArg List.length e; rw [List.length_map, HSL.out] at this; simp at this; omega)
      obtain ⟨q0, q1, q2⟩ := hcell i x.1 (by rw [List.getElem?_map, hx]; rfl)
      have l0 := below_cell HB.out _ _ q0
      have l1 := below_cell HB.out _ _ q1
      have l2 := below_cell HB.out _ _ q2
      have HNEXT : Hid (jn (S.take (i + 1)) = put (jn (S.take i)) x.1) := Lib.hid (by rw [htk, jn_snoc])
      have hjl := jn_len (S.take i)
      rw [List.length_take, HSL.out, Nat.min_eq_left (by omega)] at hjl
      clear q0 q1 q2 hcell hx htk
      generalize jn (S.take i) = out at HO HNEXT hjl
      have hc8 : (IntKind.i64.wrap ((i : Int) + 1)) = ((i + 1 : Nat) : Int) := by have := HN0.out; rw [IntKind.wrap_i64]; omega
      obtain ⟨A4, c4, rfl⟩ := own_slice HO.out
      go_wp2_with fail
      have HO6 := World.ownsRow.alloc HO.out (.cells #[.int .i64 x.1.f0, .int .i64 x.1.f1, .int .i64 x.1.f2] 62)
      have HB6 := below_alloc HB.out (.cells #[.int .i64 x.1.f0, .int .i64 x.1.f1, .int .i64 x.1.f2] 62)
      have BK6 := Blk.new wr (enc1 x.1) 62
      unfold enc1 at BK6
      have hsz6 : (wr.alloc (.cells #[.int .i64 x.1.f0, .int .i64 x.1.f1, .int .i64 x.1.f2] 62)).heap.size = wr.heap.size + 1 := World.size_alloc _ _
      have hpge : w3.heap.size ≤ wr.heap.size := HB.out.size
      clear HO l0 l1 l2 HB
      generalize wr.heap.size = p at *
      generalize wr.alloc (.cells #[.int .i64 x.1.f0, .int .i64 x.1.f1, .int .i64 x.1.f2] 62) = w6 at *
      have HSZ6 := Lib.hid hsz6
      have HPGE := Lib.hid hpge
      clear hsz6 hpge
      rcases List.eq_nil_or_concat out with rfl | ⟨L, y, rfl⟩
      · rw [put_nil] at HNEXT
        refine start_ (n := 12) (S := fun _ => True) (ds := []) #[false, false, false, false, false, false, false, false, false, false, false, false] (by kernel_rfl) rfl rfl trivial (fun hHeld => ?_)
        refine with_tabW RgJA.tab RgJA.bits (fun HT_ HW_ => ?_)
        refine pure_ (i := 0) (N := some 21) (v := ?_) (a' := ?_) #[true, false, false, false, false, false, false, false, false, false, false, false] rfl rfl (any_of HT_.out (by kernel_rfl)) (fun _ _ _ h => h) (Or.inl ⟨by rfl, ?_⟩) ?_ ?_
        rotate_left
        · intro w'
          go_simp
          with_reducible rfl
        rotate_left
        · simp only [Act.put, List.setIfInBounds_toArray, List.set_cons_zero, List.set_cons_succ, i64_w, i32_w]
          rfl
        refine pure_ (i := 1) (N := some 22) (v := ?_) (a' := ?_) #[true, true, false, false, false, false, false, false, false, false, false, false] rfl rfl (any_of HT_.out (by kernel_rfl)) (fun _ _ _ h => h) (Or.inl ⟨by rfl, ?_⟩) ?_ ?_
        rotate_left
        · intro w'
          go_simp
          with_reducible rfl
        rotate_left
        · simp only [Act.put, List.setIfInBounds_toArray, List.set_cons_zero, List.set_cons_succ, i64_w, i32_w]
          rfl
        refine pure_ (i := 2) (N := some 23) (v := ?_) (a' := ?_) #[true, true, true, false, false, false, false, false, false, false, false, false] rfl rfl (any_of HT_.out (by kernel_rfl)) (fun _ _ _ h => h) (Or.inl ⟨by rfl, ?_⟩) ?_ ?_
        rotate_left
        · intro w'
          go_simp
          with_reducible rfl
        rotate_left
        · simp only [Act.put, List.setIfInBounds_toArray, List.set_cons_zero, List.set_cons_succ, i64_w, i32_w]
          rfl
        refine pure_ (i := 3) (N := some 24) (v := undef) (a' := ?_) #[true, true, true, true, false, false, false, false, false, false, false, false] rfl rfl (any_of HT_.out (by kernel_rfl)) (fun _ _ _ h => h) (Or.inr ⟨by rfl, rfl⟩) ?_ ?_
        rotate_left
        · simp only [Act.put, List.setIfInBounds_toArray, List.set_cons_zero, List.set_cons_succ, i64_w, i32_w]
          rfl
        refine pure_ (i := 4) (N := some 25) (v := undef) (a' := ?_) #[true, true, true, true, true, false, false, false, false, false, false, false] rfl rfl (any_of HT_.out (by kernel_rfl)) (fun _ _ _ h => h) (Or.inr ⟨by rfl, rfl⟩) ?_ ?_
        rotate_left
        · simp only [Act.put, List.setIfInBounds_toArray, List.set_cons_zero, List.set_cons_succ, i64_w, i32_w]
          rfl
        refine pure_ (i := 5) (N := some 26) (v := undef) (a' := ?_) #[true, true, true, true, true, true, false, false, false, false, false, false] rfl rfl (any_of HT_.out (by kernel_rfl)) (fun _ _ _ h => h) (Or.inr ⟨by rfl, rfl⟩) ?_ ?_
        rotate_left
        · simp only [Act.put, List.setIfInBounds_toArray, List.set_cons_zero, List.set_cons_succ, i64_w, i32_w]
          rfl
        refine pure_ (i := 6) (N := some 27) (v := undef) (a' := ?_) #[true, true, true, true, true, true, true, false, false, false, false, false] rfl rfl (any_of HT_.out (by kernel_rfl)) (fun _ _ _ h => h) (Or.inr ⟨by rfl, rfl⟩) ?_ ?_
        rotate_left
        · simp only [Act.put, List.setIfInBounds_toArray, List.set_cons_zero, List.set_cons_succ, i64_w, i32_w]
          rfl
        refine pure_ (i := 7) (N := some 28) (v := undef) (a' := ?_) #[true, true, true, true, true, true, true, true, false, false, false, false] rfl rfl (any_of HT_.out (by kernel_rfl)) (fun _ _ _ h => h) (Or.inr ⟨by rfl, rfl⟩) ?_ ?_
        rotate_left
        · simp only [Act.put, List.setIfInBounds_toArray, List.set_cons_zero, List.set_cons_succ, i64_w, i32_w]
          rfl
        refine pure_ (i := 8) (N := some 29) (v := undef) (a' := ?_) #[true, true, true, true, true, true, true, true, true, false, false, false] rfl rfl (any_of HT_.out (by kernel_rfl)) (fun _ _ _ h => h) (Or.inr ⟨by rfl, rfl⟩) ?_ ?_
        rotate_left
        · simp only [Act.put, List.setIfInBounds_toArray, List.set_cons_zero, List.set_cons_succ, i64_w, i32_w]
          rfl
        refine pure_ (i := 9) (N := some 30) (v := undef) (a' := ?_) #[true, true, true, true, true, true, true, true, true, true, false, false] rfl rfl (any_of HT_.out (by kernel_rfl)) (fun _ _ _ h => h) (Or.inr ⟨by rfl, rfl⟩) ?_ ?_
        rotate_left
        · simp only [Act.put, List.setIfInBounds_toArray, List.set_cons_zero, List.set_cons_succ, i64_w, i32_w]
          rfl
        refine pure_ (i := 10) (N := some 31) (v := undef) (a' := ?_) #[true, true, true, true, true, true, true, true, true, true, true, false] rfl rfl (any_of HT_.out (by kernel_rfl)) (fun _ _ _ h => h) (Or.inr ⟨by rfl, rfl⟩) ?_ ?_
        rotate_left
        · simp only [Act.put, List.setIfInBounds_toArray, List.set_cons_zero, List.set_cons_succ, i64_w, i32_w]
          rfl
        refine pure_ (i := 11) (N := some 32) (v := ?_) (a' := ?_) #[true, true, true, true, true, true, true, true, true, true, true, true] rfl rfl (any_of HT_.out (by kernel_rfl)) (fun _ _ _ h => h) (Or.inl ⟨by rfl, ?_⟩) ?_ ?_
        rotate_left
        · intro w'
          go_simp
          with_reducible rfl
        rotate_left
        · simp only [Act.put, List.setIfInBounds_toArray, List.set_cons_zero, List.set_cons_succ, i64_w, i32_w]
          rfl
        refine done_ (done_of HT_.out (by kernel_rfl)) ?_
        have HO7 : Hid ((w6.drew.alloc (.cells #[.int .i64 x.1.f0, .int .i64 x.1.f1, .int .i64 x.1.f2] 62)).ownsRow w3.heap.size 62 3 (.slice A4 0 c4) 0 []) := Lib.hid (World.ownsRow.alloc (World.ownsRow.drew HO6) _)
        have HB7 : Hid (Below w3.heap.size w3 (w6.drew.alloc (.cells #[.int .i64 x.1.f0, .int .i64 x.1.f1, .int .i64 x.1.f2] 62))) := Lib.hid (below_alloc HB6.drew _)
        have HC7 : Hid (Cells (w6.drew.alloc (.cells #[.int .i64 x.1.f0, .int .i64 x.1.f1, .int .i64 x.1.f2] 62)) (some ⟨w6.heap.size, 0, none⟩) (enc1 x.1)) := Lib.hid (Cells.new w6.drew (enc1 x.1) 62)
        have hk0 := (BK6.drew.cell 0).trans rfl
        have hk1 := (BK6.drew.cell 1).trans rfl
        have hk2 := (BK6.drew.cell 2).trans rfl
        simp only [List.getElem?_cons_zero, List.getElem?_cons_succ] at hk0 hk1 hk2
        clear HO6 HB6 BK6
        go_wp2_with (at_builtin; refine wpl_appK (w0 := w3) w3.heap.size rfl _ _ 28 62 (.agg zc) 3 24 rfl Try.underlying28 arc_info rfl (by decide) (by decide) (.slice A4 0 c4) [] (enc1 x.1) (some ⟨w6.heap.size, 0, none⟩) 0 1 1 rfl rfl rfl ?qo ?qc (enc1_one x.1) ?qb ?qs ?ql ?_)
        case qo => exact HO7.out
        case qc => exact HC7.out
        case qb => exact HB7.out
        case qs => exact HB7.out.size
        case ql => decide
        intro A5 c5 w7 hown hb7 _ _ _
        go_wp2
        go_roundg (NF - (i + 1))
        case measure => omega
        case rel => exact ⟨i + 1, by go_num, by omega, Nat.le_refl _, (by rw [HNEXT.out]; exact hown), hb7⟩
      · rw [List.concat_eq_append] at HO6 HNEXT hjl ⊢
        rw [put_snoc] at HNEXT
        have hlen : (L ++ [y]).length = L.length + 1 := by simp
        rw [hlen] at HO6 hjl ⊢
        obtain ⟨g2, hA4⟩ : ∃ g2, A4 = some ⟨g2, 0, none⟩ := by
          rcases HO6.2 with ⟨h0, h1⟩ | ⟨g, cap, cur, h0, _⟩
          · omega
          · injection h0 with h0 _ _; exact ⟨g, h0⟩
        subst hA4
        obtain ⟨q0, q1, q2⟩ := flat_at3 L y
        have HK0 := Lib.hid ((World.ownsRow.cellAt HO6 (L.length * 3) (by omega)).trans q0)
        have HK1 := Lib.hid ((World.ownsRow.cellAt HO6 (L.length * 3 + 1) (by omega)).trans q1)
        have HK2 := Lib.hid ((World.ownsRow.cellAt HO6 (L.length * 3 + 2) (by omega)).trans q2)
        have hg2 : w3.heap.size ≤ g2 ∧ g2 < w6.heap.size := World.ownsRow.lt HO6 g2 rfl
        have HG2 := Lib.hid hg2
        clear q0 q1 q2 hg2
        have HX : Hid (∀ W, Gw w6 W → W.cell? ⟨g2, L.length * 3, none⟩ = some (.int .i64 y.f0) ∧ W.cell? ⟨g2, L.length * 3 + 1, none⟩ = some (.int .i64 y.f1) ∧ W.cell? ⟨g2, L.length * 3 + 2, none⟩ = some (.int .i64 y.f2) ∧ W.cell? ⟨p, 0, none⟩ = some (.int .i64 x.1.f0) ∧ W.cell? ⟨p, 1, none⟩ = some (.int .i64 x.1.f1) ∧ W.cell? ⟨p, 2, none⟩ = some (.int .i64 x.1.f2)) := Lib.hid fun W h =>
          ⟨h.cell HK0.out, h.cell HK1.out, h.cell HK2.out, h.cell ((BK6.cell 0).trans rfl), h.cell ((BK6.cell 1).trans rfl), h.cell ((BK6.cell 2).trans rfl)⟩
        have HCALL : Hid (∀ W, Gw w6 W → Calls Try.prog 45 #[.agg #[.int .i64 y.f0, .int .i64 y.f1, .int .i64 y.f2], .agg #[.int .i64 x.1.f0, .int .i64 x.1.f1, .int .i64 x.1.f2]] W fun e w' => e = .returned (.int .i64 (cA y x.1)) ∧ Gw w6 w') := Lib.hid fun W h => (HST.out W (y, 0) x).mono fun e w' ⟨he, hw⟩ => ⟨he, h.trans hw⟩
        have r1 : IntKind.i64.wrap (((L.length + 1 : Nat) : Int) - 1) = (L.length : Int) := by have := HN0.out; rw [IntKind.wrap_i64]; omega
        have r2 : decide (((L.length + 1 : Nat) : Int) > 0) = true := decide_eq_true (by omega)
        have r3 : (0 : Int) ≤ (L.length : Int) := by omega
        have r4 : (L.length : Int) < ((L.length + 1 : Nat) : Int) := by omega
        have r5 : ((L.length : Int)).toNat = L.length := by omega
        have HLD : Hid (L.length + 1 + 1 ≤ D.length) := Lib.hid (by have := HN0.out; omega)
        have HFL : Hid ((L ++ [y] ++ [x.1]).flatMap enc1 = L.flatMap enc1 ++ (enc1 y ++ enc1 x.1)) := Lib.hid (by rw [List.append_assoc, List.flatMap_append]; rfl)
        have r6 : wrap64 (L.length : Int) = (L.length : Int) := by have := HN0.out; unfold wrap64; omega
        have r7 : (L.length : Int) < (L.length : Int) + 1 := by omega
        refine start_ (n := 12) (S := fun w' => Gw w6 w') (ds := []) #[false, false, false, false, false, false, false, false, false, false, false, false] (by kernel_rfl) rfl rfl (Gw.refl w6).drew (fun hHeld => ?_)
        refine with_tabW RgJB.tab RgJB.bits (fun HT_ HW_ => ?_)
        refine pure_ (i := 0) (N := some 21) (v := ?_) (a' := ?_) #[true, false, false, false, false, false, false, false, false, false, false, false] rfl rfl (any_of HT_.out (by kernel_rfl)) (fun _ _ _ h => h) (Or.inl ⟨by rfl, ?_⟩) ?_ ?_
        rotate_left
        · intro w'
          go_simp
          with_reducible rfl
        rotate_left
        · simp only [Act.put, List.setIfInBounds_toArray, List.set_cons_zero, List.set_cons_succ, i64_w, i32_w]
          rfl
        refine pure_ (i := 1) (N := some 22) (v := ?_) (a' := ?_) #[true, true, false, false, false, false, false, false, false, false, false, false] rfl rfl (any_of HT_.out (by kernel_rfl)) (fun _ _ _ h => h) (Or.inl ⟨by rfl, ?_⟩) ?_ ?_
        rotate_left
        · intro w'
          go_simp
          with_reducible rfl
        rotate_left
        · simp only [Act.put, List.setIfInBounds_toArray, List.set_cons_zero, List.set_cons_succ, i64_w, i32_w]
          rfl
        refine pure_ (i := 2) (N := some 23) (v := ?_) (a' := ?_) #[true, true, true, false, false, false, false, false, false, false, false, false] rfl rfl (any_of HT_.out (by kernel_rfl)) (fun _ _ _ h => h) (Or.inl ⟨by rfl, ?_⟩) ?_ ?_
        rotate_left
        · intro w'
          go_simp
          with_reducible rfl
        rotate_left
        · simp only [Act.put, List.setIfInBounds_toArray, List.set_cons_zero, List.set_cons_succ, i64_w, i32_w]
          rfl
        refine pure_ (i := 3) (N := some 24) (v := ?_) (a' := ?_) #[true, true, true, true, false, false, false, false, false, false, false, false] rfl rfl (any_of HT_.out (by kernel_rfl)) (fun _ _ _ h => h) (Or.inl ⟨by rfl, ?_⟩) ?_ ?_
        rotate_left
        · intro w'
          go_simp
          with_reducible rfl
        rotate_left
        · simp only [Act.put, List.setIfInBounds_toArray, List.set_cons_zero, List.set_cons_succ, i64_w, i32_w]
          rfl
        refine pure_ (i := 4) (N := some 25) (v := ?_) (a' := ?_) #[true, true, true, true, true, false, false, false, false, false, false, false] rfl rfl (any_of HT_.out (by kernel_rfl)) (fun _ _ _ h => h) (Or.inl ⟨by rfl, ?_⟩) ?_ ?_
        rotate_left
        · intro w'
          go_simp
          with_reducible rfl
        rotate_left
        · simp only [Act.put, List.setIfInBounds_toArray, List.set_cons_zero, List.set_cons_succ, i64_w, i32_w]
          rfl
        refine pure_ (i := 5) (N := some 26) (v := ?_) (a' := ?_) #[true, true, true, true, true, true, false, false, false, false, false, false] rfl rfl (any_of HT_.out (by kernel_rfl)) (fun _ _ _ h => h) (Or.inl ⟨by rfl, ?_⟩) ?_ ?_
        rotate_left
        · intro w'
          go_simp
          with_reducible rfl
        rotate_left
        · simp only [Act.put, List.setIfInBounds_toArray, List.set_cons_zero, List.set_cons_succ, i64_w, i32_w]
          rfl
        refine pure_ (i := 6) (N := some 27) (v := ?_) (a' := ?_) #[true, true, true, true, true, true, true, false, false, false, false, false] rfl rfl (any_of HT_.out (by kernel_rfl)) (fun _ _ _ h => h) (Or.inl ⟨by rfl, ?_⟩) ?_ ?_
        rotate_left
        · intro w'
          go_simp
          with_reducible rfl
        rotate_left
        · simp only [Act.put, List.setIfInBounds_toArray, List.set_cons_zero, List.set_cons_succ, i64_w, i32_w]
          rfl
        refine take_ (i := 7) (N := some 28) (v := ?_) (a' := ?_) #[true, true, true, true, true, true, true, true, false, false, false, false] rfl rfl (take_ofW HT_.out HW_.out (by kernel_rfl)) (fun _ _ _ h => h) (Or.inl ⟨by rfl, ?_⟩) hHeld ?_ ?_
        rotate_left
        · intro w' hW
          obtain ⟨s0, s1, s2, s3, s4, s5⟩ := HX.out w' hW
          go_simp
          with_reducible rfl
        rotate_left
        · simp only [Act.put, List.setIfInBounds_toArray, List.set_cons_zero, List.set_cons_succ, i64_w, i32_w]
          rfl
        refine take_ (i := 8) (N := some 29) (v := ?_) (a' := ?_) #[true, true, true, true, true, true, true, true, true, false, false, false] rfl rfl (take_ofW HT_.out HW_.out (by kernel_rfl)) (fun _ _ _ h => h) (Or.inl ⟨by rfl, ?_⟩) hHeld ?_ ?_
        rotate_left
        · intro w' hW
          obtain ⟨s0, s1, s2, s3, s4, s5⟩ := HX.out w' hW
          go_simp
          with_reducible rfl
        rotate_left
        · simp only [Act.put, List.setIfInBounds_toArray, List.set_cons_zero, List.set_cons_succ, i64_w, i32_w]
          rfl
        refine one_ (i := 9) (N := some 30) #[true, true, true, true, true, true, true, true, true, true, false, false] rfl rfl (one_of HT_.out (by kernel_rfl)) (by decide) (fun K hK => ?_)
        refine goes_ Try.func45 (by kernel_rfl) rfl #[.agg #[.int .i64 y.f0, .int .i64 y.f1, .int .i64 y.f2], .agg #[.int .i64 x.1.f0, .int .i64 x.1.f1, .int .i64 x.1.f2]] (by rfl) rfl rfl (by (try simp only [List.map_toArray, List.map_cons, List.map_nil]); first | done | rfl) ?_
        refine (HCALL.out _ hHeld).mono ?_
        rintro e_ w_1 ⟨rfl, hH_⟩
        refine ⟨_, rfl, ?_⟩
        refine hK.out _ _ hH_ (fun hHeld => ?_)
        clear hK K hH_
        refine norm_ (a' := ?_) ?_ ?_
        rotate_left
        · show Act.put _ (some 30) _ = _
          simp only [Act.put, List.setIfInBounds_toArray, List.set_cons_zero, List.set_cons_succ, i64_w, i32_w]
          rfl
        refine pure_ (i := 10) (N := some 31) (v := ?_) (a' := ?_) #[true, true, true, true, true, true, true, true, true, true, true, false] rfl rfl (any_of HT_.out (by kernel_rfl)) (fun _ _ _ h => h) (Or.inl ⟨by rfl, ?_⟩) ?_ ?_
        rotate_left
        · intro w'
          go_simp
          with_reducible rfl
        rotate_left
        · simp only [Act.put, List.setIfInBounds_toArray, List.set_cons_zero, List.set_cons_succ, i64_w, i32_w]
          rfl
        refine pure_ (i := 11) (N := some 32) (v := ?_) (a' := ?_) #[true, true, true, true, true, true, true, true, true, true, true, true] rfl rfl (any_of HT_.out (by kernel_rfl)) (fun _ _ _ h => h) (Or.inl ⟨by rfl, ?_⟩) ?_ ?_
        rotate_left
        · intro w'
          go_simp
          with_reducible rfl
        rotate_left
        · simp only [Act.put, List.setIfInBounds_toArray, List.set_cons_zero, List.set_cons_succ, i64_w, i32_w]
          rfl
        refine done_ (done_of HT_.out (by kernel_rfl)) ?_
        have HGW := Lib.hid hHeld
        have hbw := hHeld.below
        have hszw := hbw.size
        have HOB : Hid (∀ W, Below w_1.heap.size w_1 W → W.ownsRow w3.heap.size 62 3 (.slice (some ⟨g2, 0, none⟩) (L.length + 1) c4) (L.length + 1) ((L ++ [y]).flatMap enc1)) := Lib.hid fun W h => own_below HO6 (hbw.trans (h.mono hszw))
        have HBB : Hid (∀ W, Below w_1.heap.size w_1 W → Below w3.heap.size w3 W) := Lib.hid fun W h => HB6.trans ((hbw.trans (h.mono hszw)).mono HB6.size)
        have hX9 : ∀ W, Below w_1.heap.size w_1 W → (W.cell? ⟨g2, L.length * 3 + 2, none⟩ = some (.int .i64 y.f2) ∧ W.frozen? ⟨g2, L.length * 3 + 2, none⟩ = false) ∧ W.cell? ⟨p, 2, none⟩ = some (.int .i64 x.1.f2) := fun W h => ⟨⟨below_cell h _ _ (HX.out _ HGW.out).2.2.1, World.ownsRow.frozenAt (HOB.out W h) _⟩, below_cell h _ _ (HX.out _ HGW.out).2.2.2.2.2⟩
        have HX9 := Lib.hid hX9
        have hXp : ∀ W, Below w_1.heap.size w_1 W → W.cell? ⟨p, 0, none⟩ = some (.int .i64 x.1.f0) ∧ W.cell? ⟨p, 1, none⟩ = some (.int .i64 x.1.f1) ∧ W.cell? ⟨p, 2, none⟩ = some (.int .i64 x.1.f2) := fun W h => ⟨below_cell h _ _ (HX.out _ HGW.out).2.2.2.1, below_cell h _ _ (HX.out _ HGW.out).2.2.2.2.1, below_cell h _ _ (HX.out _ HGW.out).2.2.2.2.2⟩
        have HXP := Lib.hid hXp
        clear hHeld hX9 hXp hbw hszw HO6 HB6
        by_cases hcA : cA y x.1 = 0
        · rw [if_pos hcA] at HNEXT
          have hcd : (cA y x.1 == 0) = true := by rw [beq_iff_eq]; exact hcA
          clear hcA
          go_wp2_with fail
          have hbD := (Below.refl w_1.heap.size w_1).drew
          refine start_ (n := 12) (S := fun w' => Below w_1.heap.size w_1 w') (ds := [11]) #[false, false, false, false, false, false, false, false, false, false, false, false] (by kernel_rfl) rfl rfl hbD (fun hHeld => ?_)
          refine with_tabW RgJS.tab RgJS.bits (fun HT_ HW_ => ?_)
          generalize w_1.drew = wb at *
          refine pure_ (i := 0) (N := some 33) (v := ?_) (a' := ?_) #[true, false, false, false, false, false, false, false, false, false, false, false] rfl rfl (any_of HT_.out (by kernel_rfl)) (fun _ _ _ h => h) (Or.inl ⟨by rfl, ?_⟩) ?_ ?_
          rotate_left
          · intro w'
            go_simp
            with_reducible rfl
          rotate_left
          · simp only [Act.put, List.setIfInBounds_toArray, List.set_cons_zero, List.set_cons_succ, i64_w, i32_w]
            rfl
          refine pure_ (i := 1) (N := some 34) (v := ?_) (a' := ?_) #[true, true, false, false, false, false, false, false, false, false, false, false] rfl rfl (any_of HT_.out (by kernel_rfl)) (fun _ _ _ h => h) (Or.inl ⟨by rfl, ?_⟩) ?_ ?_
          rotate_left
          · intro w'
            go_simp
            with_reducible rfl
          rotate_left
          · simp only [Act.put, List.setIfInBounds_toArray, List.set_cons_zero, List.set_cons_succ, i64_w, i32_w]
            rfl
          refine pure_ (i := 2) (N := some 35) (v := ?_) (a' := ?_) #[true, true, true, false, false, false, false, false, false, false, false, false] rfl rfl (any_of HT_.out (by kernel_rfl)) (fun _ _ _ h => h) (Or.inl ⟨by rfl, ?_⟩) ?_ ?_
          rotate_left
          · intro w'
            go_simp
            with_reducible rfl
          rotate_left
          · simp only [Act.put, List.setIfInBounds_toArray, List.set_cons_zero, List.set_cons_succ, i64_w, i32_w]
            rfl
          refine pure_ (i := 3) (N := some 36) (v := ?_) (a' := ?_) #[true, true, true, true, false, false, false, false, false, false, false, false] rfl rfl (any_of HT_.out (by kernel_rfl)) (fun _ _ _ h => h) (Or.inl ⟨by rfl, ?_⟩) ?_ ?_
          rotate_left
          · intro w'
            go_simp
            with_reducible rfl
          rotate_left
          · simp only [Act.put, List.setIfInBounds_toArray, List.set_cons_zero, List.set_cons_succ, i64_w, i32_w]
            rfl
          refine pure_ (i := 4) (N := some 37) (v := ?_) (a' := ?_) #[true, true, true, true, true, false, false, false, false, false, false, false] rfl rfl (any_of HT_.out (by kernel_rfl)) (fun _ _ _ h => h) (Or.inl ⟨by rfl, ?_⟩) ?_ ?_
          rotate_left
          · intro w'
            go_simp
            with_reducible rfl
          rotate_left
          · simp only [Act.put, List.setIfInBounds_toArray, List.set_cons_zero, List.set_cons_succ, i64_w, i32_w]
            rfl
          refine take_ (i := 5) (N := some 38) (v := ?_) (a' := ?_) #[true, true, true, true, true, true, false, false, false, false, false, false] rfl rfl (take_ofW HT_.out HW_.out (by kernel_rfl)) (fun _ _ _ h => h) (Or.inl ⟨by rfl, ?_⟩) hHeld ?_ ?_
          rotate_left
          · intro w' hW
            obtain ⟨⟨s0, z0⟩, s1⟩ := HX9.out w' hW
            go_simp
            with_reducible rfl
          rotate_left
          · simp only [Act.put, List.setIfInBounds_toArray, List.set_cons_zero, List.set_cons_succ, i64_w, i32_w]
            rfl
          refine pure_ (i := 6) (N := some 39) (v := ?_) (a' := ?_) #[true, true, true, true, true, true, true, false, false, false, false, false] rfl rfl (any_of HT_.out (by kernel_rfl)) (fun _ _ _ h => h) (Or.inl ⟨by rfl, ?_⟩) ?_ ?_
          rotate_left
          · intro w'
            go_simp
            with_reducible rfl
          rotate_left
          · simp only [Act.put, List.setIfInBounds_toArray, List.set_cons_zero, List.set_cons_succ, i64_w, i32_w]
            rfl
          refine take_ (i := 7) (N := some 40) (v := ?_) (a' := ?_) #[true, true, true, true, true, true, true, true, false, false, false, false] rfl rfl (take_ofW HT_.out HW_.out (by kernel_rfl)) (fun _ _ _ h => h) (Or.inl ⟨by rfl, ?_⟩) hHeld ?_ ?_
          rotate_left
          · intro w' hW
            obtain ⟨⟨s0, z0⟩, s1⟩ := HX9.out w' hW
            go_simp
            with_reducible rfl
          rotate_left
          · simp only [Act.put, List.setIfInBounds_toArray, List.set_cons_zero, List.set_cons_succ, i64_w, i32_w]
            rfl
          refine pure_ (i := 8) (N := some 41) (v := ?_) (a' := ?_) #[true, true, true, true, true, true, true, true, true, false, false, false] rfl rfl (any_of HT_.out (by kernel_rfl)) (fun _ _ _ h => h) (Or.inl ⟨by rfl, ?_⟩) ?_ ?_
          rotate_left
          · intro w'
            go_simp
            with_reducible rfl
          rotate_left
          · simp only [Act.put, List.setIfInBounds_toArray, List.set_cons_zero, List.set_cons_succ, i64_w, i32_w]
            rfl
          refine pure_ (i := 9) (N := some 42) (v := ?_) (a' := ?_) #[true, true, true, true, true, true, true, true, true, true, false, false] rfl rfl (any_of HT_.out (by kernel_rfl)) (fun _ _ _ h => h) (Or.inl ⟨by rfl, ?_⟩) ?_ ?_
          rotate_left
          · intro w'
            go_simp
            with_reducible rfl
          rotate_left
          · simp only [Act.put, List.setIfInBounds_toArray, List.set_cons_zero, List.set_cons_succ, i64_w, i32_w]
            rfl
          refine pure_ (i := 10) (N := some 43) (v := ?_) (a' := ?_) #[true, true, true, true, true, true, true, true, true, true, true, false] rfl rfl (any_of HT_.out (by kernel_rfl)) (fun _ _ _ h => h) (Or.inl ⟨by rfl, ?_⟩) ?_ ?_
          rotate_left
          · intro w'
            go_simp
            with_reducible rfl
          rotate_left
          · simp only [Act.put, List.setIfInBounds_toArray, List.set_cons_zero, List.set_cons_succ, i64_w, i32_w]
            rfl
          refine last_ (i := 11) (N := none) #[true, true, true, true, true, true, true, true, true, true, true, true] rfl rfl (one_of HT_.out (by kernel_rfl)) (by decide) (fun K hK => ?_)
          obtain ⟨⟨s0_, z0_⟩, s1_⟩ := HX9.out _ hHeld
          refine skip_ (w1 := wb.setCell ⟨g2, L.length * 3 + 2, none⟩ (.int .i64 (Go.bits .or .i64 y.f2 x.1.f2))) (by rfl) rfl (by first | (go_simp; done) | (go_simp; rfl)) ?_
          refine hK.out _ _ ?_
          clear hK K
          refine done_ (done_of HT_.out (by kernel_rfl)) ?_
          have hst := World.ownsRow.stored (HOB.out _ hHeld) (L.length * 3 + 2) (.int .i64 (Go.bits .or .i64 y.f2 x.1.f2))
          rw [flat_set] at hst
          have HST1 := Lib.hid hst.1
          have HBS : Hid (Below w3.heap.size w3 (wb.setCell ⟨g2, L.length * 3 + 2, none⟩ (.int .i64 (Go.bits .or .i64 y.f2 x.1.f2)))) := Lib.hid ((HBB.out _ hHeld).setCell (p := ⟨g2, L.length * 3 + 2, none⟩) HG2.out.1 _)
          clear hst
          go_wp2
          go_roundg (NF - (i + 1))
          case measure => omega
          case rel => exact ⟨i + 1, by go_num, by omega, Nat.le_refl _, (by rw [HNEXT.out, List.length_append]; exact HST1.out), HBS.out⟩
        · rw [if_neg hcA] at HNEXT
          have hcd : (cA y x.1 == 0) = false := by rw [beq_eq_false_iff_ne]; exact hcA
          clear hcA
          have HO7 : Hid ((w_1.alloc (.cells #[.int .i64 x.1.f0, .int .i64 x.1.f1, .int .i64 x.1.f2] 62)).ownsRow w3.heap.size 62 3 (.slice (some ⟨g2, 0, none⟩) (L.length + 1) c4) (L.length + 1) ((L ++ [y]).flatMap enc1)) := Lib.hid (HOB.out _ (below_alloc (Below.refl _ _) _))
          have HB7 : Hid (Below w3.heap.size w3 (w_1.alloc (.cells #[.int .i64 x.1.f0, .int .i64 x.1.f1, .int .i64 x.1.f2] 62))) := Lib.hid (HBB.out _ (below_alloc (Below.refl _ _) _))
          have HC7 : Hid (Cells (w_1.alloc (.cells #[.int .i64 x.1.f0, .int .i64 x.1.f1, .int .i64 x.1.f2] 62)) (some ⟨w_1.heap.size, 0, none⟩) (enc1 x.1)) := Lib.hid (Cells.new w_1 (enc1 x.1) 62)
          obtain ⟨hk0, hk1, hk2⟩ := HXP.out _ (Below.refl _ _)
          go_wp2_with (at_builtin; refine wpl_appK (w0 := w3) w3.heap.size rfl _ _ 28 62 (.agg zc) 3 24 rfl Try.underlying28 arc_info rfl (by decide) (by decide) (.slice (some ⟨g2, 0, none⟩) (L.length + 1) c4) ((L ++ [y]).flatMap enc1) (enc1 x.1) (some ⟨w_1.heap.size, 0, none⟩) (L.length + 1) 1 1 rfl rfl rfl ?qo ?qc (enc1_one x.1) ?qb ?qs ?ql ?_)
          case qo => exact HO7.out
          case qc => exact HC7.out
          case qb => exact HB7.out
          case qs => exact HB7.out.size
          case ql => exact Nat.le_trans (Nat.mul_le_mul_right 24 HLD.out) hsz
          intro A5 c5 w7 hown hb7 _ _ _
          replace hown := Lib.hid hown
          go_wp2
          go_roundg (NF - (i + 1))
          case measure => omega
          case rel => exact ⟨i + 1, by go_num, by omega, Nat.le_refl _, (by rw [HNEXT.out, HFL.out, List.length_append, List.length_append]; exact hown.out), hb7⟩
    · have hin : i = NF := by omega
      subst hin
      have hlti : ¬ (i : Int) < (i : Int) := by omega
      go_wp2
      go_ret
      rw [List.take_of_length_le (by rw [HSL.out]; exact Nat.le_refl _)] at HO
      refine ⟨_, rfl, jn S, ⟨S, by rw [HFD.out]; exact HP, HS, rfl⟩, ?_, ?_, ?_⟩
      · have := jn_len S; rw [HSL.out] at this; omega
      · exact own_base HO.out H3.out.1.size
      · exact H3.out.1.trans (HB.out.mono H3.out.1.size)
end Go.Proofs.Ytdchnaghmmhkhaa.Cs.Ai
