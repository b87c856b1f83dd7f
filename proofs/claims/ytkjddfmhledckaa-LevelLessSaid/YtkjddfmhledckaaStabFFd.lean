/- slices.SortStableFunc at api.Finding: a stable sort: by own walks over any program that bears it. -/
import Derived.Test.YtkjddfmhledckaaStabEFd
set_option linter.unusedVariables false
set_option linter.unusedSimpArgs false
namespace Go.Proofs.Ytkjddfmhledckaa.Stab
open Go.Shelf Go.RowKit Go.Lib Go.Sort
set_option linter.unusedSectionVars false

variable {α : Type} [Inhabited α]
/-- S is O, block by block of bs sorted (the last one may be shorter). -/
inductive Bl (lt : α → α → Bool) (tag : α → Nat) (bs : Nat) : List α → List α → Prop
  | nil : Bl lt tag bs [] []
  | last (o s : List α) : s.Perm o → Sd lt tag s → o.length ≤ bs → Bl lt tag bs o s
  | cons (o s O S : List α) : s.Perm o → Sd lt tag s → o.length = bs → Bl lt tag bs O S → Bl lt tag bs (o ++ O) (s ++ S)
theorem Bl.len {lt : α → α → Bool} {tag : α → Nat} {bs : Nat} {O S : List α} (h : Bl lt tag bs O S) : O.length = S.length := by
  induction h with
  | nil => rfl
  | last o s hp _ _ => exact hp.length_eq.symm
  | cons o s O S hp _ _ _ ih => rw [List.length_append, List.length_append, ih, hp.length_eq]
theorem Bl.first {lt : α → α → Bool} {tag : α → Nat} {bs : Nat} {O S : List α} (h : Bl lt tag bs O S) (hl : bs ≤ S.length) (h0 : 0 < bs) : ∃ o s O' S', O = o ++ O' ∧ S = s ++ S' ∧ o.length = bs ∧ s.Perm o ∧ Sd lt tag s ∧ Bl lt tag bs O' S' := by
  cases h with
  | nil => simp at hl; omega
  | last _ _ hp hs ho => exact ⟨O, S, [], [], by simp, by simp, by have := hp.length_eq; omega, hp, hs, .nil⟩
  | cons o s O' S' hp hs ho h => exact ⟨o, s, O', S', rfl, rfl, ho, hp, hs, h⟩
theorem Bl.one {lt : α → α → Bool} {tag : α → Nat} {bs : Nat} {O S : List α} (h : Bl lt tag bs O S) (hl : S.length ≤ bs) (h0 : 0 < bs) : S.Perm O ∧ Sd lt tag S := by
  cases h with
  | nil => exact ⟨List.Perm.refl _, List.Pairwise.nil⟩
  | last _ _ hp hs ho => exact ⟨hp, hs⟩
  | cons o s O' S' hp hs ho h =>
    have h1 := hp.length_eq
    have h2 := h.len
    rw [List.length_append] at hl
    have e1 : S' = [] := List.eq_nil_of_length_eq_zero (by omega)
    have e2 : O' = [] := List.eq_nil_of_length_eq_zero (by omega)
    subst e1 e2
    simpa using ⟨hp, hs⟩
/-- Whole blocks ahead. -/
def Full (lt : α → α → Bool) (tag : α → Nat) (bs : Nat) (U0 U : List α) : Prop := U0.length = U.length ∧ ∀ V0 V, Bl lt tag bs V0 V → Bl lt tag bs (U0 ++ V0) (U ++ V)
theorem Full.nil (lt : α → α → Bool) (tag : α → Nat) (bs : Nat) : Full lt tag bs [] [] := ⟨rfl, fun _ _ h => h⟩
theorem Full.snoc {lt : α → α → Bool} {tag : α → Nat} {bs : Nat} {U0 U o s : List α} (h : Full lt tag bs U0 U) (hp : s.Perm o) (hs : Sd lt tag s) (ho : o.length = bs) : Full lt tag bs (U0 ++ o) (U ++ s) :=
  ⟨by rw [List.length_append, List.length_append, h.1, hp.length_eq], fun V0 V hv => by
    rw [List.append_assoc, List.append_assoc]
    exact h.2 _ _ (.cons o s V0 V hp hs ho hv)⟩

theorem merges_all {P : Program} {k : Nat} (T : LT P k) (F1 : P.funcs[40]? = some Try.f40) (F2 : P.funcs[39]? = some Try.f39) (F : P.funcs[38]? = some Try.f38) (enc : α → List Value) (g : Nat) (cb : Array Value) (cf : α → α → Int) (tag : α → Nat) (hO : SWO (ltOf cf)) (blk off cap : Nat) (w0 : World) (d0 : Array α)
    (eg : ∀ args w, (callFunc g args).run P w = .ok (.enter g args) w) (R : RowK enc k w0 blk off d0) (N : Nat) (hcmp : CmpLays P g cb enc k cf blk off N w0) (hs : d0.size = N) (hsz : N < 4611686018427387904) : ∀ n, Merges P enc k g cb cf tag blk off cap N w0 n := by
  intro n
  induction n with
  | zero =>
    intro A X Y C a m b w hn _ _ _ _ hX _ _ _ _ _
    exact absurd (List.eq_nil_of_length_eq_zero (by omega)) hX
  | succ n ih =>
    intro A X Y C a m b w hn ha hm hb hN hX hY dX dY hT hS
    have hx0 := List.length_pos_iff.2 hX
    have hy0 := List.length_pos_iff.2 hY
    by_cases h1 : X.length = 1
    · match X, h1 with
      | [x], _ =>
        refine (symMerge_left T F enc g cb cf tag hO blk off cap w0 w d0 eg R A Y C x a m b N hcmp ha (by simpa using hm) hb hN hs dY (fun y hy => hT x (by simp) y hy) (by simpa using hS) hsz).mono ?_
        rintro e w' ⟨he, M, p, d, h⟩
        exact ⟨he, M, by simpa using p, d, h⟩
    · by_cases h2 : Y.length = 1
      · match Y, h2 with
        | [y], _ =>
          exact symMerge_right T F enc g cb cf tag hO blk off cap w0 w d0 eg R A X C y a m b N hcmp ha hm (by omega) (by simpa using hb) hN hs dX (fun x hx => hT x hx y (by simp)) (by simpa using hS) hsz
      · exact symMerge_gen T F1 F2 F enc g cb cf tag hO blk off cap w0 w d0 eg R N n ih A X Y C a m b hcmp (by omega) ha hm (by omega) hb (by omega) hN hs dX dY hT hS hsz

set_option maxHeartbeats 2000000 in
set_option maxRecDepth 1000000 in
theorem stable_any {P : Program} {k : Nat} (T : LT P k) (F1 : P.funcs[40]? = some Try.f40) (F2 : P.funcs[39]? = some Try.f39) (F3 : P.funcs[38]? = some Try.f38) (F4 : P.funcs[37]? = some Try.f37)
    (F : P.funcs[34]? = some Try.f34) (enc : α → List Value) (g : Nat) (cb : Array Value) (cf : α → α → Int) (tag : α → Nat) (hO : SWO (ltOf cf)) (blk off cap : Nat) (w0 w : World) (d0 : Array α)
    (eg : ∀ args w, (callFunc g args).run P w = .ok (.enter g args) w) (R : RowK enc k w0 blk off d0) (D : List α) (N : Nat) (hcmp : CmpLays P g cb enc k cf blk off N w0) (hN : D.length = N) (hs : d0.size = N) (htag : D.Pairwise fun x y => tag x < tag y)
    (S : SWL enc k w0 blk off D w) (hsz : N < 1152921504606846976) :
    Calls P 34 #[.slice (some ⟨blk, off, none⟩) N cap, .int .i64 N, .func (.func g) #[] cb] w fun e w' => e = .returned (.tuple #[]) ∧ ∃ D', D'.Perm D ∧ Sd (ltOf cf) tag D' ∧ SWL enc k w0 blk off D' w' := by
  have mixed := T.mixed; have t0 := T.t0; have a0 := T.a0; have z0 := T.z0; have v0 := T.v0; have t3 := T.t3; have a3 := T.a3; have z3 := T.z3; have v3 := T.v3; have t4 := T.t4; have a4 := T.a4; have z4 := T.z4; have v4 := T.v4; have t22 := T.t22; have a22 := T.a22; have z22 := T.z22; have v22 := T.v22; have t25 := T.t25; have a25 := T.a25; have z25 := T.z25; have v25 := T.v25; have t57 := T.t57; have a57 := T.a57; have z57 := T.z57; have v57 := T.v57; have aE := T.aE; have zE := T.zE
  have u3 := run_underlying T.t3; have u57 := run_underlying T.t57
  have e37 : ∀ args w, (callFunc 37 args).run P w = .ok (.enter 37 args) w := enters_of F4 (by kernel_rfl) rfl
  have e38 : ∀ args w, (callFunc 38 args).run P w = .ok (.enter 38 args) w := enters_of F3 (by kernel_rfl) rfl
  have HINS := Lib.hid (fun (A X C : List α) (a b : Nat) (w : World) h1 h2 h3 h4 hS => insertion_any T F4 enc g cb cf tag hO blk off cap w0 w d0 eg R A X C a b N hcmp h1 h2 h3 hs h4 hS (by omega))
  have HM := Lib.hid (fun n => merges_all T F1 F2 F3 enc g cb cf tag hO blk off cap w0 d0 eg R N hcmp hs (by omega) n)
  have HT : Aside _ := htag
  have S0 : Aside (∃ U0 U V, D = U0 ++ V ∧ Full (ltOf cf) tag 20 U0 U ∧ U.length = 0 ∧ SWL enc k w0 blk off (U ++ V) w) := ⟨[], [], D, rfl, Full.nil _ _ _, rfl, S⟩
  clear S hcmp htag
  go_enter F, Try.ntmps34
  go_wp2
  go_loopg [7, 8] (N + 20) (fun g1 v7 v8 wr => ∃ a b : Nat, v7 = .int .i64 a ∧ v8 = .int .i64 b ∧ a + 20 ≤ b ∧ b ≤ a + 20 ∧ a ≤ N ∧ N + 20 - a ≤ g1 ∧ Aside (∃ U0 U V, D = U0 ++ V ∧ Full (ltOf cf) tag 20 U0 U ∧ U.length = a ∧ SWL enc k w0 blk off (U ++ V) wr))
  case atStart => exact ⟨0, 20, rfl, rfl, by omega, by omega, by omega, by omega, S0⟩
  case round =>
    clear S0
    obtain ⟨a, b, rfl, rfl, hb1, hb2, haN, hg1, S1⟩ := hrel
    obtain ⟨b2, hb3⟩ : ∃ b2, b + 20 = b2 := ⟨_, rfl⟩
    have hb20 : (b : Int) + 20 = (b2 : Int) := by omega
    have HB := Lib.hid hb3
    clear hb3
    by_cases hlt : b ≤ N
    · have hltz : (b : Int) ≤ (N : Int) := by omega
      obtain ⟨U0, U, V, hD, hF, hU, hS⟩ := S1.out
      have hUV : U.length + V.length = N := by rw [← hN, hD, List.length_append, hF.1]
      have hVs := List.take_append_drop 20 V
      have h20 : (V.take 20).length = 20 := by rw [List.length_take]; omega
      have hc := HINS.out U (V.take 20) (V.drop 20) a b wr hU (by omega) (by rw [List.length_drop]; omega) (by
        have := HT.out
        rw [hD, ← hVs] at this
        exact (List.pairwise_append.1 (List.pairwise_append.1 this).2.1).1) (by rw [hVs]; exact hS)
      have HCC := Lib.hid hc
      have hnext : ∀ W X', X'.Perm (V.take 20) → Sd (ltOf cf) tag X' → SWL enc k w0 blk off (U ++ (X' ++ V.drop 20)) W → Aside (∃ U0 U V, D = U0 ++ V ∧ Full (ltOf cf) tag 20 U0 U ∧ U.length = b ∧ SWL enc k w0 blk off (U ++ V) W) := fun W X' p d h =>
        ⟨U0 ++ V.take 20, U ++ X', V.drop 20, by rw [List.append_assoc, hVs]; exact hD, hF.snoc p d h20, by rw [List.length_append, p.length_eq, h20]; omega, by rw [List.append_assoc]; exact h⟩
      have HNX := Lib.hid hnext
      clear hc hnext hS S1 hD hF hVs
      go_wp2_with (go_at_fn 37; refine HCC.out.mono ?_; rintro e w2 ⟨rfl, X', p, d, hS2⟩; have S2 := HNX.out w2 X' p d hS2; clear p d hS2)
      go_roundg (N + 20 - b)
      case measure => omega
      case rel => exact ⟨b, b2, rfl, rfl, (by have := HB.out; omega), (by have := HB.out; omega), hlt, Nat.le_refl _, S2⟩
    · have hltz : ¬ (b : Int) ≤ (N : Int) := by omega
      obtain ⟨U0, U, V, hD, hF, hU, hS⟩ := S1.out
      have hUV : U.length + V.length = N := by rw [← hN, hD, List.length_append, hF.1]
      have hc := HINS.out U V [] a N wr hU (by omega) (by simp) (by
        have := HT.out
        rw [hD] at this
        exact (List.pairwise_append.1 this).2.1) (by simpa using hS)
      have HCC := Lib.hid hc
      have hnext : ∀ W X', X'.Perm V → Sd (ltOf cf) tag X' → SWL enc k w0 blk off (U ++ (X' ++ [])) W → Aside (∃ S, Bl (ltOf cf) tag 20 D S ∧ SWL enc k w0 blk off S W) := fun W X' p d h =>
        ⟨U ++ X', by rw [hD]; exact hF.2 _ _ (.last _ _ p d (by omega)), by simpa using h⟩
      have HNX := Lib.hid hnext
      clear hc hnext hS S1 hD hF
      go_wp2_with (go_at_fn 37; refine HCC.out.mono ?_; rintro e w2 ⟨rfl, X', p, d, hS2⟩; have S2 := HNX.out w2 X' p d hS2; clear p d hS2)
      clear hb20 HB hltz hUV hU HCC HNX hlt hb1 hb2 b2
      go_loopg [6, 7, 8, 9] (2 * N + 2) (fun g2 v6 _ _ _ wr => ∃ bs : Nat, v6 = .int .i64 bs ∧ 0 < bs ∧ bs ≤ 2 * N + 20 ∧ 2 * N + 20 - bs ≤ g2 + 18 ∧ Aside (∃ S, Bl (ltOf cf) tag bs D S ∧ SWL enc k w0 blk off S wr))
      case atStart => exact ⟨20, rfl, by omega, by omega, by omega, S2⟩
      case round =>
        clear S2
        obtain ⟨bs, rfl, hbs0, hbsN, hg2, S1⟩ := hrel
        by_cases hlt : bs < N
        · have hltz : (bs : Int) < (N : Int) := by omega
          obtain ⟨bb, hbb⟩ : ∃ bb, 2 * bs = bb := ⟨_, rfl⟩
          have hr1 : (2 : Int) * (bs : Int) = (bb : Int) := by omega
          have hr2 : (bs : Int) * 2 = (bb : Int) := by omega
          have HB := Lib.hid hbb
          clear hbb
          have S3 : Aside (∃ U0 U V0 V, D = U0 ++ V0 ∧ Full (ltOf cf) tag bb U0 U ∧ U.length = 0 ∧ Bl (ltOf cf) tag bs V0 V ∧ SWL enc k w0 blk off (U ++ V) wr) := by
            obtain ⟨S, hS, hW⟩ := S1.out
            exact ⟨[], [], D, S, rfl, Full.nil _ _ _, rfl, hS, hW⟩
          clear S1
          go_wp2
          go_loopg [7, 8] (N + 1) (fun g3 v7 v8 wr => ∃ a b : Nat, v7 = .int .i64 a ∧ v8 = .int .i64 b ∧ a + bb ≤ b ∧ b ≤ a + bb ∧ a ≤ N ∧ N - a ≤ g3 ∧ Aside (∃ U0 U V0 V, D = U0 ++ V0 ∧ Full (ltOf cf) tag bb U0 U ∧ U.length = a ∧ Bl (ltOf cf) tag bs V0 V ∧ SWL enc k w0 blk off (U ++ V) wr))
          case atStart => exact ⟨0, bb, rfl, rfl, by omega, by omega, by omega, by omega, S3⟩
          case round =>
            clear S3
            obtain ⟨a, b, rfl, rfl, hb1, hb2, haN, hg3, S4⟩ := hrel
            obtain ⟨m, hm⟩ : ∃ m, a + bs = m := ⟨_, rfl⟩
            have hm1 : (a : Int) + (bs : Int) = (m : Int) := by omega
            have HMM := Lib.hid hm
            clear hm
            by_cases hbN : b ≤ N
            · have hbz : (b : Int) ≤ (N : Int) := by omega
              obtain ⟨b2, hb3⟩ : ∃ b2, b + bb = b2 := ⟨_, rfl⟩
              have hb2z : (b : Int) + (bb : Int) = (b2 : Int) := by omega
              have HB2 := Lib.hid hb3
              clear hb3
              have hc : ∃ U0 U o1 o2 s1 s2 V0 V, D = U0 ++ (o1 ++ (o2 ++ V0)) ∧ Full (ltOf cf) tag bb U0 U ∧ U.length = a ∧ o1.length = bs ∧ o2.length = bs ∧ s1.Perm o1 ∧ s2.Perm o2 ∧ Sd (ltOf cf) tag s1 ∧ Sd (ltOf cf) tag s2 ∧ Bl (ltOf cf) tag bs V0 V ∧ SWL enc k w0 blk off (U ++ (s1 ++ (s2 ++ V))) wr := by
                obtain ⟨U0, U, V0, V, hD, hF, hU, hBl, hS⟩ := S4.out
                have e1 := HB.out
                have hl := hBl.len
                have hDN : U0.length + V0.length = N := by rw [← hN, hD, List.length_append]
                have hUU := hF.1
                obtain ⟨o1, s1, V1, W1, rfl, rfl, ho1, p1, d1, hB1⟩ := hBl.first (by omega) hbs0
                have hq1 := p1.length_eq
                have hl1 := hB1.len
                rw [List.length_append, List.length_append] at hl
                rw [List.length_append] at hDN
                obtain ⟨o2, s2, V2, W2, rfl, rfl, ho2, p2, d2, hB2⟩ := hB1.first (by omega) hbs0
                exact ⟨U0, U, o1, o2, s1, s2, V2, W2, hD, hF, hU, ho1, ho2, p1, p2, d1, d2, hB2, hS⟩
              clear S4
              obtain ⟨U0, U, o1, o2, s1, s2, V0, V, hD, hF, hU, ho1, ho2, p1, p2, d1, d2, hBl, hS⟩ := hc
              have hc := HM.out (s1.length + s2.length) U s1 s2 V a m b wr (Nat.le_refl _) hU (by have := HMM.out; have := p1.length_eq; omega) (by have := HMM.out; have := HB.out; have := p2.length_eq; omega) (by
                have e1 := HB.out
                have e2 := hBl.len
                have e3 := hF.1
                have e4 : U0.length + (o1.length + (o2.length + V0.length)) = N := by rw [← hN, hD, List.length_append, List.length_append, List.length_append]
                omega) (by intro h; rw [h] at p1; have := p1.length_eq; simp at this; omega) (by intro h; rw [h] at p2; have := p2.length_eq; simp at this; omega) d1 d2 (by
                have h1 := HT.out
                rw [hD] at h1
                have h2 := (List.pairwise_append.1 (List.pairwise_append.1 h1).2.1).2.2
                exact Tl.perm (fun x hx y hy => h2 x hx y (List.mem_append_left _ hy)) p1 p2) hS
              have HCC := Lib.hid hc
              have hnext : ∀ W M, M.Perm (s1 ++ s2) → Sd (ltOf cf) tag M → SWL enc k w0 blk off (U ++ (M ++ V)) W → Aside (∃ U0 U V0 V, D = U0 ++ V0 ∧ Full (ltOf cf) tag bb U0 U ∧ U.length = b ∧ Bl (ltOf cf) tag bs V0 V ∧ SWL enc k w0 blk off (U ++ V) W) := fun W M p d h =>
                ⟨U0 ++ (o1 ++ o2), U ++ M, V0, V, by rw [hD]; simp only [List.append_assoc], hF.snoc (p.trans (List.Perm.append p1 p2)) d (by rw [List.length_append, ho1, ho2]; have := HB.out; omega), by
                  have e1 := HB.out
                  rw [List.length_append, p.length_eq, List.length_append, p1.length_eq, p2.length_eq]; omega, hBl, by rw [List.append_assoc]; exact h⟩
              have HNX := Lib.hid hnext
              clear hc hnext hS hD hF hU p1 p2 d1 d2 hBl
              go_wp2_with (go_at_fn 38; refine HCC.out.mono ?_; rintro e w2 ⟨rfl, M, p, d, hS2⟩; have S5 := HNX.out w2 M p d hS2; clear p d hS2)
              go_roundg (N - b)
              case measure => omega
              case rel => exact ⟨b, b2, rfl, rfl, (by have := HB2.out; omega), (by have := HB2.out; omega), hbN, Nat.le_refl _, S5⟩
            · have hbz : ¬ (b : Int) ≤ (N : Int) := by omega
              by_cases hmN : m < N
              · have hmz : (m : Int) < (N : Int) := by omega
                have hc : ∃ U0 U o1 o2 s1 s2, D = U0 ++ (o1 ++ o2) ∧ Full (ltOf cf) tag bb U0 U ∧ U.length = a ∧ o1.length = bs ∧ o2.length ≤ bs ∧ o2 ≠ [] ∧ s1.Perm o1 ∧ s2.Perm o2 ∧ Sd (ltOf cf) tag s1 ∧ Sd (ltOf cf) tag s2 ∧ SWL enc k w0 blk off (U ++ (s1 ++ (s2 ++ []))) wr := by
                  obtain ⟨U0, U, V0, V, hD, hF, hU, hBl, hS⟩ := S4.out
                  have e1 := HB.out
                  have e2 := HMM.out
                  have hl := hBl.len
                  have hDN : U0.length + V0.length = N := by rw [← hN, hD, List.length_append]
                  have hUU := hF.1
                  obtain ⟨o1, s1, V1, W1, rfl, rfl, ho1, p1, d1, hB1⟩ := hBl.first (by omega) hbs0
                  have hq1 := p1.length_eq
                  have hl1 := hB1.len
                  rw [List.length_append, List.length_append] at hl
                  rw [List.length_append] at hDN
                  obtain ⟨p2, d2⟩ := hB1.one (by omega) hbs0
                  exact ⟨U0, U, o1, V1, s1, W1, hD, hF, hU, ho1, by omega, (by intro h; rw [h] at hDN; simp at hDN; omega), p1, p2, d1, d2, by simpa using hS⟩
                clear S4
                obtain ⟨U0, U, o1, o2, s1, s2, hD, hF, hU, ho1, ho2, hne, p1, p2, d1, d2, hS⟩ := hc
                have hc := HM.out (s1.length + s2.length) U s1 s2 [] a m N wr (Nat.le_refl _) hU (by have := HMM.out; have := p1.length_eq; omega) (by
                  have e1 := HMM.out
                  have e2 := p2.length_eq
                  have e3 := hF.1
                  have e4 : U0.length + (o1.length + o2.length) = N := by rw [← hN, hD, List.length_append, List.length_append]
                  omega) rfl (by intro h; rw [h] at p1; have := p1.length_eq; simp at this; omega) (by intro h; rw [h] at p2; exact hne (List.eq_nil_of_length_eq_zero (by have := p2.length_eq; simpa using this.symm))) d1 d2 (by
                  have h1 := HT.out
                  rw [hD] at h1
                  exact Tl.perm (List.pairwise_append.1 (List.pairwise_append.1 h1).2.1).2.2 p1 p2) hS
                have HCC := Lib.hid hc
                have hnext : ∀ W M, M.Perm (s1 ++ s2) → Sd (ltOf cf) tag M → SWL enc k w0 blk off (U ++ (M ++ [])) W → Aside (∃ S, Bl (ltOf cf) tag bb D S ∧ SWL enc k w0 blk off S W) := fun W M p d h =>
                  ⟨U ++ M, by rw [hD]; exact hF.2 _ _ (.last _ _ (p.trans (List.Perm.append p1 p2)) d (by rw [List.length_append]; have := HB.out; omega)), by simpa using h⟩
                have HNX := Lib.hid hnext
                clear hc hnext hS hD hF hU p1 p2 d1 d2 hne
                go_wp2_with (go_at_fn 38; refine HCC.out.mono ?_; rintro e w2 ⟨rfl, M, p, d, hS2⟩; have S5 := HNX.out w2 M p d hS2; clear p d hS2)
                go_roundg (2 * N + 2 - bb)
                case measure => have := HB.out; omega
                case rel => exact ⟨bb, rfl, (by have := HB.out; omega), (by have := HB.out; omega), (by have := HB.out; omega), S5⟩
              · have hmz : ¬ (m : Int) < (N : Int) := by omega
                have S5 : Aside (∃ S, Bl (ltOf cf) tag bb D S ∧ SWL enc k w0 blk off S wr) := by
                  obtain ⟨U0, U, V0, V, hD, hF, hU, hBl, hS⟩ := S4.out
                  have e1 := HB.out
                  have e2 := HMM.out
                  have hl := hBl.len
                  have hDN : U0.length + V0.length = N := by rw [← hN, hD, List.length_append]
                  have hUU := hF.1
                  obtain ⟨p2, d2⟩ := hBl.one (by omega) hbs0
                  exact ⟨U ++ V, by rw [hD]; exact hF.2 _ _ (.last _ _ p2 d2 (by omega)), hS⟩
                clear S4
                go_wp2
                go_roundg (2 * N + 2 - bb)
                case measure => have := HB.out; omega
                case rel => exact ⟨bb, rfl, (by have := HB.out; omega), (by have := HB.out; omega), (by have := HB.out; omega), S5⟩
        · have hltz : ¬ (bs : Int) < (N : Int) := by omega
          obtain ⟨S, hS, hW⟩ := S1.out
          have hl := hS.len
          obtain ⟨p, d⟩ := hS.one (by omega) hbs0
          have HE : Aside (∃ D', D'.Perm D ∧ Sd (ltOf cf) tag D' ∧ SWL enc k w0 blk off D' wr) := ⟨S, p, d, hW⟩
          clear S1 hS hW p d
          go_wp2
          go_end0
          exact ⟨rfl, HE.out⟩

set_option maxHeartbeats 2000000 in
set_option maxRecDepth 1000000 in
/-- slices.SortStableFunc: the row becomes what is sorted by (cf, tag), and what was laid besides stays. -/
theorem sortStable_any {P : Program} {k : Nat} (T : LT P k) (F1 : P.funcs[40]? = some Try.f40) (F2 : P.funcs[39]? = some Try.f39) (F3 : P.funcs[38]? = some Try.f38) (F4 : P.funcs[37]? = some Try.f37)
    (F5 : P.funcs[34]? = some Try.f34) (F : P.funcs[26]? = some Try.f26) (enc : α → List Value) (g : Nat) (cb : Array Value) (cf : α → α → Int) (tag : α → Nat) (hO : SWO (ltOf cf)) (blk off cap : Nat) (w0 : World)
    (eg : ∀ args w, (callFunc g args).run P w = .ok (.enter g args) w) (D : List α) (R : RowK enc k w0 blk off D.toArray) (hcmp : CmpLays P g cb enc k cf blk off D.length w0) (htag : D.Pairwise fun x y => tag x < tag y)
    (hsz : D.length < 1152921504606846976) :
    Calls P 26 #[.slice (some ⟨blk, off, none⟩) D.length cap, .func (.func g) #[] cb] w0 fun e w' => e = .returned (.tuple #[]) ∧ ∃ D', D'.Perm D ∧ Sd (ltOf cf) tag D' ∧ SWL enc k w0 blk off D' w' := by
  have mixed := T.mixed; have t0 := T.t0; have a0 := T.a0; have z0 := T.z0; have v0 := T.v0; have t3 := T.t3; have a3 := T.a3; have z3 := T.z3; have v3 := T.v3; have t4 := T.t4; have a4 := T.a4; have z4 := T.z4; have v4 := T.v4; have t22 := T.t22; have a22 := T.a22; have z22 := T.z22; have v22 := T.v22; have t25 := T.t25; have a25 := T.a25; have z25 := T.z25; have v25 := T.v25; have t57 := T.t57; have a57 := T.a57; have z57 := T.z57; have v57 := T.v57; have aE := T.aE; have zE := T.zE
  have u3 := run_underlying T.t3; have u57 := run_underlying T.t57
  have e34 : ∀ args w, (callFunc 34 args).run P w = .ok (.enter 34 args) w := enters_of F5 (by kernel_rfl) rfl
  have S0 : SWL enc k w0 blk off D w0 := ⟨0, #[], by unfold sortWorldK; rw [grow_empty]; exact (putRowK_self enc k w0 blk off _ R.hH).symm⟩
  obtain ⟨N, hN⟩ : ∃ N, D.length = N := ⟨_, rfl⟩
  have hc := stable_any T F1 F2 F3 F4 F5 enc g cb cf tag hO blk off cap w0 w0 D.toArray eg R D N (hN ▸ hcmp) hN (by simpa using hN) htag S0 (by omega)
  have HCC := Lib.hid hc
  clear hc S0 hcmp htag
  rw [hN]
  go_enter F, Try.ntmps26
  go_wp2_with (go_at_fn 34; refine HCC.out.mono ?_; rintro e w2 ⟨rfl, D', p, d, hS2⟩; have HE : Aside (∃ D', D'.Perm D ∧ Sd (ltOf cf) tag D' ∧ SWL enc k w0 blk off D' w2) := ⟨D', p, d, hS2⟩; clear p d hS2)
  go_end0
  exact ⟨rfl, HE.out⟩
end Go.Proofs.Ytkjddfmhledckaa.Stab
