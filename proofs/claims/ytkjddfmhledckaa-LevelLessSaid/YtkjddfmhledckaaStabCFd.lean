/- slices.symMergeCmpFunc at api.Finding: the merges of one: by own walks over any program that bears it. -/
import Derived.Test.YtkjddfmhledckaaStabBFd
set_option linter.unusedVariables false
set_option linter.unusedSimpArgs false
namespace Go.Proofs.Ytkjddfmhledckaa.Stab
open Go.Shelf Go.RowKit Go.Lib Go.Sort
set_option linter.unusedSectionVars false

variable {α : Type} [Inhabited α]
theorem split_at (X : List α) (t : Nat) (h : t ≤ X.length) : ∃ X1 X2, X = X1 ++ X2 ∧ X1.length = t := ⟨X.take t, X.drop t, (List.take_append_drop t X).symm, by rw [List.length_take]; omega⟩
theorem last_of {X1 X2 : List α} {p : α → Prop} (h : ∀ hh : X1.length - 1 < (X1 ++ X2).length, 0 < X1.length → p ((X1 ++ X2)[X1.length - 1])) : ∀ Z z, X1 = Z ++ [z] → p z := by
  rintro Z z rfl
  have := h (by simp <;> omega) (by simp)
  simpa using this
theorem first_of {X1 X2 : List α} {p : α → Prop} (h : ∀ hh : X1.length < (X1 ++ X2).length, p ((X1 ++ X2)[X1.length])) : ∀ z Z, X2 = z :: Z → p z := by
  rintro z Z rfl
  have := h (by simp)
  simpa using this

set_option maxHeartbeats 2000000 in
set_option maxRecDepth 1000000 in
theorem symMerge_left {P : Program} {k : Nat} (T : LT P k) (F : P.funcs[38]? = some Try.f38) (enc : α → List Value) (g : Nat) (cb : Array Value) (cf : α → α → Int) (tag : α → Nat) (hO : SWO (ltOf cf)) (blk off cap : Nat) (w0 w : World) (d0 : Array α)
    (eg : ∀ args w, (callFunc g args).run P w = .ok (.enter g args) w) (R : RowK enc k w0 blk off d0) (A Y C : List α) (x : α) (a m b N : Nat) (hcmp : CmpLays P g cb enc k cf blk off N w0) (ha : A.length = a) (hm : a + 1 = m) (hb : m + Y.length = b) (hN : b + C.length = N) (hs : d0.size = N)
    (hY : Sd (ltOf cf) tag Y) (htag : ∀ y ∈ Y, tag x < tag y) (S : SWL enc k w0 blk off (A ++ (x :: (Y ++ C))) w) (hsz : N < 4611686018427387904) :
    Calls P 38 #[.slice (some ⟨blk, off, none⟩) N cap, .int .i64 a, .int .i64 m, .int .i64 b, .func (.func g) #[] cb] w fun e w' => e = .returned (.tuple #[]) ∧ ∃ M, M.Perm (x :: Y) ∧ Sd (ltOf cf) tag M ∧ SWL enc k w0 blk off (A ++ (M ++ C)) w' := by
  have mixed := T.mixed; have t0 := T.t0; have a0 := T.a0; have z0 := T.z0; have v0 := T.v0; have t3 := T.t3; have a3 := T.a3; have z3 := T.z3; have v3 := T.v3; have t4 := T.t4; have a4 := T.a4; have z4 := T.z4; have v4 := T.v4; have t22 := T.t22; have a22 := T.a22; have z22 := T.z22; have v22 := T.v22; have t25 := T.t25; have a25 := T.a25; have z25 := T.z25; have v25 := T.v25; have t57 := T.t57; have a57 := T.a57; have z57 := T.z57; have v57 := T.v57; have aE := T.aE; have zE := T.zE
  have u3 := run_underlying T.t3; have u57 := run_underlying T.t57
  have HC : Aside _ := hcmp
  have HY : Aside _ := hY
  have HT : Aside _ := htag
  have S0 : Aside _ := S
  have hDN : (A ++ (x :: (Y ++ C))).length = N := by simp; omega
  have HDN := Lib.hid hDN
  have h1 : (m : Int) - (a : Int) = 1 := by omega
  have haN : (a : Int) < (N : Int) := by omega
  have haN' : a < N := by omega
  have hbN : b ≤ N := by omega
  clear S hcmp hY htag hDN
  go_enter F, Try.ntmps38
  go_wp2
  go_loopg [10, 11, 12] (b - m) (fun g1 v10 v11 _ wr => ∃ i j : Nat, v10 = .int .i64 i ∧ v11 = .int .i64 j ∧ m ≤ i ∧ i ≤ j ∧ j ≤ b ∧ j - i ≤ g1 ∧ Aside (SWL enc k w0 blk off (A ++ (x :: (Y ++ C))) wr) ∧ Aside ((∀ h : i - 1 - m < Y.length, m < i → ltOf cf Y[i - 1 - m] x = true) ∧ (∀ h : j - m < Y.length, ltOf cf Y[j - m] x = false)))
  case atStart => exact ⟨m, b, rfl, rfl, Nat.le_refl _, by omega, Nat.le_refl _, Nat.le_refl _, S0, ⟨fun _ h => absurd h (Nat.lt_irrefl _), fun h => by omega⟩⟩
  case round =>
    clear S0
    obtain ⟨i, j, rfl, rfl, hmi, hij, hjb, hg1, S1, I⟩ := hrel
    by_cases hlt : i < j
    · have hlti : (i : Int) < (j : Int) := by omega
      obtain ⟨h, hh⟩ : ∃ h, (i + j) / 2 = h := ⟨_, rfl⟩
      have hh1 : i ≤ h := by omega
      have hh2 : h < j := by omega
      have hhY : h - m < Y.length := by omega
      have e0 : (((i : Int) + (j : Int)) / 2).toNat = h := by omega
      have p0 : (0 : Int) ≤ ((i : Int) + (j : Int)) / 2 := by omega
      have jz : ((i : Int) + (j : Int)) / 2 < (N : Int) := by omega
      have hgx : (A ++ (x :: (Y ++ C))).toArray[a]! = x := get_at ha
      have hgy : (A ++ (x :: (Y ++ C))).toArray[h]! = Y[h - m] := by
        rw [show A ++ (x :: (Y ++ C)) = (A ++ [x]) ++ (Y ++ C) from by simp, get_app (j := h - m) (by simp; omega) (by simp; omega), List.getElem_append_left hhY]
      obtain ⟨lj, lp, hcg, hsg⟩ := cmp_facts (P := P) S1.out R hs HDN.out HC.out h a Y[h - m] x (by omega) haN' hgy hgx
      have HSG := Lib.hid hsg
      have hhi : ((i : Int) + (j : Int)) / 2 = ((h : Nat) : Int) := by omega
      have HHI := Lib.hid hhi
      clear hsg hgx hgy S1 hhi
      by_cases hlv : cf Y[h - m] x < 0
      · have I2 : Aside ((∀ h' : h + 1 - 1 - m < Y.length, m < h + 1 → ltOf cf Y[h + 1 - 1 - m] x = true) ∧ (∀ h' : j - m < Y.length, ltOf cf Y[j - m] x = false)) := ⟨fun h' _ => by simp only [Nat.add_sub_cancel]; exact decide_eq_true hlv, I.out.2⟩
        clear I hh
        generalize Y[h - m] = y at *
        go_wp2_with fail
        go_quiet_grown (first | (go_at_fn g; refine Calls.grown_of (hcg _ _)))
        have S4 : Aside _ := HSG.out nq osq
        clear lj lp hcg
        go_wp2
        go_roundg (j - (h + 1))
        case measure => omega
        case rel => exact ⟨h + 1, j, by rw [HHI.out]; go_num, rfl, by omega, by omega, hjb, Nat.le_refl _, S4, I2⟩
      · have I2 : Aside ((∀ h' : i - 1 - m < Y.length, m < i → ltOf cf Y[i - 1 - m] x = true) ∧ (∀ h' : h - m < Y.length, ltOf cf Y[h - m] x = false)) := ⟨I.out.1, fun h' => decide_eq_false (by omega)⟩
        clear I hh
        generalize Y[h - m] = y at *
        go_wp2_with fail
        go_quiet_grown (first | (go_at_fn g; refine Calls.grown_of (hcg _ _)))
        have S4 : Aside _ := HSG.out nq osq
        clear lj lp hcg
        go_wp2
        go_roundg (h - i)
        case measure => omega
        case rel => exact ⟨i, h, rfl, by rw [HHI.out], hmi, hh1, by omega, Nat.le_refl _, S4, I2⟩
    · obtain rfl : i = j := by omega
      have hltz : ¬ (i : Int) < (i : Int) := by omega
      obtain ⟨Y1, Y2, hYs, hY1⟩ := split_at Y (i - m) (by omega)
      have hfin : Aside (∀ W, SWL enc k w0 blk off (A ++ (Y1 ++ (x :: (Y2 ++ C)))) W → ∃ M, M.Perm (x :: Y) ∧ Sd (ltOf cf) tag M ∧ SWL enc k w0 blk off (A ++ (M ++ C)) W) := fun W hW => by
        have hsd : Sd (ltOf cf) tag Y := HY.out
        have hI := I.out
        have ht := HT.out
        rw [hYs] at hsd ht
        refine ⟨Y1 ++ x :: Y2, by rw [hYs]; exact List.perm_middle, ins_left hO hsd ?_ ?_ (fun y hy => ht y (by simp [hy])), by simpa using hW⟩
        · intro y hy
          have hl := last_of (X1 := Y1) (X2 := Y2) (p := fun z => ltOf cf z x = true) fun hh h0 => by
            have := hI.1
            simp only [hYs] at this
            have := this (by simp; omega) (by omega)
            simpa [hY1, show i - 1 - m = i - m - 1 from by omega] using this
          rcases List.eq_nil_or_concat Y1 with rfl | ⟨Z, z, rfl⟩
          · cases hy
          · rw [List.concat_eq_append] at *
            exact all_lt_left hO (Sd.left hsd) (hl Z z rfl) y hy
        · intro y hy
          have hl := first_of (X1 := Y1) (X2 := Y2) (p := fun z => ltOf cf z x = false) fun hh => by
            have := hI.2
            simp only [hYs] at this
            have := this (by omega)
            simpa [hY1] using this
          match Y2, hy with
          | z :: Z, hy => exact all_not_lt_right hO (Sd.right hsd) (hl z Z rfl) y hy
      have hS2 : SWL enc k w0 blk off (A ++ (Y1.take 0 ++ (x :: (Y1.drop 0 ++ (Y2 ++ C))))) wr := by
        have := S1.out
        rw [hYs] at this
        simpa using this
      have S2 : Aside _ := hS2
      clear hS2
      have hY12 : Y1.length + Y2.length = Y.length := by rw [hYs]; simp
      clear S1 I hYs
      go_wp2
      go_loopg [13] (i - 1 - a) (fun g2 v13 wr2 => ∃ q : Nat, v13 = .int .i64 q ∧ a ≤ q ∧ q + 1 ≤ i ∧ i - 1 - q ≤ g2 ∧ Aside (SWL enc k w0 blk off (A ++ (Y1.take (q - a) ++ (x :: (Y1.drop (q - a) ++ (Y2 ++ C))))) wr2))
      case atStart => exact ⟨a, rfl, Nat.le_refl _, by omega, Nat.le_refl _, by rw [Nat.sub_self]; exact S2⟩
      case round =>
        clear S2
        obtain ⟨q, rfl, hqa, hqi, hg2, S3⟩ := hrel
        by_cases hql : q + 1 < i
        · have hqz : (q : Int) < (i : Int) - 1 := by omega
          have hq1 : q - a < Y1.length := by omega
          have hw1 : IntKind.i64.wrap ((q : Int) + 1) = (q : Int) + 1 := by rw [IntKind.wrap_i64]; omega
          have p0 : (0 : Int) ≤ (q : Int) + 1 := by omega
          have e0 : ((q : Int) + 1).toNat = q + 1 := by omega
          have jz : (q : Int) + 1 < (N : Int) := by omega
          have jz1 : (q : Int) < (N : Int) := by omega
          have hD : A ++ (Y1.take (q - a) ++ (x :: (Y1.drop (q - a) ++ (Y2 ++ C)))) = (A ++ Y1.take (q - a)) ++ x :: ([] ++ Y1[q - a] :: (Y1.drop (q - a + 1) ++ (Y2 ++ C))) := by
            rw [List.drop_eq_getElem_cons hq1]; simp only [List.append_assoc, List.cons_append, List.nil_append]
          have hl1 : (A ++ Y1.take (q - a)).length = q := by simp; omega
          have hgx : (A ++ (Y1.take (q - a) ++ (x :: (Y1.drop (q - a) ++ (Y2 ++ C))))).toArray[q]! = x := by rw [hD]; exact get_at hl1
          have hgy : (A ++ (Y1.take (q - a) ++ (x :: (Y1.drop (q - a) ++ (Y2 ++ C))))).toArray[q + 1]! = Y1[q - a] := by
            rw [hD, show (A ++ Y1.take (q - a)) ++ x :: ([] ++ Y1[q - a] :: (Y1.drop (q - a + 1) ++ (Y2 ++ C))) = ((A ++ Y1.take (q - a)) ++ [x]) ++ Y1[q - a] :: (Y1.drop (q - a + 1) ++ (Y2 ++ C)) from by simp only [List.append_assoc, List.cons_append, List.nil_append]]
            exact get_at (by rw [List.length_append, hl1]; rfl)
          have hsw : swp (A ++ (Y1.take (q - a) ++ (x :: (Y1.drop (q - a) ++ (Y2 ++ C))))).toArray q (q + 1) = (A ++ (Y1.take (q + 1 - a) ++ (x :: (Y1.drop (q + 1 - a) ++ (Y2 ++ C))))).toArray := by
            rw [hD, swp_at hl1 (by simp), show q + 1 - a = q - a + 1 from by omega, List.take_succ_eq_append_getElem hq1]
            simp only [List.append_assoc, List.cons_append, List.nil_append]
          have hlen : (A ++ (Y1.take (q - a) ++ (x :: (Y1.drop (q - a) ++ (Y2 ++ C))))).length = N := by simp; omega
          obtain ⟨cI, cJ, n1, n2, l1, l2, s1, s2, S5⟩ := swp_facts (P := P) S3.out R hs hlen q (q + 1) x Y1[q - a] (by omega) (by omega) hgx hgy hsw
          clear S3 hD hgx hgy hsw hlen hl1
          go_wp2_with fail
          go_big_region_o
          clear l1 l2 s1 s2
          generalize (wr.drew.setCells blk (off + q * k) cJ).setCells blk (off + (q + 1) * k) cI = w2 at S5 ⊢
          go_wp2
          go_roundg (i - 1 - (q + 1))
          case measure => omega
          case rel => exact ⟨q + 1, by go_num, by omega, by omega, Nat.le_refl _, S5⟩
        · have hqe : q - a = Y1.length := by omega
          have hqz : ¬ (q : Int) < (i : Int) - 1 := by omega
          have S5 : Aside _ := hfin.out _ (by
            have := S3.out
            rw [hqe, List.take_length, List.drop_length, List.nil_append] at this
            exact this)
          clear S3
          go_wp2
          refine bodyPost_ret (results_none rfl _ _ _) rfl ⟨rfl, ?_⟩
          exact S5.out
end Go.Proofs.Ytkjddfmhledckaa.Stab
