/- slices.insertionSortCmpFunc at api.Finding: it is stable: by an own walk over any program that bears it. -/
import Derived.Test.YtkjddfmhledckaaStabFd
set_option linter.unusedVariables false
set_option linter.unusedSimpArgs false
namespace Go.Proofs.Ytkjddfmhledckaa.Stab
open Go.Shelf Go.RowKit Go.Lib Go.Sort
set_option linter.unusedSectionVars false

variable {α : Type} [Inhabited α]
/-- What a test 'cmp(data[i], data[j]) < 0' wants: the two loads, the call, what lies behind. -/
theorem cmp_facts {P : Program} {enc : α → List Value} {k : Nat} {w0 w : World} {blk off : Nat} {d0 : Array α} {g : Nat} {cb : Array Value} {cf : α → α → Int} {D : List α} {N : Nat} (S : SWL enc k w0 blk off D w) (R : RowK enc k w0 blk off d0) (hs : d0.size = N) (hN : D.length = N)
    (hcmp : CmpLays P g cb enc k cf blk off N w0) (i j : Nat) (x y : α) (hi : i < N) (hj : j < N) (hx : D.toArray[i]! = x) (hy : D.toArray[j]! = y) :
    (∀ n os, Sem.run P (loadCellsFrom ⟨blk, off + i * k, none⟩ 0 k #[]) (grow (w.drewN n) os) = .ok (enc x).toArray (grow (w.drewN n) os)) ∧
    (∀ n os, Sem.run P (loadCellsFrom ⟨blk, off + j * k, none⟩ 0 k #[]) (grow (w.drewN n) os) = .ok (enc y).toArray (grow (w.drewN n) os)) ∧
    (∀ n os, Calls P g (#[.agg (enc x).toArray, .agg (enc y).toArray] ++ cb) (grow (w.drewN n) os) fun e w' => e = .returned (.int .i64 (cf x y)) ∧ ∃ q os', w' = grow ((grow (w.drewN n) os).drewN q) os') ∧
    (∀ n os, SWL enc k w0 blk off D (grow (w.drewN n) os)) := by
  have hD : D.toArray.size = N := by simpa using hN
  refine ⟨fun n os => ?_, fun n os => ?_, fun n os => SWK.cmp S hcmp hD x y n os, fun n os => SWK.grown S n os⟩
  · rw [← hx]; exact SWK.ld S R (by omega) P i (by omega) n os
  · rw [← hy]; exact SWK.ld S R (by omega) P j (by omega) n os
/-- What an exchange of data[i] and data[j] wants: the loads, the stores, what lies behind. -/
theorem swp_facts {P : Program} {enc : α → List Value} {k : Nat} {w0 w : World} {blk off : Nat} {d0 : Array α} {D D' : List α} {N : Nat} (S : SWL enc k w0 blk off D w) (R : RowK enc k w0 blk off d0) (hs : d0.size = N) (hN : D.length = N)
    (i j : Nat) (x y : α) (hi : i < N) (hj : j < N) (hx : D.toArray[i]! = x) (hy : D.toArray[j]! = y) (hsw : swp D.toArray i j = D'.toArray) :
    ∃ cI cJ : List Value, cI.length = k ∧ cJ.length = k ∧ Sem.run P (loadCellsFrom ⟨blk, off + i * k, none⟩ 0 k #[]) w.drew = .ok cI.toArray w.drew ∧ Sem.run P (loadCellsFrom ⟨blk, off + j * k, none⟩ 0 k #[]) w.drew = .ok cJ.toArray w.drew ∧
      Sem.run P (storeCells ⟨blk, off + i * k, none⟩ cJ 0) w.drew = .ok () (w.drew.setCells blk (off + i * k) cJ) ∧
      Sem.run P (storeCells ⟨blk, off + j * k, none⟩ cI 0) (w.drew.setCells blk (off + i * k) cJ) = .ok () ((w.drew.setCells blk (off + i * k) cJ).setCells blk (off + j * k) cI) ∧
      Aside (SWL enc k w0 blk off D' ((w.drew.setCells blk (off + i * k) cJ).setCells blk (off + j * k) cI)) := by
  have hD : D.toArray.size = N := by simpa using hN
  have S' : SWK enc k w0 blk off D.toArray w := S
  refine ⟨enc x, enc y, R.hk _, R.hk _, ?_, ?_, S'.st1 R (by omega) P i (by omega) y, S'.st2 R (by omega) P i j (by omega) (by omega) y x, ?_⟩
  · rw [← hx]; exact S'.ld1 R (by omega) P i (by omega)
  · rw [← hy]; exact S'.ld1 R (by omega) P j (by omega)
  · have := S'.swapped R i j (by omega) (by omega)
    rw [hx, hy, hsw] at this
    exact this

set_option maxHeartbeats 2000000 in
set_option maxRecDepth 1000000 in
theorem insertion_any {P : Program} {k : Nat} (T : LT P k) (F : P.funcs[37]? = some Try.f37) (enc : α → List Value) (g : Nat) (cb : Array Value) (cf : α → α → Int) (tag : α → Nat) (hO : SWO (ltOf cf)) (blk off cap : Nat) (w0 w : World) (d0 : Array α)
    (eg : ∀ args w, (callFunc g args).run P w = .ok (.enter g args) w) (R : RowK enc k w0 blk off d0) (A X C : List α) (a b N : Nat) (hcmp : CmpLays P g cb enc k cf blk off N w0) (ha : A.length = a) (hb : a + X.length = b) (hN : b + C.length = N) (hs : d0.size = N)
    (htag : X.Pairwise fun x y => tag x < tag y) (S : SWL enc k w0 blk off (A ++ (X ++ C)) w) (hsz : N < 4611686018427387904) :
    Calls P 37 #[.slice (some ⟨blk, off, none⟩) N cap, .int .i64 a, .int .i64 b, .func (.func g) #[] cb] w fun e w' => e = .returned (.tuple #[]) ∧ ∃ X', X'.Perm X ∧ Sd (ltOf cf) tag X' ∧ SWL enc k w0 blk off (A ++ (X' ++ C)) w' := by
  have mixed := T.mixed; have t0 := T.t0; have a0 := T.a0; have z0 := T.z0; have v0 := T.v0; have t3 := T.t3; have a3 := T.a3; have z3 := T.z3; have v3 := T.v3; have t4 := T.t4; have a4 := T.a4; have z4 := T.z4; have v4 := T.v4; have t22 := T.t22; have a22 := T.a22; have z22 := T.z22; have v22 := T.v22; have t25 := T.t25; have a25 := T.a25; have z25 := T.z25; have v25 := T.v25; have aE := T.aE; have zE := T.zE
  have HC : Aside _ := hcmp
  have HT : Aside _ := htag
  have S0 : Aside (∃ X1, X1.Perm (X.take 1) ∧ Sd (ltOf cf) tag X1 ∧ SWL enc k w0 blk off (A ++ (X1 ++ (X.drop 1 ++ C))) w) := by
    refine ⟨X.take 1, List.Perm.refl _, ?_, ?_⟩
    · match X with
      | [] => exact List.Pairwise.nil
      | x :: l => simp [Sd]
    · rw [← List.append_assoc (X.take 1), List.take_append_drop]; exact S
  clear S hcmp htag
  go_enter F, Try.ntmps37
  go_wp2
  go_loopg [8] (b + 1 - a) (fun g1 v8 wr => ∃ i : Nat, v8 = .int .i64 i ∧ a + 1 ≤ i ∧ i ≤ b + 1 ∧ b + 1 - i ≤ g1 ∧ (b < i → a = b) ∧ Aside (∃ X1, X1.Perm (X.take (i - a)) ∧ Sd (ltOf cf) tag X1 ∧ SWL enc k w0 blk off (A ++ (X1 ++ (X.drop (i - a) ++ C))) wr))
  case atStart =>
    refine ⟨a + 1, by go_num, by omega, by omega, by omega, by omega, ?_⟩
    rw [show a + 1 - a = 1 from by omega]; exact S0
  case round =>
    clear S0
    obtain ⟨i, rfl, hi1, hi2, hg1, hj0, S1⟩ := hrel
    by_cases hlt : i < b
    · have hlti : (i : Int) < (b : Int) := by omega
      obtain ⟨X1, hperm, hsd, hS⟩ := S1.out
      have hj : i - a < X.length := by omega
      have hX1 : X1.length = i - a := by rw [hperm.length_eq, List.length_take]; omega
      obtain ⟨x, hx⟩ : ∃ x, X[i - a] = x := ⟨_, rfl⟩
      have hdrop : X.drop (i - a) = x :: X.drop (i - a + 1) := by rw [List.drop_eq_getElem_cons hj, hx]
      rw [hdrop] at hS
      have htagx : ∀ y ∈ X1, tag y < tag x := fun y hy => by
        have hy := hperm.mem_iff.1 hy
        have := HT.out
        rw [← List.take_append_drop (i - a) X, hdrop] at this
        exact (List.pairwise_append.1 this).2.2 y hy x (by simp)
      have hCl : (X.drop (i - a + 1)).length = X.length - (i - a + 1) := List.length_drop ..
      have hnext : ∀ (X2 : List α) (wx : World), X2.Perm (x :: X1) → Sd (ltOf cf) tag X2 → SWL enc k w0 blk off (A ++ (X2 ++ (X.drop (i - a + 1) ++ C))) wx → Aside (∃ X1, X1.Perm (X.take (i + 1 - a)) ∧ Sd (ltOf cf) tag X1 ∧ SWL enc k w0 blk off (A ++ (X1 ++ (X.drop (i + 1 - a) ++ C))) wx) := fun X2 wx h h2 h3 => by
        rw [show i + 1 - a = i - a + 1 from by omega]
        refine ⟨X2, ?_, h2, h3⟩
        rw [List.take_succ_eq_append_getElem hj, hx]
        exact h.trans (List.perm_append_comm (l₁ := [x]) |>.trans (hperm.append_right [x]))
      have S2 : Aside (∃ Y1 Y2, X1 = Y1 ++ Y2 ∧ Y1.length = i - a ∧ (∀ y ∈ Y2, ltOf cf x y = true) ∧ SWL enc k w0 blk off (A ++ (Y1 ++ (x :: (Y2 ++ (X.drop (i - a + 1) ++ C))))) wr) := ⟨X1, [], by simp, hX1, by simp, by simpa using hS⟩
      have HNX := Lib.hid hnext
      have HTX := Lib.hid htagx
      have HSD := Lib.hid hsd
      have HX1 := Lib.hid hX1
      clear hS hnext htagx hperm S1 hdrop hsd hx hX1 hj0
      generalize X.drop (i - a + 1) = Z at *
      go_wp2
      go_loopg [9] i (fun g2 v9 wr2 => ∃ q : Nat, v9 = .int .i64 q ∧ a ≤ q ∧ q ≤ i ∧ q ≤ g2 ∧ Aside (∃ Y1 Y2, X1 = Y1 ++ Y2 ∧ Y1.length = q - a ∧ (∀ y ∈ Y2, ltOf cf x y = true) ∧ SWL enc k w0 blk off (A ++ (Y1 ++ (x :: (Y2 ++ (Z ++ C))))) wr2))
      case atStart => exact ⟨i, rfl, by omega, Nat.le_refl _, Nat.le_refl _, S2⟩
      case round =>
        clear S2
        obtain ⟨q, rfl, hqa, hqi, hg2, S3⟩ := hrel
        obtain ⟨Y1, Y2, hY, hYl, hY2, hS⟩ := S3.out
        have hXl := HX1.out
        have hlenY : Y1.length + Y2.length = i - a := by rw [hY, List.length_append] at hXl; exact hXl
        have hDN : (A ++ (Y1 ++ (x :: (Y2 ++ (Z ++ C))))).length = N := by simp; omega
        by_cases hqa2 : a < q
        · have hqaz : (a : Int) < (q : Int) := by omega
          obtain ⟨qp, rfl⟩ : ∃ qp, q = qp + 1 := ⟨q - 1, by omega⟩
          rcases List.eq_nil_or_concat Y1 with rfl | ⟨Z1, z, rfl⟩
          · simp at hYl; omega
          rw [List.concat_eq_append] at *
          have hZ1 : Z1.length = qp - a := by simp at hYl; omega
          have hwp : IntKind.i64.wrap (qp : Int) = (qp : Int) := by rw [IntKind.wrap_i64]; omega
          have jz : (qp : Int) + 1 < (N : Int) := by omega
          have jz1 : (qp : Int) < (N : Int) := by omega
          have hjaz' : (a : Int) < (qp : Int) + 1 := by omega
          have p0 : (0 : Int) ≤ (qp : Int) + 1 := by omega
          have e0 : ((qp : Int) + 1).toNat = qp + 1 := by omega
          have hD : A ++ ((Z1 ++ [z]) ++ (x :: (Y2 ++ (Z ++ C)))) = (A ++ Z1) ++ z :: ([] ++ x :: (Y2 ++ (Z ++ C))) := by simp
          have hgx : (A ++ ((Z1 ++ [z]) ++ (x :: (Y2 ++ (Z ++ C))))).toArray[qp + 1]! = x := by
            rw [show A ++ ((Z1 ++ [z]) ++ (x :: (Y2 ++ (Z ++ C)))) = (A ++ (Z1 ++ [z])) ++ x :: (Y2 ++ (Z ++ C)) from by simp]
            exact get_at (by simp; omega)
          have hgz : (A ++ ((Z1 ++ [z]) ++ (x :: (Y2 ++ (Z ++ C))))).toArray[qp]! = z := by rw [hD]; exact get_at (by simp; omega)
          obtain ⟨lj, lp, hcg, hsg⟩ := cmp_facts (P := P) hS R hs hDN HC.out (qp + 1) qp x z (by omega) (by omega) hgx hgz
          by_cases hlv : cf x z < 0
          · have hsw : swp (A ++ ((Z1 ++ [z]) ++ (x :: (Y2 ++ (Z ++ C))))).toArray (qp + 1) qp = (A ++ (Z1 ++ (x :: ((z :: Y2) ++ (Z ++ C))))).toArray := by
              rw [hD, swp_comm_at (by simp; omega) (by simp)]
              simp
            have HSW := Lib.hid (fun W (hW : SWL enc k w0 blk off (A ++ ((Z1 ++ [z]) ++ (x :: (Y2 ++ (Z ++ C))))) W) => swp_facts (P := P) hW R hs hDN (qp + 1) qp x z (by omega) (by omega) hgx hgz hsw)
            have hres : Aside (∀ W, SWL enc k w0 blk off (A ++ (Z1 ++ (x :: ((z :: Y2) ++ (Z ++ C))))) W → ∃ Y1 Y2, X1 = Y1 ++ Y2 ∧ Y1.length = qp - a ∧ (∀ y ∈ Y2, ltOf cf x y = true) ∧ SWL enc k w0 blk off (A ++ (Y1 ++ (x :: (Y2 ++ (Z ++ C))))) W) := fun W hW =>
              ⟨Z1, z :: Y2, by rw [hY]; simp, hZ1, fun y hy => by
                rcases List.mem_cons.1 hy with rfl | hy
                · exact decide_eq_true hlv
                · exact hY2 y hy, hW⟩
            have HSG := Lib.hid hsg
            clear hsg hgx hgz hD hS S3 hY hYl hY2 hXl hlenY hDN hsw hZ1
            go_wp2_with fail
            go_quiet_grown (first | (go_at_fn g; refine Calls.grown_of (hcg _ _)))
            have hS4 := HSG.out nq osq
            clear lj lp hcg
            generalize grow (wr.drewN nq) osq = wq at hS4 ⊢
            obtain ⟨cI, cJ, n1, n2, l1, l2, s1, s2, S5⟩ := HSW.out wq hS4
            clear hS4
            go_wp2_with fail
            go_big_region_o
            clear l1 l2 s1 s2
            generalize (wq.drew.setCells blk (off + (qp + 1) * k) cJ).setCells blk (off + qp * k) cI = w2 at S5 ⊢
            go_wp2
            go_roundg qp
            case measure => omega
            case rel => exact ⟨qp, by first | rfl | go_num, by omega, by omega, Nat.le_refl _, hres.out w2 S5.out⟩
          · have hfin : Aside (∀ W, SWL enc k w0 blk off (A ++ ((Z1 ++ [z]) ++ (x :: (Y2 ++ (Z ++ C))))) W → Aside (∃ X1, X1.Perm (X.take (i + 1 - a)) ∧ Sd (ltOf cf) tag X1 ∧ SWL enc k w0 blk off (A ++ (X1 ++ (X.drop (i + 1 - a) ++ C))) W)) := fun W hW => by
              have hsd := HSD.out
              rw [hY] at hsd
              refine HNX.out ((Z1 ++ [z]) ++ x :: Y2) W ?_ (ins_done hO hsd hY2 (all_not_lt hO hsd.left (decide_eq_false (by omega))) fun y hy => HTX.out y (by rw [hY]; simp at hy ⊢; rcases hy with h | h <;> simp [h])) (by simpa using hW)
              rw [hY]; exact List.perm_middle
            have HSG := Lib.hid hsg
            clear hsg hgx hgz hD hS S3 hY hYl hY2 hXl hlenY hDN hZ1
            go_wp2_with fail
            go_quiet_grown (first | (go_at_fn g; refine Calls.grown_of (hcg _ _)))
            have S4 := hfin.out _ (HSG.out nq osq)
            clear lj lp hcg
            go_wp2
            go_roundg (b + 1 - (i + 1))
            case measure => omega
            case rel => exact ⟨i + 1, by go_num, by omega, by omega, Nat.le_refl _, by omega, S4⟩
        · have hqe : q = a := by omega
          have hqaz : ¬ (a : Int) < (q : Int) := by omega
          have hqazd : decide ((q : Int) > (a : Int)) = false := decide_eq_false (by omega)
          have hY1 : Y1 = [] := List.eq_nil_of_length_eq_zero (by omega)
          subst hY1
          have hfin : Aside (∀ W, SWL enc k w0 blk off (A ++ ([] ++ (x :: (Y2 ++ (Z ++ C))))) W → Aside (∃ X1, X1.Perm (X.take (i + 1 - a)) ∧ Sd (ltOf cf) tag X1 ∧ SWL enc k w0 blk off (A ++ (X1 ++ (X.drop (i + 1 - a) ++ C))) W)) := fun W hW => by
            have hsd := HSD.out
            rw [hY] at hsd
            exact HNX.out ([] ++ x :: Y2) W (by rw [hY]; simp) (ins_done hO hsd hY2 (by simp) (by simp)) (by simpa using hW)
          have S4 : Aside _ := SWK.drew hS
          clear hS S3 hY hYl hY2 hXl hlenY hDN hqe
          go_wp2_with fail
          go_big_region_o
          have S5 := hfin.out _ S4.out
          all_goals go_wp2
          go_roundg (b + 1 - (i + 1))
          case measure => omega
          case rel => exact ⟨i + 1, by go_num, by omega, by omega, Nat.le_refl _, by omega, S5⟩
    · have hltz : ¬ (i : Int) < (b : Int) := by omega
      have hfin : Aside (∃ X', X'.Perm X ∧ Sd (ltOf cf) tag X' ∧ SWL enc k w0 blk off (A ++ (X' ++ C)) wr) := by
        obtain ⟨X1, h1, h2, h3⟩ := S1.out
        rw [List.take_of_length_le (by omega)] at h1
        rw [List.drop_eq_nil_of_le (by omega)] at h3
        exact ⟨X1, h1, h2, h3⟩
      clear S1
      go_wp2
      go_end0
      exact ⟨rfl, hfin.out⟩
end Go.Proofs.Ytkjddfmhledckaa.Stab
