/- slices.symMergeCmpFunc at api.Finding: the merge with one on the right. -/
import Derived.Test.YtkjddfmhledckaaStabCFd
set_option linter.unusedVariables false
set_option linter.unusedSimpArgs false
namespace Go.Proofs.Ytkjddfmhledckaa.Stab
open Go.Shelf Go.RowKit Go.Lib Go.Sort
set_option linter.unusedSectionVars false

variable {α : Type} [Inhabited α]
set_option maxHeartbeats 2000000 in
set_option maxRecDepth 1000000 in
theorem symMerge_right {P : Program} {k : Nat} (T : LT P k) (F : P.funcs[38]? = some Try.f38) (enc : α → List Value) (g : Nat) (cb : Array Value) (cf : α → α → Int) (tag : α → Nat) (hO : SWO (ltOf cf)) (blk off cap : Nat) (w0 w : World) (d0 : Array α)
    (eg : ∀ args w, (callFunc g args).run P w = .ok (.enter g args) w) (R : RowK enc k w0 blk off d0) (A X C : List α) (x : α) (a m b N : Nat) (hcmp : CmpLays P g cb enc k cf blk off N w0) (ha : A.length = a) (hm : a + X.length = m) (hX2 : 2 ≤ X.length) (hb : m + 1 = b) (hN : b + C.length = N) (hs : d0.size = N)
    (hX : Sd (ltOf cf) tag X) (htag : ∀ y ∈ X, tag y < tag x) (S : SWL enc k w0 blk off (A ++ (X ++ (x :: C))) w) (hsz : N < 4611686018427387904) :
    Calls P 38 #[.slice (some ⟨blk, off, none⟩) N cap, .int .i64 a, .int .i64 m, .int .i64 b, .func (.func g) #[] cb] w fun e w' => e = .returned (.tuple #[]) ∧ ∃ M, M.Perm (X ++ [x]) ∧ Sd (ltOf cf) tag M ∧ SWL enc k w0 blk off (A ++ (M ++ C)) w' := by
  have mixed := T.mixed; have t0 := T.t0; have a0 := T.a0; have z0 := T.z0; have v0 := T.v0; have t3 := T.t3; have a3 := T.a3; have z3 := T.z3; have v3 := T.v3; have t4 := T.t4; have a4 := T.a4; have z4 := T.z4; have v4 := T.v4; have t22 := T.t22; have a22 := T.a22; have z22 := T.z22; have v22 := T.v22; have t25 := T.t25; have a25 := T.a25; have z25 := T.z25; have v25 := T.v25; have t57 := T.t57; have a57 := T.a57; have z57 := T.z57; have v57 := T.v57; have aE := T.aE; have zE := T.zE
  have u3 := run_underlying T.t3; have u57 := run_underlying T.t57
  have HC : Aside _ := hcmp
  have HX : Aside _ := hX
  have HT : Aside _ := htag
  have S0 : Aside _ := S
  have hDN : (A ++ (X ++ (x :: C))).length = N := by simp; omega
  have HDN := Lib.hid hDN
  have h0 : ((m : Int) - (a : Int) == 1) = false := by simp; omega
  have h1 : (b : Int) - (m : Int) = 1 := by omega
  have hmN : (m : Int) < (N : Int) := by omega
  have hmN' : m < N := by omega
  have hbN : b ≤ N := by omega
  clear S hcmp hX htag hDN
  go_enter F, Try.ntmps38
  go_wp2
  go_loopg [14, 15, 16] (m - a) (fun g1 v14 v15 _ wr => ∃ i j : Nat, v14 = .int .i64 i ∧ v15 = .int .i64 j ∧ a ≤ i ∧ i ≤ j ∧ j ≤ m ∧ j - i ≤ g1 ∧ Aside (SWL enc k w0 blk off (A ++ (X ++ (x :: C))) wr) ∧ Aside ((∀ h : i - 1 - a < X.length, a < i → ltOf cf x X[i - 1 - a] = false) ∧ (∀ h : j - a < X.length, ltOf cf x X[j - a] = true)))
  case atStart => exact ⟨a, m, rfl, rfl, Nat.le_refl _, by omega, Nat.le_refl _, Nat.le_refl _, S0, ⟨fun _ h => absurd h (Nat.lt_irrefl _), fun h => by omega⟩⟩
  case round =>
    clear S0
    obtain ⟨i, j, rfl, rfl, hmi, hij, hjb, hg1, S1, I⟩ := hrel
    by_cases hlt : i < j
    · have hlti : (i : Int) < (j : Int) := by omega
      obtain ⟨h, hh⟩ : ∃ h, (i + j) / 2 = h := ⟨_, rfl⟩
      have hh1 : i ≤ h := by omega
      have hh2 : h < j := by omega
      have hhY : h - a < X.length := by omega
      have e0 : (((i : Int) + (j : Int)) / 2).toNat = h := by omega
      have p0 : (0 : Int) ≤ ((i : Int) + (j : Int)) / 2 := by omega
      have jz : ((i : Int) + (j : Int)) / 2 < (N : Int) := by omega
      have hgx : (A ++ (X ++ (x :: C))).toArray[m]! = x := by
        rw [← List.append_assoc]; exact get_at (by simp; omega)
      have hgy : (A ++ (X ++ (x :: C))).toArray[h]! = X[h - a] := by
        rw [get_app (j := h - a) (by omega) (by simp; omega), List.getElem_append_left hhY]
      obtain ⟨lj, lp, hcg, hsg⟩ := cmp_facts (P := P) S1.out R hs HDN.out HC.out m h x X[h - a] hmN' (by omega) hgx hgy
      have HSG := Lib.hid hsg
      have hhi : ((i : Int) + (j : Int)) / 2 = ((h : Nat) : Int) := by omega
      have HHI := Lib.hid hhi
      clear hsg hgx hgy S1 hhi
      by_cases hlv : cf x X[h - a] < 0
      · have I2 : Aside ((∀ h' : i - 1 - a < X.length, a < i → ltOf cf x X[i - 1 - a] = false) ∧ (∀ h' : h - a < X.length, ltOf cf x X[h - a] = true)) := ⟨I.out.1, fun h' => decide_eq_true hlv⟩
        clear I hh
        generalize X[h - a] = y at *
        have hlvd : decide (cf x y < 0) = true := decide_eq_true hlv
        go_wp2_with fail
        go_quiet_grown (first | (go_at_fn g; refine Calls.grown_of (hcg _ _)))
        have S4 : Aside _ := HSG.out nq osq
        clear lj lp hcg
        go_wp2
        go_roundg (h - i)
        case measure => omega
        case rel => exact ⟨i, h, rfl, by rw [HHI.out], hmi, hh1, by omega, Nat.le_refl _, S4, I2⟩
      · have I2 : Aside ((∀ h' : h + 1 - 1 - a < X.length, a < h + 1 → ltOf cf x X[h + 1 - 1 - a] = false) ∧ (∀ h' : j - a < X.length, ltOf cf x X[j - a] = true)) := ⟨fun h' _ => by simp only [Nat.add_sub_cancel]; exact decide_eq_false (by omega), I.out.2⟩
        clear I hh
        generalize X[h - a] = y at *
        have hlvd : decide (cf x y < 0) = false := decide_eq_false hlv
        go_wp2_with fail
        go_quiet_grown (first | (go_at_fn g; refine Calls.grown_of (hcg _ _)))
        have S4 : Aside _ := HSG.out nq osq
        clear lj lp hcg
        go_wp2
        go_roundg (j - (h + 1))
        case measure => omega
        case rel => exact ⟨h + 1, j, by rw [HHI.out]; go_num, rfl, by omega, by omega, hjb, Nat.le_refl _, S4, I2⟩
    · obtain rfl : i = j := by omega
      have hltz : ¬ (i : Int) < (i : Int) := by omega
      obtain ⟨X1, X2, hXs, hX1⟩ := split_at X (i - a) (by omega)
      have hfin : Aside (∀ W, SWL enc k w0 blk off (A ++ (X1 ++ (x :: (X2 ++ C)))) W → ∃ M, M.Perm (X ++ [x]) ∧ Sd (ltOf cf) tag M ∧ SWL enc k w0 blk off (A ++ (M ++ C)) W) := fun W hW => by
        have hsd : Sd (ltOf cf) tag X := HX.out
        have hI := I.out
        have ht := HT.out
        rw [hXs] at hsd ht
        refine ⟨X1 ++ x :: X2, by rw [hXs]; exact List.perm_middle.trans (List.perm_append_comm (l₁ := [x])), ins_done hO hsd ?_ ?_ (fun y hy => ht y (by simp [hy])), by simpa using hW⟩
        · intro y hy
          have hl := first_of (X1 := X1) (X2 := X2) (p := fun z => ltOf cf x z = true) fun hh => by
            have := hI.2
            simp only [hXs] at this
            have := this (by omega)
            simpa [hX1] using this
          match X2, hy with
          | z :: Z, hy => exact all_lt_right hO (Sd.right hsd) (hl z Z rfl) y hy
        · intro y hy
          have hl := last_of (X1 := X1) (X2 := X2) (p := fun z => ltOf cf x z = false) fun hh h0 => by
            have := hI.1
            simp only [hXs] at this
            have := this (by simp; omega) (by omega)
            simpa [hX1, show i - 1 - a = i - a - 1 from by omega] using this
          rcases List.eq_nil_or_concat X1 with rfl | ⟨Z, z, rfl⟩
          · cases hy
          · rw [List.concat_eq_append] at *
            exact all_not_lt hO (Sd.left hsd) (hl Z z rfl) y hy
      have hX12 : X1.length + X2.length = X.length := by rw [hXs]; simp
      have hS2 : SWL enc k w0 blk off (A ++ (X1 ++ (X2.take (m - i) ++ (x :: (X2.drop (m - i) ++ C))))) wr := by
        have := S1.out
        rw [hXs] at this
        rw [List.take_of_length_le (by omega), List.drop_eq_nil_of_le (by omega)]
        simpa using this
      have S2 : Aside _ := hS2
      clear hS2
      clear S1 I hXs
      go_wp2
      go_loopg [17] (m - i) (fun g2 v17 wr2 => ∃ q : Nat, v17 = .int .i64 q ∧ i ≤ q ∧ q ≤ m ∧ q - i ≤ g2 ∧ Aside (SWL enc k w0 blk off (A ++ (X1 ++ (X2.take (q - i) ++ (x :: (X2.drop (q - i) ++ C))))) wr2))
      case atStart => exact ⟨m, rfl, hjb, Nat.le_refl _, Nat.le_refl _, S2⟩
      case round =>
        clear S2
        obtain ⟨q, rfl, hqa, hqi, hg2, S3⟩ := hrel
        by_cases hql : i < q
        · obtain ⟨qp, rfl⟩ : ∃ qp, q = qp + 1 := ⟨q - 1, by omega⟩
          have hqz : (i : Int) < (qp : Int) + 1 := by omega
          have hq1 : qp - i < X2.length := by omega
          have hwp : IntKind.i64.wrap (qp : Int) = (qp : Int) := by rw [IntKind.wrap_i64]; omega
          have p0 : (0 : Int) ≤ (qp : Int) + 1 := by omega
          have e0 : ((qp : Int) + 1).toNat = qp + 1 := by omega
          have jz : (qp : Int) + 1 < (N : Int) := by omega
          have jz1 : (qp : Int) < (N : Int) := by omega
          have hD : A ++ (X1 ++ (X2.take (qp + 1 - i) ++ (x :: (X2.drop (qp + 1 - i) ++ C)))) = (A ++ (X1 ++ X2.take (qp - i))) ++ X2[qp - i] :: ([] ++ x :: (X2.drop (qp + 1 - i) ++ C)) := by
            rw [show qp + 1 - i = qp - i + 1 from by omega, List.take_succ_eq_append_getElem hq1]; simp only [List.append_assoc, List.cons_append, List.nil_append]
          have hl1 : (A ++ (X1 ++ X2.take (qp - i))).length = qp := by simp; omega
          have hgy : (A ++ (X1 ++ (X2.take (qp + 1 - i) ++ (x :: (X2.drop (qp + 1 - i) ++ C))))).toArray[qp]! = X2[qp - i] := by rw [hD]; exact get_at hl1
          have hgx : (A ++ (X1 ++ (X2.take (qp + 1 - i) ++ (x :: (X2.drop (qp + 1 - i) ++ C))))).toArray[qp + 1]! = x := by
            rw [hD, show (A ++ (X1 ++ X2.take (qp - i))) ++ X2[qp - i] :: ([] ++ x :: (X2.drop (qp + 1 - i) ++ C)) = ((A ++ (X1 ++ X2.take (qp - i))) ++ [X2[qp - i]]) ++ x :: (X2.drop (qp + 1 - i) ++ C) from by simp only [List.append_assoc, List.cons_append, List.nil_append]]
            exact get_at (by rw [List.length_append, hl1]; rfl)
          have hsw : swp (A ++ (X1 ++ (X2.take (qp + 1 - i) ++ (x :: (X2.drop (qp + 1 - i) ++ C))))).toArray (qp + 1) qp = (A ++ (X1 ++ (X2.take (qp - i) ++ (x :: (X2.drop (qp - i) ++ C))))).toArray := by
            rw [hD, swp_comm_at hl1 (by simp), List.drop_eq_getElem_cons hq1, show qp + 1 - i = qp - i + 1 from by omega]
            simp only [List.append_assoc, List.cons_append, List.nil_append]
          have hlen : (A ++ (X1 ++ (X2.take (qp + 1 - i) ++ (x :: (X2.drop (qp + 1 - i) ++ C))))).length = N := by simp; omega
          obtain ⟨cI, cJ, n1, n2, l1, l2, s1, s2, S5⟩ := swp_facts (P := P) S3.out R hs hlen (qp + 1) qp x X2[qp - i] (by omega) (by omega) hgx hgy hsw
          clear S3 hD hgx hgy hsw hlen hl1
          go_wp2_with fail
          go_big_region_o
          clear l1 l2 s1 s2
          generalize (wr.drew.setCells blk (off + (qp + 1) * k) cJ).setCells blk (off + qp * k) cI = w2 at S5 ⊢
          go_wp2
          go_roundg (qp - i)
          case measure => omega
          case rel => exact ⟨qp, by first | rfl | go_num, by omega, by omega, Nat.le_refl _, S5⟩
        · have hqe : q - i = 0 := by omega
          have hqz : ¬ (i : Int) < (q : Int) := by omega
          have S5 : Aside _ := hfin.out _ (by
            have := S3.out
            rw [hqe, List.take_zero, List.drop_zero, List.nil_append] at this
            exact this)
          clear S3
          go_wp2
          refine bodyPost_ret (results_none rfl _ _ _) rfl ⟨rfl, ?_⟩
          exact S5.out
end Go.Proofs.Ytkjddfmhledckaa.Stab
