/- slices.symMergeCmpFunc at api.Finding: it merges two sorted runs, stably. -/
import Derived.Test.YtkjddfmhledckaaStabRFd
set_option linter.unusedVariables false
set_option linter.unusedSimpArgs false
namespace Go.Proofs.Ytkjddfmhledckaa.Stab
open Go.Shelf Go.RowKit Go.Lib Go.Sort
set_option linter.unusedSectionVars false

variable {α : Type} [Inhabited α]
theorem nil_or_last (X : List α) : X = [] ∨ ∃ Z z, X = Z ++ [z] := by
  rcases List.eq_nil_or_concat X with h | ⟨Z, z, h⟩
  · exact .inl h
  · exact .inr ⟨Z, z, by rw [h, List.concat_eq_append]⟩
/-- What is known where the search has ended. -/
theorem cut_facts {cf : α → α → Int} {tag : α → Nat} (hO : SWO (ltOf cf)) {L1 L2 R1 R2 : List α} (hL : Sd (ltOf cf) tag (L1 ++ L2)) (hR : Sd (ltOf cf) tag (R1 ++ R2))
    (h1 : L2 = [] ∨ R1 = [] ∨ ∃ (h : R1.length - 1 < (R1 ++ R2).length) (h' : L1.length < (L1 ++ L2).length), ltOf cf (R1 ++ R2)[R1.length - 1] (L1 ++ L2)[L1.length] = true)
    (h2 : L1 = [] ∨ R2 = [] ∨ ∃ (h : R1.length < (R1 ++ R2).length) (h' : L1.length - 1 < (L1 ++ L2).length), ltOf cf (R1 ++ R2)[R1.length] (L1 ++ L2)[L1.length - 1] = false) :
    (∀ x ∈ R1, ∀ y ∈ L2, ltOf cf x y = true) ∧ (∀ x ∈ L1, ∀ y ∈ R2, ltOf cf y x = false) := by
  constructor
  · intro x hx y hy
    rcases h1 with rfl | rfl | ⟨ha, hb, h⟩
    · cases hy
    · cases hx
    · rcases nil_or_last R1 with rfl | ⟨Z, z, rfl⟩
      · cases hx
      · match L2, hy with
        | l :: l2, hy =>
          simp at h
          exact cross_lt hO (Sd.left hR) (Sd.right hL) h x hx y hy
  · intro x hx y hy
    rcases h2 with rfl | rfl | ⟨ha, hb, h⟩
    · cases hx
    · cases hy
    · rcases nil_or_last L1 with rfl | ⟨Z, z, rfl⟩
      · cases hx
      · match R2, hy with
        | r :: r2, hy =>
          simp at h
          exact cross_not hO (Sd.left hL) (Sd.right hR) h x hx y hy
set_option maxHeartbeats 4000000 in
set_option maxRecDepth 1000000 in
theorem symMerge_gen {P : Program} {k : Nat} (T : LT P k) (F1 : P.funcs[40]? = some Try.f40) (F2 : P.funcs[39]? = some Try.f39) (F : P.funcs[38]? = some Try.f38) (enc : α → List Value) (g : Nat) (cb : Array Value) (cf : α → α → Int) (tag : α → Nat) (hO : SWO (ltOf cf)) (blk off cap : Nat) (w0 w : World) (d0 : Array α)
    (eg : ∀ args w, (callFunc g args).run P w = .ok (.enter g args) w) (R : RowK enc k w0 blk off d0) (N nI : Nat) (IH : Merges P enc k g cb cf tag blk off cap N w0 nI) (A X Y C : List α) (a m b : Nat) (hcmp : CmpLays P g cb enc k cf blk off N w0) (hnI : X.length + Y.length ≤ nI + 1) (ha : A.length = a) (hm : a + X.length = m) (hX2 : 2 ≤ X.length) (hb : m + Y.length = b) (hY2 : 2 ≤ Y.length) (hN : b + C.length = N) (hs : d0.size = N)
    (hX : Sd (ltOf cf) tag X) (hY : Sd (ltOf cf) tag Y) (htag : Tl tag X Y) (S : SWL enc k w0 blk off (A ++ (X ++ (Y ++ C))) w) (hsz : N < 4611686018427387904) :
    Calls P 38 #[.slice (some ⟨blk, off, none⟩) N cap, .int .i64 a, .int .i64 m, .int .i64 b, .func (.func g) #[] cb] w fun e w' => e = .returned (.tuple #[]) ∧ ∃ M, M.Perm (X ++ Y) ∧ Sd (ltOf cf) tag M ∧ SWL enc k w0 blk off (A ++ (M ++ C)) w' := by
  have mixed := T.mixed; have t0 := T.t0; have a0 := T.a0; have z0 := T.z0; have v0 := T.v0; have t3 := T.t3; have a3 := T.a3; have z3 := T.z3; have v3 := T.v3; have t4 := T.t4; have a4 := T.a4; have z4 := T.z4; have v4 := T.v4; have t22 := T.t22; have a22 := T.a22; have z22 := T.z22; have v22 := T.v22; have t25 := T.t25; have a25 := T.a25; have z25 := T.z25; have v25 := T.v25; have t57 := T.t57; have a57 := T.a57; have z57 := T.z57; have v57 := T.v57; have aE := T.aE; have zE := T.zE
  have u3 := run_underlying T.t3; have u57 := run_underlying T.t57
  have e38 : ∀ args w, (callFunc 38 args).run P w = .ok (.enter 38 args) w := enters_of F (by kernel_rfl) rfl
  have e39 : ∀ args w, (callFunc 39 args).run P w = .ok (.enter 39 args) w := enters_of F2 (by kernel_rfl) rfl
  have HROT : Hid (Turns P enc k g cb blk off cap N w0) := Lib.hid (fun (A X Y C : List α) (a m b : Nat) (w : World) h1 h2 h3 h4 h5 h6 hS => rotate_any T F1 F2 enc g cb blk off cap w0 w d0 R A X Y C a m b N h1 h2 h3 h4 hs h5 h6 hS hsz)
  have HIH := Lib.hid IH
  have HC : Aside _ := hcmp
  have HX : Aside _ := hX
  have HY : Aside _ := hY
  have HT : Aside _ := htag
  have S0 : Aside _ := S
  have hDN : (A ++ (X ++ (Y ++ C))).length = N := by simp; omega
  have HDN := Lib.hid hDN
  obtain ⟨mid, hmd⟩ : ∃ mid, (a + b) / 2 = mid := ⟨_, rfl⟩
  obtain ⟨nn, hnn⟩ : ∃ nn, mid + m = nn := ⟨_, rfl⟩
  have q0 : ((m : Int) - (a : Int) == 1) = false := by simp; omega
  have q1 : ((b : Int) - (m : Int) == 1) = false := by simp; omega
  have q2 : ((a : Int) + (b : Int)) / 2 = (mid : Int) := by omega
  have q3 : (mid : Int) + (m : Int) = (nn : Int) := by omega
  obtain ⟨pn, hpn⟩ : ∃ pn, nn = pn + 1 := ⟨nn - 1, by omega⟩
  have q3b : (nn : Int) - 1 = (pn : Int) := by omega
  have HPN := Lib.hid hpn
  clear hpn
  have hbN : b ≤ N := by omega
  have hma : a < mid := by omega
  have hmb : mid < b := by omega
  have hml : 2 * mid ≤ a + b := by omega
  have hmh : a + b ≤ 2 * mid + 1 := by omega
  have hnb : nn ≤ 2 * N := by omega
  clear S hcmp hX hY htag hDN IH hmd
  go_enter F, Try.ntmps38
  go_upto_if 140 with (fail)
  go_cut [20, 21] (fun v20 v21 wc => wc = w ∧ ∃ s0 r0 : Nat, v20 = .int .i64 s0 ∧ v21 = .int .i64 r0 ∧ a ≤ s0 ∧ s0 ≤ r0 ∧ r0 ≤ m ∧ r0 ≤ mid ∧ nn ≤ b + s0 ∧ (s0 = a ∨ nn = b + s0) ∧ (r0 = m ∨ r0 = mid))
  case first =>
    by_cases hmm : mid < m
    · have hmmz : (mid : Int) < (m : Int) := by omega
      have q4 : (nn : Int) - (b : Int) = ((nn - b : Nat) : Int) := by omega
      go_wp2
      go_meet
      case rel => exact ⟨rfl, nn - b, mid, by rw [← q4], rfl, by omega, by omega, by omega, Nat.le_refl _, by omega, .inr (by omega), .inr rfl⟩
    · have hmmz : ¬ (mid : Int) < (m : Int) := by omega
      go_wp2
      go_meet
      case rel => exact ⟨rfl, a, m, rfl, rfl, Nat.le_refl _, by omega, Nat.le_refl _, by omega, by omega, .inl rfl, .inl rfl⟩
  case rest =>
    obtain ⟨rfl, s0, r0, rfl, rfl, j1, j2, j3, j4, j5, j6, j7⟩ := hcut
    go_wp2
    go_loopg [20, 21, 23] (r0 - s0) (fun g1 v20 v21 _ wr => ∃ s r : Nat, v20 = .int .i64 s ∧ v21 = .int .i64 r ∧ s0 ≤ s ∧ s ≤ r ∧ r ≤ r0 ∧ r - s ≤ g1 ∧ Aside (SWL enc k w0 blk off (A ++ (X ++ (Y ++ C))) wr) ∧
      Aside ((s0 < s → ∀ (h : nn - s - m < Y.length) (h' : s - 1 - a < X.length), ltOf cf Y[nn - s - m] X[s - 1 - a] = false) ∧ (r < r0 → ∀ (h : nn - 1 - r - m < Y.length) (h' : r - a < X.length), ltOf cf Y[nn - 1 - r - m] X[r - a] = true)))
    case atStart => exact ⟨s0, r0, rfl, rfl, Nat.le_refl _, j2, Nat.le_refl _, Nat.le_refl _, S0, ⟨fun h => absurd h (Nat.lt_irrefl _), fun h => absurd h (Nat.lt_irrefl _)⟩⟩
    case round =>
      clear S0
      obtain ⟨s, r, rfl, rfl, hss, hsr, hrr, hg1, S1, I⟩ := hrel
      by_cases hlt : s < r
      · have hlti : (s : Int) < (r : Int) := by omega
        obtain ⟨c, hc⟩ : ∃ c, (s + r) / 2 = c := ⟨_, rfl⟩
        have hc1 : s ≤ c := by omega
        have hc2 : c < r := by omega
        have hcX : c - a < X.length := by omega
        have hcY : nn - 1 - c - m < Y.length := by omega
        have q4 : ((s : Int) + (r : Int)) / 2 = (c : Int) := by omega
        have hpn := HPN.out
        have q5 : (pn : Int) - (c : Int) = ((nn - 1 - c : Nat) : Int) := by omega
        have q6 : IntKind.i64.wrap ((nn - 1 - c : Nat) : Int) = ((nn - 1 - c : Nat) : Int) := by rw [IntKind.wrap_i64]; omega
        clear hpn
        have jz : nn - 1 - c < N := by omega
        have jz2 : c < N := by omega
        have hgx : (A ++ (X ++ (Y ++ C))).toArray[c]! = X[c - a] := by
          rw [get_app (j := c - a) (by omega) (by simp; omega), List.getElem_append_left hcX]
        have hgy : (A ++ (X ++ (Y ++ C))).toArray[nn - 1 - c]! = Y[nn - 1 - c - m] := by
          rw [← List.append_assoc, get_app (j := nn - 1 - c - m) (by simp; omega) (by simp; omega), List.getElem_append_left hcY]
        obtain ⟨lj, lp, hcg, hsg⟩ := cmp_facts (P := P) S1.out R hs HDN.out HC.out (nn - 1 - c) c Y[nn - 1 - c - m] X[c - a] jz jz2 hgy hgx
        have HSG := Lib.hid hsg
        clear hsg hgx hgy S1
        by_cases hlv : cf Y[nn - 1 - c - m] X[c - a] < 0
        · have I2 : Aside ((s0 < s → ∀ (h : nn - s - m < Y.length) (h' : s - 1 - a < X.length), ltOf cf Y[nn - s - m] X[s - 1 - a] = false) ∧ (c < r0 → ∀ (h : nn - 1 - c - m < Y.length) (h' : c - a < X.length), ltOf cf Y[nn - 1 - c - m] X[c - a] = true)) := ⟨I.out.1, fun _ _ _ => decide_eq_true hlv⟩
          clear I hc
          generalize Y[nn - 1 - c - m] = y at *
          generalize X[c - a] = x at *
          generalize nn - 1 - c = c' at lj q5 q6 jz
          have hlvd : decide (cf y x < 0) = true := decide_eq_true hlv
          go_wp2_with fail
          go_quiet_grown (first | (go_at_fn g; refine Calls.grown_of (hcg _ _)))
          have S4 : Aside _ := HSG.out nq osq
          clear lj lp hcg
          go_wp2
          go_roundg (c - s)
          case measure => omega
          case rel => exact ⟨s, c, rfl, rfl, hss, hc1, by omega, Nat.le_refl _, S4, I2⟩
        · have I2 : Aside ((s0 < c + 1 → ∀ (h : nn - (c + 1) - m < Y.length) (h' : c + 1 - 1 - a < X.length), ltOf cf Y[nn - (c + 1) - m] X[c + 1 - 1 - a] = false) ∧ (r < r0 → ∀ (h : nn - 1 - r - m < Y.length) (h' : r - a < X.length), ltOf cf Y[nn - 1 - r - m] X[r - a] = true)) :=
            ⟨fun _ h h' => by simp only [show nn - (c + 1) - m = nn - 1 - c - m from by omega, Nat.add_sub_cancel]; exact decide_eq_false hlv, I.out.2⟩
          clear I hc
          generalize Y[nn - 1 - c - m] = y at *
          generalize X[c - a] = x at *
          generalize nn - 1 - c = c' at lj q5 q6 jz
          have hlvd : decide (cf y x < 0) = false := decide_eq_false hlv
          go_wp2_with fail
          go_quiet_grown (first | (go_at_fn g; refine Calls.grown_of (hcg _ _)))
          have S4 : Aside _ := HSG.out nq osq
          clear lj lp hcg
          go_wp2
          go_roundg (r - (c + 1))
          case measure => omega
          case rel => exact ⟨c + 1, r, by go_num, rfl, by omega, by omega, hrr, Nat.le_refl _, S4, I2⟩
      · obtain rfl : s = r := by omega
        have hltz : ¬ (s : Int) < (s : Int) := by omega
        obtain ⟨L1, L2, hXs, hL1⟩ := split_at X (s - a) (by omega)
        obtain ⟨e, he⟩ : ∃ e, nn - s = e := ⟨_, rfl⟩
        obtain ⟨R1, R2, hYs, hR1⟩ := split_at Y (e - m) (by omega)
        have hL12 : L1.length + L2.length = X.length := by rw [hXs]; simp
        have hR12 : R1.length + R2.length = Y.length := by rw [hYs]; simp
        have q4 : (nn : Int) - (s : Int) = (e : Int) := by omega
        have hcr : (∀ x ∈ R1, ∀ y ∈ L2, ltOf cf x y = true) ∧ (∀ x ∈ L1, ∀ y ∈ R2, ltOf cf y x = false) := by
          have hsdX : Sd (ltOf cf) tag X := HX.out
          have hsdY : Sd (ltOf cf) tag Y := HY.out
          have hI := I.out
          rw [hXs] at hsdX
          rw [hYs] at hsdY
          refine cut_facts hO hsdX hsdY ?_ ?_
          · by_cases hr : s < r0
            · by_cases hsm : s < mid
              · refine .inr (.inr ⟨by simp; omega, by simp; omega, ?_⟩)
                have := hI.2 hr (by omega) (by omega)
                simp only [hXs, hYs] at this
                simpa [hL1, hR1, show nn - 1 - s - m = e - m - 1 from by omega] using this
              · exact .inr (.inl (List.eq_nil_of_length_eq_zero (by omega)))
            · rcases j7 with h | h
              · exact .inl (List.eq_nil_of_length_eq_zero (by omega))
              · exact .inr (.inl (List.eq_nil_of_length_eq_zero (by omega)))
          · by_cases hr : s0 < s
            · by_cases heb : e < b
              · refine .inr (.inr ⟨by simp; omega, by simp; omega, ?_⟩)
                have := hI.1 hr (by omega) (by omega)
                simp only [hXs, hYs] at this
                simpa [hL1, hR1, show nn - s - m = e - m from by omega, show s - 1 - a = s - a - 1 from by omega] using this
              · exact .inr (.inl (List.eq_nil_of_length_eq_zero (by omega)))
            · rcases j6 with h | h
              · exact .inl (List.eq_nil_of_length_eq_zero (by omega))
              · exact .inr (.inl (List.eq_nil_of_length_eq_zero (by omega)))
        have hTL : Tl tag (L1 ++ L2) (R1 ++ R2) := by have := HT.out; rw [hXs, hYs] at this; exact this
        have hfin : Aside (∀ M1 M2 W, M1.Perm (L1 ++ R1) → M2.Perm (L2 ++ R2) → Sd (ltOf cf) tag M1 → Sd (ltOf cf) tag M2 → SWL enc k w0 blk off (A ++ (M1 ++ (M2 ++ C))) W → ∃ M, M.Perm (X ++ Y) ∧ Sd (ltOf cf) tag M ∧ SWL enc k w0 blk off (A ++ (M ++ C)) W) := fun M1 M2 W p1 p2 d1 d2 hW => by
          have hsdX : Sd (ltOf cf) tag X := HX.out
          have hsdY : Sd (ltOf cf) tag Y := HY.out
          rw [hXs] at hsdX
          rw [hYs] at hsdY
          refine ⟨M1 ++ M2, ?_, cut_done hO hsdX hsdY hTL p1 p2 d1 d2 hcr.1 hcr.2, by simpa using hW⟩
          rw [hXs, hYs]
          refine (p1.append p2).trans ?_
          simp only [List.append_assoc]
          refine List.Perm.append_left L1 ?_
          rw [← List.append_assoc, ← List.append_assoc]
          exact List.Perm.append_right R2 List.perm_append_comm
        have dL1 : Aside (Sd (ltOf cf) tag L1 ∧ Sd (ltOf cf) tag L2 ∧ Sd (ltOf cf) tag R1 ∧ Sd (ltOf cf) tag R2) := by
          have hsdX : Sd (ltOf cf) tag X := HX.out
          have hsdY : Sd (ltOf cf) tag Y := HY.out
          rw [hXs] at hsdX
          rw [hYs] at hsdY
          exact ⟨Sd.left hsdX, Sd.right hsdX, Sd.left hsdY, Sd.right hsdY⟩
        have dT : Aside (Tl tag L1 R1 ∧ Tl tag L2 R2) := ⟨fun x hx y hy => hTL x (by simp [hx]) y (by simp [hy]), fun x hx y hy => hTL x (by simp [hx]) y (by simp [hy])⟩
        have S2 : Aside (SWL enc k w0 blk off (A ++ (L1 ++ (L2 ++ (R1 ++ (R2 ++ C))))) wr) := by
          have : SWL enc k w0 blk off (A ++ (L1 ++ (L2 ++ (R1 ++ (R2 ++ C))))) wr := by
            have := S1.out
            rw [hXs, hYs] at this
            simpa using this
          exact this
        clear S1 I hXs hYs hcr hTL
        have hX12 : L1.length = s - a := hL1
        go_upto_region 38 with (fail)
        rename_i K2 aK2
        have HK2 := Lib.hid aK2
        clear aK2
        go_wp2
        refine HK2.out _ _ ?_
        refine merge_rest1 T enc g cb cf tag blk off cap N nI w0 _ e38 e39 HROT HIH A L1 L2 R1 R2 C a s mid m e b ha (by omega) (by omega) (by omega) (by omega) hN (by omega) (by omega) (by omega) dL1 dT S2 (fun W => ∃ M, M.Perm (X ++ Y) ∧ Sd (ltOf cf) tag M ∧ SWL enc k w0 blk off (A ++ (M ++ C)) W) hfin _ (Lib.hid fun tmps W hM => ?_) (by omega) _ _ _ _ _ _ _ _ _ _ _ _ _ _ _ _ _ _ _ _ _ _ _ _ _ _ _ _ _ _ _ _ _ _ _ _ _ _ _ _ _ _ _ _ _ _ _ _ _ _ _ _ _ _ _ _ _ _ _ _ _ _ _ _ _ _ _ _ _ _ _ _ _ _ _ _ _ _ _ _ _ _ _ _ _ _ _ _ _ _ _ _ _ _ _ _ _ _ _ _ _ _ _ _ _ _ _ _ _ _ _ _ _ _ _ _ _ _ _ _ _ _ _ _ _ _ _ _ _ _ _ _ _ _ _ _ _ _ _ _ _ _ _ _ _ _ _ _ _ _ _ _ _ _ _ _ _ _ _ _ _ _ _ _ _ _ _ _ _ _ _ _ _ _ _ _ _ _ _ _ _ _ _ _ _ _ _ _ _ _ _ _ _ _ _ _ _ _ _ _ _ _ _ _ _ _ _ _ _ _ _ _
        exact bodyPost_end (results_none rfl _ _ _) rfl ⟨rfl, hM⟩
end Go.Proofs.Ytkjddfmhledckaa.Stab
