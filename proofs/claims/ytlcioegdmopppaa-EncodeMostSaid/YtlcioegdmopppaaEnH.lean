/- encode.parts: its walk. -/
import Derived.Test.YtlcioegdmopppaaEnG
import Derived.Test.YtlcioegdmopppaaEnF
set_option linter.unusedSimpArgs false
namespace Go.Proofs.Ytlcioegdmopppaa.En
open Go.RowKit Go.Maps Go.Proofs.Ytlcioegdmopppaa.PEncodeBack Go.Proofs.YtlcioegdmopppaaW.PrintWords
set_option linter.unusedVariables false

set_option maxHeartbeats 4000000 in
set_option maxRecDepth 100000 in
theorem parts_c (w : World) (h : List S42) (A : Option Addr) (c : Nat) (hr : Kd.C k42 w A h.length h) (hl : Lim h 1000000) :
    Calls Try.prog 27 #[.agg #[.slice A h.length c]] w (POut w (partsP h)) := by
  have HR := Lib.hid hr
  have HL := Lib.hid hl
  obtain ⟨N, hN⟩ : ∃ N, h.length = N := ⟨_, rfl⟩
  have HN := Lib.hid hN
  have hNb : N ≤ 1000000 := by rw [← hN]; exact hl.h0
  have hmm := @run_makeMap Try.prog
  have hJ : PJ h w (((w.alloc (.cells #[.slice A N c] 24)).alloc (.map #[] 0)).alloc (.map #[] 0)) 0 [] [] 0 := by
    have h1 := MapI.made Try.prog 3 3 (w.alloc (.cells #[.slice A N c] 24))
    have h2 := MapI.made Try.prog 80 3 ((w.alloc (.cells #[.slice A N c] 24)).alloc (.map #[] 0))
    rw [World.size_alloc] at h1
    rw [World.size_alloc, World.size_alloc] at h2
    exact ⟨(h1.alloc _).imp fun v => by simp [IdS], h2.imp fun v => by simp [MetS], by omega, (((Below.refl _ _).alloc (Nat.le_refl _) _).alloc (by simp) _).alloc (by simp; omega) _, rfl⟩
  have HJ : Aside (PJ h w (((w.alloc (.cells #[.slice A N c] 24)).alloc (.map #[] 0)).alloc (.map #[] 0)) 0 [] [] 0) := hJ
  clear hr hN hl hJ
  rw [HN.out]
  go_enter Try.func27, Try.ntmps27
  go_wp2_with fail
  clear hmm
  go_loopw [19] (fun v19 wr => ∃ (k : Nat) (ids : List Int) (met : List (Int × Int)) (nm : Nat), k ≤ N ∧ v19 = .int .i64 k ∧ Aside (PJ h w wr k ids met nm)) (fun v19 _ => N - (intOf v19).toNat)
  case atStart => exact ⟨0, [], [], 0, by omega, rfl, HJ⟩
  case round =>
    clear HJ
    obtain ⟨k, ids, met, nm, hk, rfl, HJ⟩ := hrel
    by_cases hlt : k < N
    · have hkl : k < h.length := by rw [HN.out]; exact hlt
      have hj := HJ.out
      obtain ⟨ad, A2, c2, rfl, g0, g1, g2, l2, h2⟩ := at_T42 HR.out (k : Int) (by omega) (by omega)
      rw [rd42 hkl] at g0 g1 g2 l2 h2
      rw [Int.toNat_natCast] at g0 g1 g2
      replace g0 := pw_cell_below hj.bel g0
      replace g1 := pw_cell_below hj.bel g1
      replace g2 := pw_cell_below hj.bel g2
      have hlti : (k : Int) < N := by omega
      have hmem := List.getElem_mem hkl
      have hv := hj.val
      rw [List.drop_eq_getElem_cons hkl] at hv
      have hML := HL.out.h1 _ hmem
      have HL3 := Lib.hid (HL.out.h2 _ hmem)
      have HPJ := Lib.hid hj
      clear hj HJ
      generalize h[k] = t at *
      obtain ⟨t0, t1, t2⟩ := t
      unfold txnsP at hv
      simp only at *
      have HV := Lib.hid hv
      have H2 := Lib.hid h2
      obtain ⟨M, hM⟩ : ∃ M, t2.length = M := ⟨_, rfl⟩
      have HM := Lib.hid hM
      rw [hM] at g2 l2 hML
      have hb5 : Below wr.heap.size wr ((wr.alloc (.cells #[.int .i64 t0, .bool t1, .slice A2 M c2] 42)).alloc (.cells #[.int .i64 t0] 3)) := ((Below.refl _ _).alloc (Nat.le_refl _) _).alloc (by simp) _
      have hmay := may_c ((wr.alloc (.cells #[.int .i64 t0, .bool t1, .slice A2 M c2] 42)).alloc (.cells #[.int .i64 t0] 3)) (some ⟨wr.heap.size + 1, 0, none⟩) 1 [t0] (ints_laid (l := [t0]) (blk_new2 wr _ [.int .i64 t0] 3) (by simp)) (by unfold big; simp)
      simp only [List.length_cons, List.length_nil, List.all_cons, List.all_nil, Bool.and_true, Nat.zero_add] at hmay
      have HPJ5 := Lib.hid (HPJ.out.below hb5)
      have HT6 : Hid (Blk ((wr.alloc (.cells #[.int .i64 t0, .bool t1, .slice A2 M c2] 42)).alloc (.cells #[.int .i64 t0] 3)) wr.heap.size [.int .i64 t0, .bool t1, .slice A2 M c2] 42) := Lib.hid ((Blk.new wr [.int .i64 t0, .bool t1, .slice A2 M c2] 42).alloc _)
      have HMAY := Lib.hid hmay
      have HRO := Lib.hid h2
      have hsz := HPJ.out.met_.lt
      clear hv h2 hM hmay hb5 H2
      cases hok : okN t0 with
      | false =>
        rw [hok] at HMAY HV
        rw [if_pos rfl] at HV
        have HFI : Hid (∀ W, Below w.heap.size w W → POut w (partsP h) (.returned (.int .i64 2)) W) := Lib.hid fun W hb => ⟨by rw [HV.out], hb⟩
        clear hok
        go_wp2_with (go_at_call 44; ((with_reducible refine HMAY.out.mono ?_); rintro e w' ⟨rfl, rfl⟩))
        go_ret
        exact HFI.out _ HPJ5.out.bel
      | true =>
        rw [hok] at HMAY HV
        rw [if_neg (by decide)] at HV
        have HKY := Lib.hid (keyI hok)
        clear hok
        cases hin : decide (t0 ∈ ids) with
        | true =>
          have hmemi : t0 ∈ ids := of_decide_eq_true hin
          rw [if_pos hmemi] at HV
          have HIS : Hid (IdS ids (.int .i64 t0)) := Lib.hid ((idS_iff ids t0).1 hin)
          have HFI : Hid (∀ W, Below w.heap.size w W → POut w (partsP h) (.returned (.int .i64 5)) W) := Lib.hid fun W hb => ⟨by rw [HV.out], hb⟩
          clear hin hmemi
          go_wp2_with (first
            | (go_at_call 44; ((with_reducible refine HMAY.out.mono ?_); rintro e w' ⟨rfl, rfl⟩))
            | (at_lookup; refine wpl_ask rfl (.tmp 30) (.tmp 32) 62 rfl 3 3 .i64 lawI Try.underlying62 Try.underlying3 (zeroI _) (w.heap.size + 1) k (IdS ids) rfl HPJ5.out.ids_ (.int .i64 t0) (.int .i64 t0) rfl HKY.out true ⟨fun _ => HIS.out, fun _ => rfl⟩ ?_; intro cq))
          go_ret
          exact HFI.out _ HPJ5.out.bel
        | false =>
          have hmemi : ¬ t0 ∈ ids := of_decide_eq_false hin
          rw [if_neg hmemi] at HV
          have HIS : Hid (false = true ↔ IdS ids (.int .i64 t0)) := Lib.hid (by have hq := idS_iff ids t0; rw [hin] at hq; exact hq)
          have hkwf : (Lit.int .i64 (k : Int)).wf = true := WalkArith.wf_i64 (by omega)
          have HKW := Lib.hid hkwf
          clear hin hmemi hkwf
          go_wp2_with (first
            | (go_at_call 44; ((with_reducible refine HMAY.out.mono ?_); rintro e w' ⟨rfl, rfl⟩))
            | (at_lookup; refine wpl_ask rfl (.tmp 30) (.tmp 32) 62 rfl 3 3 .i64 lawI Try.underlying62 Try.underlying3 (zeroI _) (w.heap.size + 1) k (IdS ids) rfl HPJ5.out.ids_ (.int .i64 t0) (.int .i64 t0) rfl HKY.out false HIS.out ?_; intro cq)
            | (at_mapUpdate; refine wpl_put rfl (.tmp 37) (.tmp 39) (.tmp 40) 62 rfl 3 3 .i64 lawI Try.underlying62 Try.underlying3 (w.heap.size + 1) k (IdS ids) rfl HPJ5.out.ids_ (by unfold maxLen; omega) (.int .i64 t0) (.int .i64 t0) rfl HKY.out (k : Int) rfl HKW.out ?_; intro w5 hM5 hg5; have HG5 := Lib.hid hg5; have HM5 := Lib.hid hM5; have hx2 := (HT6.out.block_ hg5 (by simp; omega)).cell 2; simp only [List.getElem?_cons_succ, List.getElem?_cons_zero] at hx2; clear hg5 hM5))
          have hp0 : PO t2 w w5 k 0 (t0 :: ids) met met nm := by
            refine ⟨HM5.out.imp (idS_cons ids t0), HPJ5.out.met_.grown HG5.out (by simp), Nat.le_trans HPJ5.out.nm_ (Nat.le_add_right _ _), below_map (by omega) HPJ5.out.bel HG5.out, rfl⟩
          have HP0 : Aside (PO t2 w w5 k 0 (t0 :: ids) met met nm) := hp0
          clear hp0 hx2 HT6 HMAY HPJ5 HG5 HM5 HIS HKY HPJ
          go_loopw [44] (fun v44 wi => ∃ (j : Nat) (met2 : List (Int × Int)) (nm2 : Nat), j ≤ M ∧ v44 = .int .i64 j ∧ Aside (PO t2 w wi k j (t0 :: ids) met met2 nm2)) (fun v44 _ => M - (intOf v44).toNat)
          case atStart => exact ⟨0, met, nm, by omega, rfl, HP0⟩
          case round =>
            clear HP0
            obtain ⟨j, met2, nm2, hj, rfl, HP⟩ := hrel
            by_cases hjl : j < M
            · have hjt : j < t2.length := by rw [HM.out]; exact hjl
              have hp := HP.out
              obtain ⟨ad2, A3, c3, rfl, q0, q1, q2, q3, l3, h3⟩ := at_T39 HRO.out (j : Int) (by omega) (by omega)
              rw [rd39 hjt] at q0 q1 q2 q3 l3 h3
              rw [Int.toNat_natCast] at q0 q1 q2 q3
              replace q0 := pw_cell_below hp.bel q0
              replace q1 := pw_cell_below hp.bel q1
              replace q2 := pw_cell_below hp.bel q2
              replace q3 := pw_cell_below hp.bel q3
              have hjlt : (j : Int) < M := by omega
              have hv := hp.val
              rw [List.drop_eq_getElem_cons hjt] at hv
              have hol := HL3.out _ (List.getElem_mem hjt)
              have HPO := Lib.hid hp
              have hszi := hp.met_.lt
              clear hp HP
              generalize t2[j] = o at *
              have HMO := Lib.hid (fun (W : World) (hb : Below w.heap.size w W) => mayOp_c W o A3 c3 (Kd.C_below h3 hb) (by unfold big; omega))
              obtain ⟨o0, o1, o2, o3⟩ := o
              simp only [opsP] at hv
              simp only at HMO q0 q1 q2 q3 l3 hol
              have HVV := Lib.hid hv
              have HOKK : Hid (okOp ⟨o0, o1, o2, o3⟩ = true → okN o1 = true ∧ (o0 = false → okN o2 = true)) := Lib.hid fun hq => by
                unfold okOp at hq
                simp only [Bool.and_eq_true] at hq
                refine ⟨hq.1, fun h0 => ?_⟩
                subst h0
                have := hq.2
                simp only [Bool.false_eq_true, if_false, Bool.and_eq_true] at this
                exact this.1
              generalize hokb : okOp ⟨o0, o1, o2, o3⟩ = okb at *
              clear hokb hv
              generalize o3.length = L at *
              have hbA : Below wr.heap.size wr (wr.alloc (.cells #[.bool o0, .int .i64 o1, .int .i64 o2, .slice A3 L c3] 39)) := (Below.refl _ _).alloc (Nat.le_refl _) _
              have HM1 := Lib.hid (HMO.out _ (link HPO.out.bel hbA))
              have HT : Hid (Blk (wr.alloc (.cells #[.bool o0, .int .i64 o1, .int .i64 o2, .slice A3 L c3] 39)) wr.heap.size [.bool o0, .int .i64 o1, .int .i64 o2, .slice A3 L c3] 39) := Lib.hid (Blk.new wr [.bool o0, .int .i64 o1, .int .i64 o2, .slice A3 L c3] 39)
              have HPA := Lib.hid (HPO.out.below hbA)
              clear HMO hbA h3
              cases okb with
              | false =>
                have HFI : Hid (∀ W, Below w.heap.size w W → POut w (partsP h) (.returned (.int .i64 2)) W) := Lib.hid fun W hb => ⟨by rw [HV.out, HVV.out]; rfl, hb⟩
                go_wp2_with fail
                refine HM1.out.mono ?_
                rintro e w6 ⟨rfl, hb6⟩
                have hbF := link HPA.out.bel hb6
                go_wp2
                go_ret
                exact HFI.out _ hbF
              | true =>
                cases o0 with
                | true =>
                  have hpn : opsP t2 met = opsP (t2.drop (j + 1)) met2 := by rw [HVV.out]; rfl
                  have HPN := Lib.hid hpn
                  clear hpn
                  go_wp2_with fail
                  refine HM1.out.mono ?_
                  rintro e w6 ⟨rfl, hb6⟩
                  have hx0 := (HT.out.below hb6 HT.out.lt).cell 0
                  simp only [List.getElem?_cons_zero] at hx0
                  have hpo : PO t2 w w6 k (j + 1) (t0 :: ids) met met2 nm2 := by
                    have hq := HPA.out.below hb6
                    exact ⟨hq.ids_, hq.met_, Nat.le_trans hq.nm_ (by omega), hq.bel, HPN.out⟩
                  have HP2 : Aside (PO t2 w w6 k (j + 1) (t0 :: ids) met met2 nm2) := hpo
                  clear hpo hb6
                  go_wp2
                  go_roundw
                  case rel => exact ⟨j + 1, met2, nm2, by omega, by go_num, HP2⟩
                  case measure => simp [intOf]; omega
                | false =>
                  obtain ⟨hk1, hk2⟩ := HOKK.out rfl
                  obtain ⟨kl, hkl2⟩ := keyP hk1 (hk2 rfl)
                  have HKL := Lib.hid hkl2
                  clear hk1 hk2 hkl2 HOKK
                  cases hin : decide ((o1, o2) ∈ met2) with
                  | true =>
                    have hmi : (o1, o2) ∈ met2 := of_decide_eq_true hin
                    have hpn : opsP t2 met = (6, met2) := by rw [HVV.out]; simp [hmi]
                    have HFI : Hid (∀ W, Below w.heap.size w W → POut w (partsP h) (.returned (.int .i64 6)) W) := Lib.hid fun W hb => ⟨by rw [HV.out, hpn]; rfl, hb⟩
                    have HMS : Hid (MetS met2 (.agg #[.int .i64 o1, .int .i64 o2])) := Lib.hid ((metS_iff met2 o1 o2).1 hin)
                    clear hin hmi hpn
                    go_wp2_with fail
                    refine HM1.out.mono ?_
                    rintro e w6 ⟨rfl, hb6⟩
                    have hx0 := (HT.out.below hb6 HT.out.lt).cell 0
                    have hx1 := (HT.out.below hb6 HT.out.lt).cell 1
                    have hx2 := (HT.out.below hb6 HT.out.lt).cell 2
                    simp only [List.getElem?_cons_zero, List.getElem?_cons_succ] at hx0 hx1 hx2
                    have hP6 := HPA.out.below hb6
                    have hP7 := hP6.below ((Below.refl w6.heap.size w6).alloc (Nat.le_refl _) (.cells #[.int .i64 o1, .int .i64 o2] 80))
                    have HP7 := Lib.hid hP7
                    clear hP6 hP7 hb6
                    go_wp2_with (at_lookup; refine wpl_ask rfl (.tmp 59) (.tmp 60) 76 rfl 80 3 .i64 lawP Try.underlying76 Try.underlying3 (zeroI _) (w.heap.size + 2) nm2 (MetS met2) rfl HP7.out.met_ (.agg #[.int .i64 o1, .int .i64 o2]) kl rfl HKL.out true ⟨fun _ => HMS.out, fun _ => rfl⟩ ?_; intro cq2)
                    go_ret
                    exact HFI.out _ HP7.out.bel
                  | false =>
                    have hmi : ¬ (o1, o2) ∈ met2 := of_decide_eq_false hin
                    have hpn : opsP t2 met = opsP (t2.drop (j + 1)) ((o1, o2) :: met2) := by rw [HVV.out]; simp [hmi]
                    have HPN := Lib.hid hpn
                    have HMS : Hid (false = true ↔ MetS met2 (.agg #[.int .i64 o1, .int .i64 o2])) := Lib.hid (by have hq := metS_iff met2 o1 o2; rw [hin] at hq; exact hq)
                    have hnmx := HPO.out.nm_
                    clear hin hmi hpn
                    go_wp2_with fail
                    refine HM1.out.mono ?_
                    rintro e w6 ⟨rfl, hb6⟩
                    have hx0 := (HT.out.below hb6 HT.out.lt).cell 0
                    have hx1 := (HT.out.below hb6 HT.out.lt).cell 1
                    have hx2 := (HT.out.below hb6 HT.out.lt).cell 2
                    simp only [List.getElem?_cons_zero, List.getElem?_cons_succ] at hx0 hx1 hx2
                    have hP6 := HPA.out.below hb6
                    have hP7 := hP6.below ((Below.refl w6.heap.size w6).alloc (Nat.le_refl _) (.cells #[.int .i64 o1, .int .i64 o2] 80))
                    have HP7 := Lib.hid hP7
                    clear hP6 hP7 hb6
                    go_wp2_with (first
                      | (at_lookup; refine wpl_ask rfl (.tmp 59) (.tmp 60) 76 rfl 80 3 .i64 lawP Try.underlying76 Try.underlying3 (zeroI _) (w.heap.size + 2) nm2 (MetS met2) rfl HP7.out.met_ (.agg #[.int .i64 o1, .int .i64 o2]) kl rfl HKL.out false HMS.out ?_; intro cq2)
                      | (at_mapUpdate; refine wpl_put rfl (.tmp 65) (.tmp 66) (.tmp 67) 76 rfl 80 3 .i64 lawP Try.underlying76 Try.underlying3 (w.heap.size + 2) nm2 (MetS met2) rfl HP7.out.met_ (by unfold maxLen; omega) (.agg #[.int .i64 o1, .int .i64 o2]) kl rfl HKL.out (k : Int) rfl HKW.out ?_; intro w8 hM8 hg8; have hpo : PO t2 w w8 k (j + 1) (t0 :: ids) met ((o1, o2) :: met2) (nm2 + 1) := ⟨HP7.out.ids_.grown hg8 (by simp), hM8.imp (metS_cons met2 o1 o2), by omega, below_map (by omega) HP7.out.bel hg8, HPN.out⟩; have HP2 : Aside (PO t2 w w8 k (j + 1) (t0 :: ids) met ((o1, o2) :: met2) (nm2 + 1)) := hpo; clear hpo hM8 hg8))
                    go_roundw
                    case rel => exact ⟨j + 1, (o1, o2) :: met2, nm2 + 1, by omega, by go_num, HP2⟩
                    case measure => simp [intOf]; omega
            · have hjlt : ¬ (j : Int) < M := by omega
              have hp := HP.out
              have hjt : t2.length ≤ j := by rw [HM.out]; omega
              have hv := hp.val
              rw [List.drop_eq_nil_of_le hjt] at hv
              have hpj : PJ h w wr (k + 1) (t0 :: ids) met2 nm2 := ⟨hp.ids_, hp.met_, by have := hp.nm_; rw [Nat.add_mul]; omega, hp.bel, by rw [HV.out, hv]; rfl⟩
              have HPJ2 : Aside (PJ h w wr (k + 1) (t0 :: ids) met2 nm2) := hpj
              clear hp hv hpj HP
              go_wp2
              go_roundw
              case rel => exact ⟨k + 1, t0 :: ids, met2, nm2, by omega, by go_num, HPJ2⟩
              case measure => simp [intOf]; omega
    · have hlti : ¬ (k : Int) < N := by omega
      have hj := HJ.out
      have hkN : h.length ≤ k := by rw [HN.out]; omega
      have hv := hj.val
      rw [List.drop_eq_nil_of_le hkN] at hv
      have HFI : Hid (POut w (partsP h) (.returned (.int .i64 0)) wr) := Lib.hid ⟨by rw [hv]; rfl, hj.bel⟩
      clear hj HJ hkN hv
      go_wp2
      go_ret
      exact HFI.out
end Go.Proofs.Ytlcioegdmopppaa.En
