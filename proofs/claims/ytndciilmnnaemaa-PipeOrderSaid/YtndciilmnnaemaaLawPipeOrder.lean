/- The walk of the law PipeOrder. -/
import Derived.Test.YtndciilmnnaemaaPipeOrdPlain
set_option linter.unusedVariables false
set_option linter.unusedSimpArgs false
namespace Go.Proofs.Ytndciilmnnaemaa
open Go.RowKit Go.Shelf Go.Proofs.YtndciilmnnaemaaW.PrintWords

set_option maxRecDepth 100000 in
set_option maxHeartbeats 2000000 in
theorem porder_main (w : World) (r0 : Nat) (A0 : Option Addr) (c0 : Nat) (l : List ByteArray) (how : Int) (hr : Hid (ReadsRow StK 1 w A0 l.length l)) (hl : l.length ≤ 200) (hr0 : r0 ≤ 255) (hh0 : 0 ≤ how) (hh1 : how ≤ 255) :
    Calls Try.prog 16 #[.int .u8 r0, .slice A0 l.length c0, .int .u8 how] w fun e w' => e = .returned (.bool true) ∧ Below w.heap.size w w' := by
  have HN := Lib.hid (DqS.pnew_calls w (1 + (r0 : Int) % 64) (by omega) (by omega))
  go_enter Try.func16, Try.ntmps16
  go_wp2_with fail
  refine HN.out.mono ?_
  rintro e w1 ⟨rfl, ⟨cs0, h0⟩, hb⟩
  obtain ⟨room, hroom⟩ : ∃ room : Nat, (1 + (r0 : Int) % 64).toNat = room := ⟨_, rfl⟩
  rw [hroom] at h0
  have hJ0 : OrJ w w1 room l 0 (.slice none 0 0) (.int .i64 ((0 : Nat) : Int)) := ⟨cs0, 0, 0, false, none, 0, rfl, rfl, ⟨h0, own_nil _ _ _ _, fun q hq => by simp [Value.ownBlock] at hq, Nat.le_refl _, by omega, by omega, by simp, hb⟩, .inl (by omega)⟩
  clear h0 hb HN hroom
  go_wp2_with fail
  go_loopw [9, 10, 11, 12, 13] (fun v9 v10 v11 _ _ wr => ∃ k : Nat, k ≤ 3 * l.length + 3 ∧ v11 = .int .i64 k ∧ OrJ w wr room l k v9 v10) (fun _ _ v11 _ _ _ => 3 * l.length + 3 - (intOf v11).toNat)
  case atStart => exact ⟨0, by omega, rfl, hJ0⟩
  case round =>
    clear hJ0
    obtain ⟨k, hk, rfl, cs, s, g, cl, A, c, rfl, rfl, hI, hK⟩ := hrel
    have hpos : 0 < room := hI.pi.pos
    have hsn := hI.sn
    have hgs0 := hI.gs
    have hs200 : (s : Int) ≤ 200 := by omega
    have hg200i : (g : Int) ≤ 200 := by omega
    have hg200 : g ≤ 1000000000 := by omega
    have hbs := hI.below.size
    by_cases hlt : k < 3 * l.length + 3
    · have hlti : (k : Int) < 3 * l.length + 3 := by omega
      have hk8 : (k : Int) ≤ 700 := by omega
      by_cases hsl : s < l.length
      · have hclf : cl = false := by
          cases cl
          · rfl
          · have := hI.cl_ rfl; omega
        subst hclf
        simp only [Bool.false_eq_true, if_false, Nat.add_zero, and_false, or_false] at hK
        have hsli : (s : Int) < l.length := by omega
        obtain ⟨ad, rfl, e0⟩ := st_at hr.out hsl
        have E0 := Lib.hid e0
        replace e0 := pw_cell_below hI.below e0
        by_cases hb : ((how / 2 ^ (k % 8)).tmod 2 == 0) = true
        · have HB := Lib.hid hb
          by_cases hf : s - g < room
          · obtain ⟨t1, t2⟩ := hI.send hsl hf
            have HS := Lib.hid (DqS.psend_of _ _ _ _ _ l[s] hI.pi (by rw [hI.ql]; omega) (by simp only; omega) hbs)
            rw [t1] at HS
            have HT := Lib.hid t2
            clear t1 t2 hI
            go_wp2_with fail
            refine HS.out.mono ?_
            rintro e w3 ⟨rfl, cs3, hP, hS⟩
            have HG := Lib.hid (HT.out w3 cs3 hP hS)
            clear hP hS HS HT
            go_wp2
            go_roundw
            case rel => exact ⟨k + 1, by omega, by go_num, cs3, s + 1, g, _, A, c, rfl, by go_num, HG.out, .inl (by simp; omega)⟩
            case measure => simp [intOf]; omega
          · have hgs : g < s := by omega
            obtain ⟨t1, t2⟩ := hI.full hf l[s]
            have HS := Lib.hid (DqS.psend_of _ _ _ _ _ l[s] hI.pi (by rw [hI.ql]; omega) (by simp only; omega) hbs)
            rw [t1] at HS
            have HT := Lib.hid t2
            clear t1 t2 hI
            go_wp2_with fail
            refine HS.out.mono ?_
            rintro e w5 ⟨rfl, cs5, hP, hS⟩
            have HO := Lib.hid (HT.out w5 cs5 hP hS)
            clear hP hS HS HT
            obtain ⟨t1, t2, t3⟩ := HO.out.recv hgs
            have HR := Lib.hid (DqS.precv_calls _ _ _ _ _ HO.out.pi hg200)
            rw [t1, t2] at HR
            have HT := Lib.hid t3
            clear t1 t2 t3
            unfold DqS.enc at HR
            go_wp2_with fail
            refine HR.out.mono ?_
            rintro e w3 ⟨rfl, cs3, hP, hS⟩
            have HO3 := Lib.hid (HT.out w3 cs3 hP hS)
            have hs3 := HO3.out.below.size
            have hgl : g < l.length := by have := HO3.out.sn; omega
            clear hP hS HR HT
            have ho0 : (w3.alloc (.cells #[.string l[g]] 9)).ownsRow w.heap.size 9 1 (.slice A g c) g ((l.take g).map DqS.enc) := HO3.out.own.alloc _
            have HO0 := Lib.hid ho0
            have HNl : Hid (((l.take g).map DqS.enc).length = g) := Lib.hid (by rw [List.length_map, List.length_take]; omega)
            clear ho0
            go_wp2_with (at_builtin; refine wpl_app (w0 := w) w.heap.size rfl (.tmp 87) (.tmp 89) 53 9 (Value.string ⟨#[]⟩) 16 rfl Try.underlying53 (by kernel_rfl) rfl (by decide) (.slice A g c) ((l.take g).map DqS.enc) [.string l[g]] (some ⟨w3.heap.size, 0, none⟩) g 1 1 rfl rfl HNl.out rfl HO0.out (Cells.new _ _ _) (by simp [Value.oneCell']) (HO3.out.below.alloc hs3 _) (Nat.le_trans hs3 (by simp)) (by omega) ?_; intro A1 c1 w4 ho4 hb4 hg4 ha4 hc4; have HG := Lib.hid (HO3.out.got hgl rfl ho4 hb4 hg4 ha4); clear ho4 hb4 hg4 ha4; clear HO3 HO0; obtain ⟨d, hd⟩ : ∃ d, s = d + (g + 1) := ⟨s - (g + 1), by have := HG.out.gs; omega⟩; have hdr : decide (room < d) = false := decide_eq_false (by have := HG.out.rm; omega); have hsub : (s : Int) - ((g : Int) + 1) = (d : Int) := (by omega); have L0 := DqS.plen_calls _ _ _ _ _ HG.out.pi; have L1 := DqS.proom_calls _ _ _ _ _ HG.out.pi; rw [HG.out.ql, show s - (g + 1) = d from by omega] at L0; have HL0 := Lib.hid L0; have HL1 := Lib.hid L1; clear L0 L1 hd)
            go_wp2_with (first | (go_at_call 58; refine HL0.out.mono ?_; rintro e w' ⟨rfl, rfl⟩) | (go_at_call 59; refine HL1.out.mono ?_; rintro e w' ⟨rfl, rfl⟩))
            go_roundw
            case rel => exact ⟨k + 1, by omega, by go_num, cs3, s, g + 1, _, A1, c1, rfl, rfl, HG.out, .inl (by simp; omega)⟩
            case measure => simp [intOf]; omega
        · have hbf : ((how / 2 ^ (k % 8)).tmod 2 == 0) = false := by simpa using hb
          clear hb
          have HO := Lib.hid hI
          clear hI
          by_cases hgs : g < s
          · skip
            obtain ⟨t1, t2, t3⟩ := HO.out.recv hgs
            have HR := Lib.hid (DqS.precv_calls _ _ _ _ _ HO.out.pi hg200)
            rw [t1, t2] at HR
            have HT := Lib.hid t3
            clear t1 t2 t3
            unfold DqS.enc at HR
            go_wp2_with fail
            refine HR.out.mono ?_
            rintro e w3 ⟨rfl, cs3, hP, hS⟩
            have HO3 := Lib.hid (HT.out w3 cs3 hP hS)
            have hs3 := HO3.out.below.size
            have hgl : g < l.length := by have := HO3.out.sn; omega
            clear hP hS HR HT
            have ho0 : (w3.alloc (.cells #[.string l[g]] 9)).ownsRow w.heap.size 9 1 (.slice A g c) g ((l.take g).map DqS.enc) := HO3.out.own.alloc _
            have HO0 := Lib.hid ho0
            have HNl : Hid (((l.take g).map DqS.enc).length = g) := Lib.hid (by rw [List.length_map, List.length_take]; omega)
            clear ho0
            go_wp2_with (at_builtin; refine wpl_app (w0 := w) w.heap.size rfl (.tmp 87) (.tmp 89) 53 9 (Value.string ⟨#[]⟩) 16 rfl Try.underlying53 (by kernel_rfl) rfl (by decide) (.slice A g c) ((l.take g).map DqS.enc) [.string l[g]] (some ⟨w3.heap.size, 0, none⟩) g 1 1 rfl rfl HNl.out rfl HO0.out (Cells.new _ _ _) (by simp [Value.oneCell']) (HO3.out.below.alloc hs3 _) (Nat.le_trans hs3 (by simp)) (by omega) ?_; intro A1 c1 w4 ho4 hb4 hg4 ha4 hc4; have HG := Lib.hid (HO3.out.got hgl rfl ho4 hb4 hg4 ha4); clear ho4 hb4 hg4 ha4; clear HO3 HO0; obtain ⟨d, hd⟩ : ∃ d, s = d + (g + 1) := ⟨s - (g + 1), by have := HG.out.gs; omega⟩; have hdr : decide (room < d) = false := decide_eq_false (by have := HG.out.rm; omega); have hsub : (s : Int) - ((g : Int) + 1) = (d : Int) := (by omega); have L0 := DqS.plen_calls _ _ _ _ _ HG.out.pi; have L1 := DqS.proom_calls _ _ _ _ _ HG.out.pi; rw [HG.out.ql, show s - (g + 1) = d from by omega] at L0; have HL0 := Lib.hid L0; have HL1 := Lib.hid L1; clear L0 L1 hd)
            go_wp2_with (first | (go_at_call 58; refine HL0.out.mono ?_; rintro e w' ⟨rfl, rfl⟩) | (go_at_call 59; refine HL1.out.mono ?_; rintro e w' ⟨rfl, rfl⟩))
            go_roundw
            case rel => exact ⟨k + 1, by omega, by go_num, cs3, s, g + 1, _, A1, c1, rfl, rfl, HG.out, .inl (by simp; omega)⟩
            case measure => simp [intOf]; omega
          · have hge : g = s := by omega
            subst hge
            obtain ⟨t1, t2, t3⟩ := HO.out.empty rfl
            have HR := Lib.hid (DqS.precv_calls _ _ _ _ _ HO.out.pi hg200)
            rw [t1, t2] at HR
            have HT := Lib.hid t3
            clear t1 t2 t3
            unfold DqS.enc at HR
            simp only [Bool.false_eq_true, if_false] at HR
            go_wp2_with fail
            refine HR.out.mono ?_
            rintro e w3 ⟨rfl, cs3, hP, hS⟩
            have hI3 := HT.out w3 cs3 hP hS
            have e3 := pw_cell_below hI3.below E0.out
            obtain ⟨t1, t2⟩ := hI3.send hsl (by omega)
            have HS := Lib.hid (DqS.psend_of _ _ _ _ _ l[g] hI3.pi (by rw [hI3.ql]; omega) (by simp only; omega) hI3.below.size)
            rw [t1] at HS
            have HT2 := Lib.hid t2
            clear t1 t2 hI3 hP hS HR HT
            go_wp2_with fail
            refine HS.out.mono ?_
            rintro e w4 ⟨rfl, cs4, hP, hS⟩
            have HG := Lib.hid (HT2.out w4 cs4 hP hS)
            clear hP hS HS HT2
            have hdr : decide (room < 1) = false := decide_eq_false (by omega)
            have hsub : ((g : Int) + 1) - (g : Int) = 1 := by omega
            have L0 := DqS.plen_calls _ _ _ _ _ HG.out.pi
            have L1 := DqS.proom_calls _ _ _ _ _ HG.out.pi
            rw [HG.out.ql, show g + 1 - g = 1 from by omega] at L0
            have HL0 := Lib.hid L0
            have HL1 := Lib.hid L1
            have hposi : ¬ ((room : Int) < 1) := by omega
            clear L0 L1
            go_wp2_with (first | (go_at_call 58; refine HL0.out.mono ?_; rintro e w' ⟨rfl, rfl⟩) | (go_at_call 59; refine HL1.out.mono ?_; rintro e w' ⟨rfl, rfl⟩))
            go_roundw
            case rel => exact ⟨k + 1, by omega, by go_num, cs4, g + 1, g, _, A, c, rfl, by go_num, HG.out, .inl (by simp; omega)⟩
            case measure => simp [intOf]; omega
      · have hse : s = l.length := by omega
        have hsli : ¬ (s : Int) < l.length := by omega
        have hseb : ((s : Int) == (l.length : Int)) = true := by rw [hse]; simp
        have hcl := DqS.pclose_calls _ _ _ _ _ hI.pi
        simp only at hcl
        generalize (if cl = true then (11 : Int) else 0) = ce at hcl
        have HCl := Lib.hid hcl
        clear hcl
        have HI := Lib.hid hI
        have HSE := Lib.hid hse
        clear hI hse
        rcases Bool.eq_false_or_eq_true ((how / 2 ^ (k % 8)).tmod 2 == 0) with hbb | hbb
        all_goals
          go_wp2_with fail
          refine HCl.out.mono ?_
          rintro e w5 ⟨rfl, cs5, hP, hS⟩
          have HO := Lib.hid (HI.out.close HSE.out hP hS)
          clear hP hS HCl HI
          by_cases hgs : g < s
          · skip
            obtain ⟨t1, t2, t3⟩ := HO.out.recv hgs
            have HR := Lib.hid (DqS.precv_calls _ _ _ _ _ HO.out.pi hg200)
            rw [t1, t2] at HR
            have HT := Lib.hid t3
            clear t1 t2 t3
            unfold DqS.enc at HR
            go_wp2_with fail
            refine HR.out.mono ?_
            rintro e w3 ⟨rfl, cs3, hP, hS⟩
            have HO3 := Lib.hid (HT.out w3 cs3 hP hS)
            have hs3 := HO3.out.below.size
            have hgl : g < l.length := by have := HO3.out.sn; omega
            clear hP hS HR HT
            have ho0 : (w3.alloc (.cells #[.string l[g]] 9)).ownsRow w.heap.size 9 1 (.slice A g c) g ((l.take g).map DqS.enc) := HO3.out.own.alloc _
            have HO0 := Lib.hid ho0
            have HNl : Hid (((l.take g).map DqS.enc).length = g) := Lib.hid (by rw [List.length_map, List.length_take]; omega)
            clear ho0
            go_wp2_with (at_builtin; refine wpl_app (w0 := w) w.heap.size rfl (.tmp 87) (.tmp 89) 53 9 (Value.string ⟨#[]⟩) 16 rfl Try.underlying53 (by kernel_rfl) rfl (by decide) (.slice A g c) ((l.take g).map DqS.enc) [.string l[g]] (some ⟨w3.heap.size, 0, none⟩) g 1 1 rfl rfl HNl.out rfl HO0.out (Cells.new _ _ _) (by simp [Value.oneCell']) (HO3.out.below.alloc hs3 _) (Nat.le_trans hs3 (by simp)) (by omega) ?_; intro A1 c1 w4 ho4 hb4 hg4 ha4 hc4; have HG := Lib.hid (HO3.out.got hgl rfl ho4 hb4 hg4 ha4); clear ho4 hb4 hg4 ha4; clear HO3 HO0; obtain ⟨d, hd⟩ : ∃ d, s = d + (g + 1) := ⟨s - (g + 1), by have := HG.out.gs; omega⟩; have hdr : decide (room < d) = false := decide_eq_false (by have := HG.out.rm; omega); have hsub : (s : Int) - ((g : Int) + 1) = (d : Int) := (by omega); have L0 := DqS.plen_calls _ _ _ _ _ HG.out.pi; have L1 := DqS.proom_calls _ _ _ _ _ HG.out.pi; rw [HG.out.ql, show s - (g + 1) = d from by omega] at L0; have HL0 := Lib.hid L0; have HL1 := Lib.hid L1; clear L0 L1 hd)
            go_wp2_with (first | (go_at_call 58; refine HL0.out.mono ?_; rintro e w' ⟨rfl, rfl⟩) | (go_at_call 59; refine HL1.out.mono ?_; rintro e w' ⟨rfl, rfl⟩))
            go_roundw
            case rel => exact ⟨k + 1, by omega, by go_num, cs3, s, g + 1, _, A1, c1, rfl, rfl, HG.out, .inl (by have := HSE.out; simp; cases cl <;> simp at hK <;> omega)⟩
            case measure => simp [intOf]; omega
          · have hge : g = s := by omega
            subst hge
            obtain ⟨t1, t2, t3⟩ := HO.out.empty rfl
            have HR := Lib.hid (DqS.precv_calls _ _ _ _ _ HO.out.pi hg200)
            rw [t1, t2] at HR
            have HT := Lib.hid t3
            clear t1 t2 t3
            unfold DqS.enc at HR
            simp only [if_true] at HR
            go_wp2_with fail
            refine HR.out.mono ?_
            rintro e w3 ⟨rfl, cs3, hP, hS⟩
            have HG := Lib.hid (HT.out w3 cs3 hP hS)
            clear hP hS HR HT
            have hsub : (g : Int) - (g : Int) = 0 := by omega
            have L0 := DqS.plen_calls _ _ _ _ _ HG.out.pi
            have L1 := DqS.proom_calls _ _ _ _ _ HG.out.pi
            rw [HG.out.ql, show g - g = 0 from by omega] at L0
            have HL0 := Lib.hid L0
            have HL1 := Lib.hid L1
            have hposi : ¬ ((room : Int) < 0) := by omega
            clear L0 L1
            go_wp2_with (first | (go_at_call 58; refine HL0.out.mono ?_; rintro e w' ⟨rfl, rfl⟩) | (go_at_call 59; refine HL1.out.mono ?_; rintro e w' ⟨rfl, rfl⟩))
            go_roundw
            case rel => exact ⟨k + 1, by omega, by go_num, cs3, g, g, _, A, c, rfl, rfl, HG.out, .inr ⟨HSE.out, HSE.out, rfl⟩⟩
            case measure => simp [intOf]; omega
    · have hge : ¬ (k : Int) < 3 * l.length + 3 := by omega
      obtain ⟨e1, e2, e3⟩ : s = l.length ∧ g = l.length ∧ cl = true := by
        rcases hK with h | h
        · exfalso
          cases cl
          · simp at h; omega
          · simp at h; omega
        · exact h
      subst e1 e2 e3
      have HD := Lib.hid (DqS.pdone_calls _ _ _ _ _ hI.pi)
      rw [hI.ql, show l.length - l.length = 0 from by omega] at HD
      have HI := Lib.hid hI
      clear hI hK
      go_wp2_with fail
      refine HD.out.mono ?_
      rintro e w' ⟨rfl, rfl⟩
      clear HD
      go_wp2_with fail
      go_loopw [14] (fun v14 wx => ∃ j : Nat, j ≤ l.length ∧ v14 = .int .i64 j ∧ Below wr.heap.size wr wx) (fun v14 _ => l.length - (intOf v14).toNat)
      case atStart => exact ⟨0, by omega, rfl, Below.refl _ _⟩
      case round =>
        obtain ⟨j, hj, rfl, hbr⟩ := hrel
        have hbx := HI.out.below.trans (hbr.mono HI.out.below.size)
        have HF := Lib.hid (fun q => pw_below_drewN hbr q)
        by_cases hjl : j < l.length
        · obtain ⟨ad, rfl, e0⟩ := st_at hr.out hjl
          replace e0 := pw_cell_below hbx e0
          have hcl := Cells.of_own HI.out.own
          obtain ⟨ad2, rfl, hc2⟩ := hcl (by rw [List.take_length]; simp; omega)
          have e1 := hc2 j (.string l[j]) (by rw [List.take_length, List.getElem?_map, List.getElem?_eq_getElem hjl]; rfl)
          replace e1 := pw_cell_below hbr e1
          have hjli : (j : Int) < l.length := by omega
          clear hc2 hcl
          generalize l[j] = x at *
          go_wp2
          go_quiet (fail)
          go_wp2
          go_roundw
          case rel => exact ⟨j + 1, by omega, by go_num, HF.out _⟩
          case measure => simp [intOf]; omega
        · have hje : ¬ (j : Int) < l.length := by omega
          go_wp2_with fail
          refine (DqI.works08 _).mono ?_
          rintro e w2 ⟨rfl, hb2⟩
          go_wp2
          go_ret
          exact ⟨rfl, hbx.trans (hb2.mono hbx.size)⟩
theorem opens_st (W : World) : Opens Try.prog W 9 StK := Opens.mono (opens_string Try.underlying9) (fun x => x) (fun _ _ h => h.1)
theorem opens_PipeOrder_1 (W : World) : Opens Try.prog W 53 (fun (l : List ByteArray) cs => ∃ A c, cs = [.slice A l.length c] ∧ l.length ≤ c ∧ ReadsRow StK 1 W A l.length l) :=
  opens_slice Try.underlying53 (by kernel_rfl) (opens_st W)
theorem u8_of_wf {x : Int} (h : (Lit.int .u8 x).wf = true) : 0 ≤ x ∧ x ≤ 255 := by
  simp only [Lit.wf, decide_eq_true_eq, Bool.and_eq_true] at h
  have h2 : IntKind.u8.min = 0 := rfl
  have h3 : IntKind.u8.max = 255 := rfl
  rw [h2, h3] at h
  exact h
theorem walk_PipeOrder (w : World) (room : Int) (hroom : (Lit.int .u8 room).wf = true) (A : Option Addr) (c : Nat) (l : List ByteArray) (hr : ReadsRow StK 1 w A l.length l) (hc : l.length ≤ c) (how : Int) (hhow : (Lit.int .u8 how).wf = true) :
    Calls Try.prog 16 #[.int .u8 room, .slice A l.length c, .int .u8 how] w fun e w' => e = .returned (.bool true) ∧ Below w.heap.size w w' := by
  have h1 := u8_of_wf hroom
  have h2 := u8_of_wf hhow
  obtain ⟨n, rfl⟩ := Int.eq_ofNat_of_zero_le h1.1
  by_cases hl : l.length ≤ 200
  · exact porder_main w n A c l how (Lib.hid hr) hl (by omega) h2.1 h2.2
  · have HN := Lib.hid (DqS.pnew_calls w (1 + (n : Int) % 64) (by omega) (by omega))
    have hgt : (200 : Int) < l.length := by omega
    clear hr h2 hroom hhow
    go_enter Try.func16, Try.ntmps16
    go_wp2_with fail
    refine HN.out.mono ?_
    rintro e w1 ⟨rfl, _, hb⟩
    go_wp2_with fail
    refine (DqI.works08 _).mono ?_
    rintro e w2 ⟨rfl, hb2⟩
    go_wp2
    go_ret
    exact ⟨rfl, hb.trans (hb2.mono hb.size)⟩
end Go.Proofs.Ytndciilmnnaemaa
