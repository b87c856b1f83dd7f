/- The walk of the law CursorReads. -/
import Derived.Test.YtndciilmnnaemaaLawCursorPlays
import Derived.Test.YtndciilmnnaemaaCurPlain
set_option linter.unusedVariables false
set_option linter.unusedSimpArgs false
namespace Go.Proofs.Ytndciilmnnaemaa
open Go.RowKit Go.Proofs.YtndciilmnnaemaaW.PrintWords Cur

/-- Between two acts: no error. -/
structure RdJ (w W : World) (A : Option Addr) (l : List Int) (c : Nat) (s : Cr) : Prop where
  ok : Ok l s
  e : s.e = 0
  at_ : At W w.heap.size A l.length c s
  below : Below w.heap.size w W
/-- Behind an act: its text. -/
def CutR (w W : World) (A : Option Addr) (l : List Int) (c : Nat) (s : Cr) (v : Value) : Prop :=
  ∃ s' st, v = .string st ∧ Reads l s s' st ∧ At W w.heap.size A l.length c s' ∧ Below w.heap.size w W
theorem chg_below {w W W' : World} (hb : Below w.heap.size w W) (hch : Chg (fun k => k = w.heap.size) W W') : Below w.heap.size w W' := hb.trans (hch.below hb.size (fun i hi => by omega))
theorem CutR.of {w W : World} {A : Option Addr} {l : List Int} {c : Nat} {s s' : Cr} {st : ByteArray} (h : Reads l s s' st) (ha : At W w.heap.size A l.length c s') (hb : Below w.heap.size w W) : CutR w W A l c s (.string st) := ⟨s', st, rfl, h, ha, hb⟩

set_option maxRecDepth 100000 in
set_option maxHeartbeats 2000000 in
theorem creads_main (w : World) (A : Option Addr) (c : Nat) (l : List Int) (A2 : Option Addr) (c2 : Nat) (m : List Ac) (hr : Hid (Kd.C (Kd.int .u8) w A l.length l)) (hc : l.length ≤ c) (hB : Hid (Bytes l)) (hr2 : Hid (ReadsRow AcK 4 w A2 m.length m)) (hl : l.length ≤ 300) (hm : m.length ≤ 60)
    (hx8 : Hid (∀ a ∈ m, 0 ≤ a.x ∧ a.x ≤ 255)) :
    Calls Try.prog 14 #[.slice A l.length c, .slice A2 m.length c2] w fun e w' => e = .returned (.bool true) ∧ Below w.heap.size w w' := by
  go_enter Try.func14, Try.ntmps14
  go_wp2_with fail
  refine (new_calls _ _ _ _).mono ?_
  rintro r w1 ⟨rfl, h1, hb1⟩
  go_wp2_with fail
  have hJ0 : RdJ w w1 A l c ⟨0, 0, 0⟩ := ⟨⟨by simp, by simp⟩, rfl, h1, hb1⟩
  clear h1 hb1
  go_loopw [6, 7] (fun v6 v7 wr => ∃ (k : Nat) (s : Cr), k ≤ m.length ∧ v7 = .int .i64 k ∧ v6 = .string (strOfNums (l.take s.p.toNat)) ∧ RdJ w wr A l c s) (fun _ v7 _ => m.length - (intOf v7).toNat)
  case atStart => exact ⟨0, _, by omega, rfl, rfl, hJ0⟩
  case round =>
    clear hJ0
    obtain ⟨k, s, hk, rfl, rfl, hJ⟩ := hrel
    by_cases hlt : k < m.length
    · obtain ⟨ad, rfl, e0, e1, _, _⟩ := ac_at hr2.out hlt
      have E1 := Lib.hid e1
      replace e0 := pw_cell_below hJ.below e0
      replace e1 := pw_cell_below hJ.below e1
      have hlti : (k : Int) < m.length := by omega
      have HJ := Lib.hid hJ
      have hX := Lib.hid (hx8.out m[k] (List.getElem_mem hlt))
      clear hJ
      rcases hak : m[k] with ⟨d, x, ea, na⟩
      rw [hak] at e0 e1 E1 hX
      simp only at e0 e1
      clear hak
      go_upto_block 2 with (fail)
      go_cut [8] (fun v8 wc => CutR w wc A l c s v8)
      case first =>
        by_cases h0 : d = 0
        · subst h0
          have HB := Lib.hid (byte_calls wr _ A l c s HJ.out.at_ (Kd.C_below hr.out HJ.out.below) HJ.out.ok.1 (by omega) x)
          go_wp2_with fail
          refine HB.out.mono ?_
          rintro r w2 ⟨rfl, hat, hch⟩
          have hb2 := chg_below HJ.out.below hch
          have e2 := pw_cell_below hb2 E1.out
          have hcv : (convert 22 9 (.slice (some ⟨w2.heap.size, 0, none⟩) 1 1)).run Try.prog (w2.alloc (.cells #[.int .u8 x] 5)) = .ok (.string (strOfNums [x])) (w2.alloc (.cells #[.int .u8 x] 5)) := Kd.C_string (P := Try.prog) (c := 1) (dst := 9) Try.underlying22 Try.underlying5 Try.underlying9 (C_laid (t := 5) [x] (by simp) (alloc_at w2 (.cells #[.int .u8 x] 5)))
          have HR := Lib.hid (reads_byte HJ.out.ok HJ.out.e x)
          have HA := Lib.hid hat
          have HB2 := Lib.hid hb2
          clear hat hch hb2
          go_wp2
          go_meet
          case rel => exact CutR.of HR.out (Blk.alloc HA.out _) (HB2.out.alloc HB2.out.size _)
        · have hd0 : (d == 0) = false := by simp [h0]
          by_cases h1 : d = 1
          · subst h1
            obtain ⟨n, hn, hn2, hR⟩ := reads_number HJ.out.ok HJ.out.e
            have HN := Lib.hid (number_calls wr _ A l c s HJ.out.at_ (Kd.C_below hr.out HJ.out.below) hc hB.out (by omega))
            rw [hn] at HN
            have HR := Lib.hid hR
            clear hR hn
            go_wp2_with fail
            refine HN.out.mono ?_
            rintro r w2 ⟨rfl, hat, hch⟩
            have HB2 := Lib.hid (chg_below HJ.out.below hch)
            have HA := Lib.hid hat
            clear hat hch
            go_wp2_with fail
            refine (refprint_calls n hn2 _).mono ?_
            rintro r w3 ⟨rfl, hb3⟩
            go_wp2
            go_meet
            case rel => exact CutR.of HR.out (Blk.below HA.out hb3 HA.out.lt) (HB2.out.trans (hb3.mono HB2.out.size))
          · have hd1 : (d == 1) = false := by simp [h1]
            by_cases h2 : d = 2
            · subst h2
              obtain ⟨hrange, hR⟩ := reads_nums HJ.out.ok HJ.out.e
              have HN := Lib.hid (nums_calls wr _ A l c s HJ.out.at_ (Kd.C_below hr.out HJ.out.below) hc hB.out (by omega))
              have HR := Lib.hid hR
              have HG := Lib.hid hrange
              have hll : (nums_ l s).2.length ≤ 301 := by
                have : (list l s.p).1.length ≤ 301 := by
                  unfold list
                  split
                  · simp
                  · have := listGo_len l (l.length + 1) s.p []
                    simp only [List.length_nil] at this
                    omega
                unfold nums_
                split
                · split
                  · exact this
                  · simp
                · simp
              clear hR hrange
              generalize (nums_ l s).2 = L at *
              go_wp2_with fail
              refine HN.out.mono ?_
              rintro r w2 ⟨⟨v, rfl, hRv⟩, hat, hch⟩
              obtain ⟨AR, cR, rfl, hcR, hCR⟩ := Kd.R_reads hRv
              have HB2 := Lib.hid (chg_below HJ.out.below hch)
              have HA := Lib.hid hat
              have HC := Lib.hid hCR
              clear hat hch hRv hCR HN
              go_wp2_with fail
              go_loopw [8, 10, 11, 12] (fun v8 v10 _ _ wx => ∃ j : Nat, j ≤ L.length ∧ v10 = .int .i64 j ∧ v8 = .string (strOfNums (texts (L.take j))) ∧ Below w2.heap.size w2 wx) (fun _ v10 _ _ _ => L.length - (intOf v10).toNat)
              case atStart => exact ⟨0, by omega, rfl, rfl, Below.refl _ _⟩
              case round =>
                rename_i wx
                obtain ⟨j, hj, rfl, rfl, hbx⟩ := hrel
                by_cases hjl : j < L.length
                · obtain ⟨ad2, rfl, hx⟩ := Kd.at_int HC.out (j : Int) (by omega) (by omega)
                  rw [Int.toNat_natCast] at hx
                  replace hx := pw_cell_below hbx hx
                  have hge := HG.out L[j] (List.getElem_mem hjl)
                  have hst := Lib.hid (texts_step L j hjl hge.1)
                  have hg : rd L (j : Int) = ((L[j].toNat : Nat) : Int) := by
                    unfold rd
                    rw [Int.toNat_natCast, List.getD_eq_getElem?_getD, List.getElem?_eq_getElem hjl]
                    simp only [Option.getD_some]
                    omega
                  rw [hg] at hx
                  have hn2 : L[j].toNat ≤ 2147483647 := by omega
                  have hz1 : (strOfNums (texts (L.take j))).size ≤ 4000 := by
                    have := texts_len (L.take j) (fun x hx => HG.out x (List.mem_of_mem_take hx))
                    rw [List.length_take] at this
                    rw [str_size]; omega
                  have hz2 : (strOfNums (texts (L.take j)) ++ ⟨#[32]⟩).size ≤ 4001 := by
                    rw [ByteArray.size_append]
                    have : (⟨#[32]⟩ : ByteArray).size = 1 := rfl
                    omega
                  have hz3 : (strOfNums (low (wd L[j].toNat) L[j].toNat)).size ≤ 10 := by
                    rw [str_size, low_length]; exact wd_le hn2
                  clear hge hg
                  generalize L[j].toNat = n at *
                  have hjli : (j : Int) < L.length := by omega
                  go_wp2_with fail
                  refine (refprint_calls n hn2 _).mono ?_
                  rintro r w3 ⟨rfl, hb3⟩
                  go_wp2
                  go_roundw
                  case rel => exact ⟨j + 1, by omega, by go_num, by rw [hst.out], hbx.trans (hb3.mono hbx.size)⟩
                  case measure => simp [intOf]; omega
                · have hje : ¬ (j : Int) < L.length := by omega
                  go_wp2
                  go_meet
                  case rel =>
                    rw [List.take_of_length_le (by omega)]
                    exact CutR.of HR.out (Blk.below HA.out hbx HA.out.lt) (HB2.out.trans (hbx.mono HB2.out.size))
            · have hd2 : (d == 2) = false := by simp [h2]
              go_wp2
              go_meet
              case rel => exact CutR.of (reads_none HJ.out.ok) HJ.out.at_ HJ.out.below
      case rest =>
        obtain ⟨s', st, rfl, hR, hat, hb⟩ := hcut
        have HE := Lib.hid (err_calls wc _ _ _ _ _ _ _ hat)
        go_wp2_with fail
        refine HE.out.mono ?_
        rintro r w3 ⟨rfl, q, rfl⟩
        have hat3 := At.drewN hat q
        have hb3 := pw_below_drewN hb q
        generalize wc.drewN q = w3 at *
        clear HE hat hb
        by_cases he : s'.e = 0
        · have heb : (s'.e != 0) = false := by simp [he]
          have HJ3 : Hid (RdJ w w3 A l c s') := Lib.hid ⟨hR.ok, he, hat3, hb3⟩
          have HG := Lib.hid (hR.good he)
          have hz := congrArg ByteArray.size (hR.good he)
          rw [ByteArray.size_append, str_size, str_size, List.length_take, List.length_take] at hz
          have hz1 : (strOfNums (l.take s.p.toNat)).size ≤ 300 := by rw [str_size, List.length_take]; omega
          have hz2 : st.size ≤ 300 := by omega
          clear hR he hat3 hb3 hz
          go_wp2
          go_roundw
          case rel => exact ⟨k + 1, s', by omega, by go_num, by rw [HG.out], HJ3.out⟩
          case measure => simp [intOf]; omega
        · have heb : (s'.e != 0) = true := by simp [he]
          have HA := Lib.hid (at_calls w3 _ _ _ _ _ _ _ hat3)
          rw [hR.bad he] at HA
          have hsz : (((strOfNums (l.take s.p.toNat)).size : Nat) : Int) = s.p := by
            have := HJ.out.ok.1
            have := HJ.out.ok.2
            rw [str_size, List.length_take]
            omega
          have hsb : (s.p == (((strOfNums (l.take s.p.toNat)).size : Nat) : Int)) = true := by rw [hsz]; simp
          clear hR he hat3 hsz
          go_wp2_with fail
          refine HA.out.mono ?_
          rintro r w4 ⟨rfl, rfl⟩
          go_wp2_with fail
          refine (works02 _).mono ?_
          rintro r w5 ⟨rfl, hb5⟩
          go_wp2
          go_ret
          exact ⟨rfl, hb3.trans (hb5.mono hb3.size)⟩
    · have hge : ¬ (k : Int) < m.length := by omega
      have HA := Lib.hid (at_calls wr _ _ _ _ _ _ _ hJ.at_)
      have hp0 := hJ.ok.1
      have hp1 := hJ.ok.2
      have hsz : (((strOfNums (l.take s.p.toNat)).size : Nat) : Int) = s.p := by
        rw [str_size, List.length_take]
        omega
      obtain ⟨hsl, hre, _⟩ := print_take_int (P := Try.prog) (k := .u8) 22 5 Try.underlying22 (i := _) rfl rfl A c l s.p hp0 hp1 hc
      have R0 : ReadsInt wr .u8 A l.length l := Kd.reads_of_C (enc := Value.int .u8) (d := (0 : Int)) (h1 := fun _ => rfl) (Kd.C_below hr.out hJ.below)
      have hcv := string_of_reads (P := Try.prog) (c := c) (dst := 9) Try.underlying22 Try.underlying5 Try.underlying9 (hre wr R0)
      have hbw := Lib.hid hJ.below
      clear hJ hre R0
      have hsb : (s.p == (((strOfNums (l.take s.p.toNat)).size : Nat) : Int)) = true := by rw [hsz]; simp
      have hle : (((strOfNums (l.take s.p.toNat)).size : Nat) : Int) ≤ (l.length : Int) := by omega
      rw [show (l.take s.p.toNat).length = (strOfNums (l.take s.p.toNat)).size from (str_size _).symm] at hsl hcv
      generalize strOfNums (l.take s.p.toNat) = rdS at *
      rw [← hsz] at hsl
      clear hsz hp0 hp1
      go_wp2_with fail
      refine HA.out.mono ?_
      rintro r w4 ⟨rfl, rfl⟩
      go_wp2_with fail
      refine (works02 _).mono ?_
      rintro r w5 ⟨rfl, hb5⟩
      go_wp2
      go_ret
      exact ⟨rfl, hbw.out.trans (hb5.mono hbw.out.size)⟩
theorem ReadsRow.each {α : Type} {K : α → List Value → Prop} {sz : Nat} {w : World} {A : Option Addr} {l : List α} {p : α → Prop} (h : ReadsRow (fun a cs => K a cs ∧ p a) sz w A l.length l) : ReadsRow K sz w A l.length l ∧ ∀ a ∈ l, p a := by
  obtain ⟨h1, h2, h3⟩ := h
  refine ⟨⟨h1, h2, fun h0 => ?_⟩, fun a ha => ?_⟩
  · obtain ⟨ad, e, hc⟩ := h3 h0
    exact ⟨ad, e, fun j q hq => by obtain ⟨c, a1, a2, a3⟩ := hc j q hq; exact ⟨c, a1, a2.1, a3⟩⟩
  · obtain ⟨j, hj, rfl⟩ := List.getElem_of_mem ha
    obtain ⟨ad, e, hc⟩ := h3 (by omega)
    obtain ⟨c, _, a2, _⟩ := hc j l[j] (List.getElem?_eq_getElem hj)
    exact a2.2
theorem opens_ac8 (W : World) : Opens Try.prog W 73 (fun (a : Ac) cs => AcK a cs ∧ (0 ≤ a.x ∧ a.x ≤ 255)) := by
  refine Opens.imp (opens_row (p := fun i v => match i with | 0 => ∃ n : Int, v = .int .i64 n ∧ (Lit.int .i64 n).wf = true | 1 => ∃ n : Int, v = .int .u8 n ∧ (Lit.int .u8 n).wf = true | _ => ∃ n : Int, v = .int .i64 n ∧ (Lit.int .i64 n).wf = true)
    Try.underlying73 (by kernel_rfl) (four rfl ⟨rfl, by kernel_rfl⟩ ⟨rfl, by kernel_rfl⟩ ⟨rfl, by kernel_rfl⟩ ⟨rfl, by kernel_rfl⟩)
    (four rfl (cells_int Try.underlying3) (cells_int Try.underlying5) (cells_int Try.underlying3) (cells_int Try.underlying3))) ?_
  rintro _ cs ⟨hl, hp⟩
  obtain ⟨a, b, c, d, rfl⟩ := list4 hl
  obtain ⟨x0, rfl, _⟩ := hp 0 _ rfl
  obtain ⟨x1, rfl, h1⟩ := hp 1 _ rfl
  obtain ⟨x2, rfl, _⟩ := hp 2 _ rfl
  obtain ⟨x3, rfl, _⟩ := hp 3 _ rfl
  exact ⟨⟨x0, x1, x2, x3⟩, rfl, bytes_of_wf (l := [x1]) (by simpa using h1) x1 (by simp)⟩
theorem opens_CursorReads_1 (W : World) : Opens Try.prog W 65 (fun (l : List Ac) cs => ∃ A c, cs = [.slice A l.length c] ∧ l.length ≤ c ∧ ReadsRow (fun a cs => AcK a cs ∧ (0 ≤ a.x ∧ a.x ≤ 255)) 4 W A l.length l) :=
  opens_slice Try.underlying65 (by kernel_rfl) (opens_ac8 W)
theorem walk_CursorReads (w : World) (A : Option Addr) (c : Nat) (l : List Int) (hr : Kd.C (Kd.int .u8) w A l.length l) (hc : l.length ≤ c) (hb : ∀ x ∈ l, (Lit.int .u8 x).wf = true) (hs : l.length * 1 ≤ 140737488351232)
    (A2 : Option Addr) (c2 : Nat) (m : List Ac) (hr2 : ReadsRow (fun a cs => AcK a cs ∧ (0 ≤ a.x ∧ a.x ≤ 255)) 4 w A2 m.length m) (hc2 : m.length ≤ c2) :
    Calls Try.prog 14 #[.slice A l.length c, .slice A2 m.length c2] w fun e w' => e = .returned (.bool true) ∧ Below w.heap.size w w' := by
  by_cases h1 : l.length ≤ 300
  · by_cases h2 : m.length ≤ 60
    · obtain ⟨hR, hX⟩ := ReadsRow.each hr2
      exact creads_main w A c l A2 c2 m (Lib.hid hr) hc (Lib.hid (bytes_of_wf hb)) (Lib.hid hR) h1 h2 (Lib.hid hX)
    · have hle : ¬ ((300 : Int) < l.length) := by omega
      have hgt : ((60 : Int) < m.length) := by omega
      clear hr hr2 hb
      go_enter Try.func14, Try.ntmps14
      go_wp2_with fail
      refine (works02 _).mono ?_
      rintro e w2 ⟨rfl, hb2⟩
      go_wp2
      go_ret
      exact ⟨rfl, hb2⟩
  · have hgt : ((300 : Int) < l.length) := by omega
    clear hr hr2 hb
    go_enter Try.func14, Try.ntmps14
    go_wp2_with fail
    refine (works02 _).mono ?_
    rintro e w2 ⟨rfl, hb2⟩
    go_wp2
    go_ret
    exact ⟨rfl, hb2⟩
end Go.Proofs.Ytndciilmnnaemaa
