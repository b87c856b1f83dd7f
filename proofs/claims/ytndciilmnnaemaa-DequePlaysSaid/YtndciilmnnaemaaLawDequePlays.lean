/- The walk of the law DequePlays. -/
import Derived.Test.YtndciilmnnaemaaDequeW
import Derived.Test.YtndciilmnnaemaaOpen
import Derived.Deep.CutBlock
set_option linter.unusedVariables false
set_option linter.unusedSimpArgs false
namespace Go.Proofs.Ytndciilmnnaemaa
open Go.RowKit Go.Shelf Go.Proofs.YtndciilmnnaemaaW.PrintWords DqI

/-- An act: two numbers in two cells. -/
def ActK (x : Int × Int) (cs : List Value) : Prop := cs = [.int .i64 x.1, .int .i64 x.2]
theorem act_at {w : World} {A : Option Addr} {l : List (Int × Int)} {k : Nat} (h : ReadsRow ActK 2 w A l.length l) (hk : k < l.length) : ∃ ad, A = some ad ∧ w.cell? (ad.add (k * 2)) = some (.int .i64 (l.getD k (0, 0)).1) ∧ w.cell? ⟨(ad.add (k * 2)).block, (ad.add (k * 2)).off + 1, none⟩ = some (.int .i64 (l.getD k (0, 0)).2) := by
  obtain ⟨ad, c, e, _, hR, hc⟩ := ReadsRow.get_ h (0, 0) (k : Int) (by omega) (by omega)
  rw [Int.toNat_natCast] at hR hc
  unfold ActK at hR
  subst hR
  refine ⟨ad, e, hc 0 _ rfl, ?_⟩
  have h1 := hc 1 _ rfl
  rw [← Go.Deep.add_add] at h1
  exact h1

/-- Between two acts: the deque and the row of numbers that goes beside it. -/
def PlJ (w : World) (k : Nat) (v : Value) (W : World) : Prop :=
  ∃ cs L A c, v = .slice A L.length c ∧ L.length ≤ c ∧ L.length ≤ k ∧ Is W w.heap.size w.heap.size 0 43 cs L ∧ W.ownsRow w.heap.size 3 1 (.slice A L.length c) L.length (L.map enc) ∧
    (∀ q, (Value.slice A L.length c).ownBlock = some q → ¬ set cs w.heap.size 0 q) ∧ Below w.heap.size w W

theorem PlJ.made {w w1 w2 : World} {k : Nat} {cs : List Value} {L : List Int} {v : Value} (hLk : L.length ≤ k) (hI : Is w1 w.heap.size w.heap.size 0 43 cs L) (hb : Below w.heap.size w w1)
    (ho : w2.ownsRow w1.heap.size 3 1 v L.length (L.map enc)) (hb2 : Below w1.heap.size w1 w2) : PlJ w k v w2 := by
  obtain ⟨A, c, rfl, hc⟩ := own_form ho
  refine ⟨cs, L, A, c, rfl, hc, hLk, hI.below hb2, own_weaken ho hb.size, fun q hq hs => ?_, hb.trans (hb2.mono hb.size)⟩
  have h1 := own_base ho q hq
  have h2 := hI.lt_ring q hs
  omega
theorem PlJ.kept {w w1 w2 : World} {k : Nat} {cs : List Value} {L : List Int} {A : Option Addr} {c : Nat} (hc : L.length ≤ c) (hLk : L.length ≤ k) (hI : Is w1 w.heap.size w.heap.size 0 43 cs L) (hb : Below w.heap.size w w1)
    (ho : w1.ownsRow w.heap.size 3 1 (.slice A L.length c) L.length (L.map enc)) (ha : ∀ q, (Value.slice A L.length c).ownBlock = some q → ¬ set cs w.heap.size 0 q) (hb2 : Below w1.heap.size w1 w2) : PlJ w k (.slice A L.length c) w2 :=
  ⟨cs, L, A, c, rfl, hc, hLk, hI.below hb2, own_move ho fun q hq => hb2.block q (own_lt ho q hq), ha, hb.trans (hb2.mono hb.size)⟩

set_option maxRecDepth 100000 in
set_option maxHeartbeats 4000000 in
theorem plays_main (w : World) (A : Option Addr) (c : Nat) (l : List (Int × Int)) (hr : Hid (ReadsRow ActK 2 w A l.length l)) (hl : l.length ≤ 200) :
    Calls Try.prog 8 #[.slice A l.length c] w fun e w' => e = .returned (.bool true) ∧ Below w.heap.size w w' := by
  go_enter Try.func8, Try.ntmps8
  go_wp2_with fail
  go_loopw [4, 5] (fun v4 v5 wr => ∃ k : Nat, k ≤ l.length ∧ v5 = .int .i64 k ∧ PlJ w k v4 wr) (fun _ v5 _ => l.length - (intOf v5).toNat)
  case atStart =>
    exact ⟨0, by omega, rfl, _, [], none, 0, rfl, Nat.le_refl _, Nat.le_refl _, is_new w w.heap.size 43 (Nat.le_refl _), own_nil _ _ _ _, fun q hq => by simp [Value.ownBlock] at hq, (Below.refl _ w).alloc (Nat.le_refl _) _⟩
  case round =>
    obtain ⟨k, hk, rfl, hJ⟩ := hrel
    by_cases hlt : k < l.length
    · obtain ⟨cs, L, A1, c1, rfl, hc1, hLk, hI, ho, ha, hb⟩ := hJ
      obtain ⟨ad, rfl, hx0, hx1⟩ := act_at hr.out hlt
      generalize l.getD k (0, 0) = x at *
      rcases x with ⟨d, y⟩
      simp only at hx0 hx1
      have hy := Lib.hid hx1
      replace hx0 := pw_cell_below hb hx0
      replace hx1 := pw_cell_below hb hx1
      have hk200 : k < 200 := by omega
      go_upto_block 2 with (fail)
      go_cut [4] (fun v4 wc => PlJ w (k + 1) v4 wc)
      case first =>
        by_cases hd1 : d = 1
        · subst hd1
          rcases List.eq_nil_or_concat L with rfl | ⟨L, x, rfl⟩
          · go_wp2_with fail
            refine (pop_empty _ 0 _ _ _ _ hI).mono ?_
            rintro e w1 ⟨rfl, rfl⟩
            go_wp2_with fail
            refine (ref_pop_empty _ _ _).mono ?_
            rintro e w1 ⟨rfl, rfl⟩
            go_wp2
            go_meet
            case rel => exact ⟨cs, [], _, _, rfl, hc1, by simp, hI, ho, ha, hb⟩
          · rw [List.concat_eq_append] at *
            go_wp2_with fail
            refine (pop_calls _ 0 _ _ _ _ L x hI (by simp at hLk; omega)).mono ?_
            rintro e w1 ⟨rfl, cs1, hI1, hS⟩
            have hb1 := hb.trans (hS.below hI hb.size)
            obtain ⟨ho1, ha1⟩ := hS.own ho ha
            have hcl := Cells.of_own ho1
            obtain ⟨ad1, rfl, _⟩ := hcl (by simp)
            have hlen : (L ++ [x]).length = L.length + 1 := by simp
            rw [hlen] at hLk hc1
            clear hS ho ha hI hb hx0 hx1
            unfold enc
            go_wp2_with fail
            refine (ref_pop w1 ad1 c1 L x hcl (by omega) hc1).mono ?_
            rintro e w2 ⟨v, rfl, ho2, hb2⟩
            unfold enc
            go_wp2
            go_meet
            case rel => exact PlJ.made (by omega) hI1 hb1 ho2 hb2
        · have hb1 : (d == 1) = false := by simp [hd1]
          by_cases hd2 : d = 2
          · subst hd2
            rcases L with _ | ⟨x, L⟩
            · go_wp2_with fail
              refine (steal_empty _ 0 _ _ _ _ hI).mono ?_
              rintro e w1 ⟨rfl, rfl⟩
              go_wp2_with fail
              refine (ref_steal_empty _ _ _).mono ?_
              rintro e w1 ⟨rfl, rfl⟩
              go_wp2
              go_meet
              case rel => exact ⟨cs, [], _, _, rfl, hc1, by simp, hI, ho, ha, hb⟩
            · go_wp2_with fail
              refine (steal_calls _ 0 _ _ _ _ L x hI (by simp at hLk; omega)).mono ?_
              rintro e w1 ⟨rfl, cs1, hI1, hS⟩
              have hb1 := hb.trans (hS.below hI hb.size)
              obtain ⟨ho1, ha1⟩ := hS.own ho ha
              have hcl := Cells.of_own ho1
              obtain ⟨ad1, rfl, _⟩ := hcl (by simp)
              have hlen : (x :: L).length = L.length + 1 := by simp
              rw [hlen] at hLk hc1
              clear hS ho ha hI hb hx0 hx1
              unfold enc
              go_wp2_with fail
              refine (ref_steal w1 ad1 c1 L x hcl (by omega) hc1).mono ?_
              rintro e w2 ⟨v, rfl, ho2, hb2⟩
              unfold enc
              go_wp2
              go_meet
              case rel => exact PlJ.made (by omega) hI1 hb1 ho2 hb2
          · have hb2 : (d == 2) = false := by simp [hd2]
            go_wp2_with fail
            refine (push_calls _ 0 _ _ _ _ L y hI (by omega) hb.size).mono ?_
            rintro e w1 ⟨rfl, cs1, hI1, hS⟩
            have hbw := hS.below hI hb.size
            have hbw1 := hb.trans hbw
            obtain ⟨ho1, ha1⟩ := hS.own ho ha
            have hcl := Lib.hid (Cells.of_own ho1)
            replace hx1 := pw_cell_below hbw1 hy.out
            have hN : Hid ((L.map enc).length = L.length) := Lib.hid (List.length_map _)
            have hE := Lib.hid (@enc_one L)
            have hfin : Hid (∀ (W : World) (v : Value), W.ownsRow w1.heap.size 3 1 v (L.length + 1) (L.map enc ++ [Value.int .i64 y]) → Below w1.heap.size w1 W → PlJ w (k + 1) v W) := Lib.hid fun W v ho hb => by
              refine PlJ.made (by simp; omega) hI1 hbw1 ?_ hb
              simpa [enc] using ho
            clear hS ho ha hI hb hx0 ho1 ha1 hI1
            generalize L.map enc = ys at *
            generalize L.length = n at *
            go_wp2
            have hb0 : Below w1.heap.size w1 (w1.alloc (.cells #[] 3)).drew := ((Below.refl w1.heap.size w1).alloc (Nat.le_refl _) _).drew
            have hxa : w1.drew.cell? ⟨(ad.add (k * 2)).block, (ad.add (k * 2)).off + 1, none⟩ = some (.int .i64 y) := hx1
            have hxb := pw_cell_below hb0 hx1
            have ho1 : (w1.alloc (.cells #[] 3)).ownsRow w1.heap.size 3 1 (.slice (some ⟨w1.heap.size, 0, none⟩) 0 0) 0 [] := World.ownsRow_lit (base := w1.heap.size) (e := 3) (size := 1) w1 #[] 0 (by simp) (by simp [maxLen]) (by simp)
            have ho3 : ((w1.alloc (.cells #[.int .i64 y] 3)).alloc (.cells #[] 3)).ownsRow w1.heap.size 3 1 (.slice (some ⟨w1.heap.size + 1, 0, none⟩) 0 0) 0 [] := by
              have := World.ownsRow_lit (base := w1.heap.size) (e := 3) (size := 1) (w1.alloc (.cells #[.int .i64 y] 3)) #[] 0 (by simp) (by simp [maxLen]) (by simp)
              simpa using this
            have hb2 : Below w1.heap.size w1 ((w1.alloc (.cells #[] 3)).alloc (.cells #[.int .i64 y] 3)).drew := (((Below.refl w1.heap.size w1).alloc (Nat.le_refl _) _).alloc (by simp) _).drew
            have hb3 : Below w1.heap.size w1 ((w1.alloc (.cells #[.int .i64 y] 3)).alloc (.cells #[] 3)).drew := (((Below.refl w1.heap.size w1).alloc (Nat.le_refl _) _).alloc (by simp) _).drew
            have hc2 : Cells ((w1.alloc (.cells #[] 3)).alloc (.cells #[.int .i64 y] 3)).drew (some ⟨w1.heap.size + 1, 0, none⟩) [.int .i64 y] := by
              have := Cells.new (w1.alloc (.cells #[] 3)) [.int .i64 y] 3
              rw [World.size_alloc] at this
              exact this
            have hc3 : Cells ((w1.alloc (.cells #[.int .i64 y] 3)).alloc (.cells #[] 3)).drew (some ⟨w1.heap.size, 0, none⟩) [.int .i64 y] :=
              (Cells.new w1 [.int .i64 y] 3).below (((Below.refl _ _).alloc (Nat.le_refl _) _).drew)
            have ho2 := ho1.alloc (.cells #[.int .i64 y] 3)
            have HO1 := Lib.hid ho1; clear ho1
            have HO2 := Lib.hid ho2; clear ho2
            have HO3 := Lib.hid ho3; clear ho3
            have HB0 := Lib.hid hb0; clear hb0
            have HB2 := Lib.hid hb2; clear hb2
            have HB3 := Lib.hid hb3; clear hb3
            have HC2 := Lib.hid hc2; clear hc2
            have HC3 := Lib.hid hc3; clear hc3
            have hlti : (k : Int) < l.length := by omega
            go_region_law (first
              | (refine step_app (w0 := w1) w1.heap.size rfl (.tmp 40) (.tmp 41) 27 3 (Value.int .i64 0) 8 rfl Try.underlying27 elem_info rfl (by decide) (.slice (some ⟨w1.heap.size, 0, none⟩) 0 0) [] ys A1 0 n c1 rfl rfl rfl hN.out HO1.out (hcl.out.below HB0.out) hE.out HB0.out (by simp) (by omega) ?_; intro A2 c2 w2 hown hb2 hg hat hc2; simp only [Nat.zero_add, List.nil_append] at hown hc2; have hxc := pw_cell_below hb2 hx1)
              | (refine step_app (w0 := w1) w1.heap.size rfl (.tmp 40) (.tmp 41) 27 3 (Value.int .i64 0) 8 rfl Try.underlying27 elem_info rfl (by decide) (.slice (some ⟨w1.heap.size, 0, none⟩) 0 0) [] ys A1 0 n c1 rfl rfl rfl hN.out HO2.out (hcl.out.below HB2.out) hE.out HB2.out HB2.out.size (by omega) ?_; intro A2 c2 w2 hown hb2 hg hat hc2; simp only [Nat.zero_add, List.nil_append] at hown hc2; have hcc := HC2.out.grown hg (by simp) (by simp [Value.ownBlock]))
              | (refine step_app (w0 := w1) w1.heap.size rfl (.tmp 40) (.tmp 41) 27 3 (Value.int .i64 0) 8 rfl Try.underlying27 elem_info rfl (by decide) (.slice (some ⟨w1.heap.size + 1, 0, none⟩) 0 0) [] ys A1 0 n c1 rfl rfl rfl hN.out HO3.out (hcl.out.below HB3.out) hE.out HB3.out HB3.out.size (by omega) ?_; intro A2 c2 w2 hown hb2 hg hat hc2; simp only [Nat.zero_add, List.nil_append] at hown hc2; have hcc := HC3.out.grown hg (by simp; omega) (by simp [Value.ownBlock]))
              | (refine step_app (w0 := w1) w1.heap.size rfl (.tmp 42) (.tmp 48) 27 3 (Value.int .i64 0) 8 rfl Try.underlying27 elem_info rfl (by decide) (.slice A2 n c2) ys [.int .i64 y] (some ⟨w2.heap.size, 0, none⟩) n 1 1 rfl rfl hN.out rfl (hown.alloc _) (Cells.new _ [.int .i64 y] _) (by simp [Value.oneCell']) (hb2.alloc hb2.size _) (by have := hb2.size; simp; omega) (by omega) ?_; intro A3 c3 w3 hown3 hb3 hg3 hat3 hc3)
              | (refine step_app (w0 := w1) w1.heap.size rfl (.tmp 42) (.tmp 48) 27 3 (Value.int .i64 0) 8 rfl Try.underlying27 elem_info rfl (by decide) (.slice A2 n c2) ys [.int .i64 y] (some ⟨w1.heap.size + 1, 0, none⟩) n 1 1 rfl rfl hN.out rfl hown hcc (by simp [Value.oneCell']) hb2 hb2.size (by omega) ?_; intro A3 c3 w3 hown3 hb3 hg3 hat3 hc3)
              | (refine step_app (w0 := w1) w1.heap.size rfl (.tmp 42) (.tmp 48) 27 3 (Value.int .i64 0) 8 rfl Try.underlying27 elem_info rfl (by decide) (.slice A2 n c2) ys [.int .i64 y] (some ⟨w1.heap.size, 0, none⟩) n 1 1 rfl rfl hN.out rfl hown hcc (by simp [Value.oneCell']) hb2 hb2.size (by omega) ?_; intro A3 c3 w3 hown3 hb3 hg3 hat3 hc3))
            all_goals
              go_wp2
              go_meet
              case rel => exact hfin.out _ _ hown3 hb3
      case rest =>
        obtain ⟨cs2, L2, A2, c2, rfl, hc2, hLk2, hI2, ho2, ha2, hb2⟩ := hcut
        clear hI ho ha hb hx0 hx1 hy hLk hc1
        have hlen := len_calls _ 0 _ wc _ _ _ hI2
        have HL := Lib.hid hlen; clear hlen
        have hml : Kd.C (Kd.int .i64) wc A2 L2.length L2 := C_own ho2
        go_wp2_with fail
        refine HL.out.mono ?_
        rintro e w1 ⟨rfl, rfl⟩
        have hlis := list_at _ 0 _ _ _ _ _ hI2 (by omega)
        have HLI := Lib.hid hlis; clear hlis
        go_wp2_with fail
        refine HLI.out.mono ?_
        rintro e w2 ⟨A3, c3, rfl, hc3, ho3, hb3⟩
        have hsame := same_calls L2 L2 A3 c3 A2 c2 w2 (C_own ho3) hc3 (Kd.C_below hml hb3) hc2 (by omega)
        rw [decide_eq_true rfl] at hsame
        have HS := Lib.hid hsame; clear hsame
        have hfin : Hid (∀ W, Drawn0 w2 W → PlJ w (k + 1) (.slice A2 L2.length c2) W) := Lib.hid fun W hd => PlJ.kept hc2 hLk2 hI2 hb2 ho2 ha2 (hb3.trans (hd.below.mono hb3.size))
        clear ho3 hml
        generalize L2.length = n at *
        go_wp2_with fail
        refine HS.out.mono ?_
        rintro e w3 ⟨rfl, hd3⟩
        go_wp2
        go_roundw
        case rel => exact ⟨k + 1, by omega, by go_num, hfin.out _ hd3⟩
        case measure => simp [intOf]; omega
    · obtain ⟨cs, L, A1, c1, rfl, hc1, hLk, hI, ho, ha, hb⟩ := hJ
      have hbw := Lib.hid hb
      go_wp2_with fail
      refine (works07 _).mono ?_
      rintro e w2 ⟨rfl, hb2⟩
      go_wp2
      go_ret
      exact ⟨rfl, hbw.out.trans (hb2.mono hbw.out.size)⟩

theorem opens_act (W : World) : Opens Try.prog W 45 ActK :=
  Opens.mono (opens_pair Try.underlying45 rfl (by kernel_rfl) (by kernel_rfl) (opens_int Try.underlying3) (opens_int Try.underlying3)) (fun x => x) (by
    rintro ⟨a, b⟩ cs ⟨c, c', rfl, ⟨rfl, _⟩, ⟨rfl, _⟩⟩
    rfl)
/-- What comes in as a list of acts. -/
theorem opens_DequePlays_0 (W : World) : Opens Try.prog W 40 (fun (l : List (Int × Int)) cs => ∃ A c, cs = [.slice A l.length c] ∧ l.length ≤ c ∧ ReadsRow ActK 2 W A l.length l) :=
  opens_slice Try.underlying40 (by kernel_rfl) (opens_act W)
theorem walk_DequePlays (w : World) (A : Option Addr) (c : Nat) (l : List (Int × Int)) (hr : ReadsRow ActK 2 w A l.length l) (hc : l.length ≤ c) :
    Calls Try.prog 8 #[.slice A l.length c] w fun e w' => e = .returned (.bool true) ∧ Below w.heap.size w w' := by
  by_cases hl : l.length ≤ 200
  · exact plays_main w A c l (Lib.hid hr) hl
  · go_enter Try.func8, Try.ntmps8
    have hgt : ((200 : Int) < l.length) := by omega
    go_wp2_with fail
    refine (works07 _).mono ?_
    rintro e w2 ⟨rfl, hb2⟩
    go_wp2
    go_ret
    exact ⟨rfl, hb2⟩
end Go.Proofs.Ytndciilmnnaemaa
