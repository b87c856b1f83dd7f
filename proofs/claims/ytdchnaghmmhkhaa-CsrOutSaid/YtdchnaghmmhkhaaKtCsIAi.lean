/- csr at Arc[int]: Out, and what it goes through. -/
import Derived.Test.YtdchnaghmmhkhaaKtCsHAi
import Derived.Deep.RegionWith
import Derived.Stop.RegionWithIn
import Derived.LoopIn
import Derived.TacticsInMore
import Derived.OwnWalkIn
set_option linter.unusedSimpArgs false
namespace Go.Proofs.Ytdchnaghmmhkhaa.Cs.Ai
open Go.Shelf Go.RowKit Go.Lib Go.Sort Go.Proofs.Ytdchnaghmmhkhaa.RowAt Go.Proofs.Ytdchnaghmmhkhaa.Stab Go.Proofs.Ytdchnaghmmhkhaa.Stab.Ai Go.Proofs.Ytdchnaghmmhkhaa.PCsrGraphs Go.Proofs.YtdchnaghmmhkhaaW.PrintWords
set_option linter.unusedSectionVars false
set_option linter.unusedVariables false
attribute [local go_sem] Oper.semAt_some

set_option maxHeartbeats 1000000 in
set_option maxRecDepth 1000000 in
theorem out_c (p : Option Addr) (v m : Int) (w : World) :
    Calls Try.prog 20 #[.pointer p, .int .i64 v, .int .i64 m] w fun e w' => e = .returned (.func (.func 35) #[] #[.pointer (some ⟨w.heap.size, 0, none⟩), .pointer (some ⟨w.heap.size + 1, 0, none⟩), .pointer (some ⟨w.heap.size + 2, 0, none⟩)]) ∧ w' = ((w.alloc (.cells #[.pointer p] 24)).alloc (.cells #[.int .i64 v] 3)).alloc (.cells #[.int .i64 m] 3) := by
  go_enter Try.func20, Try.ntmps20
  go_wp2
  go_ret
  exact ⟨rfl, rfl⟩

/-- The arcs of a mask. -/
def flt (m : Int) (D : List Ar) : List Ar := D.filter fun a => Go.bits .and .i64 a.f2 m != 0
theorem flt_snoc {m : Int} {D : List Ar} {i : Nat} {a : Ar} (h : D[i]? = some a) : flt m (D.take (i + 1)) = flt m (D.take i) ++ if (Go.bits .and .i64 a.f2 m != 0) = true then [a] else [] := by
  unfold flt
  rw [List.take_add_one, h, List.filter_append]
  congr 1
  by_cases hb : (Go.bits .and .i64 a.f2 m != 0) = true <;> simp [hb]
theorem flt_get {m : Int} {D : List Ar} {i : Nat} {a : Ar} (h : D[i]? = some a) (hb : (Go.bits .and .i64 a.f2 m != 0) = true) : (flt m (D.take i)).length < (flt m D).length ∧ (flt m D).getD (flt m (D.take i)).length ⟨0, 0, 0⟩ = a := by
  have e : flt m D = flt m (D.take i) ++ a :: flt m (D.drop (i + 1)) := by
    obtain ⟨h1, h2⟩ := List.getElem?_eq_some_iff.1 h
    have : D = D.take i ++ a :: D.drop (i + 1) := by rw [← h2, ← List.drop_eq_getElem_cons h1, List.take_append_drop]
    have h3 := congrArg (List.filter fun a : Ar => Go.bits .and .i64 a.f2 m != 0) this
    rw [List.filter_append, List.filter_cons, if_pos hb] at h3
    exact h3
  rw [e]
  constructor
  · simp
  · rw [List.getD_eq_getElem?_getD, List.getElem?_append_right (Nat.le_refl _), Nat.sub_self]; rfl

theorem meas {i N : Nat} (h : i < N) (hN : N ≤ 6000000000000) : N - (intOf (Value.int .i64 (wrap64 ((i : Int) + 1)))).toNat < N - (intOf (Value.int .i64 (i : Int))).toNat := by
  rw [up1 h hN]
  show N - ((i + 1 : Nat) : Int).toNat < N - (i : Int).toNat
  rw [Int.toNat_natCast, Int.toNat_natCast]; omega
set_option maxRecDepth 1000000 in
set_option maxHeartbeats 2000000 in
/-- It hands on vertex and mask, arc by arc. -/
theorem out1_goes (l g : Nat) (p : Option Addr) (v m : Int) (A : Option Addr) (D : List Ar) (hr : D.length * 24 ≤ 140737488355328) (W : World) :
    Goes Try.prog 35 #[.pointer (some ⟨g, 0, none⟩), .pointer (some ⟨g + 1, 0, none⟩), .pointer (some ⟨g + 2, 0, none⟩)] (flt m D).length (fun k => #[.int .i64 ((flt m D).getD k ⟨0, 0, 0⟩).f1, .int .i64 ((flt m D).getD k ⟨0, 0, 0⟩).f2]) (fun W W' => Below W.heap.size W W')
      (fun W => W.cell? ⟨g, 0, none⟩ = some (.pointer p) ∧ W.cell? ⟨g + 1, 0, none⟩ = some (.int .i64 v) ∧ W.cell? ⟨g + 2, 0, none⟩ = some (.int .i64 m) ∧ RowAt W (.pointer p) v A D) l W := by
  intro Y Yx h0 hInv hSt hStx hY
  refine callsIn_of_wp Try.func35 rfl trivial ?_ rfl
  simp only [Try.ntmps35, List.size_toArray, List.length_cons, List.length_nil, Nat.reduceAdd, Nat.reduceSub, Array.replicate_succ, Array.replicate_zero, List.push_toArray, List.append_toArray, List.nil_append, List.cons_append]
  have hF : ∀ f, Fence.wide.fn f = True := fun _ => rfl
  have hD : Fence.wide.depth = none := rfl
  obtain ⟨hg0, hg1, hg2, hrd, hrow⟩ := hInv 0 W h0
  have HROW := Lib.hid hrow
  obtain ⟨N, hN⟩ : ∃ N, D.length = N := ⟨_, rfl⟩
  have HN := Lib.hid hN
  have HNS : Hid (N ≤ 6000000000000) := Lib.hid (by omega)
  rw [hN] at HROW
  have e1 : ∀ args w, (callFunc 31 args).run Try.prog w = .ok (.enter 31 args) w := enters_of Try.func31 (by kernel_rfl) rfl
  clear hrow hrd hN
  gi_wp2_with (gi_at_call 31; refine (callsIn_wide.2 HROW.out).mono ?_; rintro e w1 ⟨c, rfl, hd⟩; replace hd := Lib.hid hd)
  have hY1 := hSt 0 W w1 hd.out.below h0
  gi_loopw [6, 11] (fun _ v11 wr => ∃ i : Nat, i ≤ N ∧ v11 = .int .i64 i ∧ Y (flt m (D.take i)).length wr) (fun _ v11 _ => N - (intOf v11).toNat)
  case atStart => exact ⟨0, Nat.zero_le _, rfl, hY1⟩
  case round =>
    obtain ⟨i, hi, rfl, hYk⟩ := hrel
    by_cases hlt : i < N
    · have hlti : (i : Int) < (N : Int) := by omega
      obtain ⟨b0, b1, b2, hrd, _⟩ := hInv _ wr hYk
      have hx : D[i]? = some (D[i]'(by rw [HN.out]; exact hlt)) := List.getElem?_eq_getElem _
      generalize (D[i]'(by rw [HN.out]; exact hlt)) = x at hx
      obtain ⟨b, o, rfl, hcell⟩ := hrd (by intro e; rw [e] at hx; cases hx)
      obtain ⟨l0, l1, l2⟩ := hcell i x hx
      have HX := Lib.hid hx
      have hYa := Lib.hid (hSt _ wr (wr.alloc (.cells #[.int .i64 x.f0, .int .i64 x.f1, .int .i64 x.f2] 62)) ((Below.refl _ _).alloc (Nat.le_refl _) _) hYk)
      have hb2 : (wr.alloc (.cells #[.int .i64 x.f0, .int .i64 x.f1, .int .i64 x.f2] 62)).cell? ⟨g + 2, 0, none⟩ = some (.int .i64 m) := Lib.cell?_alloc_some _ b2
      have hnx : Hid (Value.int .i64 (wrap64 ((i : Int) + 1)) = Value.int .i64 ((i + 1 : Nat) : Int)) := Lib.hid (wnext hlt HNS.out)
      clear hrd hcell hx b0 b1 hYk
      by_cases hb : (Go.bits .and .i64 x.f2 m != 0) = true
      · obtain ⟨hk1, hk2⟩ := flt_get HX.out hb
        have hk3 := flt_snoc (m := m) HX.out
        rw [if_pos hb] at hk3
        obtain ⟨fn, tmps, assign, body, hRy⟩ := hY _ hk1
        obtain ⟨hyr, hyR⟩ := hRy _ hYa.out
        rw [hk2] at hyr
        have HyR := Lib.hid hyR
        have HK3 := Lib.hid hk3
        have hbb : (Go.bits .and .i64 x.f2 m == 0) = false := by simpa using hb
        clear hRy hyR hk1 hk2 hk3 hY hYa
        gi_wp2
        refine RoundIn.mono HyR.out ?_
        rintro e w' ⟨bv, rfl, hy1, hy2⟩
        cases bv
        · gi_wp2
          refine bodyPost_ret (results_none rfl _ _ _) rfl ?_
          exact ⟨⟨_, rfl⟩, .inr (hy2 (by first | rfl | trivial))⟩
        · gi_wp2
          go_roundw
          case rel => exact ⟨i + 1, hlt, by first | exact hnx.out | go_num, by rw [HK3.out, List.length_append]; exact hy1 (by first | rfl | trivial)⟩
          case measure => exact meas hlt HNS.out
      · have hk3 := flt_snoc (m := m) HX.out
        rw [if_neg hb, List.append_nil] at hk3
        have HK3 := Lib.hid hk3
        have hbb : (Go.bits .and .i64 x.f2 m == 0) = true := by simpa using hb
        have hb0 : Go.bits .and .i64 x.f2 m = 0 := by simpa using hb
        clear hk3 hY hb
        gi_wp2
        go_roundw
        case rel => exact ⟨i + 1, hlt, by first | exact hnx.out | go_num, by rw [HK3.out]; exact hYa.out⟩
        case measure => exact meas hlt HNS.out
    · have hin : N = i := by omega
      subst hin
      have hlti : ¬ (N : Int) < (N : Int) := by omega
      rw [List.take_of_length_le (by rw [HN.out]; exact Nat.le_refl _)] at hYk
      have HY := Lib.hid hYk
      gi_wp2
      go_end0
      exact ⟨⟨_, rfl⟩, .inl HY.out⟩
end Go.Proofs.Ytdchnaghmmhkhaa.Cs.Ai
