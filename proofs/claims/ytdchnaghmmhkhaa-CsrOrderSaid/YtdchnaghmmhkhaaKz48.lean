/- Printed by shake.py. -/
import Derived.Test.YtdchnaghmmhkhaaKz43
import Derived.Test.YtdchnaghmmhkhaaKz47
set_option linter.unusedSimpArgs false
namespace Go.Proofs.Ytdchnaghmmhkhaa
open Go.Shelf Go.RowKit Go.Lib Go.Sort Go.Proofs.Ytdchnaghmmhkhaa.RowAt Go.Proofs.Ytdchnaghmmhkhaa.PCsrGraphs Go.Proofs.YtdchnaghmmhkhaaW.PrintWords Go.Proofs.YtdchnaghmmhkhaaW.PrintLast Cs
set_option linter.unusedSectionVars false
set_option linter.unusedVariables false
theorem opens_CsrOrder_1 (W : World) : Opens Try.prog W 22 (fun (l : List S53) cs => ∃ A c, cs = [.slice A l.length c] ∧ l.length ≤ c ∧ Ai.InA W A l) := Ai.opens_arcs W
theorem in_reads {w : World} {A : Option Addr} {l : List S53} (h : Kd.C k53 w A l.length l) : Ai.Reads w A (l.map Ai.ofR) := fun hne => by
 have h0 : 0 < l.length := by
  rcases Nat.eq_zero_or_pos l.length with e | e
  ·exact absurd (by rw [List.eq_nil_of_length_eq_zero e]; rfl) hne
  ·exact e
 obtain ⟨ad, rfl, hc⟩ := h.2.2 h0
 obtain ⟨b, o, s⟩ := ad
 have hs : s = none := by
  obtain ⟨c, hl, hk, hcell⟩ := hc 0 _ (List.getElem?_eq_getElem h0)
  obtain rfl := k53_open hk
  have := hcell 0 _ rfl
  cases s with
  | none => rfl
  | some q =>
   exact absurd this (by
    simp only [World.cell?, Addr.add]
    split <;> simp)
 subst hs
 refine ⟨b, o, rfl, fun i x hx => ?_⟩
 rw [List.getElem?_map] at hx
 obtain ⟨y, hy, rfl⟩ := Option.map_eq_some_iff.1 hx
 obtain ⟨c, _, hk, hcell⟩ := hc i y hy
 obtain rfl := k53_open hk
 have e : ∀ d v, [Value.int .i64 y.f0, .int .i64 y.f1, .int .i64 y.f2][d]? = some v → w.cell? ⟨b, o + i * 3 + d, none⟩ = some v := fun d v hv => by
  have := hcell d v hv
  rw [Addr.add_lit] at this
  rw [Nat.add_assoc]; exact this
 exact ⟨e 0 _ rfl, e 1 _ rfl, e 2 _ rfl⟩
def pw (j : Nat) : Int := (2 ^ j : Nat)
theorem pw_lt {j : Nat} (h : j < 3) : pw j < 8 ∧ 2 * pw j = pw (j + 1) ∧ 0 < pw j := by
 rcases (by omega : j = 0 ∨ j = 1 ∨ j = 2) with rfl | rfl | rfl <;> decide
theorem bits3_take {x : Ar} {j : Nat} (h : j < 3) : (bits3 x).take (j + 1) = (bits3 x).take j ++ [⟨x.f0, x.f1, Go.bits .and .u8 x.f2 (pw j)⟩] := by
 rcases (by omega : j = 0 ∨ j = 1 ∨ j = 2) with rfl | rfl | rfl <;> rfl
theorem flat3_len (L : List Ar) : (L.flatMap bits3).length = 3 * L.length := by
 induction L with
 | nil => rfl
 | cons a L ih => rw [List.flatMap_cons, List.length_append, ih]; simp [bits3]; omega
theorem meas_k {k N : Nat} (h : k < N) : N - (intOf (Value.int .i64 ((k : Int) + 1))).toNat < N - (intOf (Value.int .i64 (k : Int))).toNat := by
 show N - ((k : Int) + 1).toNat < N - (k : Int).toNat
 omega
theorem meas_b {b : Int} (h : b < 8) (h0 : 0 < b) : 8 - (intOf (Value.int .u8 (2 * b))).toNat < 8 - (intOf (Value.int .u8 b)).toNat := by
 show 8 - (2 * b).toNat < 8 - b.toNat
 omega
def R2 (B : Nat) (W : World) (vm : Value) (xs : List Ar) (vs : Value) (ys : List Ar) : Prop :=
 W.ownsRow B 55 3 vm xs.length (xs.flatMap Au.enc1) ∧ W.ownsRow B 55 3 vs ys.length (ys.flatMap Au.enc1) ∧ ∀ q, vm.ownBlock = some q → vs.ownBlock ≠ some q
theorem R2.below {B : Nat} {W W' : World} {vm vs : Value} {xs ys : List Ar} (h : R2 B W vm xs vs ys) (hb : Below W.heap.size W W') : R2 B W' vm xs vs ys := ⟨Ai.own_below h.1 hb, Ai.own_below h.2.1 hb, h.2.2⟩
theorem R2.app1 {B : Nat} {W W1 : World} {vm vm1 vs : Value} {xs ys : List Ar} {a : Ar} (h : R2 B W vm xs vs ys) (ho : W1.ownsRow B 55 3 vm1 (xs.length + 1) (xs.flatMap Au.enc1 ++ Au.enc1 a))
 (hg : W.grownBy W1 vm.ownBlock) (hat : vm1.ownBlock = vm.ownBlock ∨ ∃ b, vm1.ownBlock = some b ∧ W.heap.size ≤ b) : R2 B W1 vm1 (xs ++ [a]) vs ys := by
 refine ⟨?_, Ai.own_mv h.2.1 fun q hq => hg.block q (World.ownsRow.lt h.2.1 q hq).2 (fun e => h.2.2 q e.symm hq), fun q hq hs => ?_⟩
 ·rw [List.length_append, List.flatMap_append, show [a].flatMap Au.enc1 = Au.enc1 a from List.append_nil _]; exact ho
 ·rcases hat with e | ⟨b, e, hb⟩
  ·exact h.2.2 q (e.symm.trans hq) hs
  ·have := (World.ownsRow.lt h.2.1 q hs).2
   rw [e] at hq
   have := Option.some.inj hq
   omega
theorem R2.app2 {B : Nat} {W W1 : World} {vm vs vs1 : Value} {xs ys : List Ar} {a : Ar} (h : R2 B W vm xs vs ys) (ho : W1.ownsRow B 55 3 vs1 (ys.length + 1) (ys.flatMap Au.enc1 ++ Au.enc1 a))
 (hg : W.grownBy W1 vs.ownBlock) (hat : vs1.ownBlock = vs.ownBlock ∨ ∃ b, vs1.ownBlock = some b ∧ W.heap.size ≤ b) : R2 B W1 vm xs vs1 (ys ++ [a]) := by
 refine ⟨Ai.own_mv h.1 fun q hq => hg.block q (World.ownsRow.lt h.1 q hq).2 (fun e => h.2.2 q hq e.symm), ?_, fun q hq hs => ?_⟩
 ·rw [List.length_append, List.flatMap_append, show [a].flatMap Au.enc1 = Au.enc1 a from List.append_nil _]; exact ho
 ·rcases hat with e | ⟨b, e, hb⟩
  ·exact h.2.2 q hq (e.symm.trans hs)
  ·have := (World.ownsRow.lt h.1 q hq).2
   rw [e] at hs
   have := Option.some.inj hs
   omega
def RgOs.T : Bool × List (List Nat × List Nat) := (true, [([], []), ([], []), ([], []), ([1, 2], [1, 2]), ([3], [3]), ([4], [4]), ([], []), ([], []), ([6, 7], [6, 7]), ([8], [8]), ([9], [9]), ([], []), ([], []), ([11, 12], [11, 12]), ([13], [13]), ([14], [14]), ([15], [15]), ([], []), ([16, 17], [16, 17]), ([5, 10, 18], [5, 10, 18]), ([19], [19]), ([0, 20], [0, 20]), ([21, 21, 0, 1, 2, 3, 4, 5, 6, 7, 8, 9, 10, 11, 12, 13, 14, 15, 16, 17, 18, 19, 20, 21], [0, 21])])
def RgOs.B : List Nat := [0, 0, 0, 6, 14, 30, 0, 0, 192, 448, 960, 0, 0, 6144, 14336, 30720, 63488, 0, 260096, 524286, 1048574, 2097151, 4194303]
theorem RgOs.tab : rtab .any (opsOf Try.f6 15) = RgOs.T := by kernel_rfl
theorem RgOs.bits : waitsOk RgOs.T.2 RgOs.B = true := by kernel_rfl
set_option maxRecDepth 1000000 in
set_option maxHeartbeats 8000000 in
theorem order_ok (w : World) (n : Nat) (A : Option Addr) (c : Nat) (l : List S53) (hi : Hid (Ai.InA w A l)) (hc : l.length ≤ c) (t : Nat) (ht : t ≤ 255) (hn : n ≤ 60) (hl : l.length ≤ 200) (hok : Hid (l.any (fun x => Ai.outA n (Ai.ofR x)) = false)) (hf : Hid (Ai.fewB n l 60 200 = true)) :
 Calls Try.prog 6 #[.int .i64 n, .slice A l.length c, .int .u8 (t : Int)] w fun e w' => e = .returned (.bool true) ∧ Below w.heap.size w w' := by
 have hin : ∀ x ∈ l, 0 ≤ x.f0 ∧ x.f0 < n ∧ 0 ≤ x.f1 ∧ x.f1 < n := fun x hx => by
  have h := Ai.out_in.1 (by rw [List.any_map]; exact hok.out : (l.map Ai.ofR).any (Ai.outA n) = false) (Ai.ofR x) (List.mem_map.2 ⟨x, hx, rfl⟩)
  exact ⟨h.1.1, h.1.2, h.2.1, h.2.2⟩
 have HF : Hid (Calls Try.prog 19 #[.int .i64 n, .slice A l.length c, .int .i64 60, .int .i64 200] w fun e w' => e = .returned (.bool true) ∧ Drawn0 w w') := Lib.hid (by
  obtain ⟨k, hk⟩ := Ai.few_f n l 60 200 (by decide)
  rw [hf.out] at hk
  exact coronerref19_Few.calls k n A c l 60 200 true w hi.out.each.1 hc hk)
 have HIN := Lib.hid hin
 have HRN := Lib.hid (rnew_ok w n A c l hi.out hc hl hok.out (by omega))
 have HSQ := Lib.hid (Ai.sq_new l (Ai.sq0 n) hin (Ai.sq0_sq n))
 have HRD := Lib.hid (in_reads hi.out.each.1)
 clear hin hi hok hf
 obtain ⟨NL, hNL⟩ : ∃ N, l.length = N := ⟨_, rfl⟩
 have HNL := Lib.hid hNL
 rw [hNL] at HF HRN hl hc ⊢
 clear hNL
 obtain ⟨D, hD⟩ : ∃ D, l.map Ai.ofR = D := ⟨_, rfl⟩
 rw [hD] at HRD
 have HD := Lib.hid hD
 have HDL : Hid (D.length = NL) := Lib.hid (by rw [← hD, List.length_map]; exact HNL.out)
 clear hD
 go_enter Try.func6, Try.ntmps6
 go_wp2_with (fail)
 refine HF.out.mono ?_
 rintro e w1 ⟨rfl, hd1⟩
 have HB1 := Lib.hid hd1.below
 clear hd1 HF
 go_wp2_with (fail)
 go_loopw [7, 8, 9] (fun v7 v8 v9 wr => ∃ k : Nat, k ≤ NL ∧ v9 = .int .i64 k ∧ Aside ((∀ a ∈ D.take k, small a) ∧ R2 w.heap.size wr v7 (rot D t k) v8 ((D.take k).flatMap bits3) ∧ Below w.heap.size w wr)) (fun _ _ v9 _ => NL - (intOf v9).toNat)
 case atStart => exact ⟨0, Nat.zero_le _, rfl, (fun a ha => by (cases ha)), ⟨World.ownsRow_nil _ _ _ _, World.ownsRow_nil _ _ _ _, fun q hq => by (cases hq)⟩, HB1.out⟩
 case round =>
  obtain ⟨k, hk, rfl, HR⟩ := hrel
  by_cases hlt : k < NL
  ·have hlti : (k : Int) < (NL : Int) := by omega
   have hx : D[k]? = some (D[k]'(by rw [HDL.out]; exact hlt)) := List.getElem?_eq_getElem _
   have htk : D.take (k + 1) = D.take k ++ [D[k]'(by rw [HDL.out]; exact hlt)] := by rw [List.take_add_one, hx]; rfl
   generalize (D[k]'(by rw [HDL.out]; exact hlt)) = x at hx htk
   obtain ⟨b, o, rfl, hcell⟩ := HRD.out (by intro e; rw [e] at hx; cases hx)
   obtain ⟨q0, q1, q2⟩ := hcell k x hx
   have hbw := HR.out.2.2
   have l0 := Ai.below_cell hbw _ _ q0
   have l1 := Ai.below_cell hbw _ _ q1
   have l2 := Ai.below_cell hbw _ _ q2
   have HC := Lib.hid hcell
   have HTK := Lib.hid htk
   have HX := Lib.hid hx
   clear q0 q1 q2 hcell hx htk hbw
   by_cases h0 : x.f2 < 0
   ·have HBE := Lib.hid HR.out.2.2
    go_wp2_with (fail)
    refine (Ai.works_c _).mono ?_
    rintro e w5 ⟨rfl, hb5⟩
    have HB5 := Lib.hid (HBE.out.trans (hb5.mono HBE.out.size))
    clear hb5
    go_wp2
    go_ret
    exact ⟨rfl, HB5.out⟩
   ·by_cases h7 : 7 < x.f2
    ·have HBE := Lib.hid HR.out.2.2
     go_wp2_with (fail)
     refine (Ai.works_c _).mono ?_
     rintro e w5 ⟨rfl, hb5⟩
     have HB5 := Lib.hid (HBE.out.trans (hb5.mono HBE.out.size))
     clear hb5
     go_wp2
     go_ret
     exact ⟨rfl, HB5.out⟩
    ·have hjl : (k + t) % NL < NL := Nat.mod_lt _ (by omega)
     have hy : D[(k + t) % NL]? = some (D[(k + t) % NL]'(by rw [HDL.out]; exact hjl)) := List.getElem?_eq_getElem _
     have hyd : D.getD ((k + t) % D.length) ⟨0, 0, 0⟩ = D[(k + t) % NL]'(by rw [HDL.out]; exact hjl) := by rw [show (k + t) % D.length = (k + t) % NL from congrArg (fun z => (k + t) % z) HDL.out, List.getD_eq_getElem?_getD, hy]; rfl
     generalize (D[(k + t) % NL]'(by rw [HDL.out]; exact hjl)) = y at hy hyd
     have hrot : rot D t (k + 1) = rot D t k ++ [wr8 y] := by rw [rot_succ, hyd]
     have HROT := Lib.hid hrot
     have hb1 : ((k : Int) + (t : Int)) % (NL : Int) < (NL : Int) := Int.emod_lt_of_pos _ (by omega)
     have hb2 : 0 ≤ ((k : Int) + (t : Int)) % (NL : Int) := Int.emod_nonneg _ (by omega)
     obtain ⟨r0, r1, r2⟩ := HC.out _ y hy
     have n0 := Ai.below_cell HR.out.2.2 _ _ r0
     have n1 := Ai.below_cell HR.out.2.2 _ _ r1
     have n2 := Ai.below_cell HR.out.2.2 _ _ r2
     have hrl : (rot D t k).length = k := by unfold rot; rw [List.length_map, List.length_range]
     have hsl : ((D.take k).flatMap bits3).length = 3 * k := by rw [flat3_len, List.length_take, HDL.out]; omega
     obtain ⟨A7, c7, e7⟩ := Ai.own_slice HR.out.2.1.1
     obtain ⟨A8, c8, e8⟩ := Ai.own_slice HR.out.2.1.2.1
     rw [hrl] at e7
     rw [hsl] at e8
     subst e7 e8
     have hW2 : Below wr.heap.size wr ((wr.alloc (.cells #[.int .i64 y.f0, .int .i64 y.f1, .int .i64 y.f2] 53)).alloc (.cells #[.int .i64 y.f0, .int .i64 y.f1, .int .u8 (y.f2 % 256)] 55)) := ((Below.refl _ wr).alloc (Nat.le_refl _) _).alloc (by simp) _
     have HR2 := Lib.hid (HR.out.2.1.below hW2)
     have HB2 := Lib.hid (HR.out.2.2.trans (hW2.mono HR.out.2.2.size))
     have HC2 := Lib.hid (Cells.new (wr.alloc (.cells #[.int .i64 y.f0, .int .i64 y.f1, .int .i64 y.f2] 53)) [.int .i64 y.f0, .int .i64 y.f1, .int .u8 (y.f2 % 256)] 55)
     have HO7 : Hid (((wr.alloc (.cells #[.int .i64 y.f0, .int .i64 y.f1, .int .i64 y.f2] 53)).alloc (.cells #[.int .i64 y.f0, .int .i64 y.f1, .int .u8 (y.f2 % 256)] 55)).ownsRow w.heap.size 55 3 (.slice A7 k c7) k ((rot D t k).flatMap Au.enc1)) := Lib.hid (by have h := HR2.out.1; rw [hrl] at h; exact h)
     rw [World.size_alloc] at HC2
     have HMK := Lib.hid (meas_k hlt)
     have HLA := Lib.hid (show (k + 1) * 24 ≤ 140737488355328 by omega)
     have hw8 : wr8 y = ⟨y.f0, y.f1, y.f2 % 256⟩ := by unfold wr8; rw [IntKind.wrap_u8]
     have HRS := Lib.hid hrl
     have HSS := Lib.hid hsl
     have HW8 := Lib.hid hw8
     have HSM : Hid (∀ a ∈ D.take (k + 1), small a) := Lib.hid fun a ha => by
      rw [HTK.out] at ha
      rcases List.mem_append.1 ha with h | h
      ·exact HR.out.1 a h
      ·rw [List.mem_singleton] at h; subst h; exact ⟨by omega, by omega⟩
     have FXL : Hid (∀ W, Below w.heap.size w W → W.cell? ⟨b, o + k * 3, none⟩ = some (.int .i64 x.f0) ∧ W.cell? ⟨b, o + k * 3 + 1, none⟩ = some (.int .i64 x.f1) ∧ W.cell? ⟨b, o + k * 3 + 2, none⟩ = some (.int .i64 x.f2)) := Lib.hid fun W hb => by
      obtain ⟨q0, q1, q2⟩ := HC.out k x HX.out
      exact ⟨Ai.below_cell hb _ _ q0, Ai.below_cell hb _ _ q1, Ai.below_cell hb _ _ q2⟩
     clear r0 r1 r2 hy hyd hrot hW2 hjl hrl hsl hw8 HR
     go_wp2_with (at_builtin; refine wpl_appK (w0 := w) w.heap.size rfl _ _ 51 55 (.agg Au.zc) 3 24 rfl Try.underlying51 Au.arc_info rfl (by decide) (by decide) (.slice A7 k c7) ((rot D t k).flatMap Au.enc1) (Au.enc1 ⟨y.f0, y.f1, y.f2 % 256⟩) (some ⟨wr.heap.size + 1, 0, none⟩) k 1 1 rfl rfl rfl ?qo ?qc (Au.enc1_one _) ?qb ?qs ?ql ?_)
     case qo => exact HO7.out
     case qc => exact HC2.out
     case qb => exact HB2.out
     case qs => have h := HB2.out.size; simp only [World.size_alloc] at h; exact h
     case ql => exact HLA.out
     intro A9 c9 w2 ho2 hb2 hg2 hat2 _
     have HR3 := Lib.hid (HR2.out.app1 (by rw [HRS.out]; exact ho2) hg2 (hat2.imp id fun ⟨b, e, h⟩ => ⟨b, e, by simp only [World.size_alloc]; exact h⟩))
     have HB3 := Lib.hid hb2
     clear ho2 hb2 hg2 hat2 HR2 HB2 HC2 HO7
     go_wp2_with (fail)
     go_loopw [8, 11] (fun v8 v11 wq => ∃ (j : Nat) (bj : Int), j ≤ 3 ∧ bj = pw j ∧ v11 = .int .u8 bj ∧ Aside (R2 w.heap.size wq (.slice A9 (k + 1) c9) (rot D t k ++ [⟨y.f0, y.f1, y.f2 % 256⟩]) v8 ((D.take k).flatMap bits3 ++ (bits3 x).take j) ∧ Below w.heap.size w wq)) (fun _ v11 _ => 8 - (intOf v11).toNat)
     case atStart => exact ⟨0, 1, by omega, rfl, rfl, by rw [List.take_zero, List.append_nil]; exact HR3.out, HB3.out⟩
     case round =>
      obtain ⟨j, bj, hj, hbj, rfl, HQ⟩ := hrel
      by_cases hj3 : j < 3
      ·obtain ⟨p1, p2, p3⟩ := pw_lt hj3
       have hbl : bj < 8 := by omega
       have hx8 : x.f2 % 256 = x.f2 := by omega
       have hyl : ((D.take k).flatMap bits3 ++ (bits3 x).take j).length = 3 * k + j := by rw [List.length_append, HSS.out, List.length_take]; simp [bits3]; omega
       have HYY := Lib.hid (bits3_take (x := x) hj3)
       have HNB : Hid (Value.int .u8 (2 * bj) = Value.int .u8 (pw (j + 1))) := Lib.hid (by rw [hbj, p2])
       have HYL := Lib.hid hyl
       obtain ⟨A8, c8, e8⟩ := Ai.own_slice HQ.out.1.2.1
       rw [hyl] at e8
       subst e8
       obtain ⟨sl, hsl⟩ : ∃ sl, sl = 3 * k + j := ⟨_, rfl⟩
       rw [← hsl]
       obtain ⟨ys, hys⟩ : ∃ ys, ys = (D.take k).flatMap bits3 ++ (bits3 x).take j := ⟨_, rfl⟩
       rw [← hsl, ← hys] at HYL
       have HRb := HQ.out.1.below ((Below.refl _ wr).drew)
       rw [← hsl, ← hys] at HRb
       have HRb := Lib.hid HRb
       have hbD := HQ.out.2.drew
       have HLB := Lib.hid (show (sl + 1) * 24 ≤ 140737488355328 by omega)
       have HYS := Lib.hid hys
       clear HQ hys hyl hsl
       have HMS := Lib.hid (meas_b hbl (by omega))
       have HYL2 : Hid (((D.take k).flatMap bits3 ++ (bits3 x).take j) = ys) := Lib.hid HYS.out.symm
       have hm0 : (2 * bj) % 256 = pw (j + 1) := by rw [hbj, p2]; rw [hbj] at hbl; have := p2; omega
       have hx8w : IntKind.u8.wrap x.f2 = x.f2 := by rw [IntKind.wrap_u8]; exact hx8
       rw [← hbj] at HYY p1 p3
       clear hbj p2
       go_wp2_with (fail)
       refine start_ (n := 23) (S := fun W => Below w.heap.size w W) (ds := []) #[false, false, false, false, false, false, false, false, false, false, false, false, false, false, false, false, false, false, false, false, false, false, false] (by kernel_rfl) rfl rfl hbD (fun hHeld => ?_)
       refine with_tabW RgOs.tab RgOs.bits (fun HT_ HW_ => ?_)
       generalize wr.drew = wb at *
       refine pure_ (i := 0) (N := some 73) (v := ?_) (a' := ?_) #[true, false, false, false, false, false, false, false, false, false, false, false, false, false, false, false, false, false, false, false, false, false, false] rfl rfl (any_of HT_.out (by kernel_rfl)) (fun _ _ _ h => h) (Or.inl ⟨by rfl, ?_⟩) ?_ ?_
       rotate_left
       ·intro w'
        go_simp
        with_reducible rfl
       rotate_left
       ·simp only [Act.put, List.setIfInBounds_toArray, List.set_cons_zero, List.set_cons_succ, i64_w, i32_w]
        rfl
       refine pure_ (i := 1) (N := some 74) (v := ?_) (a' := ?_) #[true, true, false, false, false, false, false, false, false, false, false, false, false, false, false, false, false, false, false, false, false, false, false] rfl rfl (any_of HT_.out (by kernel_rfl)) (fun _ _ _ h => h) (Or.inl ⟨by rfl, ?_⟩) ?_ ?_
       rotate_left
       ·intro w'
        go_simp
        with_reducible rfl
       rotate_left
       ·simp only [Act.put, List.setIfInBounds_toArray, List.set_cons_zero, List.set_cons_succ, i64_w, i32_w]
        rfl
       refine pure_ (i := 2) (N := some 75) (v := ?_) (a' := ?_) #[true, true, true, false, false, false, false, false, false, false, false, false, false, false, false, false, false, false, false, false, false, false, false] rfl rfl (any_of HT_.out (by kernel_rfl)) (fun _ _ _ h => h) (Or.inl ⟨by rfl, ?_⟩) ?_ ?_
       rotate_left
       ·intro w'
        go_simp
        with_reducible rfl
       rotate_left
       ·simp only [Act.put, List.setIfInBounds_toArray, List.set_cons_zero, List.set_cons_succ, i64_w, i32_w]
        rfl
       refine pure_ (i := 3) (N := some 76) (v := ?_) (a' := ?_) #[true, true, true, true, false, false, false, false, false, false, false, false, false, false, false, false, false, false, false, false, false, false, false] rfl rfl (any_of HT_.out (by kernel_rfl)) (fun _ _ _ h => h) (Or.inl ⟨by rfl, ?_⟩) ?_ ?_
       rotate_left
       ·intro w'
        go_simp
        with_reducible rfl
       rotate_left
       ·simp only [Act.put, List.setIfInBounds_toArray, List.set_cons_zero, List.set_cons_succ, i64_w, i32_w]
        rfl
       refine pure_ (i := 4) (N := some 77) (v := ?_) (a' := ?_) #[true, true, true, true, true, false, false, false, false, false, false, false, false, false, false, false, false, false, false, false, false, false, false] rfl rfl (any_of HT_.out (by kernel_rfl)) (fun _ _ _ h => h) (Or.inl ⟨by rfl, ?_⟩) ?_ ?_
       rotate_left
       ·intro w'
        go_simp
        with_reducible rfl
       rotate_left
       ·simp only [Act.put, List.setIfInBounds_toArray, List.set_cons_zero, List.set_cons_succ, i64_w, i32_w]
        rfl
       refine take_ (i := 5) (N := some 78) (v := ?_) (a' := ?_) #[true, true, true, true, true, true, false, false, false, false, false, false, false, false, false, false, false, false, false, false, false, false, false] rfl rfl (take_ofW HT_.out HW_.out (by kernel_rfl)) (fun _ _ _ h => h) (Or.inl ⟨by rfl, ?_⟩) hHeld ?_ ?_
       rotate_left
       ·intro w' hW
        obtain ⟨x0_, x1_, x2_⟩ := FXL.out w' hW
        go_simp
        with_reducible rfl
       rotate_left
       ·simp only [Act.put, List.setIfInBounds_toArray, List.set_cons_zero, List.set_cons_succ, i64_w, i32_w]
        rfl
       refine pure_ (i := 6) (N := some 79) (v := ?_) (a' := ?_) #[true, true, true, true, true, true, true, false, false, false, false, false, false, false, false, false, false, false, false, false, false, false, false] rfl rfl (any_of HT_.out (by kernel_rfl)) (fun _ _ _ h => h) (Or.inl ⟨by rfl, ?_⟩) ?_ ?_
       rotate_left
       ·intro w'
        go_simp
        with_reducible rfl
       rotate_left
       ·simp only [Act.put, List.setIfInBounds_toArray, List.set_cons_zero, List.set_cons_succ, i64_w, i32_w]
        rfl
       refine pure_ (i := 7) (N := some 80) (v := ?_) (a' := ?_) #[true, true, true, true, true, true, true, true, false, false, false, false, false, false, false, false, false, false, false, false, false, false, false] rfl rfl (any_of HT_.out (by kernel_rfl)) (fun _ _ _ h => h) (Or.inl ⟨by rfl, ?_⟩) ?_ ?_
       rotate_left
       ·intro w'
        go_simp
        with_reducible rfl
       rotate_left
       ·simp only [Act.put, List.setIfInBounds_toArray, List.set_cons_zero, List.set_cons_succ, i64_w, i32_w]
        rfl
       refine pure_ (i := 8) (N := some 81) (v := ?_) (a' := ?_) #[true, true, true, true, true, true, true, true, true, false, false, false, false, false, false, false, false, false, false, false, false, false, false] rfl rfl (any_of HT_.out (by kernel_rfl)) (fun _ _ _ h => h) (Or.inl ⟨by rfl, ?_⟩) ?_ ?_
       rotate_left
       ·intro w'
        go_simp
        with_reducible rfl
       rotate_left
       ·simp only [Act.put, List.setIfInBounds_toArray, List.set_cons_zero, List.set_cons_succ, i64_w, i32_w]
        rfl
       refine pure_ (i := 9) (N := some 82) (v := ?_) (a' := ?_) #[true, true, true, true, true, true, true, true, true, true, false, false, false, false, false, false, false, false, false, false, false, false, false] rfl rfl (any_of HT_.out (by kernel_rfl)) (fun _ _ _ h => h) (Or.inl ⟨by rfl, ?_⟩) ?_ ?_
       rotate_left
       ·intro w'
        go_simp
        with_reducible rfl
       rotate_left
       ·simp only [Act.put, List.setIfInBounds_toArray, List.set_cons_zero, List.set_cons_succ, i64_w, i32_w]
        rfl
       refine take_ (i := 10) (N := some 83) (v := ?_) (a' := ?_) #[true, true, true, true, true, true, true, true, true, true, true, false, false, false, false, false, false, false, false, false, false, false, false] rfl rfl (take_ofW HT_.out HW_.out (by kernel_rfl)) (fun _ _ _ h => h) (Or.inl ⟨by rfl, ?_⟩) hHeld ?_ ?_
       rotate_left
       ·intro w' hW
        obtain ⟨x0_, x1_, x2_⟩ := FXL.out w' hW
        go_simp
        with_reducible rfl
       rotate_left
       ·simp only [Act.put, List.setIfInBounds_toArray, List.set_cons_zero, List.set_cons_succ, i64_w, i32_w]
        rfl
       refine pure_ (i := 11) (N := some 84) (v := ?_) (a' := ?_) #[true, true, true, true, true, true, true, true, true, true, true, true, false, false, false, false, false, false, false, false, false, false, false] rfl rfl (any_of HT_.out (by kernel_rfl)) (fun _ _ _ h => h) (Or.inl ⟨by rfl, ?_⟩) ?_ ?_
       rotate_left
       ·intro w'
        go_simp
        with_reducible rfl
       rotate_left
       ·simp only [Act.put, List.setIfInBounds_toArray, List.set_cons_zero, List.set_cons_succ, i64_w, i32_w]
        rfl
       refine pure_ (i := 12) (N := some 85) (v := ?_) (a' := ?_) #[true, true, true, true, true, true, true, true, true, true, true, true, true, false, false, false, false, false, false, false, false, false, false] rfl rfl (any_of HT_.out (by kernel_rfl)) (fun _ _ _ h => h) (Or.inl ⟨by rfl, ?_⟩) ?_ ?_
       rotate_left
       ·intro w'
        go_simp
        with_reducible rfl
       rotate_left
       ·simp only [Act.put, List.setIfInBounds_toArray, List.set_cons_zero, List.set_cons_succ, i64_w, i32_w]
        rfl
       refine pure_ (i := 13) (N := some 86) (v := ?_) (a' := ?_) #[true, true, true, true, true, true, true, true, true, true, true, true, true, true, false, false, false, false, false, false, false, false, false] rfl rfl (any_of HT_.out (by kernel_rfl)) (fun _ _ _ h => h) (Or.inl ⟨by rfl, ?_⟩) ?_ ?_
       rotate_left
       ·intro w'
        go_simp
        with_reducible rfl
       rotate_left
       ·simp only [Act.put, List.setIfInBounds_toArray, List.set_cons_zero, List.set_cons_succ, i64_w, i32_w]
        rfl
       refine pure_ (i := 14) (N := some 87) (v := ?_) (a' := ?_) #[true, true, true, true, true, true, true, true, true, true, true, true, true, true, true, false, false, false, false, false, false, false, false] rfl rfl (any_of HT_.out (by kernel_rfl)) (fun _ _ _ h => h) (Or.inl ⟨by rfl, ?_⟩) ?_ ?_
       rotate_left
       ·intro w'
        go_simp
        with_reducible rfl
       rotate_left
       ·simp only [Act.put, List.setIfInBounds_toArray, List.set_cons_zero, List.set_cons_succ, i64_w, i32_w]
        rfl
       refine take_ (i := 15) (N := some 88) (v := ?_) (a' := ?_) #[true, true, true, true, true, true, true, true, true, true, true, true, true, true, true, true, false, false, false, false, false, false, false] rfl rfl (take_ofW HT_.out HW_.out (by kernel_rfl)) (fun _ _ _ h => h) (Or.inl ⟨by rfl, ?_⟩) hHeld ?_ ?_
       rotate_left
       ·intro w' hW
        obtain ⟨x0_, x1_, x2_⟩ := FXL.out w' hW
        go_simp
        with_reducible rfl
       rotate_left
       ·simp only [Act.put, List.setIfInBounds_toArray, List.set_cons_zero, List.set_cons_succ, i64_w, i32_w]
        rfl
       refine pure_ (i := 16) (N := some 89) (v := ?_) (a' := ?_) #[true, true, true, true, true, true, true, true, true, true, true, true, true, true, true, true, true, false, false, false, false, false, false] rfl rfl (any_of HT_.out (by kernel_rfl)) (fun _ _ _ h => h) (Or.inl ⟨by rfl, ?_⟩) ?_ ?_
       rotate_left
       ·intro w'
        go_simp
        with_reducible rfl
       rotate_left
       ·simp only [Act.put, List.setIfInBounds_toArray, List.set_cons_zero, List.set_cons_succ, i64_w, i32_w]
        rfl
       refine pure_ (i := 17) (N := some 90) (v := ?_) (a' := ?_) #[true, true, true, true, true, true, true, true, true, true, true, true, true, true, true, true, true, true, false, false, false, false, false] rfl rfl (any_of HT_.out (by kernel_rfl)) (fun _ _ _ h => h) (Or.inl ⟨by rfl, ?_⟩) ?_ ?_
       rotate_left
       ·intro w'
        go_simp
        with_reducible rfl
       rotate_left
       ·simp only [Act.put, List.setIfInBounds_toArray, List.set_cons_zero, List.set_cons_succ, i64_w, i32_w]
        rfl
       refine pure_ (i := 18) (N := some 91) (v := ?_) (a' := ?_) #[true, true, true, true, true, true, true, true, true, true, true, true, true, true, true, true, true, true, true, false, false, false, false] rfl rfl (any_of HT_.out (by kernel_rfl)) (fun _ _ _ h => h) (Or.inl ⟨by rfl, ?_⟩) ?_ ?_
       rotate_left
       ·intro w'
        go_simp
        with_reducible rfl
       rotate_left
       ·simp only [Act.put, List.setIfInBounds_toArray, List.set_cons_zero, List.set_cons_succ, i64_w, i32_w]
        rfl
       refine pure_ (i := 19) (N := some 92) (v := ?_) (a' := ?_) #[true, true, true, true, true, true, true, true, true, true, true, true, true, true, true, true, true, true, true, true, false, false, false] rfl rfl (any_of HT_.out (by kernel_rfl)) (fun _ _ _ h => h) (Or.inl ⟨by rfl, ?_⟩) ?_ ?_
       rotate_left
       ·intro w'
        go_simp
        with_reducible rfl
       rotate_left
       ·simp only [Act.put, List.setIfInBounds_toArray, List.set_cons_zero, List.set_cons_succ, i64_w, i32_w]
        rfl
       refine one_ (i := 20) (N := some 93) #[true, true, true, true, true, true, true, true, true, true, true, true, true, true, true, true, true, true, true, true, true, false, false] rfl rfl (one_of HT_.out (by kernel_rfl)) (by decide) (fun K hK => ?_)
       refine value_ (v := .slice (some ⟨wb.heap.size, 0, none⟩) 1 1) (w1 := wb.alloc (.cells #[.int .i64 x.f0, .int .i64 x.f1, .int .u8 (Go.bits .and .u8 x.f2 bj)] 55)) (by rfl) rfl (by first | (go_simp; done) | (go_simp; rfl)) ?_
       have hn_ := hHeld.alloc hHeld.size (.cells #[.int .i64 x.f0, .int .i64 x.f1, .int .u8 (Go.bits .and .u8 x.f2 bj)] 55)
       have HR9 := Lib.hid (HRb.out.below ((Below.refl _ wb).alloc (Nat.le_refl _) (.cells #[.int .i64 x.f0, .int .i64 x.f1, .int .u8 (Go.bits .and .u8 x.f2 bj)] 55)))
       have HC9 := Lib.hid (Cells.new wb (Au.enc1 ⟨x.f0, x.f1, Go.bits .and .u8 x.f2 bj⟩) 55)
       refine hK.out _ _ hn_ (fun hHeld => ?_)
       clear hK K hn_
       refine norm_ (a' := ?_) ?_ ?_
       rotate_left
       ·show Act.put _ (some 93) _ = _
        simp only [Act.put, List.setIfInBounds_toArray, List.set_cons_zero, List.set_cons_succ, i64_w, i32_w]
        rfl
       refine one_ (i := 21) (N := some 94) #[true, true, true, true, true, true, true, true, true, true, true, true, true, true, true, true, true, true, true, true, true, true, false] rfl rfl (one_of HT_.out (by kernel_rfl)) (by decide) (fun K hK => ?_)
       refine step_appK (w0 := w) w.heap.size (by rfl) (.tmp 73) (.tmp 93) 51 55 (.agg Au.zc) 3 24 rfl Try.underlying51 Au.arc_info rfl (by decide) (by decide) (.slice A8 sl c8) (ys.flatMap Au.enc1) (Au.enc1 ⟨x.f0, x.f1, Go.bits .and .u8 x.f2 bj⟩) (some ⟨wb.heap.size, 0, none⟩) sl 1 1 rfl rfl rfl (by have h_ := HR9.out.2.1; rw [HYL.out] at h_; exact h_) HC9.out (Au.enc1_one _) hHeld hHeld.size HLB.out ?_
       intro A6 c6 w6 ho6 hb6 hg6 hat6 _
       have HR6 := Lib.hid (HR9.out.app2 (by rw [HYL.out]; exact ho6) hg6 hat6)
       refine hK.out _ _ hb6 (fun hHeld => ?_)
       clear hK K ho6 hb6 hg6 hat6
       refine norm_ (a' := ?_) ?_ ?_
       rotate_left
       ·show Act.put _ (some 94) _ = _
        simp only [Act.put, List.setIfInBounds_toArray, List.set_cons_zero, List.set_cons_succ, i64_w, i32_w]
        rfl
       refine pure_ (i := 22) (N := some 8) (v := ?_) (a' := ?_) #[true, true, true, true, true, true, true, true, true, true, true, true, true, true, true, true, true, true, true, true, true, true, true] rfl rfl (any_of HT_.out (by kernel_rfl)) (fun _ _ _ h => h) (Or.inl ⟨by rfl, ?_⟩) ?_ ?_
       rotate_left
       ·intro w'
        go_simp
        with_reducible rfl
       rotate_left
       ·simp only [Act.put, List.setIfInBounds_toArray, List.set_cons_zero, List.set_cons_succ, i64_w, i32_w]
        rfl
       refine done_ (done_of HT_.out (by kernel_rfl)) ?_
       go_wp2
       go_roundw
       case rel => exact ⟨j + 1, pw (j + 1), by omega, rfl, by first | exact HNB.out | go_num, by rw [HYY.out, ← List.append_assoc, HYL2.out]; exact HR6.out, hHeld⟩
       case measure => exact HMS.out
      ·obtain rfl : j = 3 := by omega
       have hbl : ¬ bj < 8 := by rw [hbj]; decide
       go_wp2_with (fail)
       go_roundw
       case rel => exact ⟨k + 1, hlt, by first | exact Ai.wnext hlt (by omega) | go_num, HSM.out, by rw [HROT.out, HW8.out, HTK.out, List.flatMap_append, show [x].flatMap bits3 = (bits3 x).take 3 from List.append_nil _]; exact HQ.out.1, HQ.out.2⟩
       case measure => exact HMK.out
  ·obtain rfl : k = NL := by omega
   have hlti : ¬ (k : Int) < (k : Int) := by omega
   have hsm : ∀ a ∈ D, small a := by have h := HR.out.1; rw [List.take_of_length_le (by rw [HDL.out]; exact Nat.le_refl _)] at h; exact h
   have hrl : (rot D t k).length = k := by unfold rot; rw [List.length_map, List.length_range]
   have hsl : (D.flatMap bits3).length = 3 * k := by rw [flat3_len, HDL.out]
   have h2 := HR.out.2.1
   rw [List.take_of_length_le (by rw [HDL.out]; exact Nat.le_refl _)] at h2
   obtain ⟨A7, c7, e7⟩ := Ai.own_slice h2.1
   obtain ⟨A8, c8, e8⟩ := Ai.own_slice h2.2.1
   have hd1 : ∀ a ∈ D, (0 ≤ a.f0 ∧ a.f0 < n) ∧ (0 ≤ a.f1 ∧ a.f1 < n) := fun a ha => by
    rw [← HD.out] at ha
    obtain ⟨x, hx, rfl⟩ := List.mem_map.1 ha
    have h := HIN.out x hx
    exact ⟨⟨h.1, h.2.1⟩, h.2.2.1, h.2.2.2⟩
   have hpm := rot_perm D t hsm
   rw [HDL.out] at hpm
   have hdr : ∀ a ∈ rot D t k, (0 ≤ a.f0 ∧ a.f0 < n) ∧ (0 ≤ a.f1 ∧ a.f1 < n) := fun a ha => hd1 a (hpm.mem_iff.1 ha)
   have hds : ∀ a ∈ D.flatMap bits3, (0 ≤ a.f0 ∧ a.f0 < n) ∧ (0 ≤ a.f1 ∧ a.f1 < n) := fun a ha => by
    obtain ⟨y, hy, hab⟩ := List.mem_flatMap.1 ha
    obtain ⟨_, h0, h1⟩ := bits3_small (hsm y hy) hab
    rw [h0, h1]; exact hd1 y hy
   obtain ⟨R, hR⟩ : ∃ R, R = (Ai.arcsM n (l.foldl Ai.upd (Ai.sq0 n)) (List.range n)).map Ai.ofR := ⟨_, rfl⟩
   have hRis : Ai.Is D R := by rw [hR, ← HD.out]; exact Ai.arcs_is HIN.out
   have HNU : Hid (∀ (L : List Ar) (m : Nat) (X : Option Addr) (cc : Nat) (W : World), L.length = m → m ≤ 600 → (∀ a ∈ L, (0 ≤ a.f0 ∧ a.f0 < n) ∧ (0 ≤ a.f1 ∧ a.f1 < n)) → (∀ r, Au.Joined L r → r = R) → Au.Reads W X L → Calls Try.prog 24 #[.int .i64 n, .slice X m cc] W fun e w' => ∃ p, e = .returned (.tuple #[.pointer (some p), .int .i64 0]) ∧ Au.Gr w' (.pointer (some p)) n R ∧ R.length ≤ 600 ∧ Below W.heap.size W w') := Lib.hid fun L m X cc W hL hm hd hj hR => by
    subst hL
    refine (Au.new_c n X cc L W hR (by omega)).mono ?_
    rintro e w' ⟨hb, ⟨h, _⟩ | ⟨_, p, r, rfl, hj', hlen, hg⟩⟩
    ·have : Au.okN n L = true := by
      unfold Au.okN
      rw [show L.any (Au.outA n) = false from Ai.out_in.2 hd, decide_eq_true (by omega : (0 : Int) ≤ n), decide_eq_true (by omega : (n : Int) ≤ 1024)]; rfl
     rw [this] at h; cases h
    ·rw [Int.toNat_natCast, hj r hj'] at hg
     rw [hj r hj'] at hlen
     have hg' := hg
     obtain ⟨b, _, _, _, _, rfl, _⟩ := hg'
     exact ⟨⟨b, 0, none⟩, rfl, hg, by omega, hb⟩
   have HAU : Hid (∀ (p : Value) (W : World), Au.Gr W p n R → R.length ≤ 600 → Calls Try.prog 25 #[p] W fun e w' => ∃ A c, e = .returned (.slice A R.length c) ∧ Au.Reads w' A R ∧ R.length ≤ c ∧ Below W.heap.size W w') := Lib.hid fun p W h hr => Au.arcs_c n R p W h (by omega)
   have hj1 : ∀ r, Au.Joined (rot D t k) r → r = R := fun r hr => by
    have h1 : Au.Is (rot D t k) r := Au.joined_is hr (fun a h => Rg_small (hsm a (hpm.mem_iff.1 h)))
    exact h1.uniq (is_of (is_u hsm hRis) fun f t' _ => Au.mk_perm hpm f t')
   have hj2 : ∀ r, Au.Joined (D.flatMap bits3) r → r = R := fun r hr => by
    have h2 : Au.Is (D.flatMap bits3) r := Au.joined_is hr (fun a h => by
     obtain ⟨b, hb, hab⟩ := List.mem_flatMap.1 h
     exact (bits3_small (hsm b hb) hab).1)
    exact h2.uniq (is_of (is_u hsm hRis) fun f t' _ => mk_single f t' D hsm)
   have ho1 := h2.1
   have ho2 := h2.2.1
   rw [e7] at ho1
   rw [e8] at ho2
   have hr1 : Au.Reads wr A7 (rot D t k) := (Au.own_reads ho1).1
   have hr2 : Au.Reads wr A8 (D.flatMap bits3) := (Au.own_reads ho2).1
   rw [hrl] at e7
   rw [hsl] at e8
   subst e7 e8
   have HN1 := Lib.hid (HNU.out _ k A7 c7 wr hrl (by omega) hdr hj1 hr1)
   have HN2 : Hid (∀ W, Below wr.heap.size wr W → _) := Lib.hid fun W (hb : Below wr.heap.size wr W) => HNU.out _ (3 * k) A8 c8 W hsl (by omega) hds hj2 (hr2.below hb)
   have HBW := Lib.hid HR.out.2.2
   have HRR := Lib.hid hR
   have HRG : Hid (∀ b ∈ R, Ai.Rg b.f2) := Lib.hid fun b hb => (hRis.2.1 b hb).1
   clear HNU ho1 ho2 hr1 hr2 hj1 hj2 h2 hrl hsl hd1 hpm hdr hds hsm hRis HR hR
   go_wp2_with (fail)
   refine HN1.out.mono ?_
   rintro e w2 ⟨p, rfl, hg2, hl2, hb2⟩
   have HG2 := Lib.hid hg2
   have HL2 := Lib.hid hl2
   have HB2 := Lib.hid hb2
   clear hg2 hl2 hb2 HN1
   go_wp2_with (fail)
   refine (HN2.out w2 HB2.out).mono ?_
   rintro e w3 ⟨q, rfl, hg3, -, hb3⟩
   have HQ3 := Lib.hid hg3
   have HG3 := Lib.hid (HG2.out.below hb3)
   have HB3 := Lib.hid (HBW.out.trans ((HB2.out.trans (hb3.mono HB2.out.size)).mono HBW.out.size))
   clear hg3 hb3 HG2 HB2 HN2
   go_wp2_with (fail)
   refine (HRN.out w3 HB3.out).mono ?_
   rintro e w4 ⟨A4, c4, rfl, hk4, hc4, hb4⟩
   obtain ⟨M, hM⟩ : ∃ M, M = l.foldl Ai.upd (Ai.sq0 n) := ⟨_, rfl⟩
   rw [← hM] at hk4 hc4 HRR HSQ
   obtain ⟨m, hm⟩ : ∃ m, m = M.length := ⟨_, rfl⟩
   rw [← hM, ← hm]
   have HLM := Lib.hid hm
   have hk5 : Below w4.heap.size w4 (w4.alloc (.cells #[.int .i64 (n : Int), .slice A4 m c4] 32)) := (Below.refl _ w4).alloc (Nat.le_refl _) _
   have HB4 := Lib.hid (HB3.out.trans (hb4.mono HB3.out.size))
   have HB5 := Lib.hid (HB4.out.trans (hk5.mono HB4.out.size))
   have HX5 := Lib.hid (Blk.new w4 [.int .i64 (n : Int), .slice A4 m c4] 32)
   have HG5 := Lib.hid ((HG3.out.below hb4).below hk5)
   have HQ5 := Lib.hid ((HQ3.out.below hb4).below hk5)
   have HK5 := Lib.hid (Kd.C_below hk4 hk5)
   have HC5 := Lib.hid hc4
   have x0 := (HX5.out.cell 0).trans rfl
   have x1 := (HX5.out.cell 1).trans rfl
   clear hb4 hk5 hk4 hc4 HB4 HB3 HG3 HQ3 HRN hM hm
   have HRA : Hid (∀ W, Below (w4.alloc (.cells #[.int .i64 (n : Int), .slice A4 m c4] 32)).heap.size (w4.alloc (.cells #[.int .i64 (n : Int), .slice A4 m c4] 32)) W → Calls Try.prog 16 #[.agg #[.int .i64 (n : Int), .slice A4 m c4]] W fun e w' => ∃ A6 c6, e = .returned (.slice A6 R.length c6) ∧ Kd.C k53 w' A6 (R.map Ai.toR).length (R.map Ai.toR) ∧ R.length ≤ c6 ∧ Below W.heap.size W w') := Lib.hid fun W hW => by
    obtain ⟨kk, hkk⟩ := Ai.arcs_f n M HSQ.out (by omega)
    have hRt : Ai.arcsM n M (List.range n) = R.map Ai.toR := by
     rw [HRR.out, List.map_map]
     symm
     have : Ai.toR ∘ Ai.ofR = id := funext Ai.toR_ofR
     rw [this, List.map_id]
    rw [hRt] at hkk
    have H := coronerref19_Arcs.calls kk n A4 c4 M _ W (Kd.C_below HK5.out hW) HC5.out hkk
    rw [← HLM.out] at H
    refine H.mono ?_
    rintro e w' ⟨v, rfl, h1, h2⟩
    obtain ⟨A6, c6, rfl, h4, h3⟩ := Kd.R_reads h1
    exact ⟨A6, c6, by rw [List.length_map], h3, by rw [List.length_map] at h4; exact h4, h2⟩
   go_wp2_with (fail)
   refine (HRA.out _ (Below.refl _ _)).mono ?_
   rintro e w6 ⟨A6, c6, rfl, hk6, hc6, hb6⟩
   have HK6 := Lib.hid hk6
   have HG6 := Lib.hid (HG5.out.below hb6)
   have HQ6 := Lib.hid (HQ5.out.below hb6)
   have HB6 := Lib.hid (HB5.out.trans (hb6.mono HB5.out.size))
   clear hk6 hb6 HG5 HQ5 HB5 HRA HK5 HC5 HLM HX5 x0 x1
   go_wp2_with (fail)
   refine (HAU.out _ w6 HG6.out HL2.out).mono ?_
   rintro e w7 ⟨Aa, ca, rfl, hra, hca, hb7⟩
   have HRa := Lib.hid hra
   have HK7 := Lib.hid (Kd.C_below HK6.out hb7)
   have HQ7 := Lib.hid (HQ6.out.below hb7)
   have HB7 := Lib.hid (HB6.out.trans (hb7.mono HB6.out.size))
   clear hra hb7 HG6 HQ6 HB6 HK6
   go_wp2_with (fail)
   refine (HAU.out _ w7 HQ7.out HL2.out).mono ?_
   rintro e w8 ⟨Ab, cb, rfl, hrb, hcb, hb8⟩
   have HRb := Lib.hid hrb
   have HRa8 := Lib.hid (HRa.out.below hb8)
   have HK8 := Lib.hid (Kd.C_below HK7.out hb8)
   have HB8 := Lib.hid (HB7.out.trans (hb8.mono HB7.out.size))
   clear hrb hb8 HQ7 HB7 HK7 HRa HAU
   have HKR := Lib.hid (in_reads HK8.out)
   have hmm : (R.map Ai.toR).map Ai.ofR = R := by
    rw [List.map_map]
    have : Ai.ofR ∘ Ai.toR = id := funext Ai.ofR_toR
    rw [this, List.map_id]
   rw [hmm] at HKR
   clear hmm HK8
   obtain ⟨RL, hRL⟩ : ∃ n, R.length = n := ⟨_, rfl⟩
   have HRL := Lib.hid hRL
   rw [hRL] at hc6 hca hcb ⊢
   have HR6 : Hid (RL ≤ 600) := Lib.hid (by rw [← hRL]; exact HL2.out)
   clear hRL
   go_wp2_with (fail)
   go_loopw [21] (fun v21 wr => ∃ j : Nat, j ≤ RL ∧ v21 = .int .i64 j ∧ Aside (Below w8.heap.size w8 wr)) (fun v21 _ => RL - (intOf v21).toNat)
   case atStart => exact ⟨0, Nat.zero_le _, rfl, Below.refl _ _⟩
   case round =>
    obtain ⟨j, hj, rfl, HJ⟩ := hrel
    by_cases hjl : j < RL
    ·have hjli : (j : Int) < (RL : Int) := by omega
     have hx : R[j]? = some (R[j]'(by rw [HRL.out]; exact hjl)) := List.getElem?_eq_getElem _
     have hne : R ≠ [] := List.ne_nil_of_length_pos (by rw [HRL.out]; omega)
     have hmem := List.getElem_mem (l := R) (n := j) (by rw [HRL.out]; exact hjl)
     generalize (R[j]'(by rw [HRL.out]; exact hjl)) = x at hx hmem
     obtain ⟨ba, oa, rfl, ha⟩ := HRa8.out hne
     obtain ⟨bb, ob, rfl, hb⟩ := HRb.out hne
     obtain ⟨bw, ow, rfl, hw⟩ := HKR.out hne
     obtain ⟨a0, a1, a2⟩ := ha j x hx
     obtain ⟨b0, b1, b2⟩ := hb j x hx
     obtain ⟨d0, d1, d2⟩ := hw j x hx
     have hW := HJ.out
     replace a0 := Ai.below_cell hW _ _ a0
     replace a1 := Ai.below_cell hW _ _ a1
     replace a2 := Ai.below_cell hW _ _ a2
     replace b0 := Ai.below_cell hW _ _ b0
     replace b1 := Ai.below_cell hW _ _ b1
     replace b2 := Ai.below_cell hW _ _ b2
     replace d0 := Ai.below_cell hW _ _ d0
     replace d1 := Ai.below_cell hW _ _ d1
     replace d2 := Ai.below_cell hW _ _ d2
     have HMJ := Lib.hid (Ai.meas hjl (by have := HR6.out; omega))
     have hwx : IntKind.i64.wrap x.f2 = x.f2 := HRG.out x hmem
     clear ha hb hw hx hne hW hmem
     go_wp2_with (fail)
     go_quiet (fail)
     go_wp2
     go_roundw
     case rel => exact ⟨j + 1, hjl, by first | exact Ai.wnext hjl (by have := HR6.out; omega) | go_num, pw_below_drewN HJ.out _⟩
     case measure => exact HMJ.out
    ·obtain rfl : j = RL := by omega
     have hjli : ¬ (j : Int) < (j : Int) := by omega
     have HBE := Lib.hid (HB8.out.trans (HJ.out.mono HB8.out.size))
     go_wp2_with (fail)
     refine (Ai.works_c _).mono ?_
     rintro e w9 ⟨rfl, hb9⟩
     have HB9 := Lib.hid (HBE.out.trans (hb9.mono HBE.out.size))
     clear hb9
     go_wp2
     go_ret
     exact ⟨rfl, HB9.out⟩
set_option maxRecDepth 1000000 in
set_option maxHeartbeats 8000000 in
theorem order_off (w : World) (n : Int) (A : Option Addr) (c : Nat) (l : List S53) (hi : Hid (Ai.InA w A l)) (hc : l.length ≤ c) (t : Int) (hf : Hid (Ai.fewB n l 60 200 = false)) :
 Calls Try.prog 6 #[.int .i64 n, .slice A l.length c, .int .u8 t] w fun e w' => e = .returned (.bool true) ∧ Below w.heap.size w w' := by
 have hF := Lib.hid (few_off w n A c l hi.out hc hf.out)
 clear hi hf
 go_enter Try.func6, Try.ntmps6
 go_wp2_with (fail)
 refine hF.out.mono ?_
 rintro e w1 ⟨rfl, hd1⟩
 have HB1 := Lib.hid hd1.below
 clear hd1 hF
 go_wp2_with (fail)
 refine (Ai.works_c w1).mono ?_
 rintro e w2 ⟨rfl, hb2⟩
 have HB2 := Lib.hid (HB1.out.trans (hb2.mono HB1.out.size))
 clear hb2
 go_wp2
 go_ret
 exact ⟨rfl, HB2.out⟩
theorem walk_CsrOrder (w : World) (n : Int) (_hn : (Lit.int .i64 n).wf = true) (A : Option Addr) (c : Nat) (l : List S53) (hi : Ai.InA w A l) (hc : l.length ≤ c) (t : Int) (ht : (Lit.int .u8 t).wf = true) :
 Calls Try.prog 6 #[.int .i64 n, .slice A l.length c, .int .u8 t] w fun e w' => e = .returned (.bool true) ∧ Below w.heap.size w w' := by
 cases hf : Ai.fewB n l 60 200 with
 | false => exact order_off w n A c l (Lib.hid hi) hc t (Lib.hid hf)
 | true =>
  obtain ⟨N, rfl, h1, h2, h3⟩ := Ai.few_ok hf
  have h' : (0 ≤ t ∧ t ≤ 255) := by simpa [Lit.wf, IntKind.min, IntKind.max, IntKind.signed, IntKind.bits] using ht
  obtain ⟨m, rfl⟩ : ∃ m : Nat, t = (m : Int) := ⟨t.toNat, by omega⟩
  exact order_ok w N A c l (Lib.hid hi) hc m (by omega) (by omega) h2 (Lib.hid h3) (Lib.hid hf)
end Go.Proofs.Ytdchnaghmmhkhaa
