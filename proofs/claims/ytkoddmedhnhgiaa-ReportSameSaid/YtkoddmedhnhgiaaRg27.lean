/- Printed by shake.py. -/
import Derived.Test.YtkoddmedhnhgiaaRg21
import Derived.Test.YtkoddmedhnhgiaaRg26
import Derived.Test.YtkoddmedhnhgiaaRg22
set_option linter.unusedSimpArgs false
namespace Go.Proofs.Ytkoddmedhnhgiaa.Rp
open Go.RowKit Go.Proofs.Ytkoddmedhnhgiaa.PReportBack Go.Proofs.YtkoddmedhnhgiaaW.PrintWords
set_option linter.unusedVariables false
abbrev Fi := S44
abbrev Ed := S49
def okR (n : Int) : Bool := decide (-1 ≤ n ∧ n ≤ 2147483647)
theorem okR_iff {n : Int} : okR n = true ↔ -1 ≤ n ∧ n ≤ 2147483647 := by unfold okR; simp
def nF (f : Fi) : List Int := [f.f0, f.f1, f.f2, f.f3, f.f4, f.f5]
def nE (x : Ed) : List Int := [x.f0, x.f1, x.f2, x.f3, x.f4, x.f5]
def mayE (x : Ed) : Bool := (nE x).all okR
def mayF (f : Fi) : Bool := (nF f).all okR && decide (f.f6.length ≤ 1024) && f.f6.all mayE
def okRep (lv : Int) (fs : List Fi) (o : List Int) : Bool := decide (0 ≤ lv ∧ lv ≤ 4) && decide (fs.length ≤ 1024) && decide (o.length ≤ 1024) && o.all okR && fs.all mayF
def chk (lv : Int) (fs : List Fi) (o : List Int) : Int := if okRep lv fs o = true then 0 else 2
def numS (n : Int) : List Int := low (wd n.toNat) n.toNat
def numT (n : Int) : List Int := if n < 0 then [45] else numS n
theorem numS_len {n : Int} (h : 0 ≤ n ∧ n ≤ 2147483647) : 1 ≤ (numS n).length ∧ (numS n).length ≤ 10 := by
 unfold numS
 rw [low_length]
 exact ⟨wd_pos _, wd_le (by omega)⟩
theorem numT_len {n : Int} (h : n ≤ 2147483647) : 1 ≤ (numT n).length ∧ (numT n).length ≤ 10 := by
 unfold numT
 split
 ·exact ⟨by decide, by decide⟩
 ·exact numS_len ⟨by omega, h⟩
def numsT (l : List Int) : List Int := l.flatMap fun n => 32 :: numT n
def lineT (c : Int) (l : List Int) : List Int := c :: numsT l ++ [10]
def findT (f : Fi) : List Int := lineT 102 (nF f) ++ f.f6.flatMap fun x => lineT 101 (nE x)
def repT (lv : Int) (fs : List Fi) (o : List Int) : List Int := lineT 108 [lv] ++ fs.flatMap findT ++ lineT 111 o
theorem str_append (a b : List Int) : strOfNums a ++ strOfNums b = strOfNums (a ++ b) := by
 apply ByteArray.ext
 rw [ByteArray.data_append]
 simp [strOfNums]
theorem rdI {l : List Int} {i : Nat} (h : i < l.length) : rd l (i : Int) = l[i] := by
 unfold rd
 rw [Int.toNat_natCast, List.getD_eq_getElem?_getD, List.getElem?_eq_getElem h]; rfl
def big : Nat := 1152921504606846976
theorem link {w a b : World} (h : Below w.heap.size w a) (k : Below a.heap.size a b) : Below w.heap.size w b := h.trans (k.mono h.size)
theorem drawn_bel {a b : World} (h : Drawn0 a b) : Below a.heap.size a b := by
 obtain ⟨n, rfl⟩ := h
 exact ⟨rfl, rfl, rfl, Nat.le_refl _, fun _ _ => rfl⟩
end Go.Proofs.Ytkoddmedhnhgiaa.Rp
set_option linter.unusedSimpArgs false
namespace Go.Proofs.Ytkoddmedhnhgiaa.Rp
open Go.RowKit Go.Lib Go.Proofs.Ytkoddmedhnhgiaa.PReportBack Go.Proofs.YtkoddmedhnhgiaaW.PrintWords
set_option linter.unusedVariables false
def badN (n : Int) : Bool := !okR n
set_option maxHeartbeats 1000000 in
theorem may1_calls (n : Int) (w : World) : Calls Try.prog 52 #[.int .i64 n] w fun e w' => e = .returned (.bool (badN n)) ∧ w' = w := by
 by_cases h : n < -1
 ·have e : badN n = true := by unfold badN okR; simp; omega
  rw [e]
  go_enter Try.func52, Try.ntmps52
  go_wp2
  go_ret
  exact ⟨rfl, rfl⟩
 ·by_cases h2 : n > 2147483647
  ·have e : badN n = true := by unfold badN okR; simp; omega
   rw [e]
   go_enter Try.func52, Try.ntmps52
   go_wp2
   go_ret
   exact ⟨rfl, rfl⟩
  ·have e : badN n = false := by unfold badN okR; simp; omega
   rw [e]
   go_enter Try.func52, Try.ntmps52
   go_wp2
   go_ret
   exact ⟨rfl, rfl⟩
theorem any_take {p : Int → Bool} {l : List Int} {k : Nat} (hk : k < l.length) (h : ∀ j (hj : j < l.length), j < k → p l[j] = false) (hp : p l[k] = true) : l.any p = true := List.any_eq_true.2 ⟨_, List.getElem_mem hk, hp⟩
set_option maxHeartbeats 1000000 in
set_option maxRecDepth 100000 in
theorem indexFunc_may (w : World) (A : Option Addr) (c : Nat) (l : List Int) (hr : Kd.C (Kd.int .i64) w A l.length l) (hl : l.length ≤ big) :
 Calls Try.prog 65 #[.slice A l.length c, .func (.func 52) #[] #[]] w fun e w' => (∃ i : Int, e = .returned (.int .i64 i) ∧ (decide (i ≥ 0) = l.any badN)) ∧ w' = w := by
 have e63 : ∀ args w, (callFunc 52 args).run Try.prog w = .ok (.enter 52 args) w := enters_of Try.func52 (by kernel_rfl) rfl
 have HR := Lib.hid hr
 obtain ⟨N, hN⟩ : ∃ N, l.length = N := ⟨_, rfl⟩
 have hNb : N ≤ 1152921504606846976 := by rw [← hN]; exact hl
 have HN := Lib.hid hN
 rw [hN] at HR
 clear hr hl hN
 rw [HN.out]
 go_enter Try.func65, Try.ntmps65
 go_wp2
 go_loop [5, 8] (fun _ v8 => ∃ k : Nat, k ≤ N ∧ v8 = .int .i64 k ∧ Aside (∀ j (hj : j < l.length), j < k → badN l[j] = false)) (fun _ v8 => N - (intOf v8).toNat)
 case atStart => exact ⟨0, by omega, rfl, fun j _ h => absurd h (by omega)⟩
 case round =>
  obtain ⟨k, hk, rfl, HA⟩ := hrel
  by_cases hlt : k < N
  ·have hkl : k < l.length := by rw [HN.out]; exact hlt
   obtain ⟨ad, rfl, hc⟩ := Kd.at_int HR.out (k : Int) (by omega) (by omega)
   rw [rdI hkl, Int.toNat_natCast] at hc
   have HX := Lib.hid (rfl : l[k] = l[k])
   have HB := Lib.hid (may1_calls l[k])
   have hlti : (k : Int) < N := by omega
   cases hb : badN l[k] with
   | true =>
    have HF : Hid (l.any badN = true) := Lib.hid (any_take hkl HA.out hb)
    rw [hb] at HB
    clear hb HX
    generalize l[k] = x at *
    go_wp2_with (go_at_fn 52; refine (HB.out _).mono ?_; rintro e w' ⟨rfl, rfl⟩)
    go_ret
    refine ⟨⟨_, rfl, ?_⟩, rfl⟩
    rw [HF.out]; simp
   | false =>
    have HF : Aside (∀ j (hj : j < l.length), j < k + 1 → badN l[j] = false) := fun j hj hjk => by
     rcases Nat.lt_or_ge j k with h | h
     ·exact HA.out j hj h
     ·have : j = k := by omega
      subst this; exact hb
    rw [hb] at HB
    clear hb HX HA
    generalize l[k] = x at *
    go_wp2_with (go_at_fn 52; refine (HB.out _).mono ?_; rintro e w' ⟨rfl, rfl⟩)
    go_round
    case rel => exact ⟨k + 1, by omega, by go_num, HF⟩
    case measure => simp [intOf]; omega
  ·have hlti : ¬ (k : Int) < N := by omega
   have HF : Hid (l.any badN = false) := Lib.hid (by
    rw [List.any_eq_false]
    intro x hx
    obtain ⟨j, hj, rfl⟩ := List.getElem_of_mem hx
    rw [HA.out j hj (by rw [HN.out] at hj; omega)]; decide)
   go_wp2
   go_ret
   refine ⟨⟨_, rfl, ?_⟩, rfl⟩
   rw [HF.out]; decide
theorem all_ok (l : List Int) : l.any badN = !l.all okR := by
 induction l with
 | nil => rfl
 | cons x l ih => rw [List.any_cons, List.all_cons, ih]; unfold badN; cases okR x <;> cases l.all okR <;> rfl
set_option maxHeartbeats 1000000 in
theorem containsFunc_may (w : World) (A : Option Addr) (c : Nat) (l : List Int) (hr : Kd.C (Kd.int .i64) w A l.length l) (hl : l.length ≤ big) :
 Calls Try.prog 51 #[.slice A l.length c, .func (.func 52) #[] #[]] w fun e w' => e = .returned (.bool (!l.all okR)) ∧ w' = w := by
 have HI := Lib.hid (indexFunc_may w A c l hr hl)
 have HA := Lib.hid (all_ok l)
 rw [HA.out] at HI
 clear hr
 generalize l.all okR = b at *
 generalize l.length = N at *
 go_enter Try.func51, Try.ntmps51
 go_wp2_with fail
 refine HI.out.mono ?_
 rintro e w' ⟨⟨i, rfl, hi⟩, rfl⟩
 have HI2 := Lib.hid hi
 clear hi
 go_wp2
 go_ret
 exact ⟨by first | rfl | (rw [HI2.out]; rfl), rfl⟩
set_option maxHeartbeats 1000000 in
theorem may_c (w : World) (A : Option Addr) (c : Nat) (l : List Int) (hr : Kd.C (Kd.int .i64) w A l.length l) (hl : l.length ≤ big) :
 Calls Try.prog 26 #[.slice A l.length c] w fun e w' => e = .returned (.bool (l.all okR)) ∧ w' = w := by
 have HI := Lib.hid (containsFunc_may w A c l hr hl)
 clear hr
 generalize l.all okR = b at *
 generalize l.length = N at *
 go_enter Try.func26, Try.ntmps26
 go_wp2_with fail
 refine HI.out.mono ?_
 rintro e w' ⟨rfl, rfl⟩
 go_wp2
 go_ret
 exact ⟨by cases b <;> rfl, rfl⟩
end Go.Proofs.Ytkoddmedhnhgiaa.Rp
set_option linter.unusedSimpArgs false
namespace Go.Proofs.Ytkoddmedhnhgiaa.Rp
open Go.RowKit Go.Lib Go.Proofs.Ytkoddmedhnhgiaa.PReportBack Go.Proofs.YtkoddmedhnhgiaaW.PrintWords
set_option linter.unusedVariables false
theorem results_c {fn : Func} {p : Tmp} {ty e : TypeId} {n : Nat} {P : Program} (h : fn.results = #[.cell p ty]) (tmps : Array Value) (w : World) (g : Nat) (t : TypeId) (cs : Array Value) (fr : Nat × Nat)
 (hp : tmps.getD p undef = .pointer (some ⟨g, 0, none⟩)) (hg : w.heap[g]? = some (.cells cs t fr))
 (hu : P.underlying ty = some (.array n e)) (hi : (P.info? ty).map (·.size) = some cs.size) :
 (results fn tmps).run P w = .ok (.agg cs) w := by
 have hp' : tmps[p]?.getD undef = .pointer (some ⟨g, 0, none⟩) := by simpa using hp
 simp [results, h, hp', asAddr, run_loadVar_row w g t ty cs fr (.array n e) hg hu rfl hi]
def cF (f : Fi) (v : Value) : Array Value := #[.int .i64 f.f0, .int .i64 f.f1, .int .i64 f.f2, .int .i64 f.f3, .int .i64 f.f4, .int .i64 f.f5, v]
def cE (x : Ed) : Array Value := #[.int .i64 x.f0, .int .i64 x.f1, .int .i64 x.f2, .int .i64 x.f3, .int .i64 x.f4, .int .i64 x.f5]
def six (l : List Int) : Array Value := (l.map (Value.int .i64)).toArray
set_option maxHeartbeats 1000000 in
set_option maxRecDepth 100000 in
theorem ofF_c (f : Fi) (v : Value) (w : World) : Calls Try.prog 18 #[.agg (cF f v)] w fun e w' => e = .returned (.agg (six (nF f))) ∧ Below w.heap.size w w' := by
 unfold cF
 go_enter Try.func18, Try.ntmps18
 go_wp2
 have hB := Blk.new (w.alloc (.cells (cF f v) 44)) ((nF f).map (Value.int .i64)) 46
 rw [World.size_alloc] at hB
 refine bodyPost_ret (results_c rfl _ _ (w.heap.size + 1) 46 (six (nF f)) (0, 0) rfl hB Try.underlying46 rfl) rfl ⟨rfl, ((Below.refl _ w).alloc (Nat.le_refl _) _).alloc (by simp) _⟩
set_option maxHeartbeats 1000000 in
set_option maxRecDepth 100000 in
theorem ofE_c (x : Ed) (w : World) : Calls Try.prog 19 #[.agg (cE x)] w fun e w' => e = .returned (.agg (six (nE x))) ∧ Below w.heap.size w w' := by
 unfold cE
 go_enter Try.func19, Try.ntmps19
 go_wp2
 have hB := Blk.new (w.alloc (.cells (cE x) 49)) ((nE x).map (Value.int .i64)) 46
 rw [World.size_alloc] at hB
 refine bodyPost_ret (results_c rfl _ _ (w.heap.size + 1) 46 (six (nE x)) (0, 0) rfl hB Try.underlying46 rfl) rfl ⟨rfl, ((Below.refl _ w).alloc (Nat.le_refl _) _).alloc (by simp) _⟩
theorem six_C (w : World) (l : List Int) (hl : l.length ≤ 1000000) (t : TypeId) : Kd.C (Kd.int .i64) (w.alloc (.cells (six l) t)) (some ⟨w.heap.size, 0, none⟩) l.length l := by
 refine ⟨rfl, by omega, fun _ => ⟨_, rfl, fun j p hj => ⟨[.int .i64 p], rfl, rfl, fun i u hu => ?_⟩⟩⟩
 obtain ⟨rfl, rfl⟩ : i = 0 ∧ u = .int .i64 p := by
  match i, hu with
  | 0, hu => exact ⟨rfl, by simpa using hu.symm⟩
  | i + 1, hu => simp at hu
 rw [Addr.add_lit]
 show (w.alloc _).cell? ⟨w.heap.size, 0 + (j * 1 + 0), none⟩ = _
 have b := Blk.new w (l.map (Value.int .i64)) t
 rw [show 0 + (j * 1 + 0) = j by omega, show six l = (l.map (Value.int .i64)).toArray from rfl, b.cell, List.getElem?_map, hj]; rfl
set_option maxHeartbeats 1000000 in
set_option maxRecDepth 100000 in
theorem mayF1_c (x : Ed) (w : World) : Calls Try.prog 48 #[.agg (cE x)] w fun e w' => e = .returned (.bool (!mayE x)) ∧ Below w.heap.size w w' := by
 have HO := Lib.hid fun W => ofE_c x W
 have HM : Hid (∀ W : World, Calls Try.prog 26 #[.slice (some ⟨W.heap.size, 0, none⟩) 6 6] (W.alloc (.cells (six (nE x)) 46)) fun e w' => e = .returned (.bool (mayE x)) ∧ w' = (W.alloc (.cells (six (nE x)) 46))) := Lib.hid fun W => may_c _ _ 6 (nE x) (six_C W (nE x) (by show 6 ≤ 1000000; decide) _) (by show 6 ≤ big; decide)
 unfold cE six nE at *
 go_enter Try.func48, Try.ntmps48
 go_wp2_with (fail)
 refine (HO.out _).mono ?_
 rintro e w1 ⟨rfl, hb1⟩
 have HB1 := Lib.hid (((Below.refl _ w).alloc (Nat.le_refl _) (.cells (cE x) 49)).trans (hb1.mono (by simp)))
 clear hb1
 go_wp2_with (fail)
 refine (HM.out w1).mono ?_
 rintro e w2 ⟨rfl, rfl⟩
 go_wp2
 go_ret
 exact ⟨rfl, HB1.out.alloc HB1.out.size _⟩
set_option maxHeartbeats 2000000 in
set_option maxRecDepth 1000000 in
theorem indexE (g : Nat) (p : Ed → Bool) (A : Option Addr) (cap : Nat) (D : List Ed) (w : World) (eg : ∀ args w, (callFunc g args).run Try.prog w = .ok (.enter g args) w)
 (hp : ∀ W, Below w.heap.size w W → ∀ x, Calls Try.prog g #[.agg (cE x)] W fun e w' => e = .returned (.bool (p x)) ∧ Below W.heap.size W w') (R : Kd.C k49 w A D.length D) (hsz : D.length < 1152921504606846976) :
 Calls Try.prog 64 #[.slice A D.length cap, .func (.func g) #[] #[]] w fun e w' => (∃ i : Int, e = .returned (.int .i64 i) ∧ decide (i ≥ 0) = D.any p) ∧ Below w.heap.size w w' := by
 obtain ⟨N, hN⟩ : ∃ N, D.length = N := ⟨_, rfl⟩
 have HN := Lib.hid hN
 have HR := Lib.hid R
 have HP := Lib.hid hp
 rw [hN] at hsz ⊢
 clear R hp hN
 go_enter Try.func64, Try.ntmps64
 go_wp2
 go_loopg [5, 8] N (fun gg _ s8 wr => ∃ kk : Nat, s8 = .int .i64 kk ∧ kk ≤ N ∧ N - kk ≤ gg ∧ Aside (Below w.heap.size w wr) ∧ Aside (∀ y ∈ D.take kk, p y = false))
 case atStart => exact ⟨0, rfl, by omega, by omega, Below.refl _ w, fun y hy => by simp at hy⟩
 case round =>
  obtain ⟨kk, rfl, hkk, hg, BW, AA⟩ := hrel
  by_cases hlt : kk < N
  ·have hltz : (kk : Int) < (N : Int) := by omega
   have hD : D[kk]? = some (D[kk]'(by rw [HN.out]; exact hlt)) := List.getElem?_eq_getElem _
   have hrd : rd_T49 D (kk : Int) = D[kk]'(by rw [HN.out]; exact hlt) := by
    unfold rd_T49
    rw [Int.toNat_natCast, List.getD_eq_getElem?_getD, hD]; rfl
   obtain ⟨ad, rfl, x0, x1, x2, x3, x4, x5⟩ := at_T49 (Kd.C_below HR.out BW.out) (kk : Int) (by omega) (by rw [HN.out]; omega)
   rw [hrd] at x0 x1 x2 x3 x4 x5
   rw [Int.toNat_natCast] at x0 x1 x2 x3 x4 x5
   generalize (D[kk]'(by rw [HN.out]; exact hlt)) = y at *
   have hcall := HP.out wr BW.out y
   have hsplit : D = D.take kk ++ y :: D.drop (kk + 1) := by
    obtain ⟨h1, h2⟩ := List.getElem?_eq_some_iff.1 hD
    rw [← h2, ← List.drop_eq_getElem_cons h1, List.take_append_drop]
   have HSP := Lib.hid hsplit
   have HCALL := Lib.hid hcall
   clear hsplit hD hcall hrd
   cases hq : p y with
   | true =>
    rw [hq] at HCALL
    go_wp2_with (go_at_fn g; refine HCALL.out.mono ?_; rintro e w' ⟨rfl, hb'⟩)
    go_ret
    refine ⟨⟨kk, rfl, ?_⟩, BW.out.trans (hb'.mono BW.out.size)⟩
    rw [HSP.out, List.any_append, List.any_cons, hq, Bool.true_or, Bool.or_true]
    simp
   | false =>
    rw [hq] at HCALL
    go_wp2_with (go_at_fn g; refine HCALL.out.mono ?_; rintro e w' ⟨rfl, hb'⟩)
    go_roundg (N - (kk + 1))
    case measure => omega
    case rel =>
     refine ⟨kk + 1, by go_num, by omega, Nat.le_refl _, BW.out.trans (hb'.mono BW.out.size), (show Aside _ from fun x hx => ?_)⟩
     have h2 := HSP.out
     rw [h2, List.take_append, List.length_take, HN.out, Nat.min_eq_left (by omega), show kk + 1 - kk = 1 by omega, List.take_of_length_le (by rw [List.length_take]; omega)] at hx
     rcases List.mem_append.1 hx with hx | hx
     ·exact AA.out x hx
     ·have : x = y := by simpa using hx
      rw [this]; exact hq
  ·have hltz : ¬ (kk : Int) < (N : Int) := by omega
   have hkN : kk = N := by omega
   subst hkN
   go_wp2
   go_ret
   refine ⟨⟨-1, rfl, ?_⟩, BW.out⟩
   have h2 : D.any p = false := by
    rw [List.any_eq_false]
    intro x hx
    rw [AA.out x (by rw [List.take_of_length_le (by rw [HN.out]; exact Nat.le_refl _)]; exact hx)]
    exact Bool.false_ne_true
   rw [h2]; rfl
set_option maxHeartbeats 1000000 in
set_option maxRecDepth 1000000 in
theorem containsE (g : Nat) (p : Ed → Bool) (A : Option Addr) (cap : Nat) (D : List Ed) (w : World) (eg : ∀ args w, (callFunc g args).run Try.prog w = .ok (.enter g args) w)
 (hp : ∀ W, Below w.heap.size w W → ∀ x, Calls Try.prog g #[.agg (cE x)] W fun e w' => e = .returned (.bool (p x)) ∧ Below W.heap.size W w') (R : Kd.C k49 w A D.length D) (hsz : D.length < 1152921504606846976) :
 Calls Try.prog 47 #[.slice A D.length cap, .func (.func g) #[] #[]] w fun e w' => e = .returned (.bool (D.any p)) ∧ Below w.heap.size w w' := by
 have e1 : ∀ args w, (callFunc 64 args).run Try.prog w = .ok (.enter 64 args) w := enters_of Try.func64 (by kernel_rfl) rfl
 have HC := Lib.hid (indexE g p A cap D w eg hp R hsz)
 clear hp R
 generalize D.any p = r at HC ⊢
 go_enter Try.func47, Try.ntmps47
 go_wp2_with (go_at_fn 64; refine HC.out.mono ?_; rintro e w' ⟨⟨i, rfl, hi⟩, hb⟩)
 go_ret
 exact ⟨by rw [← hi]; rfl, hb⟩
theorem any_mayE (l : List Ed) : l.any (fun x => !mayE x) = !l.all mayE := by
 induction l with
 | nil => rfl
 | cons x l ih => rw [List.any_cons, List.all_cons, ih]; cases mayE x <;> cases l.all mayE <;> rfl
set_option maxHeartbeats 1000000 in
set_option maxRecDepth 100000 in
theorem mayF_c (f : Fi) (A6 : Option Addr) (c6 : Nat) (w : World) (hc : f.f6.length ≤ c6) (hr : Kd.C k49 w A6 f.f6.length f.f6) : Calls Try.prog 24 #[.agg (cF f (.slice A6 f.f6.length c6))] w fun e w' => e = .returned (.bool (mayF f)) ∧ Below w.heap.size w w' := by
 have HO := Lib.hid fun W => ofF_c f (.slice A6 f.f6.length c6) W
 have HM : Hid (∀ W : World, Calls Try.prog 26 #[.slice (some ⟨W.heap.size, 0, none⟩) 6 6] (W.alloc (.cells (six (nF f)) 46)) fun e w' => e = .returned (.bool ((nF f).all okR)) ∧ w' = (W.alloc (.cells (six (nF f)) 46))) := Lib.hid fun W => may_c _ _ 6 (nF f) (six_C W (nF f) (by show 6 ≤ 1000000; decide) _) (by show 6 ≤ big; decide)
 have eg : ∀ args w, (callFunc 48 args).run Try.prog w = .ok (.enter 48 args) w := enters_of Try.func48 (by kernel_rfl) rfl
 have HC : Hid (∀ W, Below w.heap.size w W → f.f6.length ≤ 1024 → Calls Try.prog 47 #[.slice A6 f.f6.length c6, .func (.func 48) #[] #[]] W fun e w' => e = .returned (.bool (!f.f6.all mayE)) ∧ Below W.heap.size W w') := Lib.hid fun W hb hl => by
  rw [← any_mayE]
  exact containsE _ _ A6 c6 f.f6 W eg (fun W' _ x => mayF1_c x W') (Kd.C_below hr hb) (by omega)
 obtain ⟨b1, hb1⟩ : ∃ b, (nF f).all okR = b := ⟨_, rfl⟩
 obtain ⟨b2, hb2⟩ : ∃ b, f.f6.all mayE = b := ⟨_, rfl⟩
 have hm : mayF f = (b1 && decide (f.f6.length ≤ 1024) && b2) := by unfold mayF; rw [hb1, hb2]
 rw [hm]
 rw [hb1] at HM
 rw [hb2] at HC
 clear hm hb1 hb2 hr
 unfold cF six nF at *
 generalize f.f6.length = NL at *
 go_enter Try.func24, Try.ntmps24
 have hbx : Below w.heap.size w (w.alloc (.cells (cF f (.slice A6 NL c6)) 44)) := (Below.refl _ w).alloc (Nat.le_refl _) _
 have BX := Lib.hid (Blk.new w [.int .i64 f.f0, .int .i64 f.f1, .int .i64 f.f2, .int .i64 f.f3, .int .i64 f.f4, .int .i64 f.f5, .slice A6 NL c6] 44)
 have HBX := Lib.hid hbx
 clear hbx
 go_wp2_with (fail)
 refine (HO.out _).mono ?_
 rintro e w1 ⟨rfl, hb1⟩
 have HB1 := Lib.hid (HBX.out.trans (hb1.mono HBX.out.size))
 have BX1 := Lib.hid (BX.out.below hb1 BX.out.lt)
 have x6 := ((BX1.out.alloc (.cells #[.int .i64 f.f0, .int .i64 f.f1, .int .i64 f.f2, .int .i64 f.f3, .int .i64 f.f4, .int .i64 f.f5] 46)).cell 6).trans rfl
 have HB2 := Lib.hid (HB1.out.alloc HB1.out.size (.cells #[.int .i64 f.f0, .int .i64 f.f1, .int .i64 f.f2, .int .i64 f.f3, .int .i64 f.f4, .int .i64 f.f5] 46))
 clear hb1
 go_wp2_with (fail)
 refine (HM.out w1).mono ?_
 rintro e w2 ⟨rfl, rfl⟩
 cases b1 with
 | false =>
  go_wp2
  go_ret
  exact ⟨rfl, HB2.out⟩
 | true =>
  by_cases hN : NL ≤ 1024
  ·have HC2 := Lib.hid (HC.out _ HB2.out hN)
   have hNi : (NL : Int) ≤ 1024 := by omega
   clear HC
   go_wp2_with (fail)
   refine HC2.out.mono ?_
   rintro e w3 ⟨rfl, hb3⟩
   go_wp2
   go_ret
   refine ⟨?_, HB2.out.trans (hb3.mono HB2.out.size)⟩
   rw [decide_eq_true hN]
   cases b2 <;> rfl
  ·have hNi : ¬ (NL : Int) ≤ 1024 := by omega
   clear HC
   go_wp2
   go_ret
   refine ⟨?_, HB2.out⟩
   first | rfl | (rw [decide_eq_false hN]; rfl)
set_option maxHeartbeats 2000000 in
set_option maxRecDepth 1000000 in
theorem indexF (g : Nat) (p : Fi → Bool) (A : Option Addr) (cap : Nat) (D : List Fi) (w : World) (eg : ∀ args w, (callFunc g args).run Try.prog w = .ok (.enter g args) w)
 (hp : ∀ W, Below w.heap.size w W → ∀ x, ∀ (A6 : Option Addr) (c6 : Nat), x.f6.length ≤ c6 → Kd.C k49 W A6 x.f6.length x.f6 → Calls Try.prog g #[.agg (cF x (.slice A6 x.f6.length c6))] W fun e w' => e = .returned (.bool (p x)) ∧ Below W.heap.size W w') (R : Kd.C k44 w A D.length D) (hsz : D.length < 1152921504606846976) :
 Calls Try.prog 53 #[.slice A D.length cap, .func (.func g) #[] #[]] w fun e w' => (∃ i : Int, e = .returned (.int .i64 i) ∧ decide (i ≥ 0) = D.any p) ∧ Below w.heap.size w w' := by
 obtain ⟨N, hN⟩ : ∃ N, D.length = N := ⟨_, rfl⟩
 have HN := Lib.hid hN
 have HR := Lib.hid R
 have HP := Lib.hid hp
 rw [hN] at hsz ⊢
 clear R hp hN
 go_enter Try.func53, Try.ntmps53
 go_wp2
 go_loopg [5, 8] N (fun gg _ s8 wr => ∃ kk : Nat, s8 = .int .i64 kk ∧ kk ≤ N ∧ N - kk ≤ gg ∧ Aside (Below w.heap.size w wr) ∧ Aside (∀ y ∈ D.take kk, p y = false))
 case atStart => exact ⟨0, rfl, by omega, by omega, Below.refl _ w, fun y hy => by simp at hy⟩
 case round =>
  obtain ⟨kk, rfl, hkk, hg, BW, AA⟩ := hrel
  by_cases hlt : kk < N
  ·have hltz : (kk : Int) < (N : Int) := by omega
   have hD : D[kk]? = some (D[kk]'(by rw [HN.out]; exact hlt)) := List.getElem?_eq_getElem _
   have hrd : rd_T44 D (kk : Int) = D[kk]'(by rw [HN.out]; exact hlt) := by
    unfold rd_T44
    rw [Int.toNat_natCast, List.getD_eq_getElem?_getD, hD]; rfl
   obtain ⟨ad, A6, c6, rfl, x0, x1, x2, x3, x4, x5, x6, x7, x8⟩ := at_T44 (Kd.C_below HR.out BW.out) (kk : Int) (by omega) (by rw [HN.out]; omega)
   rw [hrd] at x0 x1 x2 x3 x4 x5 x6 x7 x8
   rw [Int.toNat_natCast] at x0 x1 x2 x3 x4 x5 x6
   generalize (D[kk]'(by rw [HN.out]; exact hlt)) = y at *
   have hcall := HP.out wr BW.out y A6 c6 x7 x8
   have hsplit : D = D.take kk ++ y :: D.drop (kk + 1) := by
    obtain ⟨h1, h2⟩ := List.getElem?_eq_some_iff.1 hD
    rw [← h2, ← List.drop_eq_getElem_cons h1, List.take_append_drop]
   have HSP := Lib.hid hsplit
   have HCALL := Lib.hid hcall
   clear hsplit hD hcall hrd
   cases hq : p y with
   | true =>
    rw [hq] at HCALL
    go_wp2_with (go_at_fn g; refine HCALL.out.mono ?_; rintro e w' ⟨rfl, hb'⟩)
    go_ret
    refine ⟨⟨kk, rfl, ?_⟩, BW.out.trans (hb'.mono BW.out.size)⟩
    rw [HSP.out, List.any_append, List.any_cons, hq, Bool.true_or, Bool.or_true]
    simp
   | false =>
    rw [hq] at HCALL
    go_wp2_with (go_at_fn g; refine HCALL.out.mono ?_; rintro e w' ⟨rfl, hb'⟩)
    go_roundg (N - (kk + 1))
    case measure => omega
    case rel =>
     refine ⟨kk + 1, by go_num, by omega, Nat.le_refl _, BW.out.trans (hb'.mono BW.out.size), (show Aside _ from fun x hx => ?_)⟩
     have h2 := HSP.out
     rw [h2, List.take_append, List.length_take, HN.out, Nat.min_eq_left (by omega), show kk + 1 - kk = 1 by omega, List.take_of_length_le (by rw [List.length_take]; omega)] at hx
     rcases List.mem_append.1 hx with hx | hx
     ·exact AA.out x hx
     ·have : x = y := by simpa using hx
      rw [this]; exact hq
  ·have hltz : ¬ (kk : Int) < (N : Int) := by omega
   have hkN : kk = N := by omega
   subst hkN
   go_wp2
   go_ret
   refine ⟨⟨-1, rfl, ?_⟩, BW.out⟩
   have h2 : D.any p = false := by
    rw [List.any_eq_false]
    intro x hx
    rw [AA.out x (by rw [List.take_of_length_le (by rw [HN.out]; exact Nat.le_refl _)]; exact hx)]
    exact Bool.false_ne_true
   rw [h2]; rfl
set_option maxHeartbeats 1000000 in
set_option maxRecDepth 1000000 in
theorem containsF (g : Nat) (p : Fi → Bool) (A : Option Addr) (cap : Nat) (D : List Fi) (w : World) (eg : ∀ args w, (callFunc g args).run Try.prog w = .ok (.enter g args) w)
 (hp : ∀ W, Below w.heap.size w W → ∀ x, ∀ (A6 : Option Addr) (c6 : Nat), x.f6.length ≤ c6 → Kd.C k49 W A6 x.f6.length x.f6 → Calls Try.prog g #[.agg (cF x (.slice A6 x.f6.length c6))] W fun e w' => e = .returned (.bool (p x)) ∧ Below W.heap.size W w') (R : Kd.C k44 w A D.length D) (hsz : D.length < 1152921504606846976) :
 Calls Try.prog 27 #[.slice A D.length cap, .func (.func g) #[] #[]] w fun e w' => e = .returned (.bool (D.any p)) ∧ Below w.heap.size w w' := by
 have e1 : ∀ args w, (callFunc 53 args).run Try.prog w = .ok (.enter 53 args) w := enters_of Try.func53 (by kernel_rfl) rfl
 have HC := Lib.hid (indexF g p A cap D w eg hp R hsz)
 clear hp R
 generalize D.any p = r at HC ⊢
 go_enter Try.func27, Try.ntmps27
 go_wp2_with (go_at_fn 53; refine HC.out.mono ?_; rintro e w' ⟨⟨i, rfl, hi⟩, hb⟩)
 go_ret
 exact ⟨by rw [← hi]; rfl, hb⟩
end Go.Proofs.Ytkoddmedhnhgiaa.Rp
set_option linter.unusedSimpArgs false
namespace Go.Proofs.Ytkoddmedhnhgiaa.Rp
open Go.RowKit Go.Lib Go.Proofs.Ytkoddmedhnhgiaa.PReportBack Go.Proofs.YtkoddmedhnhgiaaW.PrintWords
set_option linter.unusedVariables false
theorem name_f (lv : Int) : ∃ s, level_Name.f lv = some s ∧ (¬ (0 ≤ lv ∧ lv ≤ 4) → s = (⟨#[]⟩ : ByteArray)) ∧ ((0 ≤ lv ∧ lv ≤ 4) → s.toList.isEmpty = false) := by
 unfold level_Name.f level_names.f
 rw [Option.bind_some]
 unfold level_at.f
 by_cases h0 : lv < 0
 ·rw [if_pos h0]
  exact ⟨_, rfl, fun _ => rfl, fun h => by omega⟩
 ·rw [if_neg h0]
  by_cases h5 : lv ≥ 5
  ·rw [if_pos (by simpa using h5)]
   exact ⟨_, rfl, fun _ => rfl, fun h => by omega⟩
  ·rw [if_neg (by simpa using h5), if_pos (by omega), if_pos (by simpa using h5)]
   refine ⟨_, rfl, fun h => absurd (by omega) h, fun _ => ?_⟩
   rcases (by omega : lv = 0 ∨ lv = 1 ∨ lv = 2 ∨ lv = 3 ∨ lv = 4) with rfl | rfl | rfl | rfl | rfl <;> kernel_rfl
set_option maxHeartbeats 1000000 in
set_option maxRecDepth 100000 in
theorem odd_c (f : Fi) (A6 : Option Addr) (c6 : Nat) (w : World) (hc : f.f6.length ≤ c6) (hr : Kd.C k49 w A6 f.f6.length f.f6) : Calls Try.prog 23 #[.agg (cF f (.slice A6 f.f6.length c6))] w fun e w' => e = .returned (.bool (!mayF f)) ∧ Below w.heap.size w w' := by
 have HM : Hid (∀ W, Below w.heap.size w W → Calls Try.prog 24 #[.agg (cF f (.slice A6 f.f6.length c6))] W fun e w' => e = .returned (.bool (mayF f)) ∧ Below W.heap.size W w') := Lib.hid fun W hb => mayF_c f A6 c6 W hc (Kd.C_below hr hb)
 have HB := Lib.hid ((Below.refl w.heap.size w).alloc (Nat.le_refl _) (.cells (cF f (.slice A6 f.f6.length c6)) 44))
 clear hr
 generalize mayF f = b at *
 unfold cF at *
 go_enter Try.func23, Try.ntmps23
 go_wp2_with (fail)
 refine (HM.out _ HB.out).mono ?_
 rintro e w1 ⟨rfl, hb1⟩
 go_wp2
 go_ret
 exact ⟨rfl, HB.out.trans (hb1.mono HB.out.size)⟩
theorem any_mayF (l : List Fi) : l.any (fun x => !mayF x) = !l.all mayF := by
 induction l with
 | nil => rfl
 | cons x l ih => rw [List.any_cons, List.all_cons, ih]; cases mayF x <;> cases l.all mayF <;> rfl
def cR (lv : Int) (A1 : Option Addr) (n1 c1 : Nat) (A2 : Option Addr) (n2 c2 : Nat) : Array Value := #[.int .i64 lv, .slice A1 n1 c1, .slice A2 n2 c2]
set_option maxHeartbeats 4000000 in
set_option maxRecDepth 100000 in
theorem check_c (lv : Int) (fs : List Fi) (o : List Int) (A1 : Option Addr) (c1 : Nat) (A2 : Option Addr) (c2 : Nat) (w : World) (h1 : Kd.C k44 w A1 fs.length fs) (h2 : Kd.C (Kd.int .i64) w A2 o.length o) (hl : fs.length ≤ 1000000000) (ho : o.length ≤ 1000000000) :
 Calls Try.prog 11 #[.agg (cR lv A1 fs.length c1 A2 o.length c2)] w fun e w' => e = .returned (.int .i64 (chk lv fs o)) ∧ Below w.heap.size w w' := by
 obtain ⟨s, hs, hs0, hs1⟩ := name_f lv
 have HN : Hid (∀ W, Calls Try.prog 25 #[.int .i64 lv] W fun e w' => e = .returned (.string s) ∧ Below W.heap.size W w') := Lib.hid fun W => level_Name.calls lv s W hs
 have eg : ∀ args w, (callFunc 23 args).run Try.prog w = .ok (.enter 23 args) w := enters_of Try.func23 (by kernel_rfl) rfl
 have HM : Hid (∀ W, Below w.heap.size w W → Calls Try.prog 26 #[.slice A2 o.length c2] W fun e w' => e = .returned (.bool (o.all okR)) ∧ w' = W) := Lib.hid fun W hb => may_c W A2 c2 o (Kd.C_below h2 hb) (by unfold big; omega)
 have HC : Hid (∀ W, Below w.heap.size w W → Calls Try.prog 27 #[.slice A1 fs.length c1, .func (.func 23) #[] #[]] W fun e w' => e = .returned (.bool (!fs.all mayF)) ∧ Below W.heap.size W w') := Lib.hid fun W hb => by
  rw [← any_mayF]
  exact containsF _ _ A1 c1 fs W eg (fun W' _ x A6 c6 hc hr => odd_c x A6 c6 W' hc hr) (Kd.C_below h1 hb) (by omega)
 have HX := Lib.hid (Blk.new w [.int .i64 lv, .slice A1 fs.length c1, .slice A2 o.length c2] 25)
 have HB := Lib.hid ((Below.refl w.heap.size w).alloc (Nat.le_refl _) (.cells (cR lv A1 fs.length c1 A2 o.length c2) 25))
 have hk : chk lv fs o = if (decide (0 ≤ lv ∧ lv ≤ 4) && decide (fs.length ≤ 1024) && decide (o.length ≤ 1024) && o.all okR && fs.all mayF) = true then 0 else 2 := rfl
 obtain ⟨r, hr⟩ : ∃ r, chk lv fs o = r := ⟨_, rfl⟩
 rw [hr] at hk ⊢
 clear hr h1 h2 hs
 generalize o.all okR = b1 at *
 generalize fs.all mayF = b2 at *
 generalize fs.length = N1 at *
 generalize o.length = N2 at *
 unfold cR at *
 have HK := Lib.hid hk
 clear hk
 cases hlv : decide (0 ≤ lv ∧ lv ≤ 4) with
 | false =>
  obtain rfl := hs0 (of_decide_eq_false hlv)
  go_enter Try.func11, Try.ntmps11
  go_wp2_with (fail)
  refine (HN.out _).mono ?_
  rintro e w1 ⟨rfl, hb1⟩
  go_wp2
  go_ret
  refine ⟨?_, HB.out.trans (hb1.mono HB.out.size)⟩
  have h := HK.out
  rw [hlv] at h
  rw [h]; rfl
 | true =>
  have hse := hs1 (of_decide_eq_true hlv)
  have hse2 : (s.toList = []) = False := eq_false (fun e => by rw [e] at hse; cases hse)
  go_enter Try.func11, Try.ntmps11
  go_wp2_with (fail)
  refine (HN.out _).mono ?_
  rintro e w1 ⟨rfl, hb1⟩
  have HB1 := Lib.hid (HB.out.trans (hb1.mono HB.out.size))
  have HX1 := Lib.hid (HX.out.below hb1 HX.out.lt)
  have x1 := (HX1.out.cell 1).trans rfl
  have x2 := (HX1.out.cell 2).trans rfl
  clear hb1
  by_cases hN1 : N1 ≤ 1024
  ·by_cases hN2 : N2 ≤ 1024
   ·have g1 : ¬ (1024 : Int) < N1 := by omega
    have g2 : ¬ (1024 : Int) < N2 := by omega
    have HN1 := Lib.hid hN1
    have HN2 := Lib.hid hN2
    have HM1 := Lib.hid (HM.out w1 HB1.out)
    have HC1 := Lib.hid (HC.out w1 HB1.out)
    clear HM HC hN1 hN2
    go_wp2_with (fail)
    refine HM1.out.mono ?_
    rintro e w2 ⟨rfl, rfl⟩
    cases b1 with
    | false =>
     go_wp2
     go_ret
     refine ⟨?_, HB1.out⟩
     have h := HK.out
     first | rw [hlv, decide_eq_true HN1.out, decide_eq_true HN2.out] at h | rw [hlv, decide_eq_true HN1.out, decide_eq_false HN2.out] at h | rw [hlv, decide_eq_false HN1.out] at h
     rw [h]; rfl
    | true =>
     go_wp2_with (fail)
     refine HC1.out.mono ?_
     rintro e w3 ⟨rfl, hb3⟩
     have HB3 := Lib.hid (HB1.out.trans (hb3.mono HB1.out.size))
     cases b2 with
     | false =>
      go_wp2
      go_ret
      refine ⟨?_, HB3.out⟩
      have h := HK.out
      first | rw [hlv, decide_eq_true HN1.out, decide_eq_true HN2.out] at h | rw [hlv, decide_eq_true HN1.out, decide_eq_false HN2.out] at h | rw [hlv, decide_eq_false HN1.out] at h
      rw [h]; rfl
     | true =>
      go_wp2
      go_ret
      refine ⟨?_, HB3.out⟩
      have h := HK.out
      first | rw [hlv, decide_eq_true HN1.out, decide_eq_true HN2.out] at h | rw [hlv, decide_eq_true HN1.out, decide_eq_false HN2.out] at h | rw [hlv, decide_eq_false HN1.out] at h
      rw [h]; rfl
   ·have g1 : ¬ (1024 : Int) < N1 := by omega
    have g2 : (1024 : Int) < N2 := by omega
    have HN1 := Lib.hid hN1
    have HN2 := Lib.hid hN2
    clear HM HC hN1 hN2
    go_wp2
    go_ret
    refine ⟨?_, HB1.out⟩
    have h := HK.out
    first | rw [hlv, decide_eq_true HN1.out, decide_eq_true HN2.out] at h | rw [hlv, decide_eq_true HN1.out, decide_eq_false HN2.out] at h | rw [hlv, decide_eq_false HN1.out] at h
    rw [h]; rfl
  ·have g1 : (1024 : Int) < N1 := by omega
   have HN1 := Lib.hid hN1
   clear HM HC hN1
   go_wp2
   go_ret
   refine ⟨?_, HB1.out⟩
   have h := HK.out
   first | rw [hlv, decide_eq_true HN1.out, decide_eq_true HN2.out] at h | rw [hlv, decide_eq_true HN1.out, decide_eq_false HN2.out] at h | rw [hlv, decide_eq_false HN1.out] at h
   rw [h]; rfl
end Go.Proofs.Ytkoddmedhnhgiaa.Rp
set_option linter.unusedSimpArgs false
namespace Go.Proofs.Ytkoddmedhnhgiaa.Rp
open Go.RowKit Go.Lib Go.Proofs.Ytkoddmedhnhgiaa.PReportBack Go.Proofs.YtkoddmedhnhgiaaW.PrintWords
set_option linter.unusedVariables false
theorem numsT_take {l : List Int} {k : Nat} (h : k < l.length) : numsT (l.take (k + 1)) = numsT (l.take k) ++ 32 :: numT l[k] := by
 unfold numsT
 rw [List.take_succ_eq_append_getElem h, List.flatMap_append, List.flatMap_singleton]
theorem numsT_len (l : List Int) (h : l.all okR = true) : (numsT l).length ≤ 11 * l.length := by
 induction l with
 | nil => simp [numsT]
 | cons x l ih =>
  rw [List.all_cons, Bool.and_eq_true] at h
  have h1 := (okR_iff.1 h.1).2
  have h2 := numT_len h1
  have h3 := ih h.2
  unfold numsT at h3 ⊢
  rw [List.flatMap_cons, List.length_append, List.length_cons, List.length_cons]
  omega
theorem meas_n {k N : Nat} (h : k < N) : N - (intOf (Value.int .i64 ((k : Int) + 1))).toNat < N - (intOf (Value.int .i64 (k : Int))).toNat := by
 show N - ((k : Int) + 1).toNat < N - (k : Int).toNat
 omega
theorem print_c (n : Int) (h : okR n = true) (w : World) : Calls Try.prog 45 #[.int .i64 n] w fun e w' => ((n < 0 ∧ ∃ s, e = .returned (.tuple #[.string s, .int .i64 2])) ∨ (0 ≤ n ∧ e = .returned (.tuple #[.string (strOfNums (numT n)), .int .i64 0]))) ∧ Below w.heap.size w w' := by
 have hr := okR_iff.1 h
 by_cases hn : n < 0
 ·exact (print_no n (.inl hn) w).mono fun e w' ⟨he, hb⟩ => ⟨.inl ⟨hn, _, he⟩, hb⟩
 ·obtain ⟨m, rfl⟩ := Int.eq_ofNat_of_zero_le (by omega : 0 ≤ n)
  refine (print_yes m (by omega) w).mono fun e w' ⟨he, hb⟩ => ⟨.inr ⟨by omega, ?_⟩, hb⟩
  unfold numT numS
  rw [if_neg hn, Int.toNat_natCast]; exact he
set_option maxHeartbeats 2000000 in
set_option maxRecDepth 100000 in
theorem line_c (w : World) (s : List Int) (A : Option Addr) (c : Nat) (l : List Int) (hr : Kd.C (Kd.int .i64) w A l.length l) (hok : l.all okR = true) (hl : l.length ≤ 1000000) (hs : s.length ≤ 1000000) :
 Calls Try.prog 17 #[.string (strOfNums s), .slice A l.length c] w fun e w' => e = .returned (.string (strOfNums (s ++ numsT l ++ [10]))) ∧ Below w.heap.size w w' := by
 have HR := Lib.hid hr
 have HOK := Lib.hid hok
 have HTL := Lib.hid (numsT_len l hok)
 obtain ⟨N, hN⟩ : ∃ N, l.length = N := ⟨_, rfl⟩
 have HN := Lib.hid hN
 have hNb : N ≤ 1000000 := by omega
 clear hr hok hN hl
 rw [HN.out]
 obtain ⟨r, hr⟩ : ∃ r, strOfNums (s ++ numsT l ++ [10]) = r := ⟨_, rfl⟩
 have HRR := Lib.hid hr
 rw [hr]
 clear hr
 obtain ⟨s0, hs0⟩ : ∃ s0, strOfNums s = s0 := ⟨_, rfl⟩
 have HS0 := Lib.hid hs0
 rw [hs0]
 clear hs0
 go_enter Try.func17, Try.ntmps17
 go_wp2
 go_loopw [0, 11] (fun v0 v11 wr => ∃ (k : Nat) (t : ByteArray), k ≤ N ∧ v0 = .string t ∧ v11 = .int .i64 k ∧ Aside (t = strOfNums (s ++ numsT (l.take k)) ∧ Below w.heap.size w wr)) (fun _ v11 _ => N - (intOf v11).toNat)
 case atStart => exact ⟨0, s0, by omega, rfl, rfl, by rw [List.take_zero]; show s0 = strOfNums (s ++ []); rw [List.append_nil]; exact HS0.out.symm, Below.refl _ w⟩
 case round =>
  obtain ⟨k, t, hk, rfl, rfl, HJ⟩ := hrel
  by_cases hlt : k < N
  ·have hkl : k < l.length := by rw [HN.out]; exact hlt
   obtain ⟨ad, rfl, hc⟩ := Kd.at_int (Kd.C_below HR.out HJ.out.2) (k : Int) (by omega) (by rw [HN.out]; omega)
   rw [rdI hkl, Int.toNat_natCast] at hc
   have hxo := List.all_eq_true.1 HOK.out _ (List.getElem_mem hkl)
   have HT := Lib.hid (numsT_take hkl)
   generalize l[k] = x at *
   have htz : t.size ≤ 20000000 := by
    rw [HJ.out.1, str_size, List.length_append]
    have h1 := numsT_len (l.take k) (List.all_eq_true.2 fun x hx => List.all_eq_true.1 HOK.out x (List.mem_of_mem_take hx))
    have h2 := List.length_take_le k l
    omega
   have HP := Lib.hid fun W => print_c x hxo W
   have HX := Lib.hid hxo
   have hlti : (k : Int) < N := by omega
   have HMS := Lib.hid (meas_n hlt)
   clear hxo
   go_wp2_with (fail)
   refine (HP.out wr).mono ?_
   rintro e w1 ⟨(⟨hneg, sx, rfl⟩ | ⟨hpos, rfl⟩), hb1⟩
   ·have HB1 := Lib.hid (HJ.out.2.trans (hb1.mono HJ.out.2.size))
    have HE : Hid (t ++ ((⟨#[32]⟩ : ByteArray) ++ (⟨#[45]⟩ : ByteArray)) = strOfNums (s ++ numsT (l.take (k + 1)))) := Lib.hid (by
     rw [HJ.out.1, HT.out, show (⟨#[32]⟩ : ByteArray) = strOfNums [32] from rfl, show (⟨#[45]⟩ : ByteArray) = strOfNums [45] from rfl, str_append, str_append]
     unfold numT; rw [if_pos hneg, List.append_assoc]; rfl)
    have hb2 : (9223372036854775807 < t.size + 2) = False := eq_false (by omega)
    clear hb1 hneg HJ HP hc htz
    go_wp2
    go_roundw
    case rel => exact ⟨k + 1, _, hlt, rfl, by go_num, HE.out, HB1.out⟩
    case measure => exact HMS.out
   ·have HB1 := Lib.hid (HJ.out.2.trans (hb1.mono HJ.out.2.size))
    have HE : Hid (t ++ ((⟨#[32]⟩ : ByteArray) ++ strOfNums (numT x)) = strOfNums (s ++ numsT (l.take (k + 1)))) := Lib.hid (by
     rw [HJ.out.1, HT.out, show (⟨#[32]⟩ : ByteArray) = strOfNums [32] from rfl, str_append, str_append, List.append_assoc]; rfl)
    have hnl := (numT_len (okR_iff.1 HX.out).2).2
    rw [← str_size (numT x)] at hnl
    generalize strOfNums (numT x) = sx at *
    have hb2 : (9223372036854775807 < 1 + sx.size) = False := eq_false (by omega)
    have hb3 : (9223372036854775807 < t.size + (1 + sx.size)) = False := eq_false (by omega)
    clear hb1 hpos HJ HP hc htz hnl
    go_wp2
    go_roundw
    case rel => exact ⟨k + 1, _, hlt, rfl, by go_num, HE.out, HB1.out⟩
    case measure => exact HMS.out
  ·have hlti : ¬ (k : Int) < N := by omega
   have hkN : k = l.length := by rw [HN.out]; omega
   have HE : Hid (t ++ (⟨#[10]⟩ : ByteArray) = r) := Lib.hid (by
    rw [← HRR.out, HJ.out.1, show (⟨#[10]⟩ : ByteArray) = strOfNums [10] from rfl, str_append, hkN, List.take_length])
   have htz : t.size ≤ 20000000 := by
    rw [HJ.out.1, str_size, List.length_append, hkN, List.take_length]
    have := HTL.out
    omega
   have hb2 : (9223372036854775807 < t.size + 1) = False := eq_false (by omega)
   have HB1 := Lib.hid HJ.out.2
   clear HJ htz hkN
   go_wp2
   go_ret
   exact ⟨by rw [← HE.out]; rfl, HB1.out⟩
end Go.Proofs.Ytkoddmedhnhgiaa.Rp
set_option linter.unusedSimpArgs false
namespace Go.Proofs.Ytkoddmedhnhgiaa.Rp
open Go.RowKit Go.Lib Go.Proofs.Ytkoddmedhnhgiaa.PReportBack Go.Proofs.YtkoddmedhnhgiaaW.PrintWords
set_option linter.unusedVariables false
theorem flat_le {α : Type} (g : α → List Int) (b : Nat) : ∀ l : List α, (∀ x ∈ l, (g x).length ≤ b) → (l.flatMap g).length ≤ b * l.length
 | [], _ => by simp
 | x :: l, h => by
  rw [List.flatMap_cons, List.length_append, List.length_cons, Nat.mul_add]
  have h1 := h x (by simp)
  have h2 := flat_le g b l (fun y hy => h y (by simp [hy]))
  omega
theorem lineT_len (c : Int) (l : List Int) (h : l.all okR = true) : (lineT c l).length ≤ 2 + 11 * l.length := by
 have := numsT_len l h
 unfold lineT
 rw [List.length_append, List.length_cons, List.length_singleton]
 omega
theorem edgeT_len {x : Ed} (h : mayE x = true) : (lineT 101 (nE x)).length ≤ 68 := lineT_len 101 (nE x) h
theorem mayF_iff {f : Fi} : mayF f = true ↔ (nF f).all okR = true ∧ f.f6.length ≤ 1024 ∧ ∀ x ∈ f.f6, mayE x = true := by
 unfold mayF
 rw [Bool.and_eq_true, Bool.and_eq_true, decide_eq_true_eq]
 exact ⟨fun ⟨⟨a, b⟩, c⟩ => ⟨a, b, List.all_eq_true.1 c⟩, fun ⟨a, b, c⟩ => ⟨⟨a, b⟩, List.all_eq_true.2 c⟩⟩
theorem findT_len {f : Fi} (h : mayF f = true) : (findT f).length ≤ 70000 := by
 obtain ⟨h1, h2, h3⟩ := mayF_iff.1 h
 have a := lineT_len 102 (nF f) h1
 have b := flat_le (fun x => lineT 101 (nE x)) 68 f.f6 (fun x hx => edgeT_len (h3 x hx))
 have e : (nF f).length = 6 := rfl
 unfold findT
 rw [List.length_append]
 omega
def outT (lv : Int) (fs : List Fi) (k : Nat) : List Int := lineT 108 [lv] ++ (fs.take k).flatMap findT
def inT (lv : Int) (fs : List Fi) (k : Nat) (f : Fi) (j : Nat) : List Int := outT lv fs k ++ lineT 102 (nF f) ++ (f.f6.take j).flatMap fun x => lineT 101 (nE x)
theorem outT_len {lv : Int} {fs : List Fi} (hl : okR lv = true) (h : ∀ f ∈ fs, mayF f = true) (hn : fs.length ≤ 1024) (k : Nat) : (outT lv fs k).length ≤ 80000000 := by
 have a := lineT_len 108 [lv] (by rw [List.all_cons, hl]; rfl)
 have b := flat_le findT 70000 (fs.take k) (fun x hx => findT_len (h x (List.mem_of_mem_take hx)))
 have c := List.length_take_le' k fs
 have e : [lv].length = 1 := rfl
 unfold outT
 rw [List.length_append]
 omega
theorem inT_len {lv : Int} {fs : List Fi} (hl : okR lv = true) (h : ∀ f ∈ fs, mayF f = true) (hn : fs.length ≤ 1024) (k : Nat) {f : Fi} (hf : mayF f = true) (j : Nat) : (inT lv fs k f j).length ≤ 81000000 := by
 obtain ⟨h1, h2, h3⟩ := mayF_iff.1 hf
 have a := outT_len hl h hn k
 have b := lineT_len 102 (nF f) h1
 have c := flat_le (fun x => lineT 101 (nE x)) 68 (f.f6.take j) (fun x hx => edgeT_len (h3 x (List.mem_of_mem_take hx)))
 have d := List.length_take_le' j f.f6
 have e : (nF f).length = 6 := rfl
 unfold inT
 rw [List.length_append, List.length_append]
 omega
theorem inT_zero (lv : Int) (fs : List Fi) (k : Nat) (f : Fi) : inT lv fs k f 0 = outT lv fs k ++ lineT 102 (nF f) := by
 unfold inT
 rw [List.take_zero]; exact List.append_nil _
theorem inT_succ {lv : Int} {fs : List Fi} {k : Nat} {f : Fi} {j : Nat} {x : Ed} (hx : f.f6[j]? = some x) : inT lv fs k f (j + 1) = inT lv fs k f j ++ lineT 101 (nE x) := by
 unfold inT
 rw [List.take_add_one, hx, List.flatMap_append, ← List.append_assoc]
 congr 1
 exact List.append_nil _
theorem inT_all {lv : Int} {fs : List Fi} {k : Nat} {f : Fi} (hf : fs[k]? = some f) : inT lv fs k f f.f6.length = outT lv fs (k + 1) := by
 unfold inT outT
 rw [List.take_length, List.take_add_one, hf, List.flatMap_append, List.append_assoc, List.append_assoc]
 congr 2
 exact (List.append_nil _).symm
theorem okRep_iff {lv : Int} {fs : List Fi} {o : List Int} : okRep lv fs o = true ↔ (0 ≤ lv ∧ lv ≤ 4) ∧ fs.length ≤ 1024 ∧ o.length ≤ 1024 ∧ o.all okR = true ∧ ∀ f ∈ fs, mayF f = true := by
 unfold okRep
 simp only [Bool.and_eq_true, decide_eq_true_eq]
 exact ⟨fun ⟨⟨⟨⟨a, b⟩, c⟩, d⟩, e⟩ => ⟨a, b, c, d, List.all_eq_true.1 e⟩, fun ⟨a, b, c, d, e⟩ => ⟨⟨⟨⟨a, b⟩, c⟩, d⟩, List.all_eq_true.2 e⟩⟩
def PrOut (w : World) (lv : Int) (fs : List Fi) (o : List Int) (e : Ending) (w' : World) : Prop :=
 e = .returned (if okRep lv fs o = true then .tuple #[.string (strOfNums (repT lv fs o)), .int .i64 0] else .tuple #[.string ⟨#[]⟩, .int .i64 2]) ∧ Below w.heap.size w w'
set_option maxHeartbeats 4000000 in
set_option maxRecDepth 100000 in
theorem print_bad (lv : Int) (fs : List Fi) (o : List Int) (A1 : Option Addr) (c1 : Nat) (A2 : Option Addr) (c2 : Nat) (w : World) (h1 : Kd.C k44 w A1 fs.length fs) (h2 : Kd.C (Kd.int .i64) w A2 o.length o) (hl : fs.length ≤ 1000000000) (ho : o.length ≤ 1000000000) (hbad : okRep lv fs o = false) :
 Calls Try.prog 9 #[.agg (cR lv A1 fs.length c1 A2 o.length c2)] w (PrOut w lv fs o) := by
 have HC : Hid (∀ W, Below w.heap.size w W → Calls Try.prog 11 #[.agg (cR lv A1 fs.length c1 A2 o.length c2)] W fun e w' => e = .returned (.int .i64 2) ∧ Below W.heap.size W w') := Lib.hid fun W hb => (check_c lv fs o A1 c1 A2 c2 W (Kd.C_below h1 hb) (Kd.C_below h2 hb) hl ho).mono fun e w' ⟨he, hb⟩ => ⟨by rw [he, chk, hbad]; rfl, hb⟩
 have HB := Lib.hid ((Below.refl w.heap.size w).alloc (Nat.le_refl _) (.cells (cR lv A1 fs.length c1 A2 o.length c2) 25))
 unfold PrOut
 rw [if_neg (by rw [hbad]; exact Bool.false_ne_true)]
 clear h1 h2 hbad
 unfold cR at *
 go_enter Try.func9, Try.ntmps9
 go_wp2_with (fail)
 refine (HC.out _ HB.out).mono ?_
 rintro e w1 ⟨rfl, hb1⟩
 go_wp2
 refine bodyPost_ret (results_tmp2 (t := 2) (u := 3) rfl _ _ _) rfl ?_
 exact ⟨rfl, HB.out.trans (hb1.mono HB.out.size)⟩
set_option maxHeartbeats 8000000 in
set_option maxRecDepth 100000 in
theorem print_ok (lv : Int) (fs : List Fi) (o : List Int) (A1 : Option Addr) (c1 : Nat) (A2 : Option Addr) (c2 : Nat) (w : World) (h1 : Kd.C k44 w A1 fs.length fs) (h2 : Kd.C (Kd.int .i64) w A2 o.length o) (hok : okRep lv fs o = true) :
 Calls Try.prog 9 #[.agg (cR lv A1 fs.length c1 A2 o.length c2)] w (PrOut w lv fs o) := by
 obtain ⟨k1, k2, k3, k4, k5⟩ := okRep_iff.1 hok
 have klv : okR lv = true := okR_iff.2 (by omega)
 have HC : Hid (∀ W, Below w.heap.size w W → Calls Try.prog 11 #[.agg (cR lv A1 fs.length c1 A2 o.length c2)] W fun e w' => e = .returned (.int .i64 0) ∧ Below W.heap.size W w') := Lib.hid fun W hb => (check_c lv fs o A1 c1 A2 c2 W (Kd.C_below h1 hb) (Kd.C_below h2 hb) (by omega) (by omega)).mono fun e w' ⟨he, hb⟩ => ⟨by rw [he, chk, hok]; rfl, hb⟩
 have HX := Lib.hid (Blk.new w [.int .i64 lv, .slice A1 fs.length c1, .slice A2 o.length c2] 25)
 have HB := Lib.hid ((Below.refl w.heap.size w).alloc (Nat.le_refl _) (.cells (cR lv A1 fs.length c1 A2 o.length c2) 25))
 have HL1 : Hid (∀ W : World, Calls Try.prog 17 #[.string ⟨#[108]⟩, .slice (some ⟨W.heap.size, 0, none⟩) 1 1] (W.alloc (.cells #[.int .i64 lv] 3)) fun e w' => e = .returned (.string (strOfNums (lineT 108 [lv]))) ∧ Below W.heap.size W w') := Lib.hid fun W => by
  have hb := (Below.refl W.heap.size W).alloc (Nat.le_refl _) (.cells #[.int .i64 lv] 3)
  have hC := six_C W [lv] (by show 1 ≤ 1000000; decide) 3
  exact (line_c _ [108] _ 1 [lv] hC (by rw [List.all_cons, klv]; rfl) (by show 1 ≤ 1000000; decide) (by show 1 ≤ 1000000; decide)).mono fun e w' ⟨he, hb2⟩ => ⟨he, hb.trans (hb2.mono hb.size)⟩
 have HLO : Hid (∀ W, Below w.heap.size w W → Calls Try.prog 17 #[.string ⟨#[111]⟩, .slice A2 o.length c2] W fun e w' => e = .returned (.string (strOfNums (lineT 111 o))) ∧ Below W.heap.size W w') := Lib.hid fun W hb => line_c W [111] A2 c2 o (Kd.C_below h2 hb) k4 (by omega) (by show 1 ≤ 1000000; decide)
 have HR1 := Lib.hid h1
 have HK5 := Lib.hid k5
 unfold PrOut
 rw [if_pos hok]
 have HEND : Hid (strOfNums (outT lv fs fs.length) ++ strOfNums (lineT 111 o) = strOfNums (repT lv fs o)) := Lib.hid (by
  rw [str_append]; unfold outT repT; rw [List.take_length])
 have HOL := Lib.hid (fun k => outT_len klv k5 k2 k)
 have HIL := Lib.hid (fun (k : Nat) (f : Fi) (hf : mayF f = true) (j : Nat) => inT_len klv k5 k2 k hf j)
 have hol := lineT_len 111 o k4
 have HLL := Lib.hid (show (lineT 111 o).length ≤ 1000000 by omega)
 have HOUT0 : Hid (strOfNums (lineT 108 [lv]) = strOfNums (outT lv fs 0)) := Lib.hid (by
  unfold outT; rw [List.take_zero]; congr 1; exact (List.append_nil _).symm)
 obtain ⟨rs, hrs⟩ : ∃ rs, strOfNums (repT lv fs o) = rs := ⟨_, rfl⟩
 rw [hrs] at HEND ⊢
 clear h1 h2 hok k1 k3 k4 k5 hol hrs klv
 obtain ⟨N, hN⟩ : ∃ N, fs.length = N := ⟨_, rfl⟩
 have HN := Lib.hid hN
 rw [hN] at k2 HX HB HC HEND ⊢
 clear hN
 unfold cR at *
 go_enter Try.func9, Try.ntmps9
 go_wp2_with (fail)
 refine (HC.out _ HB.out).mono ?_
 rintro e w1 ⟨rfl, hb1⟩
 have HB1 := Lib.hid (HB.out.trans (hb1.mono HB.out.size))
 have HX1 := Lib.hid (HX.out.below hb1 HX.out.lt)
 have x0 := (HX1.out.cell 0).trans rfl
 have x1 := (HX1.out.cell 1).trans rfl
 clear hb1 HC HX HB
 go_wp2_with (fail)
 refine (HL1.out w1).mono ?_
 rintro e w2 ⟨rfl, hb2⟩
 have HB2 := Lib.hid (HB1.out.trans (hb2.mono HB1.out.size))
 have HX2 := Lib.hid (HX1.out.below hb2 HX1.out.lt)
 clear x0 x1
 have x1 := (HX2.out.cell 1).trans rfl
 clear hb2 HB1 HX1 HL1
 have HNM := Lib.hid (show N ≤ 1024 from k2)
 go_wp2_with (fail)
 go_loopw [5, 24] (fun v5 v24 wr => ∃ (k : Nat) (t : ByteArray), k ≤ N ∧ v5 = .string t ∧ v24 = .int .i64 k ∧ Aside (t = strOfNums (outT lv fs k) ∧ Blk wr w.heap.size [.int .i64 lv, .slice A1 N c1, .slice A2 o.length c2] 25 ∧ Below w.heap.size w wr)) (fun _ v24 _ => N - (intOf v24).toNat)
 case atStart => exact ⟨0, _, by omega, rfl, rfl, HOUT0.out, HX2.out, HB2.out⟩
 case round =>
  obtain ⟨k, t, hk, rfl, rfl, HJ⟩ := hrel
  clear x1 HOUT0 HX2 HB2
  by_cases hlt : k < N
  ·have hkl : k < fs.length := by rw [HN.out]; exact hlt
   have hf : fs[k]? = some (fs[k]'hkl) := List.getElem?_eq_getElem hkl
   have hrd : rd_T44 fs (k : Int) = fs[k]'hkl := by
    unfold rd_T44
    rw [Int.toNat_natCast, List.getD_eq_getElem?_getD, hf]; rfl
   have hmf := HK5.out _ (List.getElem_mem hkl)
   obtain ⟨ad, A6, c6, rfl, y0, y1, y2, y3, y4, y5, y6, hc6, hr6⟩ := at_T44 HR1.out (k : Int) (by omega) (by rw [HN.out]; omega)
   rw [hrd] at y0 y1 y2 y3 y4 y5 y6 hc6 hr6
   rw [Int.toNat_natCast] at y0 y1 y2 y3 y4 y5 y6
   generalize (fs[k]'hkl) = f at *
   have hb := HJ.out.2.2
   have z0 := (hb.cell (World.block_lt_of_cell? w _ y0)).trans y0
   have z1 := (hb.cell (World.block_lt_of_cell? w _ y1)).trans y1
   have z2 := (hb.cell (World.block_lt_of_cell? w _ y2)).trans y2
   have z3 := (hb.cell (World.block_lt_of_cell? w _ y3)).trans y3
   have z4 := (hb.cell (World.block_lt_of_cell? w _ y4)).trans y4
   have z5 := (hb.cell (World.block_lt_of_cell? w _ y5)).trans y5
   have z6 := (hb.cell (World.block_lt_of_cell? w _ y6)).trans y6
   have HR6 := Lib.hid hr6
   have HF := Lib.hid hf
   have HMF := Lib.hid hmf
   have hki : (k : Int) < N := by omega
   have HMS := Lib.hid (meas_n hlt)
   have HTO : Hid (t = strOfNums (outT lv fs k)) := Lib.hid HJ.out.1
   have HXJ := Lib.hid HJ.out.2.1
   have HBJ := Lib.hid hb
   have HFA := Lib.hid (inT_all (lv := lv) hf)
   have HTZ : Hid (t.size ≤ 80000000) := Lib.hid (by rw [HTO.out, str_size]; exact HOL.out k)
   have HOF := Lib.hid fun W => ofF_c f (.slice A6 f.f6.length c6) W
   have HLF : Hid (∀ W : World, Calls Try.prog 17 #[.string ⟨#[102]⟩, .slice (some ⟨W.heap.size, 0, none⟩) 6 6] (W.alloc (.cells (six (nF f)) 46)) fun e w' => e = .returned (.string (strOfNums (lineT 102 (nF f)))) ∧ Below W.heap.size W w') := Lib.hid fun W => by
    have hb := (Below.refl W.heap.size W).alloc (Nat.le_refl _) (.cells (six (nF f)) 46)
    exact (line_c _ [102] _ 6 (nF f) (six_C W (nF f) (by show 6 ≤ 1000000; decide) 46) (mayF_iff.1 hmf).1 (by show 6 ≤ 1000000; decide) (by show 1 ≤ 1000000; decide)).mono fun e w' ⟨he, hb2⟩ => ⟨he, hb.trans (hb2.mono hb.size)⟩
   have HLS : Hid ((strOfNums (lineT 102 (nF f))).size ≤ 68) := Lib.hid (by rw [str_size]; exact lineT_len 102 (nF f) (mayF_iff.1 hmf).1)
   have HIZ : Hid (t ++ strOfNums (lineT 102 (nF f)) = strOfNums (inT lv fs k f 0)) := Lib.hid (by rw [HTO.out, str_append, inT_zero])
   have BF := Lib.hid (Blk.new wr [.int .i64 f.f0, .int .i64 f.f1, .int .i64 f.f2, .int .i64 f.f3, .int .i64 f.f4, .int .i64 f.f5, .slice A6 f.f6.length c6] 44)
   have HB3 := Lib.hid (hb.alloc hb.size (.cells (cF f (.slice A6 f.f6.length c6)) 44))
   have HX3 := Lib.hid (HXJ.out.alloc (.cells (cF f (.slice A6 f.f6.length c6)) 44))
   obtain ⟨sF, hsF⟩ : ∃ sF, strOfNums (lineT 102 (nF f)) = sF := ⟨_, rfl⟩
   rw [hsF] at HLF HLS HIZ
   obtain ⟨M, hM⟩ : ∃ M, f.f6.length = M := ⟨_, rfl⟩
   have HM := Lib.hid hM
   rw [hM] at z6 BF HB3 HX3 HOF hc6
   have hmm : M ≤ 1024 := by rw [← hM]; exact (mayF_iff.1 hmf).2.1
   clear hsF hM y0 y1 y2 y3 y4 y5 y6 hr6 hf hrd hmf hb HJ HTO
   unfold cF six nF at *
   go_wp2_with (fail)
   refine (HOF.out _).mono ?_
   rintro e w3 ⟨rfl, hb3⟩
   have HB4 := Lib.hid (HB3.out.trans (hb3.mono HB3.out.size))
   have HX4 := Lib.hid (HX3.out.below hb3 HX3.out.lt)
   have BF4 := Lib.hid (BF.out.below hb3 BF.out.lt)
   clear hb3 HB3 HX3 BF z0 z1 z2 z3 z4 z5 z6 HOF
   go_wp2_with (fail)
   refine (HLF.out w3).mono ?_
   rintro e w4 ⟨rfl, hb4⟩
   have HB5 := Lib.hid (HB4.out.trans (hb4.mono HB4.out.size))
   have HX5 := Lib.hid (HX4.out.below hb4 HX4.out.lt)
   have BF5 := Lib.hid (BF4.out.below hb4 BF4.out.lt)
   have x6 := (BF5.out.cell 6).trans rfl
   have hsz : (9223372036854775807 < t.size + sF.size) = False := eq_false (by have := HTZ.out; have := HLS.out; omega)
   clear hb4 HB4 HX4 BF4 HLF
   go_wp2_with (fail)
   go_loopw [5, 37] (fun v5 v37 wr => ∃ (j : Nat) (t : ByteArray), j ≤ M ∧ v5 = .string t ∧ v37 = .int .i64 j ∧ Aside (t = strOfNums (inT lv fs k f j) ∧ Blk wr w.heap.size [.int .i64 lv, .slice (some ad) N c1, .slice A2 o.length c2] 25 ∧ Below w.heap.size w wr)) (fun _ v37 _ => M - (intOf v37).toNat)
   case atStart => exact ⟨0, _, by omega, rfl, rfl, HIZ.out, HX5.out, HB5.out⟩
   case round =>
    clear x6 hsz HX5 BF5 HB5 HIZ HTZ HLS
    obtain ⟨j, t, hj, rfl, rfl, HJ⟩ := hrel
    by_cases hjl : j < M
    ·have hjf : j < f.f6.length := by rw [HM.out]; exact hjl
     have hx : f.f6[j]? = some (f.f6[j]'hjf) := List.getElem?_eq_getElem hjf
     have hrd : rd_T49 f.f6 (j : Int) = f.f6[j]'hjf := by
      unfold rd_T49
      rw [Int.toNat_natCast, List.getD_eq_getElem?_getD, hx]; rfl
     have hmx := (mayF_iff.1 HMF.out).2.2 _ (List.getElem_mem hjf)
     obtain ⟨ae, rfl, y0, y1, y2, y3, y4, y5⟩ := at_T49 HR6.out (j : Int) (by omega) (by rw [HM.out]; omega)
     rw [hrd] at y0 y1 y2 y3 y4 y5
     rw [Int.toNat_natCast] at y0 y1 y2 y3 y4 y5
     generalize (f.f6[j]'hjf) = x at *
     have hb := HJ.out.2.2
     have z0 := (hb.cell (World.block_lt_of_cell? w _ y0)).trans y0
     have z1 := (hb.cell (World.block_lt_of_cell? w _ y1)).trans y1
     have z2 := (hb.cell (World.block_lt_of_cell? w _ y2)).trans y2
     have z3 := (hb.cell (World.block_lt_of_cell? w _ y3)).trans y3
     have z4 := (hb.cell (World.block_lt_of_cell? w _ y4)).trans y4
     have z5 := (hb.cell (World.block_lt_of_cell? w _ y5)).trans y5
     have hji : (j : Int) < M := by omega
     have HMJ := Lib.hid (meas_n hjl)
     have HXJ2 := Lib.hid HJ.out.2.1
     have HTZ : Hid (t.size ≤ 81000000) := Lib.hid (by rw [HJ.out.1, str_size]; exact HIL.out k f HMF.out j)
     have HOE := Lib.hid fun W => ofE_c x W
     have HLE : Hid (∀ W : World, Calls Try.prog 17 #[.string ⟨#[101]⟩, .slice (some ⟨W.heap.size, 0, none⟩) 6 6] (W.alloc (.cells (six (nE x)) 46)) fun e w' => e = .returned (.string (strOfNums (lineT 101 (nE x)))) ∧ Below W.heap.size W w') := Lib.hid fun W => by
      have hb := (Below.refl W.heap.size W).alloc (Nat.le_refl _) (.cells (six (nE x)) 46)
      exact (line_c _ [101] _ 6 (nE x) (six_C W (nE x) (by show 6 ≤ 1000000; decide) 46) hmx (by show 6 ≤ 1000000; decide) (by show 1 ≤ 1000000; decide)).mono fun e w' ⟨he, hb2⟩ => ⟨he, hb.trans (hb2.mono hb.size)⟩
     have HLS : Hid ((strOfNums (lineT 101 (nE x))).size ≤ 68) := Lib.hid (by rw [str_size]; exact edgeT_len hmx)
     have HIN : Hid (t ++ strOfNums (lineT 101 (nE x)) = strOfNums (inT lv fs k f (j + 1))) := Lib.hid (by rw [HJ.out.1, str_append, inT_succ hx])
     have HB6 := Lib.hid (hb.alloc hb.size (.cells (cE x) 49))
     have HX6 := Lib.hid (HXJ2.out.alloc (.cells (cE x) 49))
     obtain ⟨sE, hsE⟩ : ∃ sE, strOfNums (lineT 101 (nE x)) = sE := ⟨_, rfl⟩
     rw [hsE] at HLE HLS HIN
     clear hsE y0 y1 y2 y3 y4 y5 hx hrd hmx hb HJ HXJ2
     unfold cE six nE at *
     go_wp2_with (fail)
     refine (HOE.out _).mono ?_
     rintro e w5 ⟨rfl, hb5⟩
     have HB7 := Lib.hid (HB6.out.trans (hb5.mono HB6.out.size))
     have HX7 := Lib.hid (HX6.out.below hb5 HX6.out.lt)
     clear hb5 HB6 HX6 z0 z1 z2 z3 z4 z5 HOE
     go_wp2_with (fail)
     refine (HLE.out w5).mono ?_
     rintro e w6 ⟨rfl, hb6⟩
     have HB8 := Lib.hid (HB7.out.trans (hb6.mono HB7.out.size))
     have HX8 := Lib.hid (HX7.out.below hb6 HX7.out.lt)
     have hsz2 : (9223372036854775807 < t.size + sE.size) = False := eq_false (by have := HTZ.out; have := HLS.out; omega)
     clear hb6 HB7 HX7 HLE
     go_wp2_with (fail)
     go_roundw
     case rel => exact ⟨j + 1, _, hjl, rfl, by go_num, HIN.out, HX8.out, HB8.out⟩
     case measure => exact HMJ.out
    ·obtain rfl : j = M := by omega
     have hji : ¬ (j : Int) < (j : Int) := by omega
     have HTN : Hid (t = strOfNums (outT lv fs (k + 1))) := Lib.hid (by rw [HJ.out.1, ← HFA.out, HM.out])
     have HX9 := Lib.hid HJ.out.2.1
     have HB9 := Lib.hid HJ.out.2.2
     clear HJ
     go_wp2_with (fail)
     go_roundw
     case rel => exact ⟨k + 1, _, hlt, rfl, by go_num, HTN.out, HX9.out, HB9.out⟩
     case measure => exact HMS.out
  ·obtain rfl : k = N := by omega
   have hki : ¬ (k : Int) < (k : Int) := by omega
   have HXJ := Lib.hid HJ.out.2.1
   have HBJ := Lib.hid HJ.out.2.2
   have x2 := (HXJ.out.cell 2).trans rfl
   have HTZ : Hid (t.size ≤ 80000000) := Lib.hid (by rw [HJ.out.1, str_size]; exact HOL.out k)
   have HLS : Hid ((strOfNums (lineT 111 o)).size ≤ 1000000) := Lib.hid (by rw [str_size]; exact HLL.out)
   have HE : Hid (t ++ strOfNums (lineT 111 o) = rs) := Lib.hid (by rw [HJ.out.1]; exact HEND.out)
   obtain ⟨sO, hsO⟩ : ∃ sO, strOfNums (lineT 111 o) = sO := ⟨_, rfl⟩
   rw [hsO] at HLO HLS HE
   have hsz : (9223372036854775807 < t.size + sO.size) = False := eq_false (by have := HTZ.out; have := HLS.out; omega)
   clear hsO HJ
   go_wp2_with (fail)
   refine (HLO.out wr HBJ.out).mono ?_
   rintro e w3 ⟨rfl, hb3⟩
   have HB3 := Lib.hid (HBJ.out.trans (hb3.mono HBJ.out.size))
   clear hb3
   go_wp2
   refine bodyPost_ret (results_tmp2 (t := 2) (u := 3) rfl _ _ _) rfl ?_
   exact ⟨by rw [← HE.out]; rfl, HB3.out⟩
theorem print_rc (lv : Int) (fs : List Fi) (o : List Int) (A1 : Option Addr) (c1 : Nat) (A2 : Option Addr) (c2 : Nat) (w : World) (h1 : Kd.C k44 w A1 fs.length fs) (h2 : Kd.C (Kd.int .i64) w A2 o.length o) (hl : fs.length ≤ 1000000000) (ho : o.length ≤ 1000000000) :
 Calls Try.prog 9 #[.agg (cR lv A1 fs.length c1 A2 o.length c2)] w (PrOut w lv fs o) := by
 cases hok : okRep lv fs o with
 | false => exact print_bad lv fs o A1 c1 A2 c2 w h1 h2 hl ho hok
 | true => exact print_ok lv fs o A1 c1 A2 c2 w h1 h2 hok
end Go.Proofs.Ytkoddmedhnhgiaa.Rp
