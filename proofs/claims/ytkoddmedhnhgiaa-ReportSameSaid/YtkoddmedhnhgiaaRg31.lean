/- Printed by shake.py. -/
import Derived.Test.YtkoddmedhnhgiaaRg27
import Derived.Test.YtkoddmedhnhgiaaRg26
set_option linter.unusedSimpArgs false
namespace Go.Proofs.Ytkoddmedhnhgiaa.Rp
open Go.RowKit Go.Lib Go.Proofs.Ytkoddmedhnhgiaa.PReportBack Go.Proofs.YtkoddmedhnhgiaaW.PrintWords
open Cur (Cr At peek fail byte number)
set_option linter.unusedVariables false
def numR (l : List Int) (s : Cr) : Cr × Int := if (peek l (byte l s 32)).2 = true ∧ (peek l (byte l s 32)).1 = 45 then (byte l (byte l s 32) 45, -1) else number l (byte l s 32)
def nextR (l : List Int) (s : Cr) (c : Int) : Bool := (peek l s).2 && ((peek l s).1 == c)
def numsR (l : List Int) : Nat → Cr → Cr × List Int
 | 0, s => (s, [])
 | k + 1, s => ((numR l (numsR l k s).1).1, (numsR l k s).2 ++ [(numR l (numsR l k s).1).2])
theorem numsR_len (l : List Int) (s : Cr) : ∀ k, (numsR l k s).2.length = k
 | 0 => rfl
 | k + 1 => by rw [numsR, List.length_append, numsR_len l s k]; rfl
def sixR (l : List Int) (s : Cr) (c : Int) : Cr × List Int := (byte l (numsR l 6 (byte l s c)).1 10, (numsR l 6 (byte l s c)).2)
theorem ok_numR {l : List Int} {s : Cr} (h : Cur.Ok l s) : Cur.Ok l (numR l s).1 := by
 unfold numR
 split
 ·exact Cur.ok_byte (Cur.ok_byte h 32) 45
 ·exact Cur.ok_number (Cur.ok_byte h 32)
theorem ok_numsR {l : List Int} {s : Cr} (h : Cur.Ok l s) : ∀ k, Cur.Ok l (numsR l k s).1
 | 0 => h
 | k + 1 => ok_numR (ok_numsR h k)
structure Env where
 wO : World
 b : Nat
 cb : Nat
 A : Option Addr
 l : List Int
 c : Nat
structure Env.Good (E : Env) : Prop where
 hC : Kd.C (Kd.int .u8) E.wO E.A E.l.length E.l
 hc : E.l.length ≤ E.c
 hb : Bytes E.l
 hl : E.l.length ≤ 100000000
 b0 : E.wO.heap.size ≤ E.b
 c0 : E.wO.heap.size ≤ E.cb
 d1 : E.b ≠ E.cb
structure RD (E : Env) (w : World) (s : Cr) : Prop where
 box : Blk w E.b [.pointer (some ⟨E.cb, 0, none⟩)] 62
 cur : At w E.cb E.A E.l.length E.c s
 ok : Cur.Ok E.l s
 bel : Below E.wO.heap.size E.wO w
def RS (E : Env) (w : World) (s : Cr) (w' : World) : Prop := RD E w' s ∧ Chg (fun k => k = E.cb) w w'
theorem RD.C {E : Env} {w : World} {s : Cr} (h : RD E w s) (g : E.Good) : Kd.C (Kd.int .u8) w E.A E.l.length E.l := Kd.C_below g.hC h.bel
theorem RD.chg {E : Env} {w w' : World} {s s' : Cr} (h : RD E w s) (g : E.Good) (ha : At w' E.cb E.A E.l.length E.c s') (hc : Chg (fun k => k = E.cb) w w') (ho : Cur.Ok E.l s') : RS E w s' w' :=
 ⟨⟨h.box.chg hc g.d1, ha, ho, h.bel.trans (hc.below h.bel.size fun i hi => by rw [hi]; exact g.c0)⟩, hc⟩
theorem RD.below {E : Env} {w w' : World} {s : Cr} (h : RD E w s) (hb : Below w.heap.size w w') : RD E w' s :=
 ⟨h.box.below hb h.box.lt, Blk.below h.cur hb (Blk.lt h.cur), h.ok, h.bel.trans (hb.mono h.bel.size)⟩
theorem RD.step {E : Env} {w w' : World} {s : Cr} {S : Nat → Prop} (h : RD E w s) (hc : Chg S w w') (h1 : ¬ S E.b) (h2 : ¬ S E.cb) (h3 : ∀ i, S i → E.wO.heap.size ≤ i) : RD E w' s :=
 ⟨h.box.chg hc h1, Blk.chg h.cur hc h2, h.ok, h.bel.trans (hc.below h.bel.size h3)⟩
theorem RS.trans {E : Env} {w w1 w2 : World} {s1 s2 : Cr} (h : RS E w s1 w1) (k : RS E w1 s2 w2) : RS E w s2 w2 := ⟨k.1, h.2.trans k.2⟩
theorem RS.alloc {E : Env} {w w1 : World} {s : Cr} (h : RS E w s w1) (o : Obj) : RS E w s (w1.alloc o) := ⟨h.1.below ((Below.refl _ w1).alloc (Nat.le_refl _) o), h.2.alloc o⟩
theorem RS.refl {E : Env} {w : World} {s : Cr} (h : RD E w s) : RS E w s w := ⟨h, Chg.refl _ _⟩
theorem len_ok {E : Env} (g : E.Good) : (E.l.length : Int) ≤ 140737488351232 := by have := g.hl; omega
theorem byte_r {E : Env} (g : E.Good) {w : World} {s : Cr} (h : RD E w s) (y : Int) :
 Calls Try.prog 29 #[.pointer (some ⟨E.cb, 0, none⟩), .int .u8 y] w fun r w' => r = .returned (.tuple #[]) ∧ RS E w (byte E.l s y) w' :=
 (Cur.byte_calls w E.cb E.A E.l E.c s h.cur (h.C g) h.ok.1 (len_ok g) y).mono fun _ _ ⟨h1, h2, h3⟩ => ⟨h1, h.chg g h2 h3 (Cur.ok_byte h.ok y)⟩
theorem number_r {E : Env} (g : E.Good) {w : World} {s : Cr} (h : RD E w s) :
 Calls Try.prog 55 #[.pointer (some ⟨E.cb, 0, none⟩)] w fun r w' => r = .returned (.int .i64 (number E.l s).2) ∧ RS E w (number E.l s).1 w' :=
 (Cur.number_calls w E.cb E.A E.l E.c s h.cur (h.C g) g.hc g.hb (len_ok g)).mono fun _ _ ⟨h1, h2, h3⟩ => ⟨h1, h.chg g h2 h3 (Cur.ok_number h.ok)⟩
theorem fail_r {E : Env} (g : E.Good) {w : World} {s : Cr} (h : RD E w s) (e a : Int) :
 Calls Try.prog 35 #[.pointer (some ⟨E.cb, 0, none⟩), .int .i64 e, .int .i64 a] w fun r w' => r = .returned (.tuple #[]) ∧ RS E w (fail s e a) w' :=
 (Cur.fail_calls w E.cb E.A E.l.length E.c s h.cur e a).mono fun _ _ ⟨h1, h2, h3⟩ => ⟨h1, h.chg g h2 h3 (Cur.ok_fail h.ok e a)⟩
theorem RD.drewN {E : Env} {w : World} {s : Cr} (h : RD E w s) (q : Nat) : RD E (w.drewN q) s := h.below (pw_below_drewN (Below.refl _ _) q)
theorem peek_r {E : Env} (g : E.Good) {w : World} {s : Cr} (h : RD E w s) :
 Calls Try.prog 54 #[.pointer (some ⟨E.cb, 0, none⟩)] w fun r w' => r = .returned (.tuple #[.int .u8 (peek E.l s).1, .bool (peek E.l s).2]) ∧ RS E w s w' :=
 (Cur.peek_calls w E.cb E.A E.l E.c s h.cur (h.C g) h.ok.1).mono fun _ _ ⟨h1, q, h2⟩ => ⟨h1, by rw [h2]; exact ⟨h.drewN q, (Chg.refl _ _).drewN q⟩⟩
theorem at_r {E : Env} {w : World} {s : Cr} (h : RD E w s) :
 Calls Try.prog 34 #[.pointer (some ⟨E.cb, 0, none⟩)] w fun r w' => r = .returned (.int .i64 s.p) ∧ w = w' := Cur.at_calls w E.cb E.A E.l.length E.c s.p s.e s.x h.cur
theorem err_r {E : Env} {w : World} {s : Cr} (h : RD E w s) :
 Calls Try.prog 36 #[.pointer (some ⟨E.cb, 0, none⟩)] w fun r w' => r = .returned (.tuple #[.int .i64 s.e, .int .i64 s.x]) ∧ RS E w s w' :=
 (Cur.err_calls w E.cb E.A E.l.length E.c s.p s.e s.x h.cur).mono fun _ _ ⟨h1, q, h2⟩ => ⟨h1, by rw [h2]; exact ⟨h.drewN q, (Chg.refl _ _).drewN q⟩⟩
set_option maxHeartbeats 1000000 in
set_option maxRecDepth 100000 in
theorem numR_c {E : Env} (g : E.Good) {w : World} {s : Cr} (h : RD E w s) :
 Calls Try.prog 30 #[.pointer (some ⟨E.b, 0, none⟩)] w fun r w' => r = .returned (.int .i64 (numR E.l s).2) ∧ RS E w (numR E.l s).1 w' := by
 have q0 := (h.box.cell 0).trans rfl
 have H := Lib.hid h
 have G := Lib.hid g
 clear h g
 obtain ⟨res, hres⟩ : ∃ res, numR E.l s = res := ⟨_, rfl⟩
 rw [hres]
 have HRES := Lib.hid hres
 clear hres
 go_enter Try.func30, Try.ntmps30
 go_wp2_with fail
 refine (byte_r G.out H.out 32).mono ?_
 rintro r w1 ⟨rfl, h1⟩
 have H1 := Lib.hid h1
 clear q0 h1
 have q0 := (H1.out.1.box.cell 0).trans rfl
 go_wp2_with fail
 refine (peek_r G.out H1.out.1).mono ?_
 rintro r w2 ⟨rfl, h2⟩
 have H2 := Lib.hid (H1.out.trans h2)
 clear q0 h2 H1
 have q0 := (H2.out.1.box.cell 0).trans rfl
 by_cases hp : (peek E.l (byte E.l s 32)).2 = true ∧ (peek E.l (byte E.l s 32)).1 = 45
 ·have HV : Hid ((byte E.l (byte E.l s 32) 45, -1) = res) := Lib.hid (by rw [← HRES.out]; unfold numR; rw [if_pos hp])
  rw [hp.1, hp.2]
  clear hp
  go_wp2_with fail
  refine (byte_r G.out H2.out.1 45).mono ?_
  rintro r w3 ⟨rfl, h3⟩
  have H3 := Lib.hid (H2.out.trans h3)
  clear h3
  go_wp2
  go_ret
  exact ⟨by rw [← HV.out]; rfl, by rw [← HV.out]; exact H3.out⟩
 ·have HV : Hid (number E.l (byte E.l s 32) = res) := Lib.hid (by rw [← HRES.out]; unfold numR; rw [if_neg hp])
  obtain ⟨pb, hpb⟩ : ∃ pb, (peek E.l (byte E.l s 32)).2 = pb := ⟨_, rfl⟩
  obtain ⟨px, hpx⟩ : ∃ px, (peek E.l (byte E.l s 32)).1 = px := ⟨_, rfl⟩
  rw [hpb, hpx] at hp ⊢
  clear hpb hpx
  cases pb with
  | true =>
   have hx : (px == 45) = false := by rw [beq_eq_false_iff_ne]; exact fun e => hp ⟨rfl, e⟩
   have hx2 : ¬ px = 45 := fun e => hp ⟨rfl, e⟩
   clear hp
   go_wp2_with fail
   refine (number_r G.out H2.out.1).mono ?_
   rintro r w3 ⟨rfl, h3⟩
   have H3 := Lib.hid (H2.out.trans h3)
   clear h3
   go_wp2
   go_ret
   exact ⟨by rw [← HV.out]; rfl, by rw [← HV.out]; exact H3.out⟩
  | false =>
   clear hp
   go_wp2_with fail
   refine (number_r G.out H2.out.1).mono ?_
   rintro r w3 ⟨rfl, h3⟩
   have H3 := Lib.hid (H2.out.trans h3)
   clear h3
   go_wp2
   go_ret
   exact ⟨by rw [← HV.out]; rfl, by rw [← HV.out]; exact H3.out⟩
set_option maxHeartbeats 1000000 in
set_option maxRecDepth 100000 in
theorem nextR_c {E : Env} (g : E.Good) {w : World} {s : Cr} (h : RD E w s) (c : Int) :
 Calls Try.prog 31 #[.pointer (some ⟨E.b, 0, none⟩), .int .u8 c] w fun r w' => r = .returned (.bool (nextR E.l s c)) ∧ RS E w s w' := by
 have q0 := (h.box.cell 0).trans rfl
 have H := Lib.hid h
 have G := Lib.hid g
 clear h g
 obtain ⟨res, hres⟩ : ∃ res, nextR E.l s c = res := ⟨_, rfl⟩
 rw [hres]
 have HRES := Lib.hid hres
 clear hres
 go_enter Try.func31, Try.ntmps31
 go_wp2_with fail
 refine (peek_r G.out H.out).mono ?_
 rintro r w2 ⟨rfl, h2⟩
 have H2 := Lib.hid h2
 clear q0 h2
 have HV : Hid (((peek E.l s).2 && ((peek E.l s).1 == c)) = res) := Lib.hid HRES.out
 obtain ⟨pb, hpb⟩ : ∃ pb, (peek E.l s).2 = pb := ⟨_, rfl⟩
 obtain ⟨px, hpx⟩ : ∃ px, (peek E.l s).1 = px := ⟨_, rfl⟩
 rw [hpb, hpx] at HV ⊢
 clear hpb hpx HRES
 cases pb with
 | true =>
  go_wp2
  go_ret
  exact ⟨by rw [← HV.out]; rfl, H2.out⟩
 | false =>
  go_wp2
  go_ret
  exact ⟨by rw [← HV.out]; rfl, H2.out⟩
end Go.Proofs.Ytkoddmedhnhgiaa.Rp
set_option linter.unusedSimpArgs false
namespace Go.Proofs.Ytkoddmedhnhgiaa.Rp
open Go.RowKit Go.Lib Go.Proofs.Ytkoddmedhnhgiaa.PReportBack Go.Proofs.YtkoddmedhnhgiaaW.PrintWords
open Cur (Cr At peek fail byte number)
set_option linter.unusedVariables false
def pad (l : List Int) : List Value := (l ++ List.replicate (6 - l.length) 0).map (Value.int .i64)
theorem pad_set {l : List Int} (h : l.length < 6) (v : Int) : (pad l).set l.length (.int .i64 v) = pad (l ++ [v]) := by
 unfold pad
 rw [← List.map_set, List.set_append, if_neg (by omega), Nat.sub_self, show 6 - l.length = (6 - (l ++ [v]).length) + 1 by rw [List.length_append, List.length_singleton]; omega, List.replicate_succ, List.set_cons_zero, List.append_assoc]
 rfl
theorem pad_len {l : List Int} (h : l.length ≤ 6) : (pad l).length = 6 := by
 unfold pad
 rw [List.length_map, List.length_append, List.length_replicate]; omega
theorem six_list {l : List Int} (h : l.length = 6) : ∃ a b c d e f, l = [a, b, c, d, e, f] := by
 match l, h with
 | [a, b, c, d, e, f], _ => exact ⟨a, b, c, d, e, f, rfl⟩
theorem meas6 {k : Nat} (h : k < 6) : 6 - (intOf (Value.int .i64 ((k : Int) + 1))).toNat < 6 - (intOf (Value.int .i64 (k : Int))).toNat := by
 show 6 - ((k : Int) + 1).toNat < 6 - (k : Int).toNat
 omega
theorem RS.set {E : Env} {w w1 : World} {s : Cr} (g : E.Good) (h : RS E w s w1) {b : Nat} (j : Nat) (hb : w.heap.size ≤ b) (h1 : b ≠ E.b) (h2 : b ≠ E.cb) (h3 : E.wO.heap.size ≤ b) (u : Value) : RS E w s (w1.setCell ⟨b, j, none⟩ u) :=
 ⟨h.1.step (S := fun i => i = b) ⟨rfl, rfl, rfl, by simp [World.setCell], fun k hk hn => Below.heap_setCell _ _ _ _ (by simpa using hn)⟩ (fun e => h1 e.symm) (fun e => h2 e.symm) (fun i hi => by rw [hi]; exact h3), h.2.set j (.inr hb) u⟩
set_option maxHeartbeats 4000000 in
set_option maxRecDepth 100000 in
theorem sixR_c {E : Env} (g : E.Good) {w : World} {s : Cr} (h : RD E w s) (c : Int) :
 Calls Try.prog 56 #[.pointer (some ⟨E.b, 0, none⟩), .int .u8 c] w fun r w' => r = .returned (.agg (six (sixR E.l s c).2)) ∧ RS E w (sixR E.l s c).1 w' := by
 have hbl : E.b < w.heap.size := h.box.lt
 have hcl : E.cb < w.heap.size := Blk.lt h.cur
 have hO : E.wO.heap.size ≤ w.heap.size := h.bel.size
 have H := Lib.hid ((RS.refl h).alloc (.cells #[.int .i64 0, .int .i64 0, .int .i64 0, .int .i64 0, .int .i64 0, .int .i64 0] 46) |>.alloc (.cells #[.int .i64 0, .int .i64 0, .int .i64 0, .int .i64 0, .int .i64 0, .int .i64 0] 46))
 have B4 := Lib.hid ((Blk.new w [.int .i64 0, .int .i64 0, .int .i64 0, .int .i64 0, .int .i64 0, .int .i64 0] 46).alloc (.cells #[.int .i64 0, .int .i64 0, .int .i64 0, .int .i64 0, .int .i64 0, .int .i64 0] 46))
 have hB5 := Blk.new (w.alloc (.cells #[.int .i64 0, .int .i64 0, .int .i64 0, .int .i64 0, .int .i64 0, .int .i64 0] 46)) [.int .i64 0, .int .i64 0, .int .i64 0, .int .i64 0, .int .i64 0, .int .i64 0] 46
 rw [World.size_alloc] at hB5
 have B5 := Lib.hid hB5
 have q0 := (H.out.1.box.cell 0).trans rfl
 have G := Lib.hid g
 clear h g hB5
 go_enter Try.func56, Try.ntmps56
 go_wp2_with fail
 refine (byte_r G.out H.out.1 c).mono ?_
 rintro r w1 ⟨rfl, h1⟩
 have H1 := Lib.hid (H.out.trans h1)
 have B41 := Lib.hid (B4.out.chg h1.2 (by omega))
 have B51 := Lib.hid (B5.out.chg h1.2 (by omega))
 clear q0 h1 H B4 B5
 have HN := Lib.hid (numsR_len E.l (byte E.l s c))
 go_wp2_with fail
 go_loopw [13] (fun v13 wr => ∃ k : Nat, k ≤ 6 ∧ v13 = .int .i64 k ∧ Aside (RS E w (numsR E.l k (byte E.l s c)).1 wr ∧ Blk wr w.heap.size [.int .i64 0, .int .i64 0, .int .i64 0, .int .i64 0, .int .i64 0, .int .i64 0] 46 ∧ Blk wr (w.heap.size + 1) (pad (numsR E.l k (byte E.l s c)).2) 46)) (fun v13 _ => 6 - (intOf v13).toNat)
 case atStart => exact ⟨0, by omega, rfl, H1.out, B41.out, B51.out⟩
 case round =>
  obtain ⟨k, hk, rfl, HJ⟩ := hrel
  clear H1 B41 B51
  by_cases hlt : k < 6
  ·have hki : (k : Int) < 6 := by omega
   have HMS := Lib.hid (meas6 hlt)
   have HNU := Lib.hid (numR_c G.out HJ.out.1.1)
   have HNK := Lib.hid (show numsR E.l (k + 1) (byte E.l s c) = ((numR E.l (numsR E.l k (byte E.l s c)).1).1, (numsR E.l k (byte E.l s c)).2 ++ [(numR E.l (numsR E.l k (byte E.l s c)).1).2]) from rfl)
   have hxl := HN.out k
   generalize (numsR E.l k (byte E.l s c)).2 = xs at *
   generalize (numR E.l (numsR E.l k (byte E.l s c)).1).2 = z at *
   generalize (numR E.l (numsR E.l k (byte E.l s c)).1).1 = s2 at *
   go_wp2_with fail
   refine HNU.out.mono ?_
   rintro r w2 ⟨rfl, h2⟩
   have H2 := Lib.hid (HJ.out.1.trans h2)
   have B42 := Lib.hid (HJ.out.2.1.chg h2.2 (by omega))
   have B52 := Lib.hid (HJ.out.2.2.chg h2.2 (by omega))
   have hpk : (pad xs)[k]? = some ((pad xs)[k]'(by rw [pad_len (by omega)]; exact hlt)) := List.getElem?_eq_getElem _
   have z5 := (B52.out.cell k).trans hpk
   have f5 := B52.out.free k
   have B53 := Lib.hid (B52.out.set k (.int .i64 z))
   have HPS : Hid ((pad xs).set k (.int .i64 z) = pad (xs ++ [z])) := Lib.hid (by rw [← hxl]; exact pad_set (by omega) z)
   have H3 := Lib.hid (H2.out.set G.out k (by omega : w.heap.size ≤ w.heap.size + 1) (by omega) (by omega) (by omega) (.int .i64 z))
   have B43 : Hid (Blk (w2.setCell ⟨w.heap.size + 1, k, none⟩ (.int .i64 z)) w.heap.size [.int .i64 0, .int .i64 0, .int .i64 0, .int .i64 0, .int .i64 0, .int .i64 0] 46) := Lib.hid (B42.out.chg (Chg.set (S := fun i => i = w.heap.size + 1) (b := w.heap.size + 1) (Chg.refl _ w2) k (.inl rfl) (.int .i64 z)) (by omega))
   clear h2 HJ hpk HNU H2 B42 B52
   generalize ((pad xs)[k]'(by rw [pad_len (by omega)]; exact hlt)) = zz at *
   go_wp2
   go_roundw
   case rel => exact ⟨k + 1, hlt, by go_num, by rw [HNK.out]; exact H3.out, B43.out, by rw [HNK.out, ← HPS.out]; exact B53.out⟩
   case measure => exact HMS.out
  ·obtain rfl : k = 6 := by omega
   have hki : ¬ ((6 : Nat) : Int) < 6 := by omega
   have HS := Lib.hid (show sixR E.l s c = (byte E.l (numsR E.l 6 (byte E.l s c)).1 10, (numsR E.l 6 (byte E.l s c)).2) from rfl)
   obtain ⟨res, hres⟩ : ∃ res, sixR E.l s c = res := ⟨_, rfl⟩
   obtain ⟨a, b, c', d, e, f, hx⟩ := six_list (HN.out 6)
   have HBY := Lib.hid (byte_r G.out HJ.out.1.1 10)
   have q0 := (HJ.out.1.1.box.cell 0).trans rfl
   rw [hx] at HS
   rw [hres] at HS
   have HP := Lib.hid (show pad (numsR E.l 6 (byte E.l s c)).2 = [.int .i64 a, .int .i64 b, .int .i64 c', .int .i64 d, .int .i64 e, .int .i64 f] by rw [hx]; rfl)
   have HRES := Lib.hid hres
   clear hres hx
   go_wp2_with fail
   refine HBY.out.mono ?_
   rintro r w2 ⟨rfl, h2⟩
   have H2 := Lib.hid (HJ.out.1.trans h2)
   have B42 := Lib.hid (HJ.out.2.1.chg h2.2 (by omega))
   have hB5 := HJ.out.2.2
   rw [HP.out] at hB5
   have B52 := Lib.hid (hB5.chg h2.2 (by omega))
   have y0 := (B52.out.cell 0).trans rfl
   have y1 := (B52.out.cell 1).trans rfl
   have y2 := (B52.out.cell 2).trans rfl
   have y3 := (B52.out.cell 3).trans rfl
   have y4 := (B52.out.cell 4).trans rfl
   have y5 := (B52.out.cell 5).trans rfl
   have z0 := (B42.out.cell 0).trans rfl
   have z1 := (B42.out.cell 1).trans rfl
   have z2 := (B42.out.cell 2).trans rfl
   have z3 := (B42.out.cell 3).trans rfl
   have z4 := (B42.out.cell 4).trans rfl
   have z5 := (B42.out.cell 5).trans rfl
   have f0 := B42.out.free 0
   have f1 := B42.out.free 1
   have f2 := B42.out.free 2
   have f3 := B42.out.free 3
   have f4 := B42.out.free 4
   have f5 := B42.out.free 5
   clear h2 hB5 HJ HBY
   go_wp2
   have hB := (((((B42.out.set 0 (.int .i64 a)).set 1 (.int .i64 b)).set 2 (.int .i64 c')).set 3 (.int .i64 d)).set 4 (.int .i64 e)).set 5 (.int .i64 f)
   have hR : RS E w (sixR E.l s c).1 ((((((w2.setCell ⟨w.heap.size, 0, none⟩ (.int .i64 a)).setCell ⟨w.heap.size, 1, none⟩ (.int .i64 b)).setCell ⟨w.heap.size, 2, none⟩ (.int .i64 c')).setCell ⟨w.heap.size, 3, none⟩ (.int .i64 d)).setCell ⟨w.heap.size, 4, none⟩ (.int .i64 e)).setCell ⟨w.heap.size, 5, none⟩ (.int .i64 f)) := by
    have hs : ∀ {W : World} (j : Nat) (u : Value), RS E w (sixR E.l s c).1 W → RS E w (sixR E.l s c).1 (W.setCell ⟨w.heap.size, j, none⟩ u) := fun j u h => h.set G.out j (Nat.le_refl _) (by omega) (by omega) (by omega) u
    have h0 : RS E w (sixR E.l s c).1 w2 := by rw [HRES.out, HS.out]; exact H2.out
    exact hs 5 _ (hs 4 _ (hs 3 _ (hs 2 _ (hs 1 _ (hs 0 _ h0)))))
   refine bodyPost_ret (results_c rfl _ _ w.heap.size 46 (six [a, b, c', d, e, f]) (0, 0) rfl hB Try.underlying46 rfl) rfl ⟨?_, hR⟩
   rw [HRES.out, HS.out]
end Go.Proofs.Ytkoddmedhnhgiaa.Rp
set_option linter.unusedSimpArgs false
namespace Go.Proofs.Ytkoddmedhnhgiaa.Rp
open Go.RowKit Go.Lib Go.Proofs.Ytkoddmedhnhgiaa.PReportBack Go.Proofs.YtkoddmedhnhgiaaW.PrintWords
open Cur (Cr At peek fail byte number)
set_option linter.unusedVariables false
def left (l : List Int) (s : Cr) : Nat := if s.e = 0 then ((l.length : Int) - s.p).toNat else 0
theorem left_le {l : List Int} {s : Cr} (h : Cur.Ok l s) : left l s ≤ l.length := by
 unfold left
 split
 ·have := h.1; omega
 ·omega
theorem nextR_iff {l : List Int} {s : Cr} {c : Int} : nextR l s c = true ↔ (peek l s).2 = true ∧ (peek l s).1 = c := by
 unfold nextR
 rw [Bool.and_eq_true, beq_iff_eq]
theorem peek_yes {l : List Int} {s : Cr} (h : (peek l s).2 = true) : s.e = 0 ∧ s.p < l.length := by
 unfold peek at h
 split at h
 ·assumption
 ·cases h
theorem byte_yes {l : List Int} {s : Cr} {c : Int} (h : nextR l s c = true) : byte l s c = { s with p := s.p + 1 } := by
 obtain ⟨h1, h2⟩ := nextR_iff.1 h
 unfold byte
 rw [if_pos ⟨h1, h2.symm⟩]
theorem left_byte {l : List Int} {s : Cr} {c : Int} (h : nextR l s c = true) : left l (byte l s c) < left l s := by
 obtain ⟨h1, h2⟩ := nextR_iff.1 h
 obtain ⟨h3, h4⟩ := peek_yes h1
 rw [byte_yes h]
 unfold left
 rw [if_pos h3, if_pos h3]
 show ((l.length : Int) - (s.p + 1)).toNat < _
 omega
theorem left_byte_le {l : List Int} {s : Cr} (c : Int) : left l (byte l s c) ≤ left l s := by
 unfold byte
 split
 ·unfold left
  show (if s.e = 0 then ((l.length : Int) - (s.p + 1)).toNat else 0) ≤ if s.e = 0 then ((l.length : Int) - s.p).toNat else 0
  split <;> omega
 ·unfold fail
  split
  ·unfold left
   show (if (4 : Int) = 0 then _ else 0) ≤ _
   rw [if_neg (by decide)]; exact Nat.zero_le _
  ·exact Nat.le_refl _
theorem left_number_le {l : List Int} {s : Cr} (hs : Cur.Ok l s) : left l (number l s).1 ≤ left l s := by
 unfold number
 by_cases h0 : s.e = 0
 ·rw [if_pos h0]
  have hto := Cur.ok_number hs
  by_cases hp : (parse l s.p).2.2 = true
  ·rw [if_pos hp]
   have := parse_to l s.p hs.1 hs.2
   unfold left
   show (if s.e = 0 then ((l.length : Int) - (parse l s.p).2.1).toNat else 0) ≤ if s.e = 0 then ((l.length : Int) - s.p).toNat else 0
   rw [if_pos h0, if_pos h0]
   omega
  ·rw [if_neg hp]
   unfold fail
   rw [if_pos ⟨h0, by decide⟩]
   unfold left
   show (if (4 : Int) = 0 then _ else 0) ≤ _
   rw [if_neg (by decide)]; exact Nat.zero_le _
 ·rw [if_neg h0]; exact Nat.le_refl _
theorem left_numR_le {l : List Int} {s : Cr} (hs : Cur.Ok l s) : left l (numR l s).1 ≤ left l (byte l s 32) := by
 unfold numR
 split
 ·exact left_byte_le 45
 ·exact left_number_le (Cur.ok_byte hs 32)
theorem left_numR {l : List Int} {s : Cr} (hs : Cur.Ok l s) (h : nextR l s 32 = true) : left l (numR l s).1 < left l s := Nat.lt_of_le_of_lt (left_numR_le hs) (left_byte h)
def ordLoop (l : List Int) : Nat → Cr → List Int → Cr × List Int
 | 0, s, acc => (s, acc)
 | f + 1, s, acc => if nextR l s 32 = true then ordLoop l f (numR l s).1 (acc ++ [(numR l s).2]) else (s, acc)
theorem ordLoop_fuel (l : List Int) : ∀ (f g : Nat) (s : Cr) (acc : List Int), Cur.Ok l s → left l s < f → left l s < g → ordLoop l f s acc = ordLoop l g s acc
 | 0, _, _, _, _, h, _ => absurd h (Nat.not_lt_zero _)
 | _ + 1, 0, _, _, _, _, h => absurd h (Nat.not_lt_zero _)
 | f + 1, g + 1, s, acc, hs, hf, hg => by
  rw [ordLoop, ordLoop]
  split
  ·rename_i h
   have := left_numR hs h
   exact ordLoop_fuel l f g _ _ (ok_numR hs) (by omega) (by omega)
  ·rfl
def ordGo (l : List Int) (s : Cr) (acc : List Int) : Cr × List Int := ordLoop l (left l s + 1) s acc
theorem ordGo_step {l : List Int} {s : Cr} (hs : Cur.Ok l s) (acc : List Int) (h : nextR l s 32 = true) : ordGo l s acc = ordGo l (numR l s).1 (acc ++ [(numR l s).2]) := by
 have := left_numR hs h
 unfold ordGo
 rw [ordLoop, if_pos h]
 exact ordLoop_fuel l _ _ _ _ (ok_numR hs) (by omega) (by omega)
theorem ordGo_end {l : List Int} {s : Cr} (acc : List Int) (h : nextR l s 32 = false) : ordGo l s acc = (s, acc) := by
 unfold ordGo
 rw [ordLoop, if_neg (by rw [h]; exact Bool.false_ne_true)]
def ordR (l : List Int) (s : Cr) : Cr × List Int := (byte l (ordGo l (byte l s 111) []).1 10, (ordGo l (byte l s 111) []).2)
theorem RS.belowB {E : Env} {w W w1 : World} {s : Cr} (h : RS E w s W) (hb : Below w.heap.size W w1) (h1 : E.b < w.heap.size) (h2 : E.cb < w.heap.size) (h3 : E.wO.heap.size ≤ w.heap.size) : RS E w s w1 := by
 refine ⟨⟨h.1.box.below hb h1, Blk.below h.1.cur hb h2, h.1.ok, h.1.bel.trans (hb.mono h3)⟩, ?_⟩
 exact h.2.then (S' := fun i => w.heap.size ≤ i) ⟨hb.os, hb.tape, hb.output, hb.size, fun k hk hn => hb.block k (by omega)⟩ (fun i hi => .inr hi)
theorem own_below {w w' : World} {base k n : Nat} {e : TypeId} {v : Value} {xs : List Value} (h : w.ownsRow base e k v n xs) (hb : Below w.heap.size w w') : w'.ownsRow base e k v n xs := by
 refine ⟨h.1, ?_⟩
 rcases h.2 with h0 | ⟨g, cap, cur, h1, h2, h3, h4⟩
 ·exact .inl h0
 ·have hlt : g < w.heap.size := by
   rcases Nat.lt_or_ge g w.heap.size with h | h
   ·exact h
   ·rw [Array.getElem?_eq_none h] at h3; cases h3
  exact .inr ⟨g, cap, cur, h1, h2, by rw [hb.block g hlt]; exact h3, h4⟩
theorem own_chg {w w' : World} {base k n : Nat} {e : TypeId} {v : Value} {xs : List Value} {S : Nat → Prop} (h : w.ownsRow base e k v n xs) (hc : Chg S w w') (hs : ∀ q, S q → q < base) : w'.ownsRow base e k v n xs := by
 refine ⟨h.1, ?_⟩
 rcases h.2 with h0 | ⟨g, cap, cur, h1, h2, h3, h4⟩
 ·exact .inl h0
 ·have hlt : g < w.heap.size := by
   rcases Nat.lt_or_ge g w.heap.size with h | h
   ·exact h
   ·rw [Array.getElem?_eq_none h] at h3; cases h3
  exact .inr ⟨g, cap, cur, h1, h2, by rw [hc.block g hlt (fun hq => by have := hs g hq; omega)]; exact h3, h4⟩
theorem own_slice {w : World} {base k n : Nat} {e : TypeId} {v : Value} {xs : List Value} (h : w.ownsRow base e k v n xs) : ∃ A c, v = .slice A n c := by
 rcases h.2 with ⟨rfl, rfl⟩ | ⟨g, cap, cur, rfl, _⟩
 ·exact ⟨none, 0, rfl⟩
 ·exact ⟨_, _, rfl⟩
theorem int_info : (Try.prog.info? 3).map (fun i => (i.zero, i.size, i.bytes)) = some (some (.int .i64 0), 1, 8) := by kernel_rfl
set_option maxHeartbeats 4000000 in
set_option maxRecDepth 100000 in
theorem ordR_c {E : Env} (g : E.Good) {w : World} {s : Cr} (h : RD E w s) :
 Calls Try.prog 33 #[.pointer (some ⟨E.b, 0, none⟩)] w fun r w' => ∃ v, r = .returned v ∧ w'.ownsRow w.heap.size 3 1 v (ordR E.l s).2.length ((ordR E.l s).2.map (Value.int .i64)) ∧ (ordR E.l s).2.length ≤ E.l.length ∧ RS E w (ordR E.l s).1 w' := by
 have hbl : E.b < w.heap.size := h.box.lt
 have hcl : E.cb < w.heap.size := Blk.lt h.cur
 have hO : E.wO.heap.size ≤ w.heap.size := h.bel.size
 have q0 := (h.box.cell 0).trans rfl
 have H := Lib.hid h
 have G := Lib.hid g
 have HLL := Lib.hid g.hl
 clear h g
 obtain ⟨res, hres⟩ : ∃ res, ordGo E.l (byte E.l s 111) [] = res := ⟨_, rfl⟩
 have HRS : Hid (ordR E.l s = (byte E.l res.1 10, res.2)) := Lib.hid (by unfold ordR; rw [hres])
 have HRES := Lib.hid hres
 clear hres
 go_enter Try.func33, Try.ntmps33
 go_wp2_with fail
 refine (byte_r G.out H.out 111).mono ?_
 rintro r w1 ⟨rfl, h1⟩
 have H1 := Lib.hid h1
 clear q0 h1 H
 go_wp2_with fail
 go_loopg [3] (left E.l (byte E.l s 111) + 1) (fun gg v3 wr => ∃ (s1 : Cr) (acc : List Int), left E.l s1 < gg ∧ Aside (RS E w s1 wr ∧ wr.ownsRow w.heap.size 3 1 v3 acc.length (acc.map (Value.int .i64)) ∧ ordGo E.l s1 acc = res ∧ acc.length + left E.l s1 ≤ E.l.length))
 case atStart => exact ⟨byte E.l s 111, [], by omega, H1.out, World.ownsRow_nil _ _ _ _, HRES.out, by have := left_le H1.out.1.ok; simpa using this⟩
 case round =>
  obtain ⟨s1, acc, hg, HJ⟩ := hrel
  clear H1
  have HNX := Lib.hid (nextR_c G.out HJ.out.1.1 32)
  obtain ⟨A3, c3, rfl⟩ := own_slice HJ.out.2.1
  obtain ⟨NA, hNA⟩ : ∃ n, acc.length = n := ⟨_, rfl⟩
  have HNA := Lib.hid hNA
  rw [hNA]
  clear hNA
  cases hn : nextR E.l s1 32 with
  | true =>
   rw [hn] at HNX
   have HST := Lib.hid (ordGo_step HJ.out.1.1.ok acc hn)
   have HLT := Lib.hid (left_numR HJ.out.1.1.ok hn)
   clear hn
   go_wp2_with fail
   refine HNX.out.mono ?_
   rintro r w2 ⟨rfl, h2⟩
   have H2 := Lib.hid (HJ.out.1.trans h2)
   have HO2 := Lib.hid (own_chg HJ.out.2.1 h2.2 (fun q hq => by rw [hq]; exact hcl))
   clear h2 HNX
   go_wp2_with fail
   refine (numR_c G.out H2.out.1).mono ?_
   rintro r w3 ⟨rfl, h3⟩
   have H3 := Lib.hid (H2.out.trans h3)
   have HO3 := Lib.hid (own_chg HO2.out h3.2 (fun q hq => by rw [hq]; exact hcl))
   clear h3 H2 HO2
   generalize (numR E.l s1).2 = z at *
   generalize (numR E.l s1).1 = s2 at *
   have H4 := Lib.hid (H3.out.alloc (.cells #[.int .i64 z] 3))
   have HO4 : Hid ((w3.alloc (.cells #[.int .i64 z] 3)).ownsRow w.heap.size 3 1 (.slice A3 NA c3) NA (acc.map (Value.int .i64))) := Lib.hid (by have := World.ownsRow.alloc HO3.out (.cells #[.int .i64 z] 3); rw [HNA.out] at this; exact this)
   have HC4 := Lib.hid (Cells.new w3 [.int .i64 z] 3)
   have HSZ : Hid (w.heap.size ≤ w3.heap.size + 1) := Lib.hid (by have := H4.out.2.size; simpa using this)
   have HLA := Lib.hid (show (NA + 1) * 8 ≤ 140737488355328 by have := HJ.out.2.2.2; have := HLL.out; have := HNA.out; omega)
   clear H3 HO3
   go_wp2_with (at_builtin; refine wpl_appK (w0 := (w3.alloc (.cells #[.int .i64 z] 3))) w.heap.size rfl _ _ 23 3 (.int .i64 0) 1 8 rfl Try.underlying23 int_info rfl (by decide) (by decide) (.slice A3 NA c3) (acc.map (Value.int .i64)) [.int .i64 z] (some ⟨w3.heap.size, 0, none⟩) NA 1 1 rfl rfl rfl ?qo ?qc ?q1 ?qb ?qs ?ql ?_)
   case qo => exact HO4.out
   case qc => exact HC4.out
   case q1 => intro u hu; rw [List.mem_singleton] at hu; subst hu; rfl
   case qb => exact Below.refl _ _
   case qs => first | exact HSZ.out | (rw [World.size_alloc]; exact HSZ.out)
   case ql => exact HLA.out
   intro A5 c5 w5 ho5 hb5 _ _ _
   have H5 := Lib.hid (H4.out.belowB hb5 hbl hcl hO)
   have HO5 := Lib.hid ho5
   clear ho5 hb5
   go_wp2
   go_roundg (left E.l s1)
   case measure => omega
   case rel => exact ⟨s2, acc ++ [z], HLT.out, H5.out, by rw [List.length_append, HNA.out, List.map_append]; exact HO5.out, by rw [← HST.out]; exact HJ.out.2.2.1, by have := HJ.out.2.2.2; have := HLT.out; rw [List.length_append, List.length_singleton]; omega⟩
  | false =>
   rw [hn] at HNX
   have HEN := Lib.hid (ordGo_end (l := E.l) acc hn)
   clear hn
   go_wp2_with fail
   refine HNX.out.mono ?_
   rintro r w2 ⟨rfl, h2⟩
   have H2 := Lib.hid (HJ.out.1.trans h2)
   have HO2 := Lib.hid (own_chg HJ.out.2.1 h2.2 (fun q hq => by rw [hq]; exact hcl))
   have q0 := (H2.out.1.box.cell 0).trans rfl
   clear h2 HNX
   go_wp2_with fail
   refine (byte_r G.out H2.out.1 10).mono ?_
   rintro r w3 ⟨rfl, h3⟩
   have H3 := Lib.hid (H2.out.trans h3)
   have HO3 := Lib.hid (own_chg HO2.out h3.2 (fun q hq => by rw [hq]; exact hcl))
   have HR : Hid (res = (s1, acc)) := Lib.hid (by rw [← HJ.out.2.2.1, HEN.out])
   clear h3
   go_wp2
   go_ret
   rw [HRS.out, HR.out]
   exact ⟨_, rfl, by rw [← HNA.out]; exact HO3.out, by have := HJ.out.2.2.2; show acc.length ≤ _; omega, H3.out⟩
end Go.Proofs.Ytkoddmedhnhgiaa.Rp
set_option linter.unusedSimpArgs false
namespace Go.Proofs.Ytkoddmedhnhgiaa.Rp
open Go.RowKit Go.Lib Go.Proofs.Ytkoddmedhnhgiaa.PReportBack Go.Proofs.YtkoddmedhnhgiaaW.PrintWords
open Cur (Cr At peek fail byte number)
set_option linter.unusedVariables false
def mkE : List Int → Ed
 | [a, b, c, d, e, f] => ⟨a, b, c, d, e, f⟩
 | _ => z49
def mkF (l : List Int) (cy : List Ed) : Fi := match l with
 | [a, b, c, d, e, f] => ⟨a, b, c, d, e, f, cy⟩
 | _ => z44
theorem ok_sixR {l : List Int} {s : Cr} (h : Cur.Ok l s) (c : Int) : Cur.Ok l (sixR l s c).1 := Cur.ok_byte (ok_numsR (Cur.ok_byte h c) 6) 10
theorem left_numsR {l : List Int} {s : Cr} (h : Cur.Ok l s) : ∀ k, left l (numsR l k s).1 ≤ left l s
 | 0 => Nat.le_refl _
 | k + 1 => by
  have h1 := left_numsR h k
  have h2 := left_numR_le (ok_numsR h k)
  have h3 := left_byte_le (l := l) (s := (numsR l k s).1) 32
  show left l (numR l (numsR l k s).1).1 ≤ _
  omega
theorem left_sixR {l : List Int} {s : Cr} (hs : Cur.Ok l s) {c : Int} (h : nextR l s c = true) : left l (sixR l s c).1 < left l s := by
 have h1 := left_byte h
 have h2 := left_numsR (Cur.ok_byte hs c) 6
 have h3 := left_byte_le (l := l) (s := (numsR l 6 (byte l s c)).1) 10
 unfold sixR
 show left l (byte l (numsR l 6 (byte l s c)).1 10) < _
 omega
theorem left_sixR_le {l : List Int} {s : Cr} (hs : Cur.Ok l s) (c : Int) : left l (sixR l s c).1 ≤ left l s := by
 have h1 := left_byte_le (l := l) (s := s) c
 have h2 := left_numsR (Cur.ok_byte hs c) 6
 have h3 := left_byte_le (l := l) (s := (numsR l 6 (byte l s c)).1) 10
 unfold sixR
 show left l (byte l (numsR l 6 (byte l s c)).1 10) ≤ _
 omega
def cycLoop (l : List Int) : Nat → Cr → List Ed → Cr × List Ed
 | 0, s, acc => (s, acc)
 | f + 1, s, acc => if nextR l s 101 = true then cycLoop l f (sixR l s 101).1 (acc ++ [mkE (sixR l s 101).2]) else (s, acc)
theorem cycLoop_fuel (l : List Int) : ∀ (f g : Nat) (s : Cr) (acc : List Ed), Cur.Ok l s → left l s < f → left l s < g → cycLoop l f s acc = cycLoop l g s acc
 | 0, _, _, _, _, h, _ => absurd h (Nat.not_lt_zero _)
 | _ + 1, 0, _, _, _, _, h => absurd h (Nat.not_lt_zero _)
 | f + 1, g + 1, s, acc, hs, hf, hg => by
  rw [cycLoop, cycLoop]
  split
  ·rename_i h
   have := left_sixR hs h
   exact cycLoop_fuel l f g _ _ (ok_sixR hs 101) (by omega) (by omega)
  ·rfl
def cycGo (l : List Int) (s : Cr) (acc : List Ed) : Cr × List Ed := cycLoop l (left l s + 1) s acc
theorem cycGo_step {l : List Int} {s : Cr} (hs : Cur.Ok l s) (acc : List Ed) (h : nextR l s 101 = true) : cycGo l s acc = cycGo l (sixR l s 101).1 (acc ++ [mkE (sixR l s 101).2]) := by
 have := left_sixR hs h
 unfold cycGo
 rw [cycLoop, if_pos h]
 exact cycLoop_fuel l _ _ _ _ (ok_sixR hs 101) (by omega) (by omega)
theorem cycGo_end {l : List Int} {s : Cr} (acc : List Ed) (h : nextR l s 101 = false) : cycGo l s acc = (s, acc) := by
 unfold cycGo
 rw [cycLoop, if_neg (by rw [h]; exact Bool.false_ne_true)]
def findR (l : List Int) (s : Cr) : Cr × Fi := ((cycGo l (sixR l s 102).1 []).1, mkF (sixR l s 102).2 (cycGo l (sixR l s 102).1 []).2)
def encE (x : Ed) : List Value := [.int .i64 x.f0, .int .i64 x.f1, .int .i64 x.f2, .int .i64 x.f3, .int .i64 x.f4, .int .i64 x.f5]
theorem edge_info : (Try.prog.info? 49).map (fun i => (i.zero, i.size, i.bytes)) = some (some (.agg #[(.int .i64 0), (.int .i64 0), (.int .i64 0), (.int .i64 0), (.int .i64 0), (.int .i64 0)]), 6, 48) := by kernel_rfl
theorem results_s {fn : Func} {p : Tmp} {ty : TypeId} {fs : Array Field} {P : Program} (h : fn.results = #[.cell p ty]) (tmps : Array Value) (w : World) (g : Nat) (t : TypeId) (cs : Array Value) (fr : Nat × Nat)
 (hp : tmps.getD p undef = .pointer (some ⟨g, 0, none⟩)) (hg : w.heap[g]? = some (.cells cs t fr))
 (hu : P.underlying ty = some (.struct fs)) (hi : (P.info? ty).map (·.size) = some cs.size) :
 (results fn tmps).run P w = .ok (.agg cs) w := by
 have hp' : tmps[p]?.getD undef = .pointer (some ⟨g, 0, none⟩) := by simpa using hp
 simp [results, h, hp', asAddr, run_loadVar_row w g t ty cs fr (.struct fs) hg hu rfl hi]
theorem own_not {w : World} {base k n b : Nat} {e t : TypeId} {v : Value} {xs cs : List Value} (h : w.ownsRow base e k v n xs) (hb : Blk w b cs t) (ht : e ≠ t) : some b ≠ v.ownBlock := fun hq => by
 rcases h.2 with ⟨h0, _⟩ | ⟨g, cap, cur, h0, _, hg, _⟩
 ·rw [h0] at hq; cases hq
 ·rw [h0] at hq
  have : b = g := Option.some.inj hq
  subst this
  unfold Blk at hb
  rw [hg] at hb
  injection hb with hb
  injection hb with _ h2 _
  exact ht h2
theorem own_set {w : World} {base k n b : Nat} {e : TypeId} {v u : Value} {xs : List Value} (h : w.ownsRow base e k v n xs) (hb : some b ≠ v.ownBlock) (j : Nat) : (w.setCell ⟨b, j, none⟩ u).ownsRow base e k v n xs := by
 refine ⟨h.1, ?_⟩
 rcases h.2 with h0 | ⟨g, cap, cur, h1, h2, h3, h4⟩
 ·exact .inl h0
 ·exact .inr ⟨g, cap, cur, h1, h2, by rw [Below.heap_setCell _ _ _ _ (fun e => hb (by rw [h1, e]; rfl))]; exact h3, h4⟩
def FOut (E : Env) (w : World) (s : Cr) (r : Ending) (w' : World) : Prop :=
 ∃ v, r = .returned (.agg (cF (findR E.l s).2 v)) ∧ w'.ownsRow w.heap.size 49 6 v (findR E.l s).2.f6.length ((findR E.l s).2.f6.flatMap encE) ∧ RS E w (findR E.l s).1 w'
set_option maxHeartbeats 8000000 in
set_option maxRecDepth 100000 in
theorem findR_c {E : Env} (g : E.Good) {w : World} {s : Cr} (h : RD E w s) :
 Calls Try.prog 32 #[.pointer (some ⟨E.b, 0, none⟩)] w (FOut E w s) := by
 have hbl : E.b < w.heap.size := h.box.lt
 have hcl : E.cb < w.heap.size := Blk.lt h.cur
 have hO : E.wO.heap.size ≤ w.heap.size := h.bel.size
 have H := Lib.hid ((RS.refl h).alloc (.cells #[.int .i64 0, .int .i64 0, .int .i64 0, .int .i64 0, .int .i64 0, .int .i64 0, .slice none 0 0] 44))
 have B2 := Lib.hid (Blk.new w [.int .i64 0, .int .i64 0, .int .i64 0, .int .i64 0, .int .i64 0, .int .i64 0, .slice none 0 0] 44)
 have G := Lib.hid g
 have HLL := Lib.hid g.hl
 clear h g
 obtain ⟨a, b, c, d, e, f, hx⟩ := six_list (show (sixR E.l s 102).2.length = 6 from numsR_len _ _ 6)
 obtain ⟨s0, hs0⟩ : ∃ s0, (sixR E.l s 102).1 = s0 := ⟨_, rfl⟩
 obtain ⟨res, hres⟩ : ∃ res, cycGo E.l s0 [] = res := ⟨_, rfl⟩
 have HF : Hid (findR E.l s = (res.1, ⟨a, b, c, d, e, f, res.2⟩)) := Lib.hid (by unfold findR; rw [hs0, hres, hx]; rfl)
 have HS6 := Lib.hid (fun (W : World) (hW : RD E W s) => sixR_c G.out hW 102)
 rw [hx, hs0] at HS6
 have HRES := Lib.hid hres
 clear hx hs0 hres
 unfold six at HS6
 go_enter Try.func32, Try.ntmps32
 go_wp2_with fail
 refine (HS6.out _ H.out.1).mono ?_
 rintro r w1 ⟨rfl, h1⟩
 have H1 := Lib.hid (H.out.trans h1)
 have B21 := Lib.hid (B2.out.chg h1.2 (by omega))
 clear h1 H B2 HS6
 have H2 := Lib.hid ((H1.out.alloc (.cells #[.int .i64 a, .int .i64 b, .int .i64 c, .int .i64 d, .int .i64 e, .int .i64 f] 46)).alloc (.cells #[.int .i64 a, .int .i64 b, .int .i64 c, .int .i64 d, .int .i64 e, .int .i64 f, .slice none 0 0] 44))
 have B22 := Lib.hid ((B21.out.alloc (.cells #[.int .i64 a, .int .i64 b, .int .i64 c, .int .i64 d, .int .i64 e, .int .i64 f] 46)).alloc (.cells #[.int .i64 a, .int .i64 b, .int .i64 c, .int .i64 d, .int .i64 e, .int .i64 f, .slice none 0 0] 44))
 have hB4 := Blk.new (w1.alloc (.cells #[.int .i64 a, .int .i64 b, .int .i64 c, .int .i64 d, .int .i64 e, .int .i64 f] 46)) [.int .i64 a, .int .i64 b, .int .i64 c, .int .i64 d, .int .i64 e, .int .i64 f, .slice none 0 0] 44
 rw [World.size_alloc] at hB4
 have B42 := Lib.hid hB4
 have hw1 : w.heap.size < w1.heap.size := B21.out.lt
 clear hB4 B21 H1
 go_wp2_with fail
 have HLE := Lib.hid (left_le H2.out.1.ok)
 generalize hB4 : w1.heap.size + 1 = B4 at *
 go_loopg [] (left E.l s0 + 1) (fun gg wr => ∃ (s1 : Cr) (acc : List Ed) (A : Option Addr) (c' : Nat), left E.l s1 < gg ∧ Aside (RS E w s1 wr ∧ Blk wr w.heap.size [.int .i64 0, .int .i64 0, .int .i64 0, .int .i64 0, .int .i64 0, .int .i64 0, .slice none 0 0] 44 ∧ Blk wr B4 [.int .i64 a, .int .i64 b, .int .i64 c, .int .i64 d, .int .i64 e, .int .i64 f, .slice A acc.length c'] 44 ∧ wr.ownsRow w.heap.size 49 6 (.slice A acc.length c') acc.length (acc.flatMap encE) ∧ cycGo E.l s1 acc = res ∧ acc.length + left E.l s1 ≤ E.l.length))
 case atStart => exact ⟨s0, [], none, 0, by omega, H2.out, B22.out, B42.out, World.ownsRow_nil _ _ _ _, HRES.out, by simpa using HLE.out⟩
 case round =>
  obtain ⟨s1, acc, A3, c3, hg, HJ⟩ := hrel
  clear H2 B22 B42 HLE
  have HNX := Lib.hid (nextR_c G.out HJ.out.1.1 101)
  obtain ⟨NA, hNA⟩ : ∃ n, acc.length = n := ⟨_, rfl⟩
  have HNA := Lib.hid hNA
  have hB42 : B4 ≠ w.heap.size := by omega
  have hB4w : w.heap.size ≤ B4 := by omega
  cases hn : nextR E.l s1 101 with
  | true =>
   rw [hn] at HNX
   have HST := Lib.hid (cycGo_step HJ.out.1.1.ok acc hn)
   have HLT := Lib.hid (left_sixR HJ.out.1.1.ok hn)
   clear hn
   go_wp2_with fail
   refine HNX.out.mono ?_
   rintro r w2 ⟨rfl, h2⟩
   have H2 := Lib.hid (HJ.out.1.trans h2)
   have B22 := Lib.hid (HJ.out.2.1.chg h2.2 (by omega))
   have B42 := Lib.hid (HJ.out.2.2.1.chg h2.2 (by omega))
   have HO2 := Lib.hid (own_chg HJ.out.2.2.2.1 h2.2 (fun q hq => by rw [hq]; exact hcl))
   clear h2 HNX
   obtain ⟨p0, p1, p2, p3, p4, p5, hx⟩ := six_list (show (sixR E.l s1 101).2.length = 6 from numsR_len _ _ 6)
   have HS6 := Lib.hid (sixR_c G.out H2.out.1 101)
   have HMK : Hid (mkE (sixR E.l s1 101).2 = ⟨p0, p1, p2, p3, p4, p5⟩) := Lib.hid (by rw [hx]; rfl)
   rw [hx] at HS6
   unfold six at HS6
   clear hx
   generalize (sixR E.l s1 101).1 = s2 at *
   rw [HMK.out] at HST
   go_wp2_with fail
   refine HS6.out.mono ?_
   rintro r w3 ⟨rfl, h3⟩
   have H3 := Lib.hid (H2.out.trans h3)
   have B23 := Lib.hid (B22.out.chg h3.2 (by omega))
   have B43 := Lib.hid (B42.out.chg h3.2 (by omega))
   have HO3 := Lib.hid (own_chg HO2.out h3.2 (fun q hq => by rw [hq]; exact hcl))
   clear h3 H2 B22 B42 HO2 HS6
   have hal : Below w3.heap.size w3 ((w3.alloc (.cells #[.int .i64 p0, .int .i64 p1, .int .i64 p2, .int .i64 p3, .int .i64 p4, .int .i64 p5] 46)).alloc (.cells #[.int .i64 p0, .int .i64 p1, .int .i64 p2, .int .i64 p3, .int .i64 p4, .int .i64 p5] 49)) := ((Below.refl _ w3).alloc (Nat.le_refl _) _).alloc (by simp) _
   have H4 := Lib.hid ((H3.out.alloc (.cells #[.int .i64 p0, .int .i64 p1, .int .i64 p2, .int .i64 p3, .int .i64 p4, .int .i64 p5] 46)).alloc (.cells #[.int .i64 p0, .int .i64 p1, .int .i64 p2, .int .i64 p3, .int .i64 p4, .int .i64 p5] 49))
   have B24 := Lib.hid (B23.out.below hal B23.out.lt)
   have B44 := Lib.hid (B43.out.below hal B43.out.lt)
   have hO4 := own_below HO3.out hal
   have HNB := Lib.hid (own_not hO4 B44.out (by decide))
   rw [hNA] at hO4 HNB B43 B44
   have HO4 := Lib.hid hO4
   have hC4 := Cells.new (w3.alloc (.cells #[.int .i64 p0, .int .i64 p1, .int .i64 p2, .int .i64 p3, .int .i64 p4, .int .i64 p5] 46)) [.int .i64 p0, .int .i64 p1, .int .i64 p2, .int .i64 p3, .int .i64 p4, .int .i64 p5] 49
   rw [World.size_alloc] at hC4
   have HC4 := Lib.hid hC4
   have HSZ : Hid (w.heap.size ≤ w3.heap.size + 1 + 1) := Lib.hid (by have := H4.out.2.size; simpa using this)
   have HLA := Lib.hid (show (NA + 1) * 48 ≤ 140737488355328 by have := HJ.out.2.2.2.2.2; have := HLL.out; omega)
   have y6 := (B43.out.cell 6).trans rfl
   have x6 := ((B43.out.alloc (.cells #[.int .i64 p0, .int .i64 p1, .int .i64 p2, .int .i64 p3, .int .i64 p4, .int .i64 p5] 46)).cell 6).trans rfl
   have hB43l : B4 < w3.heap.size := B43.out.lt
   have hB43n : ¬ B4 = w3.heap.size := by omega
   clear H3 HO3 hal hO4 hC4
   go_wp2_with (at_builtin; refine wpl_appK (w0 := ((w3.alloc (.cells #[.int .i64 p0, .int .i64 p1, .int .i64 p2, .int .i64 p3, .int .i64 p4, .int .i64 p5] 46)).alloc (.cells #[.int .i64 p0, .int .i64 p1, .int .i64 p2, .int .i64 p3, .int .i64 p4, .int .i64 p5] 49))) w.heap.size rfl _ _ 42 49 (.agg #[(.int .i64 0), (.int .i64 0), (.int .i64 0), (.int .i64 0), (.int .i64 0), (.int .i64 0)]) 6 48 rfl Try.underlying42 edge_info rfl (by decide) (by decide) (.slice A3 NA c3) (acc.flatMap encE) [.int .i64 p0, .int .i64 p1, .int .i64 p2, .int .i64 p3, .int .i64 p4, .int .i64 p5] (some ⟨w3.heap.size + 1, 0, none⟩) NA 1 1 rfl rfl rfl ?qo ?qc ?q1 ?qb ?qs ?ql ?_)
   case qo => exact HO4.out
   case qc => exact HC4.out
   case q1 =>
    intro u hu
    simp only [List.mem_cons, List.mem_nil_iff, or_false] at hu
    rcases hu with rfl | rfl | rfl | rfl | rfl | rfl <;> rfl
   case qb => exact Below.refl _ _
   case qs => first | exact HSZ.out | (simp only [World.size_alloc]; exact HSZ.out)
   case ql => exact HLA.out
   intro A5 c5 w5 ho5 hb5 hg5 _ _
   have hgb : ∀ i, i < w3.heap.size → some i ≠ (Value.slice A3 NA c3).ownBlock → w5.heap[i]? = ((w3.alloc (.cells #[.int .i64 p0, .int .i64 p1, .int .i64 p2, .int .i64 p3, .int .i64 p4, .int .i64 p5] 46)).alloc (.cells #[.int .i64 p0, .int .i64 p1, .int .i64 p2, .int .i64 p3, .int .i64 p4, .int .i64 p5] 49)).heap[i]? := fun i hi hne => hg5.block i (by simp; omega) hne
   have hB4l := B43.out.lt
   have hB2l := B23.out.lt
   have B25 := Lib.hid (show Blk w5 w.heap.size _ _ from (hgb _ hB2l (own_not HO4.out B24.out (by decide))).trans B24.out)
   have B45 := Lib.hid (show Blk w5 B4 _ _ from (hgb _ hB4l HNB.out).trans B44.out)
   have H5 := Lib.hid (H4.out.belowB hb5 hbl hcl hO)
   have HO5 := Lib.hid ho5
   have y6 := (B45.out.cell 6).trans rfl
   have f6 := B45.out.free 6
   clear ho5 hb5 hg5 hgb B43 B44 B23 B24 H4 HO4 HC4
   go_wp2
   have hne5 := own_not HO5.out B45.out (by decide)
   have B46 := B45.out.set 6 (.slice A5 (NA + 1) c5)
   have B26 := B25.out.chg (Chg.set (S := fun i => i = B4) (b := B4) (Chg.refl _ w5) 6 (.inl rfl) (.slice A5 (NA + 1) c5)) (by omega)
   have H6 := H5.out.set G.out 6 hB4w (by omega) (by omega) (by omega) (.slice A5 (NA + 1) c5)
   have HO6 := own_set (u := .slice A5 (NA + 1) c5) HO5.out hne5 6
   have e1 : (acc ++ [(⟨p0, p1, p2, p3, p4, p5⟩ : Ed)]).length = NA + 1 := by rw [List.length_append, hNA]; rfl
   have e2 : (acc ++ [(⟨p0, p1, p2, p3, p4, p5⟩ : Ed)]).flatMap encE = acc.flatMap encE ++ [.int .i64 p0, .int .i64 p1, .int .i64 p2, .int .i64 p3, .int .i64 p4, .int .i64 p5] := by
    rw [List.flatMap_append]
    congr 1
   go_roundg (left E.l s1)
   case measure => omega
   case rel => exact ⟨s2, acc ++ [⟨p0, p1, p2, p3, p4, p5⟩], A5, c5, HLT.out, H6, B26, by rw [e1]; exact B46, by rw [e1, e2]; exact HO6, by rw [← HST.out]; exact HJ.out.2.2.2.2.1, by have := HJ.out.2.2.2.2.2; have := HLT.out; rw [e1]; omega⟩
  | false =>
   rw [hn] at HNX
   have HEN := Lib.hid (cycGo_end (l := E.l) acc hn)
   clear hn
   go_wp2_with fail
   refine HNX.out.mono ?_
   rintro r w2 ⟨rfl, h2⟩
   have H2 := Lib.hid (HJ.out.1.trans h2)
   have B22 := Lib.hid (HJ.out.2.1.chg h2.2 (by omega))
   have B42 := Lib.hid (HJ.out.2.2.1.chg h2.2 (by omega))
   have HO2 := Lib.hid (own_chg HJ.out.2.2.2.1 h2.2 (fun q hq => by rw [hq]; exact hcl))
   have HR : Hid (res = (s1, acc)) := Lib.hid (by rw [← HJ.out.2.2.2.2.1, HEN.out])
   have y0 := (B42.out.cell 0).trans rfl
   have y1 := (B42.out.cell 1).trans rfl
   have y2 := (B42.out.cell 2).trans rfl
   have y3 := (B42.out.cell 3).trans rfl
   have y4 := (B42.out.cell 4).trans rfl
   have y5 := (B42.out.cell 5).trans rfl
   have y6 := (B42.out.cell 6).trans rfl
   have z0 := (B22.out.cell 0).trans rfl
   have z1 := (B22.out.cell 1).trans rfl
   have z2 := (B22.out.cell 2).trans rfl
   have z3 := (B22.out.cell 3).trans rfl
   have z4 := (B22.out.cell 4).trans rfl
   have z5 := (B22.out.cell 5).trans rfl
   have z6 := (B22.out.cell 6).trans rfl
   have f0 := B22.out.free 0
   have f1 := B22.out.free 1
   have f2 := B22.out.free 2
   have f3 := B22.out.free 3
   have f4 := B22.out.free 4
   have f5 := B22.out.free 5
   have f6 := B22.out.free 6
   clear h2 HNX hNA
   go_wp2
   have hB := ((((((B22.out.set 0 (.int .i64 a)).set 1 (.int .i64 b)).set 2 (.int .i64 c)).set 3 (.int .i64 d)).set 4 (.int .i64 e)).set 5 (.int .i64 f)).set 6 (.slice A3 acc.length c3)
   have hR : RS E w s1 (((((((w2.setCell ⟨w.heap.size, 0, none⟩ (.int .i64 a)).setCell ⟨w.heap.size, 1, none⟩ (.int .i64 b)).setCell ⟨w.heap.size, 2, none⟩ (.int .i64 c)).setCell ⟨w.heap.size, 3, none⟩ (.int .i64 d)).setCell ⟨w.heap.size, 4, none⟩ (.int .i64 e)).setCell ⟨w.heap.size, 5, none⟩ (.int .i64 f)).setCell ⟨w.heap.size, 6, none⟩ (.slice A3 acc.length c3)) := by
    have hs : ∀ {W : World} (j : Nat) (u : Value), RS E w s1 W → RS E w s1 (W.setCell ⟨w.heap.size, j, none⟩ u) := fun j u h => h.set G.out j (Nat.le_refl _) (by omega) (by omega) (by omega) u
    exact hs 6 _ (hs 5 _ (hs 4 _ (hs 3 _ (hs 2 _ (hs 1 _ (hs 0 _ H2.out))))))
   have hne := own_not HO2.out B22.out (by decide)
   have hO : (((((((w2.setCell ⟨w.heap.size, 0, none⟩ (.int .i64 a)).setCell ⟨w.heap.size, 1, none⟩ (.int .i64 b)).setCell ⟨w.heap.size, 2, none⟩ (.int .i64 c)).setCell ⟨w.heap.size, 3, none⟩ (.int .i64 d)).setCell ⟨w.heap.size, 4, none⟩ (.int .i64 e)).setCell ⟨w.heap.size, 5, none⟩ (.int .i64 f)).setCell ⟨w.heap.size, 6, none⟩ (.slice A3 acc.length c3)).ownsRow w.heap.size 49 6 (.slice A3 acc.length c3) acc.length (acc.flatMap encE) := by
    have hs : ∀ {W : World} (j : Nat) (u : Value), W.ownsRow w.heap.size 49 6 (.slice A3 acc.length c3) acc.length (acc.flatMap encE) → (W.setCell ⟨w.heap.size, j, none⟩ u).ownsRow w.heap.size 49 6 (.slice A3 acc.length c3) acc.length (acc.flatMap encE) := fun j u h => own_set h hne j
    exact hs 6 _ (hs 5 _ (hs 4 _ (hs 3 _ (hs 2 _ (hs 1 _ (hs 0 _ HO2.out))))))
   refine bodyPost_ret (results_s rfl _ _ w.heap.size 44 #[.int .i64 a, .int .i64 b, .int .i64 c, .int .i64 d, .int .i64 e, .int .i64 f, .slice A3 acc.length c3] (0, 0) rfl hB Try.underlying44 rfl) rfl ⟨.slice A3 acc.length c3, ?_, ?_, ?_⟩
   ·rw [HF.out, HR.out]; rfl
   ·rw [HF.out, HR.out]; exact hO
   ·rw [HF.out, HR.out]; exact hR
end Go.Proofs.Ytkoddmedhnhgiaa.Rp
set_option linter.unusedSimpArgs false
namespace Go.Proofs.Ytkoddmedhnhgiaa.Rp
open Go.RowKit Go.Lib Go.Proofs.Ytkoddmedhnhgiaa.PReportBack Go.Proofs.YtkoddmedhnhgiaaW.PrintWords
open Cur (Cr At peek fail byte number)
set_option linter.unusedVariables false
theorem ok_cycLoop {l : List Int} : ∀ (f : Nat) {s : Cr} (acc : List Ed), Cur.Ok l s → Cur.Ok l (cycLoop l f s acc).1
 | 0, _, _, h => h
 | f + 1, s, acc, h => by
  rw [cycLoop]
  split
  ·exact ok_cycLoop f _ (ok_sixR h 101)
  ·exact h
theorem left_cycLoop {l : List Int} : ∀ (f : Nat) {s : Cr} (acc : List Ed), Cur.Ok l s → left l (cycLoop l f s acc).1 ≤ left l s
 | 0, _, _, _ => Nat.le_refl _
 | f + 1, s, acc, h => by
  rw [cycLoop]
  split
  ·exact Nat.le_trans (left_cycLoop f _ (ok_sixR h 101)) (left_sixR_le h 101)
  ·exact Nat.le_refl _
theorem ok_findR {l : List Int} {s : Cr} (h : Cur.Ok l s) : Cur.Ok l (findR l s).1 := ok_cycLoop _ _ (ok_sixR h 102)
theorem left_findR {l : List Int} {s : Cr} (hs : Cur.Ok l s) (h : nextR l s 102 = true) : left l (findR l s).1 < left l s :=
 Nat.lt_of_le_of_lt (left_cycLoop _ _ (ok_sixR hs 102)) (left_sixR hs h)
def fsLoop (l : List Int) : Nat → Cr → List Fi → Cr × List Fi
 | 0, s, acc => (s, acc)
 | f + 1, s, acc => if nextR l s 102 = true then fsLoop l f (findR l s).1 (acc ++ [(findR l s).2]) else (s, acc)
theorem fsLoop_fuel (l : List Int) : ∀ (f g : Nat) (s : Cr) (acc : List Fi), Cur.Ok l s → left l s < f → left l s < g → fsLoop l f s acc = fsLoop l g s acc
 | 0, _, _, _, _, h, _ => absurd h (Nat.not_lt_zero _)
 | _ + 1, 0, _, _, _, _, h => absurd h (Nat.not_lt_zero _)
 | f + 1, g + 1, s, acc, hs, hf, hg => by
  rw [fsLoop, fsLoop]
  split
  ·rename_i h
   have := left_findR hs h
   exact fsLoop_fuel l f g _ _ (ok_findR hs) (by omega) (by omega)
  ·rfl
def fsGo (l : List Int) (s : Cr) (acc : List Fi) : Cr × List Fi := fsLoop l (left l s + 1) s acc
theorem fsGo_step {l : List Int} {s : Cr} (hs : Cur.Ok l s) (acc : List Fi) (h : nextR l s 102 = true) : fsGo l s acc = fsGo l (findR l s).1 (acc ++ [(findR l s).2]) := by
 have := left_findR hs h
 unfold fsGo
 rw [fsLoop, if_pos h]
 exact fsLoop_fuel l _ _ _ _ (ok_findR hs) (by omega) (by omega)
theorem fsGo_end {l : List Int} {s : Cr} (acc : List Fi) (h : nextR l s 102 = false) : fsGo l s acc = (s, acc) := by
 unfold fsGo
 rw [fsLoop, if_neg (by rw [h]; exact Bool.false_ne_true)]
def lvN (l : List Int) : Cr × Int := numR l (byte l ⟨0, 0, 0⟩ 108)
def fsN (l : List Int) : Cr × List Fi := fsGo l (byte l (lvN l).1 10) []
def odN (l : List Int) : Cr × List Int := ordR l (fsN l).1
def endN (l : List Int) : Cr := if (odN l).1.p < l.length then fail (odN l).1 4 (odN l).1.p else (odN l).1
def parR (l : List Int) : Int × List Fi × List Int × Int × Int :=
 if (endN l).e = 0 then (if chk (lvN l).2 (fsN l).2 (odN l).2 = 0 then ((lvN l).2, (fsN l).2, (odN l).2, 0, 0) else (0, [], [], chk (lvN l).2 (fsN l).2 (odN l).2, 0)) else (0, [], [], (endN l).e, (endN l).x)
def OK3 (E : Env) (O : Nat) : Nat → Prop := fun k => k ≠ E.b ∧ k ≠ E.cb ∧ k ≠ O ∧ k ≠ E.wO.heap.size
structure Good2 (E : Env) (O : Nat) : Prop where
 g : E.Good
 o0 : E.wO.heap.size ≤ O
 n1 : O ≠ E.b
 n2 : O ≠ E.cb
 n3 : E.wO.heap.size ≠ E.b
 n4 : E.wO.heap.size ≠ E.cb
 n5 : E.wO.heap.size ≠ O
structure St (E : Env) (O : Nat) (lv : Int) (vF vO : Value) (fs : List Fi) (od : List Int) (s : Cr) (W : World) : Prop where
 rd : RD E W s
 res : Blk W E.wO.heap.size [.int .i64 0, .slice none 0 0, .slice none 0 0] 25
 out : Blk W O [.int .i64 lv, vF, vO] 25
 fs : Kd.S k44 44 W E.wO.heap.size (OK3 E O) vF fs
 od : (Kd.int .i64).R 3 W E.wO.heap.size (OK3 E O) vO od
theorem fresh3 {E : Env} {O lv : Nat} {l : Int} {vF vO : Value} {fs : List Fi} {od : List Int} {s : Cr} {W : World} (h : St E O l vF vO fs od s W) : ∀ k, W.heap.size ≤ k → OK3 E O k := fun k hk => by
 have h1 := h.rd.box.lt
 have h2 := Blk.lt h.rd.cur
 have h3 := h.out.lt
 have h4 := h.res.lt
 exact ⟨by omega, by omega, by omega, by omega⟩
theorem St.chg {E : Env} {O : Nat} {lv : Int} {vF vO : Value} {fs : List Fi} {od : List Int} {s s' : Cr} {W W' : World} (g : Good2 E O) (h : St E O lv vF vO fs od s W) (k : RS E W s' W') : St E O lv vF vO fs od s' W' :=
 ⟨k.1, h.res.chg k.2 g.n4, h.out.chg k.2 g.n2, Kd.S_step h.fs fun j hj hl => k.2.block j hl hj.2.1, Kd.R_step h.od fun j hj hl => k.2.block j hl hj.2.1⟩
theorem St.below {E : Env} {O : Nat} {lv : Int} {vF vO : Value} {fs : List Fi} {od : List Int} {s : Cr} {W W' : World} (h : St E O lv vF vO fs od s W) (hb : Below W.heap.size W W') : St E O lv vF vO fs od s W' :=
 ⟨h.rd.below hb, h.res.below hb h.res.lt, h.out.below hb h.out.lt, Kd.S_below h.fs hb, Kd.R_below h.od hb⟩
theorem St.far {E : Env} {O : Nat} {lv : Int} {vF vO : Value} {fs : List Fi} {od : List Int} {s : Cr} {W : World} (g : Good2 E O) (h : St E O lv vF vO fs od s W) (j : Nat) (u : Value) : RD E (W.setCell ⟨O, j, none⟩ u) s ∧ Blk (W.setCell ⟨O, j, none⟩ u) E.wO.heap.size [.int .i64 0, .slice none 0 0, .slice none 0 0] 25 ∧ Kd.S k44 44 (W.setCell ⟨O, j, none⟩ u) E.wO.heap.size (OK3 E O) vF fs ∧ (Kd.int .i64).R 3 (W.setCell ⟨O, j, none⟩ u) E.wO.heap.size (OK3 E O) vO od := by
 have hc : Chg (fun i => i = O) W (W.setCell ⟨O, j, none⟩ u) := Chg.set (S := fun i => i = O) (b := O) (Chg.refl _ W) j (.inl rfl) u
 exact ⟨h.rd.step hc (fun e => g.n1 e.symm) (fun e => g.n2 e.symm) (fun i hi => by rw [hi]; exact g.o0), h.res.chg hc g.n5, Kd.S_far h.fs (fun k hk => hk.2.2.1) u, Kd.R_far h.od (fun k hk => hk.2.2.1) u⟩
theorem St.put_lv {E : Env} {O : Nat} {lv : Int} {vF vO : Value} {fs : List Fi} {od : List Int} {s : Cr} {W : World} (g : Good2 E O) (h : St E O lv vF vO fs od s W) (x : Int) : St E O x vF vO fs od s (W.setCell ⟨O, 0, none⟩ (.int .i64 x)) := by
 obtain ⟨h1, h2, h3, h4⟩ := h.far g 0 (.int .i64 x)
 exact ⟨h1, h2, h.out.set 0 _, h3, h4⟩
theorem St.put_od {E : Env} {O : Nat} {lv : Int} {vF vO u : Value} {fs : List Fi} {od xs : List Int} {s : Cr} {W : World} (g : Good2 E O) (h : St E O lv vF vO fs od s W) (hx : (Kd.int .i64).R 3 W E.wO.heap.size (OK3 E O) u xs) : St E O lv vF u fs xs s (W.setCell ⟨O, 2, none⟩ u) := by
 obtain ⟨h1, h2, h3, h4⟩ := h.far g 2 u
 exact ⟨h1, h2, h.out.set 2 _, h3, Kd.R_far hx (fun k hk => hk.2.2.1) u⟩
theorem RD.grown {E : Env} {w w' : World} {s : Cr} {row : Option Nat} (h : RD E w s) (hg : w.grownBy w' row) (hb : Below E.wO.heap.size E.wO w') (n1 : some E.b ≠ row) (n2 : some E.cb ≠ row) : RD E w' s := by
 have hk : ∀ {b : Nat} {cs : List Value} {t : TypeId}, Blk w b cs t → some b ≠ row → Blk w' b cs t := fun {b cs t} hB hne => by
  have hl := hB.lt
  unfold Blk at *
  rw [hg.block b hl hne]; exact hB
 exact ⟨hk h.box n1, hk h.cur n2, h.ok, hb⟩
theorem St.grow {E : Env} {O : Nat} {lv : Int} {vF vO v1 : Value} {fs fs' : List Fi} {od : List Int} {s : Cr} {W w1 : World} (g : Good2 E O) (h : St E O lv vF vO fs od s W) (hS : Kd.S k44 44 w1 E.wO.heap.size (OK3 E O) v1 fs') (hb : Below E.wO.heap.size E.wO w1) (hg : W.grownBy w1 vF.ownBlock) (he : od = []) (hv : vO = .slice none 0 0) :
 (w1.cell? ⟨O, 1, none⟩ = some vF ∧ w1.frozen? ⟨O, 1, none⟩ = false) ∧ St E O lv v1 vO fs' od s (w1.setCell ⟨O, 1, none⟩ v1) := by
 have hok : ∀ k, vF.ownBlock = some k → OK3 E O k := (Kd.S_R h.fs).1
 have hk : ∀ {b : Nat} {cs : List Value} {t : TypeId}, Blk W b cs t → some b ≠ vF.ownBlock → Blk w1 b cs t := fun {b cs t} hB hne => by
  have hl := hB.lt
  unfold Blk at *
  rw [hg.block b hl hne]; exact hB
 have hO := hk h.out (fun e => (hok O e.symm).2.2.1 rfl)
 have hR := hk h.res (fun e => (hok _ e.symm).2.2.2 rfl)
 have hD := h.rd.grown hg hb (fun e => (hok _ e.symm).1 rfl) (fun e => (hok _ e.symm).2.1 rfl)
 have hc : Chg (fun i => i = O) w1 (w1.setCell ⟨O, 1, none⟩ v1) := Chg.set (S := fun i => i = O) (b := O) (Chg.refl _ w1) 1 (.inl rfl) v1
 subst he hv
 exact ⟨⟨(hO.cell 1).trans rfl, hO.free 1⟩, hD.step hc (fun e => g.n1 e.symm) (fun e => g.n2 e.symm) (fun i hi => by rw [hi]; exact g.o0), hR.chg hc g.n5, hO.set 1 _, Kd.S_far hS (fun k hk => hk.2.2.1) v1, Kd.R_nil _ _ _ _ _⟩
theorem reps_enc (w : World) (base : Nat) (ok : Nat → Prop) (xs : List Ed) : Reps (k49.M w base ok) 6 xs (xs.flatMap encE) := by
 induction xs with
 | nil => exact Reps.none _ _
 | cons x xs ih => exact Kd.reps_append (ps := [x]) (qs := xs) (cs := encE x) (ds := xs.flatMap encE) (Reps.snoc (ps := []) (cs := []) (Reps.none _ _) (k49_mkM w base ok x) rfl) ih
theorem found_M {E : Env} {O : Nat} {lv : Int} {vF vO v : Value} {fs : List Fi} {od : List Int} {s s' : Cr} {W w' : World} (g : Good2 E O) (h : St E O lv vF vO fs od s W) (x : Fi) (ho : w'.ownsRow W.heap.size 49 6 v x.f6.length (x.f6.flatMap encE)) (hs : RS E W s' w') :
 k44.M w' E.wO.heap.size (fun k => W.heap.size ≤ k) x [.int .i64 x.f0, .int .i64 x.f1, .int .i64 x.f2, .int .i64 x.f3, .int .i64 x.f4, .int .i64 x.f5, v] ∧
 (∀ k, W.heap.size ≤ k → OK3 E O k ∧ some k ≠ vF.ownBlock) ∧ Kd.S k44 44 w' E.wO.heap.size (fun k => OK3 E O k ∧ ¬ W.heap.size ≤ k) vF fs := by
 have hz := h.rd.bel.size
 refine ⟨k44_mkM _ _ _ x (Kd.R_lower (base := W.heap.size) ⟨fun k hk => own_base ho k hk, x.f6.flatMap encE, ho, reps_enc _ _ _ _⟩ hz), fun k hk => ⟨fresh3 (lv := 0) h k hk, fun e => ?_⟩, ?_⟩
 ·have := Kd.S_lt h.fs k e.symm
  omega
 ·exact Kd.S_step (Kd.S_mono (Kd.S_bound h.fs) (ok' := fun k => OK3 E O k ∧ ¬ W.heap.size ≤ k) fun k hk => ⟨hk.1, by have := hk.2.2.1; omega⟩) fun j hj hl => hs.2.block j hl hj.1.2.1
end Go.Proofs.Ytkoddmedhnhgiaa.Rp
set_option linter.unusedSimpArgs false
namespace Go.Proofs.Ytkoddmedhnhgiaa.Rp
open Go.RowKit Go.Lib Go.Proofs.Ytkoddmedhnhgiaa.PReportBack Go.Proofs.YtkoddmedhnhgiaaW.PrintWords Go.Proofs.YtkoddmedhnhgiaaW.PrintLast
open Cur (Cr At peek fail byte number)
set_option linter.unusedVariables false
def PaOut (w : World) (q : Int × List Fi × List Int × Int × Int) (r : Ending) (w' : World) : Prop :=
 ∃ vF vO, r = .returned (.tuple #[.agg #[.int .i64 q.1, vF, vO], .int .i64 q.2.2.2.1, .int .i64 q.2.2.2.2]) ∧ Kd.S k44 44 w' w.heap.size (fun _ => True) vF q.2.1 ∧ (Kd.int .i64).R 3 w' w.heap.size (fun _ => True) vO q.2.2.1 ∧ Below w.heap.size w w'
theorem results_row_tmps {fn : Func} {p u u2 : Tmp} {ty : TypeId} (h : fn.results = #[.cell p ty, .tmp u, .tmp u2]) (tmps : Array Value) {P : Program} (w : World) (g : Nat) (t : TypeId) (cs : Array Value) (fr : Nat × Nat) (d : TypeDesc)
 (hp : tmps.getD p undef = .pointer (some ⟨g, 0, none⟩)) (hg : w.heap[g]? = some (.cells cs t fr))
 (hd : (match d with | .struct _ | .array _ _ => true | _ => false) = true) (hu : P.underlying ty = some d) (hi : (P.info? ty).map (·.size) = some cs.size) :
 (results fn tmps).run P w = .ok (.tuple #[.agg cs, tmps.getD u undef, tmps.getD u2 undef]) w := by
 have ha : (asAddr (.pointer (some ⟨g, 0, none⟩))).run P w = .ok ⟨g, 0, none⟩ w := rfl
 have hc : (results fn tmps).run P w = ((asAddr (tmps.getD p undef)).run P w).andThen fun a w₁ => ((loadVar ty a).run P w₁).andThen fun v w₂ => .ok (.tuple #[v, tmps.getD u undef, tmps.getD u2 undef]) w₂ := by
  simp only [results, h]
  simp [Sem.run_bind, Result.andThen]
 rw [hc, hp, ha, Result.andThen_ok, run_loadVar_row w g t ty cs fr d hg hu (by cases d <;> simp_all) hi, Result.andThen_ok]
theorem rep_info : (Try.prog.info? 25).map (·.size) = some 3 := by kernel_rfl
theorem St.done {E : Env} {O : Nat} {lv : Int} {vF vO : Value} {fs : List Fi} {od : List Int} {s : Cr} {W : World} (h : St E O lv vF vO fs od s W) (x : Int) {uF uO : Value} {fs' : List Fi} {od' : List Int} (e at_ : Int)
 (h1 : Kd.S k44 44 W E.wO.heap.size (OK3 E O) uF fs') (h2 : (Kd.int .i64).R 3 W E.wO.heap.size (OK3 E O) uO od') :
 Blk (((W.setCell ⟨E.wO.heap.size, 0, none⟩ (.int .i64 x)).setCell ⟨E.wO.heap.size, 1, none⟩ uF).setCell ⟨E.wO.heap.size, 2, none⟩ uO) E.wO.heap.size [.int .i64 x, uF, uO] 25 ∧
 PaOut E.wO (x, fs', od', e, at_) (.returned (.tuple #[.agg #[.int .i64 x, uF, uO], .int .i64 e, .int .i64 at_])) (((W.setCell ⟨E.wO.heap.size, 0, none⟩ (.int .i64 x)).setCell ⟨E.wO.heap.size, 1, none⟩ uF).setCell ⟨E.wO.heap.size, 2, none⟩ uO) := by
 refine ⟨((h.res.set 0 _).set 1 _).set 2 _, uF, uO, rfl, ?_, ?_, ?_⟩
 ·refine Kd.S_mono (Kd.S_far (Kd.S_far (Kd.S_far h1 (fun k hk => ?_) _) (fun k hk => ?_) _) (fun k hk => ?_) _) (fun _ _ => trivial) <;> exact hk.2.2.2
 ·refine Kd.R_mono (Kd.R_far (Kd.R_far (Kd.R_far h2 (fun k hk => ?_) _) (fun k hk => ?_) _) (fun k hk => ?_) _) (fun _ _ => trivial) <;> exact hk.2.2.2
 ·exact bset (Nat.le_refl _) (bset (Nat.le_refl _) (bset (Nat.le_refl _) h.rd.bel))
def paQ (lv : Int) (fs : List Fi) (od : List Int) (s : Cr) : Int × List Fi × List Int × Int × Int :=
 if s.e = 0 then (if chk lv fs od = 0 then (lv, fs, od, 0, 0) else (0, [], [], chk lv fs od, 0)) else (0, [], [], s.e, s.x)
def rightN : Nat → Code → Code
 | 0, c => c
 | n + 1, .seq _ b => rightN n b
 | _ + 1, c => c
noncomputable def paRest (n : Nat) : Code := rightN n (Try.f12.body.getD .skip)
set_option maxHeartbeats 8000000 in
set_option maxRecDepth 100000 in
theorem pa_tail {E : Env} {O : Nat} (g : Good2 E O) {lv : Int} {vF vO : Value} {fs : List Fi} {od : List Int} {s : Cr} {W : World} (h : St E O lv vF vO fs od s W) (hfl : fs.length ≤ 1000000000) (hol : od.length ≤ 1000000000) (X : Ending → World → Prop) (hX : Hid (∀ r w', PaOut E.wO (paQ lv fs od s) r w' → X r w')) (x0 x1 x3 x4 x7 x8 x9 x10 x11 x12 x13 x14 x15 x16 x17 x18 x19 x20 x21 x22 x23 x24 x25 x26 x27 x28 x29 x30 x31 x32 x33 x34 x35 x36 x37 x38 x39 x40 x41 x42 x43 x44 x45 x46 x47 x48 x49 x50 x51 x52 x53 x54 x55 x56 x57 x58 x59 x60 x61 x62 x63 x64 x65 x66 x67 x68 x69 x70 x71 x72 x73 x74 x75 x76 : Value) :
 Code.wp Try.prog (paRest 9) (bodyPost Try.prog Try.f12 X) ⟨#[x0, x1, .pointer (some ⟨E.wO.heap.size, 0, none⟩), x3, x4, .pointer (some ⟨E.b, 0, none⟩), .pointer (some ⟨O, 0, none⟩), x7, x8, x9, x10, x11, x12, x13, x14, x15, x16, x17, x18, x19, x20, x21, x22, x23, x24, x25, x26, x27, x28, x29, x30, x31, x32, x33, x34, x35, x36, x37, x38, x39, x40, x41, x42, x43, x44, x45, x46, x47, x48, x49, x50, x51, x52, x53, x54, x55, x56, x57, x58, x59, x60, x61, x62, x63, x64, x65, x66, x67, x68, x69, x70, x71, x72, x73, x74, x75, x76], []⟩ W := by
 have q0 := (h.rd.box.cell 0).trans rfl
 have H := Lib.hid h
 have G := Lib.hid g
 clear h g
 conv => arg 2; whnf
 go_wp2_with fail
 refine (err_r H.out.rd).mono ?_
 rintro r w1 ⟨rfl, hs1⟩
 have H1 := Lib.hid (H.out.chg G.out hs1)
 clear q0 hs1 H
 obtain ⟨A3, c3, hv3, -, hC3⟩ := Kd.S_reads H1.out.fs
 obtain ⟨A5, c5, hv5, -, hC5⟩ := Kd.R_reads H1.out.od
 subst hv3 hv5
 by_cases he : s.e = 0
 ·have HPQ : Hid (paQ lv fs od s = if chk lv fs od = 0 then (lv, fs, od, 0, 0) else (0, [], [], chk lv fs od, 0)) := Lib.hid (by unfold paQ; rw [if_pos he])
  have HC := Lib.hid (check_c lv fs od A3 c3 A5 c5 w1 hC3 hC5 hfl hol)
  unfold cR at HC
  rw [he]
  clear he hfl hol hC3 hC5
  have t0 := (H1.out.out.cell 0).trans rfl
  have t1 := (H1.out.out.cell 1).trans rfl
  have t2 := (H1.out.out.cell 2).trans rfl
  go_wp2_with fail
  refine HC.out.mono ?_
  rintro r w2 ⟨rfl, hb2⟩
  have H2 := Lib.hid (H1.out.below hb2)
  clear hb2 t0 t1 t2 HC H1
  by_cases hk : chk lv fs od = 0
  ·have HD := Lib.hid (H2.out.done lv 0 0 H2.out.fs H2.out.od)
   have HPR : Hid (paQ lv fs od s = (lv, fs, od, 0, 0)) := Lib.hid (by rw [HPQ.out, if_pos hk])
   rw [hk]
   clear hk HPQ
   have t0 := (H2.out.out.cell 0).trans rfl
   have t1 := (H2.out.out.cell 1).trans rfl
   have t2 := (H2.out.out.cell 2).trans rfl
   have z0 := (H2.out.res.cell 0).trans rfl
   have z1 := (H2.out.res.cell 1).trans rfl
   have z2 := (H2.out.res.cell 2).trans rfl
   have f0 := H2.out.res.free 0
   have f1 := H2.out.res.free 1
   have f2 := H2.out.res.free 2
   go_wp2
   exact bodyPost_ret (results_row_tmps (u := 3) (u2 := 4) rfl _ _ E.wO.heap.size _ _ (0, 0) _ rfl HD.out.1 rfl Try.underlying25 rep_info) rfl (hX.out _ _ (by rw [HPR.out]; exact HD.out.2))
  ·have HD := Lib.hid (H2.out.done 0 (chk lv fs od) 0 (Kd.S_nil k44 44 _ _ _) (Kd.R_nil _ _ _ _ _))
   have HPR : Hid (paQ lv fs od s = (0, [], [], chk lv fs od, 0)) := Lib.hid (by rw [HPQ.out, if_neg hk])
   clear HPQ
   generalize chk lv fs od = ck at *
   have z0 := (H2.out.res.cell 0).trans rfl
   have z1 := (H2.out.res.cell 1).trans rfl
   have z2 := (H2.out.res.cell 2).trans rfl
   have f0 := H2.out.res.free 0
   have f1 := H2.out.res.free 1
   have f2 := H2.out.res.free 2
   go_wp2
   exact bodyPost_ret (results_row_tmps (u := 3) (u2 := 4) rfl _ _ E.wO.heap.size _ _ (0, 0) _ rfl HD.out.1 rfl Try.underlying25 rep_info) rfl (hX.out _ _ (by rw [HPR.out]; exact HD.out.2))
 ·have HD := Lib.hid (H1.out.done 0 s.e s.x (Kd.S_nil k44 44 _ _ _) (Kd.R_nil _ _ _ _ _))
  have HPR : Hid (paQ lv fs od s = (0, [], [], s.e, s.x)) := Lib.hid (by unfold paQ; rw [if_neg he])
  clear hC3 hC5 hfl hol
  have z0 := (H1.out.res.cell 0).trans rfl
  have z1 := (H1.out.res.cell 1).trans rfl
  have z2 := (H1.out.res.cell 2).trans rfl
  have f0 := H1.out.res.free 0
  have f1 := H1.out.res.free 1
  have f2 := H1.out.res.free 2
  go_wp2
  exact bodyPost_ret (results_row_tmps (u := 3) (u2 := 4) rfl _ _ E.wO.heap.size _ _ (0, 0) _ rfl HD.out.1 rfl Try.underlying25 rep_info) rfl (hX.out _ _ (by rw [HPR.out]; exact HD.out.2))
end Go.Proofs.Ytkoddmedhnhgiaa.Rp
set_option linter.unusedSimpArgs false
namespace Go.Proofs.Ytkoddmedhnhgiaa.Rp
open Go.RowKit Go.Lib Go.Proofs.Ytkoddmedhnhgiaa.PReportBack Go.Proofs.YtkoddmedhnhgiaaW.PrintWords Go.Proofs.YtkoddmedhnhgiaaW.PrintLast
open Cur (Cr At peek fail byte number)
set_option linter.unusedVariables false
def RgP7.T : Bool × List (List Nat × List Nat) := (true, [([], []), ([0], [0]), ([], []), ([2], [2]), ([3], [3]), ([1, 4, 3], [1, 4]), ([0, 1, 2, 3, 4, 5], []), ([6, 5, 5, 0, 1, 2, 3, 4, 5], [5, 6])])
def RgP7.B : List Nat := [0, 1, 0, 4, 12, 31, 63, 127]
theorem RgP7.tab : rtab .any (opsOf Try.f12 7) = RgP7.T := by kernel_rfl
theorem RgP7.bits : waitsOk RgP7.T.2 RgP7.B = true := by kernel_rfl
def RgP10.T : Bool × List (List Nat × List Nat) := (true, [([], []), ([0], [0]), ([1], [1]), ([2], [2]), ([], []), ([4], [4]), ([5], [5]), ([6], [6]), ([7], [7]), ([3, 8, 8], [3, 8])])
def RgP10.B : List Nat := [0, 1, 3, 7, 0, 16, 48, 112, 240, 511]
theorem RgP10.tab : rtab .any (opsOf Try.f12 10) = RgP10.T := by kernel_rfl
theorem RgP10.bits : waitsOk RgP10.T.2 RgP10.B = true := by kernel_rfl
set_option maxHeartbeats 8000000 in
set_option maxRecDepth 100000 in
theorem pa_main {E : Env} {O : Nat} (g : Good2 E O) {W : World} (h : St E O 0 (.slice none 0 0) (.slice none 0 0) [] [] ⟨0, 0, 0⟩ W) (x0 x1 x3 x4 x7 x8 x9 x10 x11 x12 x13 x14 x15 x16 x17 x18 x19 x20 x21 x22 x23 x24 x25 x26 x27 x28 x29 x30 x31 x32 x33 x34 x35 x36 x37 x38 x39 x40 x41 x42 x43 x44 x45 x46 x47 x48 x49 x50 x51 x52 x53 x54 x55 x56 x57 x58 x59 x60 x61 x62 x63 x64 x65 x66 x67 x68 x69 x70 x71 x72 x73 x74 x75 x76 : Value) (hx0 : x0 = .slice E.A E.l.length E.c) :
 Code.wp Try.prog (paRest 3) (bodyPost Try.prog Try.f12 (PaOut E.wO (parR E.l))) ⟨#[x0, x1, .pointer (some ⟨E.wO.heap.size, 0, none⟩), x3, x4, .pointer (some ⟨E.b, 0, none⟩), .pointer (some ⟨O, 0, none⟩), x7, x8, x9, x10, x11, x12, x13, x14, x15, x16, x17, x18, x19, x20, x21, x22, x23, x24, x25, x26, x27, x28, x29, x30, x31, x32, x33, x34, x35, x36, x37, x38, x39, x40, x41, x42, x43, x44, x45, x46, x47, x48, x49, x50, x51, x52, x53, x54, x55, x56, x57, x58, x59, x60, x61, x62, x63, x64, x65, x66, x67, x68, x69, x70, x71, x72, x73, x74, x75, x76], []⟩ W := by
 obtain ⟨res, hres⟩ : ∃ res, fsGo E.l (byte E.l (lvN E.l).1 10) [] = res := ⟨_, rfl⟩
 have HPA : Hid (parR E.l = paQ (lvN E.l).2 res.2 (ordR E.l res.1).2 (if (ordR E.l res.1).1.p < E.l.length then fail (ordR E.l res.1).1 4 (ordR E.l res.1).1.p else (ordR E.l res.1).1)) := Lib.hid (by unfold parR endN odN fsN paQ; rw [hres])
 have HRES := Lib.hid hres
 have q0 := (h.rd.box.cell 0).trans rfl
 have H := Lib.hid h
 have HG2 := Lib.hid g
 have G := Lib.hid g.g
 have HLL := Lib.hid g.g.hl
 obtain ⟨lv, hlv⟩ : ∃ x, (lvN E.l).2 = x := ⟨_, rfl⟩
 have HLV := Lib.hid hlv
 rw [hlv] at HPA
 clear h hres g hlv
 conv => arg 2; whnf
 subst hx0
 go_wp2_with fail
 refine (byte_r G.out H.out.rd 108).mono ?_
 rintro r w1 ⟨rfl, hs1⟩
 have H1 := Lib.hid (H.out.chg HG2.out hs1)
 clear q0 hs1 H
 go_wp2_with fail
 refine (numR_c G.out H1.out.rd).mono ?_
 rintro r w2 ⟨rfl, hs2⟩
 have H2 := H1.out.chg HG2.out hs2
 change St E O 0 _ _ _ _ (lvN E.l).1 w2 at H2
 have H2 := Lib.hid H2
 have z0 := (H2.out.out.cell 0).trans rfl
 have f0 := H2.out.out.free 0
 have H3 := Lib.hid (H2.out.put_lv HG2.out lv)
 have e2 : (numR E.l (byte E.l ⟨0, 0, 0⟩ 108)).2 = lv := HLV.out
 rw [e2]
 have q0 := (H3.out.rd.box.cell 0).trans rfl
 clear hs2 H1 e2 H2
 go_wp2_with fail
 refine (byte_r G.out H3.out.rd 10).mono ?_
 rintro r w4 ⟨rfl, hs4⟩
 have H4 := Lib.hid (H3.out.chg HG2.out hs4)
 clear q0 hs4 H3 z0 f0
 generalize byte E.l (lvN E.l).1 10 = s0 at *
 have HLE := Lib.hid (left_le H4.out.rd.ok)
 go_wp2_with fail
 go_loopg [] (left E.l s0 + 1) (fun gg wr => ∃ (s1 : Cr) (acc : List Fi) (A : Option Addr) (c' : Nat), left E.l s1 < gg ∧ Aside (St E O lv (.slice A acc.length c') (.slice none 0 0) acc [] s1 wr ∧ fsGo E.l s1 acc = res ∧ acc.length + left E.l s1 ≤ E.l.length))
 case atStart => exact ⟨s0, [], none, 0, by omega, H4.out, HRES.out, by simpa using HLE.out⟩
 case round =>
  obtain ⟨s1, acc, A3, c3, hg, HJ⟩ := hrel
  clear H4 HLE HRES
  have HNX := Lib.hid (nextR_c G.out HJ.out.1.rd 102)
  cases hn : nextR E.l s1 102 with
  | true =>
   rw [hn] at HNX
   have HST := Lib.hid (fsGo_step HJ.out.1.rd.ok acc hn)
   have HLT := Lib.hid (left_findR HJ.out.1.rd.ok hn)
   clear hn
   have HFD : Hid (∀ W', RD E W' s1 → Calls Try.prog 32 #[.pointer (some ⟨E.b, 0, none⟩)] W' (fun r w' => ∃ v, r = .returned (.agg #[.int .i64 (findR E.l s1).2.f0, .int .i64 (findR E.l s1).2.f1, .int .i64 (findR E.l s1).2.f2, .int .i64 (findR E.l s1).2.f3, .int .i64 (findR E.l s1).2.f4, .int .i64 (findR E.l s1).2.f5, v]) ∧ w'.ownsRow W'.heap.size 49 6 v (findR E.l s1).2.f6.length ((findR E.l s1).2.f6.flatMap encE) ∧ RS E W' (findR E.l s1).1 w')) := Lib.hid (fun W' hr => findR_c G.out hr)
   generalize (findR E.l s1).2 = x at *
   generalize (findR E.l s1).1 = s2 at *
   go_wp2_with fail
   refine HNX.out.mono ?_
   rintro r w2 ⟨rfl, h2⟩
   have H2 := Lib.hid (HJ.out.1.chg HG2.out h2)
   have HSD := Lib.hid (H2.out.below ((Below.refl _ w2).drew))
   have HLA := Lib.hid (show (acc.length + 1) * 72 ≤ 140737488355328 by have := HJ.out.2.2; have := HLL.out; omega)
   have hx0 : w2.drew.cell? ⟨O, 1, none⟩ = some (.slice A3 acc.length c3) := (HSD.out.out.cell 1).trans rfl
   clear h2 HNX H2
   go_wp2_with fail
   refine start_ (n := 8) (S := fun W => W.cell? ⟨O, 1, none⟩ = some (.slice A3 acc.length c3)) (ds := [7]) #[false, false, false, false, false, false, false, false] (by kernel_rfl) rfl rfl hx0 (fun hHeld => ?_)
   refine with_tabW RgP7.tab RgP7.bits (fun HT_ HW_ => ?_)
   generalize w2.drew = wb at *
   refine pure_ (i := 0) (N := some 29) (v := ?_) (a' := ?_) #[true, false, false, false, false, false, false, false] rfl rfl (any_of HT_.out (by kernel_rfl)) (fun _ _ _ h => h) (Or.inl ⟨by rfl, ?_⟩) ?_ ?_
   rotate_left
   ·intro w'
    go_simp
    with_reducible rfl
   rotate_left
   ·simp only [Act.put, List.setIfInBounds_toArray, List.set_cons_zero, List.set_cons_succ, i64_w, i32_w]
    rfl
   refine take_ (i := 1) (N := some 30) (v := ?_) (a' := ?_) #[true, true, false, false, false, false, false, false] rfl rfl (take_ofW HT_.out HW_.out (by kernel_rfl)) (fun _ _ _ h => h) (Or.inl ⟨by rfl, ?_⟩) hHeld ?_ ?_
   rotate_left
   ·intro w' hW
    have x0_ : w'.cell? ⟨O, 1, none⟩ = some (.slice A3 acc.length c3) := hW
    go_simp
    with_reducible rfl
   rotate_left
   ·simp only [Act.put, List.setIfInBounds_toArray, List.set_cons_zero, List.set_cons_succ, i64_w, i32_w]
    rfl
   refine pure_ (i := 2) (N := some 31) (v := ?_) (a' := ?_) #[true, true, true, false, false, false, false, false] rfl rfl (any_of HT_.out (by kernel_rfl)) (fun _ _ _ h => h) (Or.inl ⟨by rfl, ?_⟩) ?_ ?_
   rotate_left
   ·intro w'
    go_simp
    with_reducible rfl
   rotate_left
   ·simp only [Act.put, List.setIfInBounds_toArray, List.set_cons_zero, List.set_cons_succ, i64_w, i32_w]
    rfl
   refine one_ (i := 3) (N := some 32) #[true, true, true, true, false, false, false, false] rfl rfl (one_of HT_.out (by kernel_rfl)) (by decide) (fun K hK => ?_)
   refine goes_ Try.func32 (by kernel_rfl) rfl #[.pointer (some ⟨E.b, 0, none⟩)] (by rfl) rfl rfl (by (try simp only [List.map_toArray, List.map_cons, List.map_nil]); first | done | rfl) ?_
   refine (HFD.out _ HSD.out.rd).mono ?_
   rintro e_ w_7 ⟨v7, rfl, ho7, hs7⟩
   refine ⟨_, rfl, ?_⟩
   obtain ⟨A7, c7, e7_⟩ := own_slice ho7
   subst e7_
   obtain ⟨hm7, hk7, hf7⟩ := found_M HG2.out HSD.out x ho7 hs7
   have HM7 := Lib.hid hm7
   have HK7 := Lib.hid hk7
   have HF7 := Lib.hid hf7
   have HS7 := Lib.hid (HSD.out.chg HG2.out hs7)
   have HBL7 := Lib.hid HS7.out.rd.bel
   have HSZ7 := Lib.hid hs7.2.size
   have hn_ : w_7.cell? ⟨O, 1, none⟩ = some (.slice A3 acc.length c3) := (HS7.out.out.cell 1).trans rfl
   clear ho7 hs7 hm7 hk7 hf7
   refine hK.out _ _ hn_ (fun hHeld => ?_)
   clear hK K hn_
   refine norm_ (a' := ?_) ?_ ?_
   rotate_left
   ·show Act.put _ (some 32) _ = _
    simp only [Act.put, List.setIfInBounds_toArray, List.set_cons_zero, List.set_cons_succ, i64_w, i32_w]
    rfl
   refine one_ (i := 4) (N := some 33) #[true, true, true, true, true, false, false, false] rfl rfl (one_of HT_.out (by kernel_rfl)) (by decide) (fun K hK => ?_)
   refine value_ (v := .slice (some ⟨w_7.heap.size, 0, none⟩) 1 1) (w1 := w_7.alloc (.cells #[.int .i64 x.f0, .int .i64 x.f1, .int .i64 x.f2, .int .i64 x.f3, .int .i64 x.f4, .int .i64 x.f5, .slice A7 x.f6.length c7] 44)) (by rfl) rfl (by first | (go_simp; done) | (go_simp; rfl)) ?_
   have hn_ : (w_7.alloc (.cells #[.int .i64 x.f0, .int .i64 x.f1, .int .i64 x.f2, .int .i64 x.f3, .int .i64 x.f4, .int .i64 x.f5, .slice A7 x.f6.length c7] 44)).cell? ⟨O, 1, none⟩ = some (.slice A3 acc.length c3) := pw_cell_below ((Below.refl _ w_7).alloc (Nat.le_refl _) _) hHeld
   refine hK.out _ _ hn_ (fun hHeld => ?_)
   clear hK K hn_
   refine norm_ (a' := ?_) ?_ ?_
   rotate_left
   ·show Act.put _ (some 33) _ = _
    simp only [Act.put, List.setIfInBounds_toArray, List.set_cons_zero, List.set_cons_succ, i64_w, i32_w]
    rfl
   refine one_ (i := 5) (N := some 34) #[true, true, true, true, true, true, false, false] rfl rfl (one_of HT_.out (by kernel_rfl)) (by decide) (fun K hK => ?_)
   refine Kd.S_append_step k44 (w0 := E.wO) E.wO.heap.size (by rfl) (.tmp 30) (.tmp 33) 22 44 (.agg #[(.int .i64 0), (.int .i64 0), (.int .i64 0), (.int .i64 0), (.int .i64 0), (.int .i64 0), (.slice none 0 0)]) 72 rfl Try.underlying22 info44 rfl (by decide) (by decide) (.slice A3 acc.length c3) acc x [.int .i64 x.f0, .int .i64 x.f1, .int .i64 x.f2, .int .i64 x.f3, .int .i64 x.f4, .int .i64 x.f5, .slice A7 x.f6.length c7] (OK3 E O) (fun k => wb.heap.size ≤ k) rfl rfl HM7.out HK7.out (fun k hk => (HK7.out k (Nat.le_trans HSZ7.out hk)).1) HF7.out HBL7.out HBL7.out.size HLA.out ?_
   intro v1 w_8 hS8 hb8 hg8 _
   obtain ⟨A8, c8, e8_, -, -⟩ := Kd.S_reads hS8
   subst e8_
   obtain ⟨hx8, hs8⟩ := HS7.out.grow HG2.out hS8 hb8 hg8 rfl rfl
   have HX8 := Lib.hid hx8
   have HS8 := Lib.hid hs8
   have hn_ := hx8.1
   clear hS8 hb8 hg8 hx8 hs8
   refine hK.out _ _ hn_ (fun hHeld => ?_)
   clear hK K hn_
   refine norm_ (a' := ?_) ?_ ?_
   rotate_left
   ·show Act.put _ (some 34) _ = _
    simp only [Act.put, List.setIfInBounds_toArray, List.set_cons_zero, List.set_cons_succ, i64_w, i32_w]
    rfl
   refine pure_ (i := 6) (N := some 35) (v := ?_) (a' := ?_) #[true, true, true, true, true, true, true, false] rfl rfl (any_of HT_.out (by kernel_rfl)) (fun _ _ _ h => h) (Or.inl ⟨by rfl, ?_⟩) ?_ ?_
   rotate_left
   ·intro w'
    go_simp
    with_reducible rfl
   rotate_left
   ·simp only [Act.put, List.setIfInBounds_toArray, List.set_cons_zero, List.set_cons_succ, i64_w, i32_w]
    rfl
   refine last_ (i := 7) (N := none) #[true, true, true, true, true, true, true, true] rfl rfl (one_of HT_.out (by kernel_rfl)) (by decide) (fun K hK => ?_)
   have x0_ := HX8.out.1
   have x1_ := HX8.out.2
   refine skip_ (w1 := w_8.setCell ⟨O, 1, none⟩ (.slice A8 (acc ++ [x]).length c8)) (by rfl) rfl (by first | (go_simp; done) | (go_simp; rfl)) ?_
   refine hK.out _ _ ?_
   clear hK K
   refine done_ (done_of HT_.out (by kernel_rfl)) ?_
   go_wp2
   go_roundg (left E.l s1)
   case measure => omega
   case rel => exact ⟨s2, acc ++ [x], A8, c8, HLT.out, HS8.out, by rw [← HST.out]; exact HJ.out.2.1, by have := HJ.out.2.2; have := HLT.out; rw [List.length_append, List.length_singleton]; omega⟩
  | false =>
   rw [hn] at HNX
   have HEN := Lib.hid (fsGo_end (l := E.l) acc hn)
   clear hn
   have HR : Hid (res = (s1, acc)) := Lib.hid (by rw [← HJ.out.2.1, HEN.out])
   rw [HR.out] at HPA
   change Hid (parR E.l = paQ lv acc (ordR E.l s1).2 (if (ordR E.l s1).1.p < E.l.length then fail (ordR E.l s1).1 4 (ordR E.l s1).1.p else (ordR E.l s1).1)) at HPA
   have HAL := Lib.hid (show acc.length ≤ 1000000000 by have := HJ.out.2.2; have := HLL.out; omega)
   go_wp2_with fail
   refine HNX.out.mono ?_
   rintro r w2 ⟨rfl, h2⟩
   have H2 := Lib.hid (HJ.out.1.chg HG2.out h2)
   clear h2 HNX HJ HEN HR
   go_wp2_with fail
   refine (ordR_c G.out H2.out.rd).mono ?_
   rintro r w3 ⟨v5, rfl, ho5, hl5, hs3⟩
   have H3 := H2.out.chg HG2.out hs3
   have hR5 : (Kd.int .i64).R 3 w3 E.wO.heap.size (OK3 E O) v5 (ordR E.l s1).2 := Kd.R_lower (base := w2.heap.size) (Kd.R_of_own ho5 (fun k hk => fresh3 (lv := 0) H2.out k (own_base ho5 k hk))) H2.out.rd.bel.size
   have z2 := (H3.out.cell 2).trans rfl
   have f2 := H3.out.free 2
   have H4 := Lib.hid (H3.put_od HG2.out hR5)
   have HOL := Lib.hid (show (ordR E.l s1).2.length ≤ 1000000000 by have := HLL.out; omega)
   obtain ⟨A5, c5, e5⟩ := own_slice ho5
   subst e5
   clear ho5 hl5 hs3 H3 hR5 H2
   generalize (ordR E.l s1).2 = od at *
   generalize (ordR E.l s1).1 = s3 at *
   have q0 := (H4.out.rd.box.cell 0).trans rfl
   go_wp2_with fail
   refine (at_r H4.out.rd).mono ?_
   rintro r w5 ⟨rfl, rfl⟩
   have HT := Lib.hid (fun s4 (hs4 : (if s3.p < E.l.length then fail s3 4 s3.p else s3) = s4) W' (hS : St E O lv (.slice A3 acc.length c3) (.slice A5 od.length c5) acc od s4 W') => pa_tail HG2.out hS HAL.out HOL.out (PaOut E.wO (parR E.l)) (Lib.hid (fun r w' hp => by rw [HPA.out, hs4]; exact hp)))
   rename_i K aK K1 aK1 K2 aK2
   have HK := Lib.hid aK
   clear aK
   by_cases hlt : s3.p < E.l.length
   ·have HAT : Hid (∀ W', RD E W' s3 → Calls Try.prog 34 #[.pointer (some ⟨E.cb, 0, none⟩)] W' fun r w' => r = .returned (.int .i64 s3.p) ∧ W' = w') := Lib.hid (fun W' hr => at_r hr)
    have HFA : Hid (∀ W', RD E W' s3 → Calls Try.prog 35 #[.pointer (some ⟨E.cb, 0, none⟩), .int .i64 4, .int .i64 s3.p] W' fun r w' => r = .returned (.tuple #[]) ∧ RS E W' (fail s3 4 s3.p) w') := Lib.hid (fun W' hr => fail_r G.out hr 4 s3.p)
    have hbD := H4.out.below ((Below.refl _ _).drew)
    have HS3 := Lib.hid (HT.out _ (if_pos hlt))
    go_wp2_with fail
    refine start_ (n := 10) (S := fun W => St E O lv (.slice A3 acc.length c3) (.slice A5 od.length c5) acc od s3 W) (ds := [9]) #[false, false, false, false, false, false, false, false, false, false] (by kernel_rfl) rfl rfl hbD (fun hHeld => ?_)
    refine with_tabW RgP10.tab RgP10.bits (fun HT_ HW_ => ?_)
    refine pure_ (i := 0) (N := some 47) (v := ?_) (a' := ?_) #[true, false, false, false, false, false, false, false, false, false] rfl rfl (any_of HT_.out (by kernel_rfl)) (fun _ _ _ h => h) (Or.inl ⟨by rfl, ?_⟩) ?_ ?_
    rotate_left
    ·intro w'
     go_simp
     with_reducible rfl
    rotate_left
    ·simp only [Act.put, List.setIfInBounds_toArray, List.set_cons_zero, List.set_cons_succ, i64_w, i32_w]
     rfl
    refine pure_ (i := 1) (N := some 48) (v := ?_) (a' := ?_) #[true, true, false, false, false, false, false, false, false, false] rfl rfl (any_of HT_.out (by kernel_rfl)) (fun _ _ _ h => h) (Or.inl ⟨by rfl, ?_⟩) ?_ ?_
    rotate_left
    ·intro w'
     go_simp
     with_reducible rfl
    rotate_left
    ·simp only [Act.put, List.setIfInBounds_toArray, List.set_cons_zero, List.set_cons_succ, i64_w, i32_w]
     rfl
    refine pure_ (i := 2) (N := some 49) (v := ?_) (a' := ?_) #[true, true, true, false, false, false, false, false, false, false] rfl rfl (any_of HT_.out (by kernel_rfl)) (fun _ _ _ h => h) (Or.inl ⟨by rfl, ?_⟩) ?_ ?_
    rotate_left
    ·intro w'
     go_simp
     with_reducible rfl
    rotate_left
    ·simp only [Act.put, List.setIfInBounds_toArray, List.set_cons_zero, List.set_cons_succ, i64_w, i32_w]
     rfl
    refine take_ (i := 3) (N := some 50) (v := ?_) (a' := ?_) #[true, true, true, true, false, false, false, false, false, false] rfl rfl (take_ofW HT_.out HW_.out (by kernel_rfl)) (fun _ _ _ h => h) (Or.inl ⟨by rfl, ?_⟩) hHeld ?_ ?_
    rotate_left
    ·intro w' hW
     have x0_ := (hW.rd.box.cell 0).trans rfl
     go_simp
     with_reducible rfl
    rotate_left
    ·simp only [Act.put, List.setIfInBounds_toArray, List.set_cons_zero, List.set_cons_succ, i64_w, i32_w]
     rfl
    refine pure_ (i := 4) (N := some 51) (v := ?_) (a' := ?_) #[true, true, true, true, true, false, false, false, false, false] rfl rfl (any_of HT_.out (by kernel_rfl)) (fun _ _ _ h => h) (Or.inl ⟨by rfl, ?_⟩) ?_ ?_
    rotate_left
    ·intro w'
     go_simp
     with_reducible rfl
    rotate_left
    ·simp only [Act.put, List.setIfInBounds_toArray, List.set_cons_zero, List.set_cons_succ, i64_w, i32_w]
     rfl
    refine pure_ (i := 5) (N := some 52) (v := ?_) (a' := ?_) #[true, true, true, true, true, true, false, false, false, false] rfl rfl (any_of HT_.out (by kernel_rfl)) (fun _ _ _ h => h) (Or.inl ⟨by rfl, ?_⟩) ?_ ?_
    rotate_left
    ·intro w'
     go_simp
     with_reducible rfl
    rotate_left
    ·simp only [Act.put, List.setIfInBounds_toArray, List.set_cons_zero, List.set_cons_succ, i64_w, i32_w]
     rfl
    refine pure_ (i := 6) (N := some 53) (v := ?_) (a' := ?_) #[true, true, true, true, true, true, true, false, false, false] rfl rfl (any_of HT_.out (by kernel_rfl)) (fun _ _ _ h => h) (Or.inl ⟨by rfl, ?_⟩) ?_ ?_
    rotate_left
    ·intro w'
     go_simp
     with_reducible rfl
    rotate_left
    ·simp only [Act.put, List.setIfInBounds_toArray, List.set_cons_zero, List.set_cons_succ, i64_w, i32_w]
     rfl
    refine take_ (i := 7) (N := some 54) (v := ?_) (a' := ?_) #[true, true, true, true, true, true, true, true, false, false] rfl rfl (take_ofW HT_.out HW_.out (by kernel_rfl)) (fun _ _ _ h => h) (Or.inl ⟨by rfl, ?_⟩) hHeld ?_ ?_
    rotate_left
    ·intro w' hW
     have x0_ := (hW.rd.box.cell 0).trans rfl
     go_simp
     with_reducible rfl
    rotate_left
    ·simp only [Act.put, List.setIfInBounds_toArray, List.set_cons_zero, List.set_cons_succ, i64_w, i32_w]
     rfl
    refine one_ (i := 8) (N := some 55) #[true, true, true, true, true, true, true, true, true, false] rfl rfl (one_of HT_.out (by kernel_rfl)) (by decide) (fun K hK => ?_)
    refine goes_ Try.func34 (by kernel_rfl) rfl #[.pointer (some ⟨E.cb, 0, none⟩)] (by rfl) rfl rfl (by (try simp only [List.map_toArray, List.map_cons, List.map_nil]); first | done | rfl) ?_
    refine (HAT.out _ hHeld.rd).mono ?_
    rintro e_ w_9 ⟨rfl, rfl⟩
    refine ⟨_, rfl, ?_⟩
    refine hK.out _ _ hHeld (fun hHeld => ?_)
    clear hK K
    refine norm_ (a' := ?_) ?_ ?_
    rotate_left
    ·show Act.put _ (some 55) _ = _
     simp only [Act.put, List.setIfInBounds_toArray, List.set_cons_zero, List.set_cons_succ, i64_w, i32_w]
     rfl
    refine last_ (i := 9) (N := some 56) #[true, true, true, true, true, true, true, true, true, true] rfl rfl (one_of HT_.out (by kernel_rfl)) (by decide) (fun K hK => ?_)
    refine goes_ Try.func35 (by kernel_rfl) rfl #[.pointer (some ⟨E.cb, 0, none⟩), .int .i64 4, .int .i64 s3.p] (by rfl) rfl rfl (by (try simp only [List.map_toArray, List.map_cons, List.map_nil]); first | done | rfl) ?_
    refine (HFA.out _ hHeld.rd).mono ?_
    rintro e_ w_10 ⟨rfl, hs10⟩
    have HS10 := Lib.hid (hHeld.chg HG2.out hs10)
    refine ⟨_, rfl, ?_⟩
    refine hK.out _ _ ?_
    clear hK K
    refine norm_ (a' := ?_) ?_ ?_
    rotate_left
    ·show Act.put _ (some 56) _ = _
     simp only [Act.put, List.setIfInBounds_toArray, List.set_cons_zero, List.set_cons_succ, i64_w, i32_w]
     rfl
    refine done_ (done_of HT_.out (by kernel_rfl)) ?_
    go_wp2
    refine HK.out _ _ ?_
    exact HS3.out _ HS10.out _ _ _ _ _ _ _ _ _ _ _ _ _ _ _ _ _ _ _ _ _ _ _ _ _ _ _ _ _ _ _ _ _ _ _ _ _ _ _ _ _ _ _ _ _ _ _ _ _ _ _ _ _ _ _ _ _ _ _ _ _ _ _ _ _ _ _ _ _ _ _ _ _ _
   ·have HS3 := Lib.hid (HT.out _ (if_neg hlt))
    go_wp2_with fail
    refine HK.out _ _ ?_
    exact HS3.out _ H4.out _ _ _ _ _ _ _ _ _ _ _ _ _ _ _ _ _ _ _ _ _ _ _ _ _ _ _ _ _ _ _ _ _ _ _ _ _ _ _ _ _ _ _ _ _ _ _ _ _ _ _ _ _ _ _ _ _ _ _ _ _ _ _ _ _ _ _ _ _ _ _ _ _ _
end Go.Proofs.Ytkoddmedhnhgiaa.Rp
set_option linter.unusedSimpArgs false
namespace Go.Proofs.Ytkoddmedhnhgiaa.Rp
open Go.RowKit Go.Lib Go.Proofs.Ytkoddmedhnhgiaa.PReportBack Go.Proofs.YtkoddmedhnhgiaaW.PrintWords
open Cur (Cr At peek fail byte number)
set_option linter.unusedVariables false
theorem st_start (w w1 : World) (A : Option Addr) (l : List Int) (c : Nat) (hC : Kd.C (Kd.int .u8) w A l.length l) (hc : l.length ≤ c) (hb : Bytes l) (hl : l.length ≤ 100000000)
 (hat : At w1 (w.heap.size + 1) A l.length c ⟨0, 0, 0⟩) (hb1 : Below (w.heap.size + 1) (w.alloc (.cells #[.int .i64 0, .slice none 0 0, .slice none 0 0] 25)) w1) :
 Good2 ⟨w, w1.heap.size, w.heap.size + 1, A, l, c⟩ (w1.heap.size + 1) ∧ St ⟨w, w1.heap.size, w.heap.size + 1, A, l, c⟩ (w1.heap.size + 1) 0 (.slice none 0 0) (.slice none 0 0) [] [] ⟨0, 0, 0⟩ ((w1.alloc (.cells #[.pointer (some ⟨w.heap.size + 1, 0, none⟩)] 62)).alloc (.cells #[.int .i64 0, .slice none 0 0, .slice none 0 0] 25)) := by
 have h0 := Blk.lt hat
 have hz : (w.alloc (.cells #[.int .i64 0, .slice none 0 0, .slice none 0 0] 25)).heap.size = w.heap.size + 1 := World.size_alloc _ _
 have h3 := Blk.new (w1.alloc (.cells #[.pointer (some ⟨w.heap.size + 1, 0, none⟩)] 62)) [.int .i64 0, .slice none 0 0, .slice none 0 0] 25
 rw [World.size_alloc] at h3
 have hR := (Blk.new w [.int .i64 0, .slice none 0 0, .slice none 0 0] 25).below hb1 (Nat.lt_succ_self _)
 have hbel : Below w.heap.size w w1 := ((Below.refl _ w).alloc (Nat.le_refl _) _).trans (hb1.mono (Nat.le_succ _))
 refine ⟨⟨⟨hC, hc, hb, hl, hbel.size, Nat.le_succ _, by simp only; omega⟩, by simp only; omega, by simp only; omega, by simp only; omega, by simp only; omega, by simp only; omega, by simp only; omega⟩, ⟨((Blk.new w1 _ 62).alloc _), (Blk.alloc hat _).alloc _, ⟨by simp, by simp⟩, (hbel.alloc hbel.size _).alloc (by rw [World.size_alloc]; exact Nat.le_succ_of_le hbel.size) _⟩, (hR.alloc _).alloc _, h3, Kd.S_nil _ _ _ _ _, Kd.R_nil _ _ _ _ _⟩
set_option maxHeartbeats 4000000 in
set_option maxRecDepth 100000 in
theorem parse_c (w : World) (A : Option Addr) (l : List Int) (c : Nat) (hC : Kd.C (Kd.int .u8) w A l.length l) (hc : l.length ≤ c) (hb : Bytes l) (hl : l.length ≤ 100000000) :
 Calls Try.prog 12 #[.slice A l.length c] w (PaOut w (parR l)) := by
 have HS := Lib.hid (fun (w1 : World) (hat : At w1 (w.heap.size + 1) A l.length c ⟨0, 0, 0⟩) (hb1 : Below (w.heap.size + 1) (w.alloc (.cells #[.int .i64 0, .slice none 0 0, .slice none 0 0] 25)) w1) => st_start w w1 A l c hC hc hb hl hat hb1)
 clear hC hc hb hl
 go_enter Try.func12, Try.ntmps12
 go_wp2_with fail
 have hz : (w.alloc (.cells #[.int .i64 0, .slice none 0 0, .slice none 0 0] 25)).heap.size = w.heap.size + 1 := World.size_alloc _ _
 refine (Cur.new_calls _ A l.length c).mono ?_
 rw [hz]
 rintro r w1 ⟨rfl, hat, hb1⟩
 obtain ⟨g, h⟩ := HS.out w1 hat hb1
 have HT := Lib.hid (pa_main g h)
 clear g h hat hb1 HS hz
 go_upto_region 2 with (fail)
 rename_i K aK
 have HK := Lib.hid aK
 clear aK
 go_wp2
 refine HK.out _ _ ?_
 exact HT.out _ _ _ _ _ _ _ _ _ _ _ _ _ _ _ _ _ _ _ _ _ _ _ _ _ _ _ _ _ _ _ _ _ _ _ _ _ _ _ _ _ _ _ _ _ _ _ _ _ _ _ _ _ _ _ _ _ _ _ _ _ _ _ _ _ _ _ _ _ _ _ _ _ _ rfl
end Go.Proofs.Ytkoddmedhnhgiaa.Rp
