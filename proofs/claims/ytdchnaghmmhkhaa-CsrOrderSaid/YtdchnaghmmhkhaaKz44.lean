/- Printed by shake.py. -/
import Derived.Test.YtdchnaghmmhkhaaKz23
import Derived.Shelf.SlSortCmp.KitK
import Derived.Shelf.SlSortCmp.QuietGrown
import Derived.Sort.WalkB2
import Derived.Sort.WalkB12
import Derived.Deep.LoopGhost
set_option linter.unusedVariables false
set_option linter.unusedSimpArgs false
namespace Go.Proofs.Ytdchnaghmmhkhaa.Stab.Au
open Go.Shelf Go.RowKit Go.Lib Go.Sort
set_option linter.unusedSectionVars false
structure LT (P : Program) (k : Nat) : Prop where
 mixed : P.follows .mixedOrders = true
 t0 : P.underlying 0 = some (TypeDesc.tuple #[])
 a0 : ∀ w, (isAgg 0).run P w = .ok false w
 z0 : ∀ w, (Go.sizeOf 0).run P w = .ok 1 w
 v0 : ∀ w, (zeroValue 0).run P w = .ok (Value.tuple #[]) w
 t3 : P.underlying 3 = some (TypeDesc.int IntKind.i64)
 a3 : ∀ w, (isAgg 3).run P w = .ok false w
 z3 : ∀ w, (Go.sizeOf 3).run P w = .ok 1 w
 v3 : ∀ w, (zeroValue 3).run P w = .ok (Value.int IntKind.i64 0) w
 t4 : P.underlying 4 = some (TypeDesc.bool)
 a4 : ∀ w, (isAgg 4).run P w = .ok false w
 z4 : ∀ w, (Go.sizeOf 4).run P w = .ok 1 w
 v4 : ∀ w, (zeroValue 4).run P w = .ok (Value.bool false) w
 t22 : P.underlying 51 = some (TypeDesc.slice 55)
 a22 : ∀ w, (isAgg 51).run P w = .ok false w
 z22 : ∀ w, (Go.sizeOf 51).run P w = .ok 1 w
 v22 : ∀ w, (zeroValue 51).run P w = .ok (Value.slice none 0 0) w
 t25 : P.underlying 86 = some (TypeDesc.func #[55, 55] #[3] false)
 a25 : ∀ w, (isAgg 86).run P w = .ok false w
 z25 : ∀ w, (Go.sizeOf 86).run P w = .ok 1 w
 v25 : ∀ w, (zeroValue 86).run P w = .ok (Value.nilFunc) w
 t57 : P.underlying 82 = some (TypeDesc.int IntKind.u64)
 a57 : ∀ w, (isAgg 82).run P w = .ok false w
 z57 : ∀ w, (Go.sizeOf 82).run P w = .ok 1 w
 v57 : ∀ w, (zeroValue 82).run P w = .ok (Value.int IntKind.u64 0) w
 aE : ∀ w, (isAgg 55).run P w = .ok true w
 zE : ∀ w, (Go.sizeOf 55).run P w = .ok k w
variable {α : Type} [Inhabited α]
def SWL (enc : α → List Value) (k : Nat) (w0 : World) (blk off : Nat) (D : List α) (w : World) : Prop := SWK enc k w0 blk off D.toArray w
def mid (A U M V C : List α) (i : Nat) : List α := A ++ (V.take i ++ (U.drop i ++ (M ++ (U.take i ++ (V.drop i ++ C)))))
theorem mid_len {A U M V C : List α} {i : Nat} (hi : i ≤ U.length) (h : U.length = V.length) : (mid A U M V C i).length = A.length + U.length + M.length + V.length + C.length := by
 simp only [mid, List.length_append, List.length_take, List.length_drop]; omega
theorem mid_cut {A U M V C : List α} {i : Nat} (hi : i < U.length) (h : U.length = V.length) :
 mid A U M V C i = (A ++ V.take i) ++ U[i] :: ((U.drop (i + 1) ++ (M ++ U.take i)) ++ V[i] :: (V.drop (i + 1) ++ C)) ∧
 mid A U M V C (i + 1) = (A ++ V.take i) ++ V[i] :: ((U.drop (i + 1) ++ (M ++ U.take i)) ++ U[i] :: (V.drop (i + 1) ++ C)) := by
 unfold mid
 constructor
 ·rw [List.drop_eq_getElem_cons hi, List.drop_eq_getElem_cons (show i < V.length by omega)]
  simp only [List.append_assoc, List.cons_append, List.nil_append]
 ·rw [List.take_succ_eq_append_getElem (show i < V.length by omega), List.take_succ_eq_append_getElem hi]
  simp only [List.append_assoc, List.cons_append, List.nil_append]
set_option maxHeartbeats 1000000 in
set_option maxRecDepth 1000000 in
theorem swapRange_any {P : Program} {k : Nat} (T : LT P k) (F : P.funcs[62]? = some Try.f62) (enc : α → List Value) (g : Nat) (cb : Array Value) (blk off cap : Nat) (w0 w : World) (d0 : Array α)
 (R : RowK enc k w0 blk off d0) (A U M V C : List α) (a b n N : Nat) (ha : A.length = a) (hb : a + U.length + M.length = b) (hU : U.length = n) (hV : V.length = n) (hN : A.length + U.length + M.length + V.length + C.length = N) (hs : d0.size = N)
 (S : SWL enc k w0 blk off (A ++ (U ++ (M ++ (V ++ C)))) w) (hsz : N < 4611686018427387904) :
 Calls P 62 #[.slice (some ⟨blk, off, none⟩) N cap, .int .i64 a, .int .i64 b, .int .i64 n, .func (.func g) #[] cb] w fun e w' => e = .returned (.tuple #[]) ∧ SWL enc k w0 blk off (A ++ (V ++ (M ++ (U ++ C)))) w' := by
 have mixed := T.mixed; have t0 := T.t0; have a0 := T.a0; have z0 := T.z0; have v0 := T.v0; have t3 := T.t3; have a3 := T.a3; have z3 := T.z3; have v3 := T.v3; have t4 := T.t4; have a4 := T.a4; have z4 := T.z4; have v4 := T.v4; have t22 := T.t22; have a22 := T.a22; have z22 := T.z22; have v22 := T.v22; have t25 := T.t25; have a25 := T.a25; have z25 := T.z25; have v25 := T.v25; have aE := T.aE; have zE := T.zE
 have S0 : Aside (SWK enc k w0 blk off (mid A U M V C 0).toArray w) := by
  have : mid A U M V C 0 = A ++ (U ++ (M ++ (V ++ C))) := by simp [mid]
  rw [this]; exact S
 have HE : Hid (mid A U M V C n = A ++ (V ++ (M ++ (U ++ C)))) := Lib.hid (by
  unfold mid
  rw [List.take_of_length_le (by omega), List.drop_eq_nil_of_le (by omega), List.take_of_length_le (by omega), List.drop_eq_nil_of_le (by omega)]
  simp)
 have hcut := fun i (hi : i < n) => mid_cut (A := A) (U := U) (M := M) (V := V) (C := C) (i := i) (by omega) (by omega)
 have hlen := fun i (hi : i ≤ n) => mid_len (A := A) (U := U) (M := M) (V := V) (C := C) (i := i) (by omega) (by omega)
 have HCUT := Lib.hid hcut
 have HLEN := Lib.hid hlen
 clear S hcut hlen
 go_enter F, Try.ntmps62
 go_wp2
 go_loopg [10] n (fun kx v10 wr => ∃ i : Nat, v10 = .int .i64 i ∧ i ≤ n ∧ n - i ≤ kx ∧ Aside (SWK enc k w0 blk off (mid A U M V C i).toArray wr))
 case atStart => exact ⟨0, rfl, by omega, by omega, S0⟩
 case round =>
  clear S0
  obtain ⟨i, rfl, hi, hkx, S1⟩ := hrel
  by_cases hlt : i < n
  ·have hlti : (i : Int) < (n : Int) := by omega
   go_wp2_with fail
   have r1 : IntKind.i64.wrap ((a : Int) + (i : Int)) = (a : Int) + (i : Int) := by rw [IntKind.wrap_i64]; omega
   have r2 : IntKind.i64.wrap ((b : Int) + (i : Int)) = (b : Int) + (i : Int) := by rw [IntKind.wrap_i64]; omega
   have e1 : ((a : Int) + (i : Int)).toNat = a + i := by omega
   have e2 : ((b : Int) + (i : Int)).toNat = b + i := by omega
   have p1 : (0 : Int) ≤ (a : Int) + (i : Int) := by omega
   have p2 : (0 : Int) ≤ (b : Int) + (i : Int) := by omega
   have b1 : (a : Int) + (i : Int) < (N : Int) := by omega
   have b2 : (b : Int) + (i : Int) < (N : Int) := by omega
   obtain ⟨c1, c2⟩ := HCUT.out i hlt
   have hsz1 : (mid A U M V C i).toArray.size = N := by rw [List.size_toArray, HLEN.out i (by omega)]; exact hN
   have hx1 : (mid A U M V C i).toArray[a + i]! = U[i] := by rw [c1]; exact get_at (by simp; omega)
   have hx2 : (mid A U M V C i).toArray[b + i]! = V[i] := by
    rw [c1, ← List.cons_append, ← List.append_assoc]
    exact get_at (by simp; omega)
   have hsw : swp (mid A U M V C i).toArray (a + i) (b + i) = (mid A U M V C (i + 1)).toArray := by
    rw [c1, c2]; exact swp_at (by simp; omega) (by simp; omega)
   have S2 : Aside (SWK enc k w0 blk off (mid A U M V C (i + 1)).toArray ((wr.drew.setCells blk (off + (a + i) * k) (enc V[i])).setCells blk (off + (b + i) * k) (enc U[i]))) := by
    have := S1.out.swapped R (a + i) (b + i) (by omega) (by omega)
    rw [hx1, hx2, hsw] at this
    exact this
   have l1 := S1.out.ld1 R (by omega) P (a + i) (by omega)
   have l2 := S1.out.ld1 R (by omega) P (b + i) (by omega)
   rw [hx1] at l1
   rw [hx2] at l2
   have s1 := S1.out.st1 R (by omega) P (a + i) (by omega) V[i]
   have s2 := S1.out.st2 R (by omega) P (a + i) (b + i) (by omega) (by omega) V[i] U[i]
   have n1 : (enc U[i]).length = k := R.hk _
   have n2 : (enc V[i]).length = k := R.hk _
   generalize enc U[i] = cI at S2 l1 s2 n1
   generalize enc V[i] = cJ at S2 l2 s1 s2 n2
   clear S1 c1 c2 hsz1 hx1 hx2 hsw
   go_wp2_with fail
   go_big_region_o
   clear l1 l2 s1 s2
   generalize (wr.drew.setCells blk (off + (a + i) * k) cJ).setCells blk (off + (b + i) * k) cI = w2 at S2 ⊢
   go_wp2
   go_roundg (n - (i + 1))
   case measure => omega
   case rel => exact ⟨i + 1, by go_num, by omega, Nat.le_refl _, S2⟩
  ·have hin : i = n := by omega
   subst hin
   go_wp2
   go_end0
   refine ⟨rfl, ?_⟩
   have := S1.out
   rw [HE.out] at this
   exact this
set_option maxHeartbeats 1000000 in
set_option maxRecDepth 1000000 in
theorem rotate_any {P : Program} {k : Nat} (T : LT P k) (F1 : P.funcs[62]? = some Try.f62) (F : P.funcs[60]? = some Try.f60) (enc : α → List Value) (g : Nat) (cb : Array Value) (blk off cap : Nat) (w0 w : World) (d0 : Array α)
 (R : RowK enc k w0 blk off d0) (A X Y C : List α) (a m b N : Nat) (ha : A.length = a) (hm : a + X.length = m) (hb : m + Y.length = b) (hN : b + C.length = N) (hs : d0.size = N) (hX : X ≠ []) (hY : Y ≠ [])
 (S : SWL enc k w0 blk off (A ++ (X ++ (Y ++ C))) w) (hsz : N < 4611686018427387904) :
 Calls P 60 #[.slice (some ⟨blk, off, none⟩) N cap, .int .i64 a, .int .i64 m, .int .i64 b, .func (.func g) #[] cb] w fun e w' => e = .returned (.tuple #[]) ∧ SWL enc k w0 blk off (A ++ (Y ++ (X ++ C))) w' := by
 have mixed := T.mixed; have t0 := T.t0; have a0 := T.a0; have z0 := T.z0; have v0 := T.v0; have t3 := T.t3; have a3 := T.a3; have z3 := T.z3; have v3 := T.v3; have t4 := T.t4; have a4 := T.a4; have z4 := T.z4; have v4 := T.v4; have t22 := T.t22; have a22 := T.a22; have z22 := T.z22; have v22 := T.v22; have t25 := T.t25; have a25 := T.a25; have z25 := T.z25; have v25 := T.v25; have aE := T.aE; have zE := T.zE
 have e40 : ∀ args w, (callFunc 62 args).run P w = .ok (.enter 62 args) w := enters_of F1 (by kernel_rfl) rfl
 have HS := Lib.hid (fun (w : World) (A U M V C : List α) (a b n : Nat) h1 h2 h3 h4 h5 hS => swapRange_any T F1 enc g cb blk off cap w0 w d0 R A U M V C a b n N h1 h2 h3 h4 h5 hs hS hsz)
 have S0 : Aside (∃ (B X' Y' E : List α), SWL enc k w0 blk off (B ++ (X' ++ (Y' ++ E))) w ∧ B ++ (Y' ++ (X' ++ E)) = A ++ (Y ++ (X ++ C)) ∧ X'.length = X.length ∧ Y'.length = Y.length ∧ B.length + X'.length = m ∧ B.length + X'.length + Y'.length + E.length = N) :=
  ⟨A, X, Y, C, S, rfl, rfl, rfl, by omega, by omega⟩
 have hx0 : 0 < X.length := List.length_pos_iff.2 hX
 have hy0 : 0 < Y.length := List.length_pos_iff.2 hY
 clear S
 have hX1 : (m : Int) - (a : Int) = (X.length : Int) := by omega
 have hY1 : (b : Int) - (m : Int) = (Y.length : Int) := by omega
 have hmN : m ≤ N := by omega
 have hbN : b ≤ N := by omega
 go_enter F, Try.ntmps60
 go_wp2
 go_loopg [10, 11] (X.length + Y.length) (fun kx v10 v11 wr => ∃ i j : Nat, v10 = .int .i64 i ∧ v11 = .int .i64 j ∧ 0 < i ∧ 0 < j ∧ i + j ≤ kx ∧ i ≤ m ∧ m + j ≤ N ∧
  Aside (∃ (B X' Y' E : List α), SWL enc k w0 blk off (B ++ (X' ++ (Y' ++ E))) wr ∧ B ++ (Y' ++ (X' ++ E)) = A ++ (Y ++ (X ++ C)) ∧ X'.length = i ∧ Y'.length = j ∧ B.length + X'.length = m ∧ B.length + X'.length + Y'.length + E.length = N))
 case atStart =>
  refine ⟨X.length, Y.length, ?_, ?_, hx0, hy0, by omega, by omega, by omega, S0⟩
  ·rw [← hX1]
  ·rw [← hY1]
 case round =>
  clear S0
  obtain ⟨i, j, rfl, rfl, hi0, hj0, hk, him, hjN, S1⟩ := hrel
  have hmi : (m : Int) - (i : Int) = ((m - i : Nat) : Int) := by omega
  by_cases hij : i = j
  ·subst hij
   obtain ⟨B, X', Y', E, hS, hf, hx, hy, hbm, hbN2⟩ := S1.out
   have hc := HS.out wr B X' [] Y' E (m - i) m i (by omega) (by simp; omega) hx hy (by simp; omega) (by simpa using hS)
   have hcc := Lib.hid hc
   have HF := Lib.hid hf
   clear hc hS hf S1 HS
   go_wp2_with fail
   refine hcc.out.mono ?_
   rintro e w2 ⟨rfl, hS2⟩
   have HS2 := Lib.hid hS2
   clear hS2
   go_wp2
   go_end0
   refine ⟨rfl, ?_⟩
   have := HS2.out
   rw [List.nil_append, HF.out] at this
   exact this
  ·have hne : ((i : Int) != (j : Int)) = true := by simp; omega
   by_cases hgt : j < i
   ·have hgti : (j : Int) < (i : Int) := by omega
    obtain ⟨B, X', Y', E, hS, hf, hx, hy, hbm, hbN2⟩ := S1.out
    have hsplit := List.take_append_drop j X'
    have h1 : (X'.take j).length = j := by rw [List.length_take]; omega
    have h2 : (X'.drop j).length = i - j := by rw [List.length_drop]; omega
    have hc := HS.out wr B (X'.take j) (X'.drop j) Y' E (m - i) m j (by omega) (by omega) h1 hy (by omega) (by rw [← List.append_assoc (X'.take j), hsplit]; exact hS)
    have hcc := Lib.hid hc
    have hnext : ∀ w2, SWL enc k w0 blk off (B ++ (Y' ++ (X'.drop j ++ (X'.take j ++ E)))) w2 → Aside (∃ (B X' Y' E : List α), SWL enc k w0 blk off (B ++ (X' ++ (Y' ++ E))) w2 ∧ B ++ (Y' ++ (X' ++ E)) = A ++ (Y ++ (X ++ C)) ∧ X'.length = i - j ∧ Y'.length = j ∧ B.length + X'.length = m ∧ B.length + X'.length + Y'.length + E.length = N) := fun w2 hS2 => by
     refine ⟨B ++ Y', X'.drop j, X'.take j, E, by simpa using hS2, ?_, h2, h1, by simp; omega, by simp; omega⟩
     rw [← hf]
     simp only [List.append_assoc]
     rw [← List.append_assoc (X'.take j), hsplit]
    have HNX := Lib.hid hnext
    clear hc hS hf S1 hnext hsplit h1 h2
    go_wp2_with fail
    refine hcc.out.mono ?_
    rintro e w2 ⟨rfl, hS2⟩
    have S2 := HNX.out w2 hS2
    clear hS2 hcc HNX
    have hsub : (i : Int) - (j : Int) = ((i - j : Nat) : Int) := by omega
    go_wp2
    go_roundg (i - j + j)
    case measure => omega
    case rel => exact ⟨i - j, j, by rw [← hsub], rfl, by omega, hj0, Nat.le_refl _, by omega, hjN, S2⟩
   ·have hgti : ¬ (j : Int) < (i : Int) := by omega
    obtain ⟨B, X', Y', E, hS, hf, hx, hy, hbm, hbN2⟩ := S1.out
    have hsplit := List.take_append_drop (j - i) Y'
    have h1 : (Y'.take (j - i)).length = j - i := by rw [List.length_take]; omega
    have h2 : (Y'.drop (j - i)).length = i := by rw [List.length_drop]; omega
    have hmj : (m : Int) + (j : Int) - (i : Int) = ((m + (j - i) : Nat) : Int) := by omega
    have hc := HS.out wr B X' (Y'.take (j - i)) (Y'.drop (j - i)) E (m - i) (m + (j - i)) i (by omega) (by omega) hx h2 (by omega) (by rw [← List.append_assoc (Y'.take (j - i)), hsplit]; exact hS)
    have hcc := Lib.hid hc
    have hnext : ∀ w2, SWL enc k w0 blk off (B ++ (Y'.drop (j - i) ++ (Y'.take (j - i) ++ (X' ++ E)))) w2 → Aside (∃ (B X' Y' E : List α), SWL enc k w0 blk off (B ++ (X' ++ (Y' ++ E))) w2 ∧ B ++ (Y' ++ (X' ++ E)) = A ++ (Y ++ (X ++ C)) ∧ X'.length = i ∧ Y'.length = j - i ∧ B.length + X'.length = m ∧ B.length + X'.length + Y'.length + E.length = N) := fun w2 hS2 => by
     refine ⟨B, Y'.drop (j - i), Y'.take (j - i), X' ++ E, hS2, ?_, h2, h1, by omega, by simp; omega⟩
     rw [← hf]
     rw [← List.append_assoc (Y'.take (j - i)), hsplit]
    have HNX := Lib.hid hnext
    clear hc hS hf S1 hnext hsplit h1 h2
    go_wp2_with fail
    refine hcc.out.mono ?_
    rintro e w2 ⟨rfl, hS2⟩
    have S2 := HNX.out w2 hS2
    clear hS2 hcc HNX
    have hsub : (j : Int) - (i : Int) = ((j - i : Nat) : Int) := by omega
    go_wp2
    go_roundg (i + (j - i))
    case measure => omega
    case rel => exact ⟨i, j - i, rfl, by rw [← hsub], hi0, by omega, Nat.le_refl _, him, by omega, S2⟩
end Go.Proofs.Ytdchnaghmmhkhaa.Stab.Au
set_option linter.unusedVariables false
set_option linter.unusedSimpArgs false
namespace Go.Proofs.Ytdchnaghmmhkhaa.Stab.Au
open Go.Shelf Go.RowKit Go.Lib Go.Sort
set_option linter.unusedSectionVars false
variable {α : Type} [Inhabited α]
theorem cmp_facts {P : Program} {enc : α → List Value} {k : Nat} {w0 w : World} {blk off : Nat} {d0 : Array α} {g : Nat} {cb : Array Value} {cf : α → α → Int} {D : List α} {N : Nat} (S : SWL enc k w0 blk off D w) (R : RowK enc k w0 blk off d0) (hs : d0.size = N) (hN : D.length = N)
 (hcmp : CmpLays P g cb enc k cf blk off N w0) (i j : Nat) (x y : α) (hi : i < N) (hj : j < N) (hx : D.toArray[i]! = x) (hy : D.toArray[j]! = y) :
 (∀ n os, Sem.run P (loadCellsFrom ⟨blk, off + i * k, none⟩ 0 k #[]) (grow (w.drewN n) os) = .ok (enc x).toArray (grow (w.drewN n) os)) ∧
 (∀ n os, Sem.run P (loadCellsFrom ⟨blk, off + j * k, none⟩ 0 k #[]) (grow (w.drewN n) os) = .ok (enc y).toArray (grow (w.drewN n) os)) ∧
 (∀ n os, Calls P g (#[.agg (enc x).toArray, .agg (enc y).toArray] ++ cb) (grow (w.drewN n) os) fun e w' => e = .returned (.int .i64 (cf x y)) ∧ ∃ q os', w' = grow ((grow (w.drewN n) os).drewN q) os') ∧
 (∀ n os, SWL enc k w0 blk off D (grow (w.drewN n) os)) := by
 have hD : D.toArray.size = N := by simpa using hN
 refine ⟨fun n os => ?_, fun n os => ?_, fun n os => SWK.cmp S hcmp hD x y n os, fun n os => SWK.grown S n os⟩
 ·rw [← hx]; exact SWK.ld S R (by omega) P i (by omega) n os
 ·rw [← hy]; exact SWK.ld S R (by omega) P j (by omega) n os
theorem swp_facts {P : Program} {enc : α → List Value} {k : Nat} {w0 w : World} {blk off : Nat} {d0 : Array α} {D D' : List α} {N : Nat} (S : SWL enc k w0 blk off D w) (R : RowK enc k w0 blk off d0) (hs : d0.size = N) (hN : D.length = N)
 (i j : Nat) (x y : α) (hi : i < N) (hj : j < N) (hx : D.toArray[i]! = x) (hy : D.toArray[j]! = y) (hsw : swp D.toArray i j = D'.toArray) :
 ∃ cI cJ : List Value, cI.length = k ∧ cJ.length = k ∧ Sem.run P (loadCellsFrom ⟨blk, off + i * k, none⟩ 0 k #[]) w.drew = .ok cI.toArray w.drew ∧ Sem.run P (loadCellsFrom ⟨blk, off + j * k, none⟩ 0 k #[]) w.drew = .ok cJ.toArray w.drew ∧
  Sem.run P (storeCells ⟨blk, off + i * k, none⟩ cJ 0) w.drew = .ok () (w.drew.setCells blk (off + i * k) cJ) ∧
  Sem.run P (storeCells ⟨blk, off + j * k, none⟩ cI 0) (w.drew.setCells blk (off + i * k) cJ) = .ok () ((w.drew.setCells blk (off + i * k) cJ).setCells blk (off + j * k) cI) ∧
  Aside (SWL enc k w0 blk off D' ((w.drew.setCells blk (off + i * k) cJ).setCells blk (off + j * k) cI)) := by
 have hD : D.toArray.size = N := by simpa using hN
 have S' : SWK enc k w0 blk off D.toArray w := S
 refine ⟨enc x, enc y, R.hk _, R.hk _, ?_, ?_, S'.st1 R (by omega) P i (by omega) y, S'.st2 R (by omega) P i j (by omega) (by omega) y x, ?_⟩
 ·rw [← hx]; exact S'.ld1 R (by omega) P i (by omega)
 ·rw [← hy]; exact S'.ld1 R (by omega) P j (by omega)
 ·have := S'.swapped R i j (by omega) (by omega)
  rw [hx, hy, hsw] at this
  exact this
set_option maxHeartbeats 2000000 in
set_option maxRecDepth 1000000 in
theorem insertion_any {P : Program} {k : Nat} (T : LT P k) (F : P.funcs[57]? = some Try.f57) (enc : α → List Value) (g : Nat) (cb : Array Value) (cf : α → α → Int) (tag : α → Nat) (hO : SWO (ltOf cf)) (blk off cap : Nat) (w0 w : World) (d0 : Array α)
 (eg : ∀ args w, (callFunc g args).run P w = .ok (.enter g args) w) (R : RowK enc k w0 blk off d0) (A X C : List α) (a b N : Nat) (hcmp : CmpLays P g cb enc k cf blk off N w0) (ha : A.length = a) (hb : a + X.length = b) (hN : b + C.length = N) (hs : d0.size = N)
 (htag : X.Pairwise fun x y => tag x < tag y) (S : SWL enc k w0 blk off (A ++ (X ++ C)) w) (hsz : N < 4611686018427387904) :
 Calls P 57 #[.slice (some ⟨blk, off, none⟩) N cap, .int .i64 a, .int .i64 b, .func (.func g) #[] cb] w fun e w' => e = .returned (.tuple #[]) ∧ ∃ X', X'.Perm X ∧ Sd (ltOf cf) tag X' ∧ SWL enc k w0 blk off (A ++ (X' ++ C)) w' := by
 have mixed := T.mixed; have t0 := T.t0; have a0 := T.a0; have z0 := T.z0; have v0 := T.v0; have t3 := T.t3; have a3 := T.a3; have z3 := T.z3; have v3 := T.v3; have t4 := T.t4; have a4 := T.a4; have z4 := T.z4; have v4 := T.v4; have t22 := T.t22; have a22 := T.a22; have z22 := T.z22; have v22 := T.v22; have t25 := T.t25; have a25 := T.a25; have z25 := T.z25; have v25 := T.v25; have aE := T.aE; have zE := T.zE
 have HC : Aside _ := hcmp
 have HT : Aside _ := htag
 have S0 : Aside (∃ X1, X1.Perm (X.take 1) ∧ Sd (ltOf cf) tag X1 ∧ SWL enc k w0 blk off (A ++ (X1 ++ (X.drop 1 ++ C))) w) := by
  refine ⟨X.take 1, List.Perm.refl _, ?_, ?_⟩
  ·match X with
   | [] => exact List.Pairwise.nil
   | x :: l => simp [Sd]
  ·rw [← List.append_assoc (X.take 1), List.take_append_drop]; exact S
 clear S hcmp htag
 go_enter F, Try.ntmps57
 go_wp2
 go_loopg [8] (b + 1 - a) (fun g1 v8 wr => ∃ i : Nat, v8 = .int .i64 i ∧ a + 1 ≤ i ∧ i ≤ b + 1 ∧ b + 1 - i ≤ g1 ∧ (b < i → a = b) ∧ Aside (∃ X1, X1.Perm (X.take (i - a)) ∧ Sd (ltOf cf) tag X1 ∧ SWL enc k w0 blk off (A ++ (X1 ++ (X.drop (i - a) ++ C))) wr))
 case atStart =>
  refine ⟨a + 1, by go_num, by omega, by omega, by omega, by omega, ?_⟩
  rw [show a + 1 - a = 1 from by omega]; exact S0
 case round =>
  clear S0
  obtain ⟨i, rfl, hi1, hi2, hg1, hj0, S1⟩ := hrel
  by_cases hlt : i < b
  ·have hlti : (i : Int) < (b : Int) := by omega
   obtain ⟨X1, hperm, hsd, hS⟩ := S1.out
   have hj : i - a < X.length := by omega
   have hX1 : X1.length = i - a := by rw [hperm.length_eq, List.length_take]; omega
   obtain ⟨x, hx⟩ : ∃ x, X[i - a] = x := ⟨_, rfl⟩
   have hdrop : X.drop (i - a) = x :: X.drop (i - a + 1) := by rw [List.drop_eq_getElem_cons hj, hx]
   rw [hdrop] at hS
   have htagx : ∀ y ∈ X1, tag y < tag x := fun y hy => by
    have hy := hperm.mem_iff.1 hy
    have := HT.out
    rw [← List.take_append_drop (i - a) X, hdrop] at this
    exact (List.pairwise_append.1 this).2.2 y hy x (by simp)
   have hCl : (X.drop (i - a + 1)).length = X.length - (i - a + 1) := List.length_drop ..
   have hnext : ∀ (X2 : List α) (wx : World), X2.Perm (x :: X1) → Sd (ltOf cf) tag X2 → SWL enc k w0 blk off (A ++ (X2 ++ (X.drop (i - a + 1) ++ C))) wx → Aside (∃ X1, X1.Perm (X.take (i + 1 - a)) ∧ Sd (ltOf cf) tag X1 ∧ SWL enc k w0 blk off (A ++ (X1 ++ (X.drop (i + 1 - a) ++ C))) wx) := fun X2 wx h h2 h3 => by
    rw [show i + 1 - a = i - a + 1 from by omega]
    refine ⟨X2, ?_, h2, h3⟩
    rw [List.take_succ_eq_append_getElem hj, hx]
    exact h.trans (List.perm_append_comm (l₁ := [x]) |>.trans (hperm.append_right [x]))
   have S2 : Aside (∃ Y1 Y2, X1 = Y1 ++ Y2 ∧ Y1.length = i - a ∧ (∀ y ∈ Y2, ltOf cf x y = true) ∧ SWL enc k w0 blk off (A ++ (Y1 ++ (x :: (Y2 ++ (X.drop (i - a + 1) ++ C))))) wr) := ⟨X1, [], by simp, hX1, by simp, by simpa using hS⟩
   have HNX := Lib.hid hnext
   have HTX := Lib.hid htagx
   have HSD := Lib.hid hsd
   have HX1 := Lib.hid hX1
   clear hS hnext htagx hperm S1 hdrop hsd hx hX1 hj0
   generalize X.drop (i - a + 1) = Z at *
   go_wp2
   go_loopg [9] i (fun g2 v9 wr2 => ∃ q : Nat, v9 = .int .i64 q ∧ a ≤ q ∧ q ≤ i ∧ q ≤ g2 ∧ Aside (∃ Y1 Y2, X1 = Y1 ++ Y2 ∧ Y1.length = q - a ∧ (∀ y ∈ Y2, ltOf cf x y = true) ∧ SWL enc k w0 blk off (A ++ (Y1 ++ (x :: (Y2 ++ (Z ++ C))))) wr2))
   case atStart => exact ⟨i, rfl, by omega, Nat.le_refl _, Nat.le_refl _, S2⟩
   case round =>
    clear S2
    obtain ⟨q, rfl, hqa, hqi, hg2, S3⟩ := hrel
    obtain ⟨Y1, Y2, hY, hYl, hY2, hS⟩ := S3.out
    have hXl := HX1.out
    have hlenY : Y1.length + Y2.length = i - a := by rw [hY, List.length_append] at hXl; exact hXl
    have hDN : (A ++ (Y1 ++ (x :: (Y2 ++ (Z ++ C))))).length = N := by simp; omega
    by_cases hqa2 : a < q
    ·have hqaz : (a : Int) < (q : Int) := by omega
     obtain ⟨qp, rfl⟩ : ∃ qp, q = qp + 1 := ⟨q - 1, by omega⟩
     rcases List.eq_nil_or_concat Y1 with rfl | ⟨Z1, z, rfl⟩
     ·simp at hYl; omega
     rw [List.concat_eq_append] at *
     have hZ1 : Z1.length = qp - a := by simp at hYl; omega
     have hwp : IntKind.i64.wrap (qp : Int) = (qp : Int) := by rw [IntKind.wrap_i64]; omega
     have jz : (qp : Int) + 1 < (N : Int) := by omega
     have jz1 : (qp : Int) < (N : Int) := by omega
     have hjaz' : (a : Int) < (qp : Int) + 1 := by omega
     have p0 : (0 : Int) ≤ (qp : Int) + 1 := by omega
     have e0 : ((qp : Int) + 1).toNat = qp + 1 := by omega
     have hD : A ++ ((Z1 ++ [z]) ++ (x :: (Y2 ++ (Z ++ C)))) = (A ++ Z1) ++ z :: ([] ++ x :: (Y2 ++ (Z ++ C))) := by simp
     have hgx : (A ++ ((Z1 ++ [z]) ++ (x :: (Y2 ++ (Z ++ C))))).toArray[qp + 1]! = x := by
      rw [show A ++ ((Z1 ++ [z]) ++ (x :: (Y2 ++ (Z ++ C)))) = (A ++ (Z1 ++ [z])) ++ x :: (Y2 ++ (Z ++ C)) from by simp]
      exact get_at (by simp; omega)
     have hgz : (A ++ ((Z1 ++ [z]) ++ (x :: (Y2 ++ (Z ++ C))))).toArray[qp]! = z := by rw [hD]; exact get_at (by simp; omega)
     obtain ⟨lj, lp, hcg, hsg⟩ := cmp_facts (P := P) hS R hs hDN HC.out (qp + 1) qp x z (by omega) (by omega) hgx hgz
     by_cases hlv : cf x z < 0
     ·have hsw : swp (A ++ ((Z1 ++ [z]) ++ (x :: (Y2 ++ (Z ++ C))))).toArray (qp + 1) qp = (A ++ (Z1 ++ (x :: ((z :: Y2) ++ (Z ++ C))))).toArray := by
       rw [hD, swp_comm_at (by simp; omega) (by simp)]
       simp
      have HSW := Lib.hid (fun W (hW : SWL enc k w0 blk off (A ++ ((Z1 ++ [z]) ++ (x :: (Y2 ++ (Z ++ C))))) W) => swp_facts (P := P) hW R hs hDN (qp + 1) qp x z (by omega) (by omega) hgx hgz hsw)
      have hres : Aside (∀ W, SWL enc k w0 blk off (A ++ (Z1 ++ (x :: ((z :: Y2) ++ (Z ++ C))))) W → ∃ Y1 Y2, X1 = Y1 ++ Y2 ∧ Y1.length = qp - a ∧ (∀ y ∈ Y2, ltOf cf x y = true) ∧ SWL enc k w0 blk off (A ++ (Y1 ++ (x :: (Y2 ++ (Z ++ C))))) W) := fun W hW =>
       ⟨Z1, z :: Y2, by rw [hY]; simp, hZ1, fun y hy => by
        rcases List.mem_cons.1 hy with rfl | hy
        ·exact decide_eq_true hlv
        ·exact hY2 y hy, hW⟩
      have HSG := Lib.hid hsg
      clear hsg hgx hgz hD hS S3 hY hYl hY2 hXl hlenY hDN hsw hZ1
      go_wp2_with fail
      go_quiet_grown (first | (go_at_fn g; refine Calls.grown_of (hcg _ _)))
      have hS4 := HSG.out nq osq
      clear lj lp hcg
      generalize grow (wr.drewN nq) osq = wq at hS4 ⊢
      obtain ⟨cI, cJ, n1, n2, l1, l2, s1, s2, S5⟩ := HSW.out wq hS4
      clear hS4
      go_wp2_with fail
      go_big_region_o
      clear l1 l2 s1 s2
      generalize (wq.drew.setCells blk (off + (qp + 1) * k) cJ).setCells blk (off + qp * k) cI = w2 at S5 ⊢
      go_wp2
      go_roundg qp
      case measure => omega
      case rel => exact ⟨qp, by first | rfl | go_num, by omega, by omega, Nat.le_refl _, hres.out w2 S5.out⟩
     ·have hfin : Aside (∀ W, SWL enc k w0 blk off (A ++ ((Z1 ++ [z]) ++ (x :: (Y2 ++ (Z ++ C))))) W → Aside (∃ X1, X1.Perm (X.take (i + 1 - a)) ∧ Sd (ltOf cf) tag X1 ∧ SWL enc k w0 blk off (A ++ (X1 ++ (X.drop (i + 1 - a) ++ C))) W)) := fun W hW => by
       have hsd := HSD.out
       rw [hY] at hsd
       refine HNX.out ((Z1 ++ [z]) ++ x :: Y2) W ?_ (ins_done hO hsd hY2 (all_not_lt hO hsd.left (decide_eq_false (by omega))) fun y hy => HTX.out y (by rw [hY]; simp at hy ⊢; rcases hy with h | h <;> simp [h])) (by simpa using hW)
       rw [hY]; exact List.perm_middle
      have HSG := Lib.hid hsg
      clear hsg hgx hgz hD hS S3 hY hYl hY2 hXl hlenY hDN hZ1
      go_wp2_with fail
      go_quiet_grown (first | (go_at_fn g; refine Calls.grown_of (hcg _ _)))
      have S4 := hfin.out _ (HSG.out nq osq)
      clear lj lp hcg
      go_wp2
      go_roundg (b + 1 - (i + 1))
      case measure => omega
      case rel => exact ⟨i + 1, by go_num, by omega, by omega, Nat.le_refl _, by omega, S4⟩
    ·have hqe : q = a := by omega
     have hqaz : ¬ (a : Int) < (q : Int) := by omega
     have hqazd : decide ((q : Int) > (a : Int)) = false := decide_eq_false (by omega)
     have hY1 : Y1 = [] := List.eq_nil_of_length_eq_zero (by omega)
     subst hY1
     have hfin : Aside (∀ W, SWL enc k w0 blk off (A ++ ([] ++ (x :: (Y2 ++ (Z ++ C))))) W → Aside (∃ X1, X1.Perm (X.take (i + 1 - a)) ∧ Sd (ltOf cf) tag X1 ∧ SWL enc k w0 blk off (A ++ (X1 ++ (X.drop (i + 1 - a) ++ C))) W)) := fun W hW => by
      have hsd := HSD.out
      rw [hY] at hsd
      exact HNX.out ([] ++ x :: Y2) W (by rw [hY]; simp) (ins_done hO hsd hY2 (by simp) (by simp)) (by simpa using hW)
     have S4 : Aside _ := SWK.drew hS
     clear hS S3 hY hYl hY2 hXl hlenY hDN hqe
     go_wp2_with fail
     go_big_region_o
     have S5 := hfin.out _ S4.out
     all_goals go_wp2
     go_roundg (b + 1 - (i + 1))
     case measure => omega
     case rel => exact ⟨i + 1, by go_num, by omega, by omega, Nat.le_refl _, by omega, S5⟩
  ·have hltz : ¬ (i : Int) < (b : Int) := by omega
   have hfin : Aside (∃ X', X'.Perm X ∧ Sd (ltOf cf) tag X' ∧ SWL enc k w0 blk off (A ++ (X' ++ C)) wr) := by
    obtain ⟨X1, h1, h2, h3⟩ := S1.out
    rw [List.take_of_length_le (by omega)] at h1
    rw [List.drop_eq_nil_of_le (by omega)] at h3
    exact ⟨X1, h1, h2, h3⟩
   clear S1
   go_wp2
   go_end0
   exact ⟨rfl, hfin.out⟩
end Go.Proofs.Ytdchnaghmmhkhaa.Stab.Au
set_option linter.unusedVariables false
set_option linter.unusedSimpArgs false
namespace Go.Proofs.Ytdchnaghmmhkhaa.Stab.Au
open Go.Shelf Go.RowKit Go.Lib Go.Sort
set_option linter.unusedSectionVars false
variable {α : Type} [Inhabited α]
theorem split_at (X : List α) (t : Nat) (h : t ≤ X.length) : ∃ X1 X2, X = X1 ++ X2 ∧ X1.length = t := ⟨X.take t, X.drop t, (List.take_append_drop t X).symm, by rw [List.length_take]; omega⟩
theorem last_of {X1 X2 : List α} {p : α → Prop} (h : ∀ hh : X1.length - 1 < (X1 ++ X2).length, 0 < X1.length → p ((X1 ++ X2)[X1.length - 1])) : ∀ Z z, X1 = Z ++ [z] → p z := by
 rintro Z z rfl
 have := h (by simp <;> omega) (by simp)
 simpa using this
theorem first_of {X1 X2 : List α} {p : α → Prop} (h : ∀ hh : X1.length < (X1 ++ X2).length, p ((X1 ++ X2)[X1.length])) : ∀ z Z, X2 = z :: Z → p z := by
 rintro z Z rfl
 have := h (by simp)
 simpa using this
set_option maxHeartbeats 2000000 in
set_option maxRecDepth 1000000 in
theorem symMerge_left {P : Program} {k : Nat} (T : LT P k) (F : P.funcs[58]? = some Try.f58) (enc : α → List Value) (g : Nat) (cb : Array Value) (cf : α → α → Int) (tag : α → Nat) (hO : SWO (ltOf cf)) (blk off cap : Nat) (w0 w : World) (d0 : Array α)
 (eg : ∀ args w, (callFunc g args).run P w = .ok (.enter g args) w) (R : RowK enc k w0 blk off d0) (A Y C : List α) (x : α) (a m b N : Nat) (hcmp : CmpLays P g cb enc k cf blk off N w0) (ha : A.length = a) (hm : a + 1 = m) (hb : m + Y.length = b) (hN : b + C.length = N) (hs : d0.size = N)
 (hY : Sd (ltOf cf) tag Y) (htag : ∀ y ∈ Y, tag x < tag y) (S : SWL enc k w0 blk off (A ++ (x :: (Y ++ C))) w) (hsz : N < 4611686018427387904) :
 Calls P 58 #[.slice (some ⟨blk, off, none⟩) N cap, .int .i64 a, .int .i64 m, .int .i64 b, .func (.func g) #[] cb] w fun e w' => e = .returned (.tuple #[]) ∧ ∃ M, M.Perm (x :: Y) ∧ Sd (ltOf cf) tag M ∧ SWL enc k w0 blk off (A ++ (M ++ C)) w' := by
 have mixed := T.mixed; have t0 := T.t0; have a0 := T.a0; have z0 := T.z0; have v0 := T.v0; have t3 := T.t3; have a3 := T.a3; have z3 := T.z3; have v3 := T.v3; have t4 := T.t4; have a4 := T.a4; have z4 := T.z4; have v4 := T.v4; have t22 := T.t22; have a22 := T.a22; have z22 := T.z22; have v22 := T.v22; have t25 := T.t25; have a25 := T.a25; have z25 := T.z25; have v25 := T.v25; have t57 := T.t57; have a57 := T.a57; have z57 := T.z57; have v57 := T.v57; have aE := T.aE; have zE := T.zE
 have u3 := run_underlying T.t3; have u57 := run_underlying T.t57
 have HC : Aside _ := hcmp
 have HY : Aside _ := hY
 have HT : Aside _ := htag
 have S0 : Aside _ := S
 have hDN : (A ++ (x :: (Y ++ C))).length = N := by simp; omega
 have HDN := Lib.hid hDN
 have h1 : (m : Int) - (a : Int) = 1 := by omega
 have haN : (a : Int) < (N : Int) := by omega
 have haN' : a < N := by omega
 have hbN : b ≤ N := by omega
 clear S hcmp hY htag hDN
 go_enter F, Try.ntmps58
 go_wp2
 go_loopg [10, 11, 12] (b - m) (fun g1 v10 v11 _ wr => ∃ i j : Nat, v10 = .int .i64 i ∧ v11 = .int .i64 j ∧ m ≤ i ∧ i ≤ j ∧ j ≤ b ∧ j - i ≤ g1 ∧ Aside (SWL enc k w0 blk off (A ++ (x :: (Y ++ C))) wr) ∧ Aside ((∀ h : i - 1 - m < Y.length, m < i → ltOf cf Y[i - 1 - m] x = true) ∧ (∀ h : j - m < Y.length, ltOf cf Y[j - m] x = false)))
 case atStart => exact ⟨m, b, rfl, rfl, Nat.le_refl _, by omega, Nat.le_refl _, Nat.le_refl _, S0, ⟨fun _ h => absurd h (Nat.lt_irrefl _), fun h => by omega⟩⟩
 case round =>
  clear S0
  obtain ⟨i, j, rfl, rfl, hmi, hij, hjb, hg1, S1, I⟩ := hrel
  by_cases hlt : i < j
  ·have hlti : (i : Int) < (j : Int) := by omega
   obtain ⟨h, hh⟩ : ∃ h, (i + j) / 2 = h := ⟨_, rfl⟩
   have hh1 : i ≤ h := by omega
   have hh2 : h < j := by omega
   have hhY : h - m < Y.length := by omega
   have e0 : (((i : Int) + (j : Int)) / 2).toNat = h := by omega
   have p0 : (0 : Int) ≤ ((i : Int) + (j : Int)) / 2 := by omega
   have jz : ((i : Int) + (j : Int)) / 2 < (N : Int) := by omega
   have hgx : (A ++ (x :: (Y ++ C))).toArray[a]! = x := get_at ha
   have hgy : (A ++ (x :: (Y ++ C))).toArray[h]! = Y[h - m] := by
    rw [show A ++ (x :: (Y ++ C)) = (A ++ [x]) ++ (Y ++ C) from by simp, get_app (j := h - m) (by simp; omega) (by simp; omega), List.getElem_append_left hhY]
   obtain ⟨lj, lp, hcg, hsg⟩ := cmp_facts (P := P) S1.out R hs HDN.out HC.out h a Y[h - m] x (by omega) haN' hgy hgx
   have HSG := Lib.hid hsg
   have hhi : ((i : Int) + (j : Int)) / 2 = ((h : Nat) : Int) := by omega
   have HHI := Lib.hid hhi
   clear hsg hgx hgy S1 hhi
   by_cases hlv : cf Y[h - m] x < 0
   ·have I2 : Aside ((∀ h' : h + 1 - 1 - m < Y.length, m < h + 1 → ltOf cf Y[h + 1 - 1 - m] x = true) ∧ (∀ h' : j - m < Y.length, ltOf cf Y[j - m] x = false)) := ⟨fun h' _ => by simp only [Nat.add_sub_cancel]; exact decide_eq_true hlv, I.out.2⟩
    clear I hh
    generalize Y[h - m] = y at *
    go_wp2_with fail
    go_quiet_grown (first | (go_at_fn g; refine Calls.grown_of (hcg _ _)))
    have S4 : Aside _ := HSG.out nq osq
    clear lj lp hcg
    go_wp2
    go_roundg (j - (h + 1))
    case measure => omega
    case rel => exact ⟨h + 1, j, by rw [HHI.out]; go_num, rfl, by omega, by omega, hjb, Nat.le_refl _, S4, I2⟩
   ·have I2 : Aside ((∀ h' : i - 1 - m < Y.length, m < i → ltOf cf Y[i - 1 - m] x = true) ∧ (∀ h' : h - m < Y.length, ltOf cf Y[h - m] x = false)) := ⟨I.out.1, fun h' => decide_eq_false (by omega)⟩
    clear I hh
    generalize Y[h - m] = y at *
    go_wp2_with fail
    go_quiet_grown (first | (go_at_fn g; refine Calls.grown_of (hcg _ _)))
    have S4 : Aside _ := HSG.out nq osq
    clear lj lp hcg
    go_wp2
    go_roundg (h - i)
    case measure => omega
    case rel => exact ⟨i, h, rfl, by rw [HHI.out], hmi, hh1, by omega, Nat.le_refl _, S4, I2⟩
  ·obtain rfl : i = j := by omega
   have hltz : ¬ (i : Int) < (i : Int) := by omega
   obtain ⟨Y1, Y2, hYs, hY1⟩ := split_at Y (i - m) (by omega)
   have hfin : Aside (∀ W, SWL enc k w0 blk off (A ++ (Y1 ++ (x :: (Y2 ++ C)))) W → ∃ M, M.Perm (x :: Y) ∧ Sd (ltOf cf) tag M ∧ SWL enc k w0 blk off (A ++ (M ++ C)) W) := fun W hW => by
    have hsd : Sd (ltOf cf) tag Y := HY.out
    have hI := I.out
    have ht := HT.out
    rw [hYs] at hsd ht
    refine ⟨Y1 ++ x :: Y2, by rw [hYs]; exact List.perm_middle, ins_left hO hsd ?_ ?_ (fun y hy => ht y (by simp [hy])), by simpa using hW⟩
    ·intro y hy
     have hl := last_of (X1 := Y1) (X2 := Y2) (p := fun z => ltOf cf z x = true) fun hh h0 => by
      have := hI.1
      simp only [hYs] at this
      have := this (by simp; omega) (by omega)
      simpa [hY1, show i - 1 - m = i - m - 1 from by omega] using this
     rcases List.eq_nil_or_concat Y1 with rfl | ⟨Z, z, rfl⟩
     ·cases hy
     ·rw [List.concat_eq_append] at *
      exact all_lt_left hO (Sd.left hsd) (hl Z z rfl) y hy
    ·intro y hy
     have hl := first_of (X1 := Y1) (X2 := Y2) (p := fun z => ltOf cf z x = false) fun hh => by
      have := hI.2
      simp only [hYs] at this
      have := this (by omega)
      simpa [hY1] using this
     match Y2, hy with
     | z :: Z, hy => exact all_not_lt_right hO (Sd.right hsd) (hl z Z rfl) y hy
   have hS2 : SWL enc k w0 blk off (A ++ (Y1.take 0 ++ (x :: (Y1.drop 0 ++ (Y2 ++ C))))) wr := by
    have := S1.out
    rw [hYs] at this
    simpa using this
   have S2 : Aside _ := hS2
   clear hS2
   have hY12 : Y1.length + Y2.length = Y.length := by rw [hYs]; simp
   clear S1 I hYs
   go_wp2
   go_loopg [13] (i - 1 - a) (fun g2 v13 wr2 => ∃ q : Nat, v13 = .int .i64 q ∧ a ≤ q ∧ q + 1 ≤ i ∧ i - 1 - q ≤ g2 ∧ Aside (SWL enc k w0 blk off (A ++ (Y1.take (q - a) ++ (x :: (Y1.drop (q - a) ++ (Y2 ++ C))))) wr2))
   case atStart => exact ⟨a, rfl, Nat.le_refl _, by omega, Nat.le_refl _, by rw [Nat.sub_self]; exact S2⟩
   case round =>
    clear S2
    obtain ⟨q, rfl, hqa, hqi, hg2, S3⟩ := hrel
    by_cases hql : q + 1 < i
    ·have hqz : (q : Int) < (i : Int) - 1 := by omega
     have hq1 : q - a < Y1.length := by omega
     have hw1 : IntKind.i64.wrap ((q : Int) + 1) = (q : Int) + 1 := by rw [IntKind.wrap_i64]; omega
     have p0 : (0 : Int) ≤ (q : Int) + 1 := by omega
     have e0 : ((q : Int) + 1).toNat = q + 1 := by omega
     have jz : (q : Int) + 1 < (N : Int) := by omega
     have jz1 : (q : Int) < (N : Int) := by omega
     have hD : A ++ (Y1.take (q - a) ++ (x :: (Y1.drop (q - a) ++ (Y2 ++ C)))) = (A ++ Y1.take (q - a)) ++ x :: ([] ++ Y1[q - a] :: (Y1.drop (q - a + 1) ++ (Y2 ++ C))) := by
      rw [List.drop_eq_getElem_cons hq1]; simp only [List.append_assoc, List.cons_append, List.nil_append]
     have hl1 : (A ++ Y1.take (q - a)).length = q := by simp; omega
     have hgx : (A ++ (Y1.take (q - a) ++ (x :: (Y1.drop (q - a) ++ (Y2 ++ C))))).toArray[q]! = x := by rw [hD]; exact get_at hl1
     have hgy : (A ++ (Y1.take (q - a) ++ (x :: (Y1.drop (q - a) ++ (Y2 ++ C))))).toArray[q + 1]! = Y1[q - a] := by
      rw [hD, show (A ++ Y1.take (q - a)) ++ x :: ([] ++ Y1[q - a] :: (Y1.drop (q - a + 1) ++ (Y2 ++ C))) = ((A ++ Y1.take (q - a)) ++ [x]) ++ Y1[q - a] :: (Y1.drop (q - a + 1) ++ (Y2 ++ C)) from by simp only [List.append_assoc, List.cons_append, List.nil_append]]
      exact get_at (by rw [List.length_append, hl1]; rfl)
     have hsw : swp (A ++ (Y1.take (q - a) ++ (x :: (Y1.drop (q - a) ++ (Y2 ++ C))))).toArray q (q + 1) = (A ++ (Y1.take (q + 1 - a) ++ (x :: (Y1.drop (q + 1 - a) ++ (Y2 ++ C))))).toArray := by
      rw [hD, swp_at hl1 (by simp), show q + 1 - a = q - a + 1 from by omega, List.take_succ_eq_append_getElem hq1]
      simp only [List.append_assoc, List.cons_append, List.nil_append]
     have hlen : (A ++ (Y1.take (q - a) ++ (x :: (Y1.drop (q - a) ++ (Y2 ++ C))))).length = N := by simp; omega
     obtain ⟨cI, cJ, n1, n2, l1, l2, s1, s2, S5⟩ := swp_facts (P := P) S3.out R hs hlen q (q + 1) x Y1[q - a] (by omega) (by omega) hgx hgy hsw
     clear S3 hD hgx hgy hsw hlen hl1
     go_wp2_with fail
     go_big_region_o
     clear l1 l2 s1 s2
     generalize (wr.drew.setCells blk (off + q * k) cJ).setCells blk (off + (q + 1) * k) cI = w2 at S5 ⊢
     go_wp2
     go_roundg (i - 1 - (q + 1))
     case measure => omega
     case rel => exact ⟨q + 1, by go_num, by omega, by omega, Nat.le_refl _, S5⟩
    ·have hqe : q - a = Y1.length := by omega
     have hqz : ¬ (q : Int) < (i : Int) - 1 := by omega
     have S5 : Aside _ := hfin.out _ (by
      have := S3.out
      rw [hqe, List.take_length, List.drop_length, List.nil_append] at this
      exact this)
     clear S3
     go_wp2
     refine bodyPost_ret (results_none rfl _ _ _) rfl ⟨rfl, ?_⟩
     exact S5.out
end Go.Proofs.Ytdchnaghmmhkhaa.Stab.Au
set_option linter.unusedVariables false
set_option linter.unusedSimpArgs false
namespace Go.Proofs.Ytdchnaghmmhkhaa.Stab.Au
open Go.Shelf Go.RowKit Go.Lib Go.Sort
set_option linter.unusedSectionVars false
variable {α : Type} [Inhabited α]
set_option maxHeartbeats 2000000 in
set_option maxRecDepth 1000000 in
theorem symMerge_right {P : Program} {k : Nat} (T : LT P k) (F : P.funcs[58]? = some Try.f58) (enc : α → List Value) (g : Nat) (cb : Array Value) (cf : α → α → Int) (tag : α → Nat) (hO : SWO (ltOf cf)) (blk off cap : Nat) (w0 w : World) (d0 : Array α)
 (eg : ∀ args w, (callFunc g args).run P w = .ok (.enter g args) w) (R : RowK enc k w0 blk off d0) (A X C : List α) (x : α) (a m b N : Nat) (hcmp : CmpLays P g cb enc k cf blk off N w0) (ha : A.length = a) (hm : a + X.length = m) (hX2 : 2 ≤ X.length) (hb : m + 1 = b) (hN : b + C.length = N) (hs : d0.size = N)
 (hX : Sd (ltOf cf) tag X) (htag : ∀ y ∈ X, tag y < tag x) (S : SWL enc k w0 blk off (A ++ (X ++ (x :: C))) w) (hsz : N < 4611686018427387904) :
 Calls P 58 #[.slice (some ⟨blk, off, none⟩) N cap, .int .i64 a, .int .i64 m, .int .i64 b, .func (.func g) #[] cb] w fun e w' => e = .returned (.tuple #[]) ∧ ∃ M, M.Perm (X ++ [x]) ∧ Sd (ltOf cf) tag M ∧ SWL enc k w0 blk off (A ++ (M ++ C)) w' := by
 have mixed := T.mixed; have t0 := T.t0; have a0 := T.a0; have z0 := T.z0; have v0 := T.v0; have t3 := T.t3; have a3 := T.a3; have z3 := T.z3; have v3 := T.v3; have t4 := T.t4; have a4 := T.a4; have z4 := T.z4; have v4 := T.v4; have t22 := T.t22; have a22 := T.a22; have z22 := T.z22; have v22 := T.v22; have t25 := T.t25; have a25 := T.a25; have z25 := T.z25; have v25 := T.v25; have t57 := T.t57; have a57 := T.a57; have z57 := T.z57; have v57 := T.v57; have aE := T.aE; have zE := T.zE
 have u3 := run_underlying T.t3; have u57 := run_underlying T.t57
 have HC : Aside _ := hcmp
 have HX : Aside _ := hX
 have HT : Aside _ := htag
 have S0 : Aside _ := S
 have hDN : (A ++ (X ++ (x :: C))).length = N := by simp; omega
 have HDN := Lib.hid hDN
 have h0 : ((m : Int) - (a : Int) == 1) = false := by simp; omega
 have h1 : (b : Int) - (m : Int) = 1 := by omega
 have hmN : (m : Int) < (N : Int) := by omega
 have hmN' : m < N := by omega
 have hbN : b ≤ N := by omega
 clear S hcmp hX htag hDN
 go_enter F, Try.ntmps58
 go_wp2
 go_loopg [14, 15, 16] (m - a) (fun g1 v14 v15 _ wr => ∃ i j : Nat, v14 = .int .i64 i ∧ v15 = .int .i64 j ∧ a ≤ i ∧ i ≤ j ∧ j ≤ m ∧ j - i ≤ g1 ∧ Aside (SWL enc k w0 blk off (A ++ (X ++ (x :: C))) wr) ∧ Aside ((∀ h : i - 1 - a < X.length, a < i → ltOf cf x X[i - 1 - a] = false) ∧ (∀ h : j - a < X.length, ltOf cf x X[j - a] = true)))
 case atStart => exact ⟨a, m, rfl, rfl, Nat.le_refl _, by omega, Nat.le_refl _, Nat.le_refl _, S0, ⟨fun _ h => absurd h (Nat.lt_irrefl _), fun h => by omega⟩⟩
 case round =>
  clear S0
  obtain ⟨i, j, rfl, rfl, hmi, hij, hjb, hg1, S1, I⟩ := hrel
  by_cases hlt : i < j
  ·have hlti : (i : Int) < (j : Int) := by omega
   obtain ⟨h, hh⟩ : ∃ h, (i + j) / 2 = h := ⟨_, rfl⟩
   have hh1 : i ≤ h := by omega
   have hh2 : h < j := by omega
   have hhY : h - a < X.length := by omega
   have e0 : (((i : Int) + (j : Int)) / 2).toNat = h := by omega
   have p0 : (0 : Int) ≤ ((i : Int) + (j : Int)) / 2 := by omega
   have jz : ((i : Int) + (j : Int)) / 2 < (N : Int) := by omega
   have hgx : (A ++ (X ++ (x :: C))).toArray[m]! = x := by
    rw [← List.append_assoc]; exact get_at (by simp; omega)
   have hgy : (A ++ (X ++ (x :: C))).toArray[h]! = X[h - a] := by
    rw [get_app (j := h - a) (by omega) (by simp; omega), List.getElem_append_left hhY]
   obtain ⟨lj, lp, hcg, hsg⟩ := cmp_facts (P := P) S1.out R hs HDN.out HC.out m h x X[h - a] hmN' (by omega) hgx hgy
   have HSG := Lib.hid hsg
   have hhi : ((i : Int) + (j : Int)) / 2 = ((h : Nat) : Int) := by omega
   have HHI := Lib.hid hhi
   clear hsg hgx hgy S1 hhi
   by_cases hlv : cf x X[h - a] < 0
   ·have I2 : Aside ((∀ h' : i - 1 - a < X.length, a < i → ltOf cf x X[i - 1 - a] = false) ∧ (∀ h' : h - a < X.length, ltOf cf x X[h - a] = true)) := ⟨I.out.1, fun h' => decide_eq_true hlv⟩
    clear I hh
    generalize X[h - a] = y at *
    have hlvd : decide (cf x y < 0) = true := decide_eq_true hlv
    go_wp2_with fail
    go_quiet_grown (first | (go_at_fn g; refine Calls.grown_of (hcg _ _)))
    have S4 : Aside _ := HSG.out nq osq
    clear lj lp hcg
    go_wp2
    go_roundg (h - i)
    case measure => omega
    case rel => exact ⟨i, h, rfl, by rw [HHI.out], hmi, hh1, by omega, Nat.le_refl _, S4, I2⟩
   ·have I2 : Aside ((∀ h' : h + 1 - 1 - a < X.length, a < h + 1 → ltOf cf x X[h + 1 - 1 - a] = false) ∧ (∀ h' : j - a < X.length, ltOf cf x X[j - a] = true)) := ⟨fun h' _ => by simp only [Nat.add_sub_cancel]; exact decide_eq_false (by omega), I.out.2⟩
    clear I hh
    generalize X[h - a] = y at *
    have hlvd : decide (cf x y < 0) = false := decide_eq_false hlv
    go_wp2_with fail
    go_quiet_grown (first | (go_at_fn g; refine Calls.grown_of (hcg _ _)))
    have S4 : Aside _ := HSG.out nq osq
    clear lj lp hcg
    go_wp2
    go_roundg (j - (h + 1))
    case measure => omega
    case rel => exact ⟨h + 1, j, by rw [HHI.out]; go_num, rfl, by omega, by omega, hjb, Nat.le_refl _, S4, I2⟩
  ·obtain rfl : i = j := by omega
   have hltz : ¬ (i : Int) < (i : Int) := by omega
   obtain ⟨X1, X2, hXs, hX1⟩ := split_at X (i - a) (by omega)
   have hfin : Aside (∀ W, SWL enc k w0 blk off (A ++ (X1 ++ (x :: (X2 ++ C)))) W → ∃ M, M.Perm (X ++ [x]) ∧ Sd (ltOf cf) tag M ∧ SWL enc k w0 blk off (A ++ (M ++ C)) W) := fun W hW => by
    have hsd : Sd (ltOf cf) tag X := HX.out
    have hI := I.out
    have ht := HT.out
    rw [hXs] at hsd ht
    refine ⟨X1 ++ x :: X2, by rw [hXs]; exact List.perm_middle.trans (List.perm_append_comm (l₁ := [x])), ins_done hO hsd ?_ ?_ (fun y hy => ht y (by simp [hy])), by simpa using hW⟩
    ·intro y hy
     have hl := first_of (X1 := X1) (X2 := X2) (p := fun z => ltOf cf x z = true) fun hh => by
      have := hI.2
      simp only [hXs] at this
      have := this (by omega)
      simpa [hX1] using this
     match X2, hy with
     | z :: Z, hy => exact all_lt_right hO (Sd.right hsd) (hl z Z rfl) y hy
    ·intro y hy
     have hl := last_of (X1 := X1) (X2 := X2) (p := fun z => ltOf cf x z = false) fun hh h0 => by
      have := hI.1
      simp only [hXs] at this
      have := this (by simp; omega) (by omega)
      simpa [hX1, show i - 1 - a = i - a - 1 from by omega] using this
     rcases List.eq_nil_or_concat X1 with rfl | ⟨Z, z, rfl⟩
     ·cases hy
     ·rw [List.concat_eq_append] at *
      exact all_not_lt hO (Sd.left hsd) (hl Z z rfl) y hy
   have hX12 : X1.length + X2.length = X.length := by rw [hXs]; simp
   have hS2 : SWL enc k w0 blk off (A ++ (X1 ++ (X2.take (m - i) ++ (x :: (X2.drop (m - i) ++ C))))) wr := by
    have := S1.out
    rw [hXs] at this
    rw [List.take_of_length_le (by omega), List.drop_eq_nil_of_le (by omega)]
    simpa using this
   have S2 : Aside _ := hS2
   clear hS2
   clear S1 I hXs
   go_wp2
   go_loopg [17] (m - i) (fun g2 v17 wr2 => ∃ q : Nat, v17 = .int .i64 q ∧ i ≤ q ∧ q ≤ m ∧ q - i ≤ g2 ∧ Aside (SWL enc k w0 blk off (A ++ (X1 ++ (X2.take (q - i) ++ (x :: (X2.drop (q - i) ++ C))))) wr2))
   case atStart => exact ⟨m, rfl, hjb, Nat.le_refl _, Nat.le_refl _, S2⟩
   case round =>
    clear S2
    obtain ⟨q, rfl, hqa, hqi, hg2, S3⟩ := hrel
    by_cases hql : i < q
    ·obtain ⟨qp, rfl⟩ : ∃ qp, q = qp + 1 := ⟨q - 1, by omega⟩
     have hqz : (i : Int) < (qp : Int) + 1 := by omega
     have hq1 : qp - i < X2.length := by omega
     have hwp : IntKind.i64.wrap (qp : Int) = (qp : Int) := by rw [IntKind.wrap_i64]; omega
     have p0 : (0 : Int) ≤ (qp : Int) + 1 := by omega
     have e0 : ((qp : Int) + 1).toNat = qp + 1 := by omega
     have jz : (qp : Int) + 1 < (N : Int) := by omega
     have jz1 : (qp : Int) < (N : Int) := by omega
     have hD : A ++ (X1 ++ (X2.take (qp + 1 - i) ++ (x :: (X2.drop (qp + 1 - i) ++ C)))) = (A ++ (X1 ++ X2.take (qp - i))) ++ X2[qp - i] :: ([] ++ x :: (X2.drop (qp + 1 - i) ++ C)) := by
      rw [show qp + 1 - i = qp - i + 1 from by omega, List.take_succ_eq_append_getElem hq1]; simp only [List.append_assoc, List.cons_append, List.nil_append]
     have hl1 : (A ++ (X1 ++ X2.take (qp - i))).length = qp := by simp; omega
     have hgy : (A ++ (X1 ++ (X2.take (qp + 1 - i) ++ (x :: (X2.drop (qp + 1 - i) ++ C))))).toArray[qp]! = X2[qp - i] := by rw [hD]; exact get_at hl1
     have hgx : (A ++ (X1 ++ (X2.take (qp + 1 - i) ++ (x :: (X2.drop (qp + 1 - i) ++ C))))).toArray[qp + 1]! = x := by
      rw [hD, show (A ++ (X1 ++ X2.take (qp - i))) ++ X2[qp - i] :: ([] ++ x :: (X2.drop (qp + 1 - i) ++ C)) = ((A ++ (X1 ++ X2.take (qp - i))) ++ [X2[qp - i]]) ++ x :: (X2.drop (qp + 1 - i) ++ C) from by simp only [List.append_assoc, List.cons_append, List.nil_append]]
      exact get_at (by rw [List.length_append, hl1]; rfl)
     have hsw : swp (A ++ (X1 ++ (X2.take (qp + 1 - i) ++ (x :: (X2.drop (qp + 1 - i) ++ C))))).toArray (qp + 1) qp = (A ++ (X1 ++ (X2.take (qp - i) ++ (x :: (X2.drop (qp - i) ++ C))))).toArray := by
      rw [hD, swp_comm_at hl1 (by simp), List.drop_eq_getElem_cons hq1, show qp + 1 - i = qp - i + 1 from by omega]
      simp only [List.append_assoc, List.cons_append, List.nil_append]
     have hlen : (A ++ (X1 ++ (X2.take (qp + 1 - i) ++ (x :: (X2.drop (qp + 1 - i) ++ C))))).length = N := by simp; omega
     obtain ⟨cI, cJ, n1, n2, l1, l2, s1, s2, S5⟩ := swp_facts (P := P) S3.out R hs hlen (qp + 1) qp x X2[qp - i] (by omega) (by omega) hgx hgy hsw
     clear S3 hD hgx hgy hsw hlen hl1
     go_wp2_with fail
     go_big_region_o
     clear l1 l2 s1 s2
     generalize (wr.drew.setCells blk (off + (qp + 1) * k) cJ).setCells blk (off + qp * k) cI = w2 at S5 ⊢
     go_wp2
     go_roundg (qp - i)
     case measure => omega
     case rel => exact ⟨qp, by first | rfl | go_num, by omega, by omega, Nat.le_refl _, S5⟩
    ·have hqe : q - i = 0 := by omega
     have hqz : ¬ (i : Int) < (q : Int) := by omega
     have S5 : Aside _ := hfin.out _ (by
      have := S3.out
      rw [hqe, List.take_zero, List.drop_zero, List.nil_append] at this
      exact this)
     clear S3
     go_wp2
     refine bodyPost_ret (results_none rfl _ _ _) rfl ⟨rfl, ?_⟩
     exact S5.out
end Go.Proofs.Ytdchnaghmmhkhaa.Stab.Au
set_option linter.unusedVariables false
set_option linter.unusedSimpArgs false
namespace Go.Proofs.Ytdchnaghmmhkhaa.Stab.Au
open Go.Shelf Go.RowKit Go.Lib Go.Sort
set_option linter.unusedSectionVars false
variable {α : Type} [Inhabited α]
def Merges (P : Program) (enc : α → List Value) (k : Nat) (g : Nat) (cb : Array Value) (cf : α → α → Int) (tag : α → Nat) (blk off cap N : Nat) (w0 : World) (n : Nat) : Prop :=
 ∀ (A X Y C : List α) (a m b : Nat) (w : World), X.length + Y.length ≤ n → A.length = a → a + X.length = m → m + Y.length = b → b + C.length = N → X ≠ [] → Y ≠ [] → Sd (ltOf cf) tag X → Sd (ltOf cf) tag Y → Tl tag X Y → SWL enc k w0 blk off (A ++ (X ++ (Y ++ C))) w →
  Calls P 58 #[.slice (some ⟨blk, off, none⟩) N cap, .int .i64 a, .int .i64 m, .int .i64 b, .func (.func g) #[] cb] w fun e w' => e = .returned (.tuple #[]) ∧ ∃ M, M.Perm (X ++ Y) ∧ Sd (ltOf cf) tag M ∧ SWL enc k w0 blk off (A ++ (M ++ C)) w'
def Turns (P : Program) (enc : α → List Value) (k : Nat) (g : Nat) (cb : Array Value) (blk off cap N : Nat) (w0 : World) : Prop :=
 ∀ (A X Y C : List α) (a m b : Nat) (w : World), A.length = a → a + X.length = m → m + Y.length = b → b + C.length = N → X ≠ [] → Y ≠ [] → SWL enc k w0 blk off (A ++ (X ++ (Y ++ C))) w →
  Calls P 60 #[.slice (some ⟨blk, off, none⟩) N cap, .int .i64 a, .int .i64 m, .int .i64 b, .func (.func g) #[] cb] w fun e w' => e = .returned (.tuple #[]) ∧ SWL enc k w0 blk off (A ++ (Y ++ (X ++ C))) w'
def rightN : Nat → Code → Code
 | 0, c => c
 | n + 1, .seq _ b => rightN n b
 | _ + 1, c => c
noncomputable def mergeRest (n : Nat) : Code := rightN n (Try.f58.body.getD .skip)
set_option maxHeartbeats 1000000 in
set_option maxRecDepth 1000000 in
theorem merge_rest3 {P : Program} {k : Nat} (T : LT P k) (enc : α → List Value) (g : Nat) (cb : Array Value) (cf : α → α → Int) (tag : α → Nat) (blk off cap N nI : Nat) (w0 w : World)
 (e38 : ∀ args w, (callFunc 58 args).run P w = .ok (.enter 58 args) w)
 (HIH : Hid (Merges P enc k g cb cf tag blk off cap N w0 nI)) (A L1 L2 R1 R2 C : List α) (a s mid m e b : Nat) (ha : A.length = a) (hL1 : a + L1.length = s) (hL2 : s + L2.length = m) (hR1 : m + R1.length = e) (hR2 : e + R2.length = b) (hN : b + C.length = N)
 (hmid : s + R1.length = mid) (hn2 : L2.length + R2.length ≤ nI) (dL1 : Aside (Sd (ltOf cf) tag L1 ∧ Sd (ltOf cf) tag L2 ∧ Sd (ltOf cf) tag R1 ∧ Sd (ltOf cf) tag R2)) (dT : Aside (Tl tag L1 R1 ∧ Tl tag L2 R2))
 (S4 : Aside (∃ M1, M1.Perm (L1 ++ R1) ∧ Sd (ltOf cf) tag M1 ∧ SWL enc k w0 blk off (A ++ (M1 ++ (L2 ++ (R2 ++ C)))) w)) (Fin : World → Prop) (hfin : Aside (∀ M1 M2 W, M1.Perm (L1 ++ R1) → M2.Perm (L2 ++ R2) → Sd (ltOf cf) tag M1 → Sd (ltOf cf) tag M2 → SWL enc k w0 blk off (A ++ (M1 ++ (M2 ++ C))) W → Fin W))
 (Q : Exit → Act → World → Prop) (hQ : Hid (∀ (tmps : Array Value) W, Fin W → Q .normal ⟨tmps, []⟩ W)) (hbN : N < 4611686018427387904) (x5 x6 x7 x8 x9 x10 x11 x12 x13 x14 x15 x16 x17 x19 x21 x22 x23 x25 x26 x27 x28 x29 x30 x31 x32 x33 x34 x35 x36 x37 x38 x39 x40 x41 x42 x43 x44 x45 x46 x47 x48 x49 x50 x51 x52 x53 x54 x55 x56 x57 x58 x59 x60 x61 x62 x63 x64 x65 x66 x67 x68 x69 x70 x71 x72 x73 x74 x75 x76 x77 x78 x79 x80 x81 x82 x83 x84 x85 x86 x87 x88 x89 x90 x91 x92 x93 x94 x95 x96 x97 x98 x99 x100 x101 x102 x103 x104 x105 x106 x107 x108 x109 x110 x111 x112 x113 x114 x115 x116 x117 x118 x119 x120 x121 x122 x123 x124 x125 x126 x127 x128 x129 x130 x131 x132 x133 x134 x135 x136 x137 x138 x139 x140 x141 x142 x143 x144 x145 x146 x147 x148 x149 x150 x151 x152 x153 x154 x155 x156 x157 x158 x159 x160 x161 x162 x163 x164 x165 x166 x167 x168 x169 x170 x171 x172 x173 x174 x175 x176 x177 x178 x179 x180 x181 x182 x183 x184 x185 x186 x187 x188 x189 x190 x191 x192 x193 x194 x195 x196 x197 x198 x199 x200 x201 x202 x203 x204 x205 x206 x207 x208 x209 x210 x211 x212 x213 x214 x215 x216 x217 x218 x219 : Value) :
 Code.wp P (mergeRest 11) Q ⟨#[.slice (some ⟨blk, off, none⟩) N cap, .int .i64 a, .int .i64 m, .int .i64 b, .func (.func g) #[] cb, x5, x6, x7, x8, x9, x10, x11, x12, x13, x14, x15, x16, x17, .int .i64 mid, x19, .int .i64 s, x21, x22, x23, .int .i64 e, x25, x26, x27, x28, x29, x30, x31, x32, x33, x34, x35, x36, x37, x38, x39, x40, x41, x42, x43, x44, x45, x46, x47, x48, x49, x50, x51, x52, x53, x54, x55, x56, x57, x58, x59, x60, x61, x62, x63, x64, x65, x66, x67, x68, x69, x70, x71, x72, x73, x74, x75, x76, x77, x78, x79, x80, x81, x82, x83, x84, x85, x86, x87, x88, x89, x90, x91, x92, x93, x94, x95, x96, x97, x98, x99, x100, x101, x102, x103, x104, x105, x106, x107, x108, x109, x110, x111, x112, x113, x114, x115, x116, x117, x118, x119, x120, x121, x122, x123, x124, x125, x126, x127, x128, x129, x130, x131, x132, x133, x134, x135, x136, x137, x138, x139, x140, x141, x142, x143, x144, x145, x146, x147, x148, x149, x150, x151, x152, x153, x154, x155, x156, x157, x158, x159, x160, x161, x162, x163, x164, x165, x166, x167, x168, x169, x170, x171, x172, x173, x174, x175, x176, x177, x178, x179, x180, x181, x182, x183, x184, x185, x186, x187, x188, x189, x190, x191, x192, x193, x194, x195, x196, x197, x198, x199, x200, x201, x202, x203, x204, x205, x206, x207, x208, x209, x210, x211, x212, x213, x214, x215, x216, x217, x218, x219], []⟩ w := by
 have mixed := T.mixed; have t0 := T.t0; have a0 := T.a0; have z0 := T.z0; have v0 := T.v0; have t3 := T.t3; have a3 := T.a3; have z3 := T.z3; have v3 := T.v3; have t4 := T.t4; have a4 := T.a4; have z4 := T.z4; have v4 := T.v4; have t22 := T.t22; have a22 := T.a22; have z22 := T.z22; have v22 := T.v22; have t25 := T.t25; have a25 := T.a25; have z25 := T.z25; have v25 := T.v25; have t57 := T.t57; have a57 := T.a57; have z57 := T.z57; have v57 := T.v57; have aE := T.aE; have zE := T.zE
 have u3 := run_underlying T.t3; have u57 := run_underlying T.t57
 have hsz : s ≤ N := by omega
 have hez : e ≤ N := by omega
 have hmz : mid ≤ N := by omega
 conv => arg 2; whnf
 go_upto_region 43 with (fail)
 by_cases g1 : mid < e
 ·have g1z : (mid : Int) < (e : Int) := by omega
  by_cases g2 : e < b
  ·have g2z : (e : Int) < (b : Int) := by omega
   obtain ⟨M1, p1, d1, hS⟩ := S4.out
   have hM1 : a + M1.length = mid := by rw [p1.length_eq, List.length_append]; omega
   have hc := HIH.out (A ++ M1) L2 R2 C mid e b w hn2 (by simp; omega) (by omega) (by omega) hN (by intro h; rw [h] at hL2; simp at hL2; omega) (by intro h; rw [h] at hR2; simp at hR2; omega) dL1.out.2.1 dL1.out.2.2.2 dT.out.2 (by simpa using hS)
   have HCC := Lib.hid hc
   have P1 := Lib.hid p1
   have D1 : Aside _ := d1
   clear hc hS S4 p1 d1
   go_wp2_with (go_at_fn 58; refine HCC.out.mono ?_; rintro e2 w2 ⟨rfl, M2, p2, d2, hS2⟩; have S5 : Aside _ := hfin.out M1 M2 w2 P1.out p2 D1.out d2 (by simpa using hS2); clear p2 d2 hS2)
   exact hQ.out _ _ S5.out
  ·have g2z : ¬ (e : Int) < (b : Int) := by omega
   have hz : R2 = [] := List.eq_nil_of_length_eq_zero (by omega)
   obtain ⟨M1, p1, d1, hS⟩ := S4.out
   have S5 : Aside _ := hfin.out M1 (L2 ++ R2) w p1 (List.Perm.refl _) d1 (by rw [hz, List.append_nil]; exact dL1.out.2.1) (by simpa using hS)
   clear hS S4 p1 d1 hz
   go_wp2
   exact hQ.out _ _ S5.out
 ·have g1z : ¬ (mid : Int) < (e : Int) := by omega
  have hz : L2 = [] := List.eq_nil_of_length_eq_zero (by omega)
  obtain ⟨M1, p1, d1, hS⟩ := S4.out
  have S5 : Aside _ := hfin.out M1 (L2 ++ R2) w p1 (List.Perm.refl _) d1 (by rw [hz, List.nil_append]; exact dL1.out.2.2.2) (by simpa using hS)
  clear hS S4 p1 d1 hz
  go_wp2
  exact hQ.out _ _ S5.out
set_option maxHeartbeats 1000000 in
set_option maxRecDepth 1000000 in
theorem merge_rest2 {P : Program} {k : Nat} (T : LT P k) (enc : α → List Value) (g : Nat) (cb : Array Value) (cf : α → α → Int) (tag : α → Nat) (blk off cap N nI : Nat) (w0 w : World)
 (e38 : ∀ args w, (callFunc 58 args).run P w = .ok (.enter 58 args) w)
 (HIH : Hid (Merges P enc k g cb cf tag blk off cap N w0 nI)) (A L1 L2 R1 R2 C : List α) (a s mid m e b : Nat) (ha : A.length = a) (hL1 : a + L1.length = s) (hL2 : s + L2.length = m) (hR1 : m + R1.length = e) (hR2 : e + R2.length = b) (hN : b + C.length = N)
 (hmid : s + R1.length = mid) (hn1 : L1.length + R1.length ≤ nI) (hn2 : L2.length + R2.length ≤ nI) (dL1 : Aside (Sd (ltOf cf) tag L1 ∧ Sd (ltOf cf) tag L2 ∧ Sd (ltOf cf) tag R1 ∧ Sd (ltOf cf) tag R2)) (dT : Aside (Tl tag L1 R1 ∧ Tl tag L2 R2))
 (S3 : Aside (SWL enc k w0 blk off (A ++ (L1 ++ (R1 ++ (L2 ++ (R2 ++ C))))) w)) (Fin : World → Prop) (hfin : Aside (∀ M1 M2 W, M1.Perm (L1 ++ R1) → M2.Perm (L2 ++ R2) → Sd (ltOf cf) tag M1 → Sd (ltOf cf) tag M2 → SWL enc k w0 blk off (A ++ (M1 ++ (M2 ++ C))) W → Fin W))
 (Q : Exit → Act → World → Prop) (hQ : Hid (∀ (tmps : Array Value) W, Fin W → Q .normal ⟨tmps, []⟩ W)) (hbN : N < 4611686018427387904) (x5 x6 x7 x8 x9 x10 x11 x12 x13 x14 x15 x16 x17 x19 x21 x22 x23 x25 x26 x27 x28 x29 x30 x31 x32 x33 x34 x35 x36 x37 x38 x39 x40 x41 x42 x43 x44 x45 x46 x47 x48 x49 x50 x51 x52 x53 x54 x55 x56 x57 x58 x59 x60 x61 x62 x63 x64 x65 x66 x67 x68 x69 x70 x71 x72 x73 x74 x75 x76 x77 x78 x79 x80 x81 x82 x83 x84 x85 x86 x87 x88 x89 x90 x91 x92 x93 x94 x95 x96 x97 x98 x99 x100 x101 x102 x103 x104 x105 x106 x107 x108 x109 x110 x111 x112 x113 x114 x115 x116 x117 x118 x119 x120 x121 x122 x123 x124 x125 x126 x127 x128 x129 x130 x131 x132 x133 x134 x135 x136 x137 x138 x139 x140 x141 x142 x143 x144 x145 x146 x147 x148 x149 x150 x151 x152 x153 x154 x155 x156 x157 x158 x159 x160 x161 x162 x163 x164 x165 x166 x167 x168 x169 x170 x171 x172 x173 x174 x175 x176 x177 x178 x179 x180 x181 x182 x183 x184 x185 x186 x187 x188 x189 x190 x191 x192 x193 x194 x195 x196 x197 x198 x199 x200 x201 x202 x203 x204 x205 x206 x207 x208 x209 x210 x211 x212 x213 x214 x215 x216 x217 x218 x219 : Value) :
 Code.wp P (mergeRest 10) Q ⟨#[.slice (some ⟨blk, off, none⟩) N cap, .int .i64 a, .int .i64 m, .int .i64 b, .func (.func g) #[] cb, x5, x6, x7, x8, x9, x10, x11, x12, x13, x14, x15, x16, x17, .int .i64 mid, x19, .int .i64 s, x21, x22, x23, .int .i64 e, x25, x26, x27, x28, x29, x30, x31, x32, x33, x34, x35, x36, x37, x38, x39, x40, x41, x42, x43, x44, x45, x46, x47, x48, x49, x50, x51, x52, x53, x54, x55, x56, x57, x58, x59, x60, x61, x62, x63, x64, x65, x66, x67, x68, x69, x70, x71, x72, x73, x74, x75, x76, x77, x78, x79, x80, x81, x82, x83, x84, x85, x86, x87, x88, x89, x90, x91, x92, x93, x94, x95, x96, x97, x98, x99, x100, x101, x102, x103, x104, x105, x106, x107, x108, x109, x110, x111, x112, x113, x114, x115, x116, x117, x118, x119, x120, x121, x122, x123, x124, x125, x126, x127, x128, x129, x130, x131, x132, x133, x134, x135, x136, x137, x138, x139, x140, x141, x142, x143, x144, x145, x146, x147, x148, x149, x150, x151, x152, x153, x154, x155, x156, x157, x158, x159, x160, x161, x162, x163, x164, x165, x166, x167, x168, x169, x170, x171, x172, x173, x174, x175, x176, x177, x178, x179, x180, x181, x182, x183, x184, x185, x186, x187, x188, x189, x190, x191, x192, x193, x194, x195, x196, x197, x198, x199, x200, x201, x202, x203, x204, x205, x206, x207, x208, x209, x210, x211, x212, x213, x214, x215, x216, x217, x218, x219], []⟩ w := by
 have mixed := T.mixed; have t0 := T.t0; have a0 := T.a0; have z0 := T.z0; have v0 := T.v0; have t3 := T.t3; have a3 := T.a3; have z3 := T.z3; have v3 := T.v3; have t4 := T.t4; have a4 := T.a4; have z4 := T.z4; have v4 := T.v4; have t22 := T.t22; have a22 := T.a22; have z22 := T.z22; have v22 := T.v22; have t25 := T.t25; have a25 := T.a25; have z25 := T.z25; have v25 := T.v25; have t57 := T.t57; have a57 := T.a57; have z57 := T.z57; have v57 := T.v57; have aE := T.aE; have zE := T.zE
 have u3 := run_underlying T.t3; have u57 := run_underlying T.t57
 have hsz : s ≤ N := by omega
 have hez : e ≤ N := by omega
 have hmz : mid ≤ N := by omega
 conv => arg 2; whnf
 go_upto_region 41 with (fail)
 rename_i K aK K1 aK1
 have HK := Lib.hid aK
 clear aK
 by_cases g1 : a < s
 ·have g1z : (a : Int) < (s : Int) := by omega
  by_cases g2 : s < mid
  ·have g2z : (s : Int) < (mid : Int) := by omega
   have hc := HIH.out A L1 R1 (L2 ++ (R2 ++ C)) a s mid w hn1 ha hL1 hmid (by simp; omega) (by intro h; rw [h] at hL1; simp at hL1; omega) (by intro h; rw [h] at hmid; simp at hmid; omega) dL1.out.1 dL1.out.2.2.1 dT.out.1 S3.out
   have HCC := Lib.hid hc
   clear hc S3
   go_wp2_with (go_at_fn 58; refine HCC.out.mono ?_; rintro e2 w2 ⟨rfl, hS2⟩; have S4 : Aside _ := hS2; clear hS2)
   refine HK.out _ _ ?_
   exact merge_rest3 T enc g cb cf tag blk off cap N nI w0 _ e38 HIH A L1 L2 R1 R2 C a s mid m e b ha hL1 hL2 hR1 hR2 hN hmid hn2 dL1 dT S4 Fin hfin Q hQ hbN _ _ _ _ _ _ _ _ _ _ _ _ _ _ _ _ _ _ _ _ _ _ _ _ _ _ _ _ _ _ _ _ _ _ _ _ _ _ _ _ _ _ _ _ _ _ _ _ _ _ _ _ _ _ _ _ _ _ _ _ _ _ _ _ _ _ _ _ _ _ _ _ _ _ _ _ _ _ _ _ _ _ _ _ _ _ _ _ _ _ _ _ _ _ _ _ _ _ _ _ _ _ _ _ _ _ _ _ _ _ _ _ _ _ _ _ _ _ _ _ _ _ _ _ _ _ _ _ _ _ _ _ _ _ _ _ _ _ _ _ _ _ _ _ _ _ _ _ _ _ _ _ _ _ _ _ _ _ _ _ _ _ _ _ _ _ _ _ _ _ _ _ _ _ _ _ _ _ _ _ _ _ _ _ _ _ _ _ _ _ _ _ _ _ _ _ _ _ _ _ _ _ _ _ _ _ _ _ _ _ _ _
  ·have g2z : ¬ (s : Int) < (mid : Int) := by omega
   have hz : R1 = [] := List.eq_nil_of_length_eq_zero (by omega)
   have S4 : Aside (∃ M1, M1.Perm (L1 ++ R1) ∧ Sd (ltOf cf) tag M1 ∧ SWL enc k w0 blk off (A ++ (M1 ++ (L2 ++ (R2 ++ C)))) w) := ⟨L1 ++ R1, List.Perm.refl _, by rw [hz, List.append_nil]; exact dL1.out.1, by have := S3.out; simpa [SWL] using this⟩
   clear S3 hz
   go_wp2
   refine HK.out _ _ ?_
   exact merge_rest3 T enc g cb cf tag blk off cap N nI w0 _ e38 HIH A L1 L2 R1 R2 C a s mid m e b ha hL1 hL2 hR1 hR2 hN hmid hn2 dL1 dT S4 Fin hfin Q hQ hbN _ _ _ _ _ _ _ _ _ _ _ _ _ _ _ _ _ _ _ _ _ _ _ _ _ _ _ _ _ _ _ _ _ _ _ _ _ _ _ _ _ _ _ _ _ _ _ _ _ _ _ _ _ _ _ _ _ _ _ _ _ _ _ _ _ _ _ _ _ _ _ _ _ _ _ _ _ _ _ _ _ _ _ _ _ _ _ _ _ _ _ _ _ _ _ _ _ _ _ _ _ _ _ _ _ _ _ _ _ _ _ _ _ _ _ _ _ _ _ _ _ _ _ _ _ _ _ _ _ _ _ _ _ _ _ _ _ _ _ _ _ _ _ _ _ _ _ _ _ _ _ _ _ _ _ _ _ _ _ _ _ _ _ _ _ _ _ _ _ _ _ _ _ _ _ _ _ _ _ _ _ _ _ _ _ _ _ _ _ _ _ _ _ _ _ _ _ _ _ _ _ _ _ _ _ _ _ _ _ _ _ _
 ·have g1z : ¬ (a : Int) < (s : Int) := by omega
  have hz : L1 = [] := List.eq_nil_of_length_eq_zero (by omega)
  have S4 : Aside (∃ M1, M1.Perm (L1 ++ R1) ∧ Sd (ltOf cf) tag M1 ∧ SWL enc k w0 blk off (A ++ (M1 ++ (L2 ++ (R2 ++ C)))) w) := ⟨L1 ++ R1, List.Perm.refl _, by rw [hz, List.nil_append]; exact dL1.out.2.2.1, by have := S3.out; simpa [SWL] using this⟩
  clear S3 hz
  go_wp2
  refine HK.out _ _ ?_
  exact merge_rest3 T enc g cb cf tag blk off cap N nI w0 _ e38 HIH A L1 L2 R1 R2 C a s mid m e b ha hL1 hL2 hR1 hR2 hN hmid hn2 dL1 dT S4 Fin hfin Q hQ hbN _ _ _ _ _ _ _ _ _ _ _ _ _ _ _ _ _ _ _ _ _ _ _ _ _ _ _ _ _ _ _ _ _ _ _ _ _ _ _ _ _ _ _ _ _ _ _ _ _ _ _ _ _ _ _ _ _ _ _ _ _ _ _ _ _ _ _ _ _ _ _ _ _ _ _ _ _ _ _ _ _ _ _ _ _ _ _ _ _ _ _ _ _ _ _ _ _ _ _ _ _ _ _ _ _ _ _ _ _ _ _ _ _ _ _ _ _ _ _ _ _ _ _ _ _ _ _ _ _ _ _ _ _ _ _ _ _ _ _ _ _ _ _ _ _ _ _ _ _ _ _ _ _ _ _ _ _ _ _ _ _ _ _ _ _ _ _ _ _ _ _ _ _ _ _ _ _ _ _ _ _ _ _ _ _ _ _ _ _ _ _ _ _ _ _ _ _ _ _ _ _ _ _ _ _ _ _ _ _ _ _ _
set_option maxHeartbeats 1000000 in
set_option maxRecDepth 1000000 in
theorem merge_rest1 {P : Program} {k : Nat} (T : LT P k) (enc : α → List Value) (g : Nat) (cb : Array Value) (cf : α → α → Int) (tag : α → Nat) (blk off cap N nI : Nat) (w0 w : World)
 (e38 : ∀ args w, (callFunc 58 args).run P w = .ok (.enter 58 args) w)
 (e39 : ∀ args w, (callFunc 60 args).run P w = .ok (.enter 60 args) w) (HROT : Hid (Turns P enc k g cb blk off cap N w0)) (HIH : Hid (Merges P enc k g cb cf tag blk off cap N w0 nI)) (A L1 L2 R1 R2 C : List α) (a s mid m e b : Nat) (ha : A.length = a) (hL1 : a + L1.length = s) (hL2 : s + L2.length = m) (hR1 : m + R1.length = e) (hR2 : e + R2.length = b) (hN : b + C.length = N)
 (hmid : s + R1.length = mid) (hn1 : L1.length + R1.length ≤ nI) (hn2 : L2.length + R2.length ≤ nI) (dL1 : Aside (Sd (ltOf cf) tag L1 ∧ Sd (ltOf cf) tag L2 ∧ Sd (ltOf cf) tag R1 ∧ Sd (ltOf cf) tag R2)) (dT : Aside (Tl tag L1 R1 ∧ Tl tag L2 R2))
 (S2 : Aside (SWL enc k w0 blk off (A ++ (L1 ++ (L2 ++ (R1 ++ (R2 ++ C))))) w)) (Fin : World → Prop) (hfin : Aside (∀ M1 M2 W, M1.Perm (L1 ++ R1) → M2.Perm (L2 ++ R2) → Sd (ltOf cf) tag M1 → Sd (ltOf cf) tag M2 → SWL enc k w0 blk off (A ++ (M1 ++ (M2 ++ C))) W → Fin W))
 (Q : Exit → Act → World → Prop) (hQ : Hid (∀ (tmps : Array Value) W, Fin W → Q .normal ⟨tmps, []⟩ W)) (hbN : N < 4611686018427387904) (x5 x6 x7 x8 x9 x10 x11 x12 x13 x14 x15 x16 x17 x19 x21 x22 x23 x25 x26 x27 x28 x29 x30 x31 x32 x33 x34 x35 x36 x37 x38 x39 x40 x41 x42 x43 x44 x45 x46 x47 x48 x49 x50 x51 x52 x53 x54 x55 x56 x57 x58 x59 x60 x61 x62 x63 x64 x65 x66 x67 x68 x69 x70 x71 x72 x73 x74 x75 x76 x77 x78 x79 x80 x81 x82 x83 x84 x85 x86 x87 x88 x89 x90 x91 x92 x93 x94 x95 x96 x97 x98 x99 x100 x101 x102 x103 x104 x105 x106 x107 x108 x109 x110 x111 x112 x113 x114 x115 x116 x117 x118 x119 x120 x121 x122 x123 x124 x125 x126 x127 x128 x129 x130 x131 x132 x133 x134 x135 x136 x137 x138 x139 x140 x141 x142 x143 x144 x145 x146 x147 x148 x149 x150 x151 x152 x153 x154 x155 x156 x157 x158 x159 x160 x161 x162 x163 x164 x165 x166 x167 x168 x169 x170 x171 x172 x173 x174 x175 x176 x177 x178 x179 x180 x181 x182 x183 x184 x185 x186 x187 x188 x189 x190 x191 x192 x193 x194 x195 x196 x197 x198 x199 x200 x201 x202 x203 x204 x205 x206 x207 x208 x209 x210 x211 x212 x213 x214 x215 x216 x217 x218 x219 : Value) :
 Code.wp P (mergeRest 9) Q ⟨#[.slice (some ⟨blk, off, none⟩) N cap, .int .i64 a, .int .i64 m, .int .i64 b, .func (.func g) #[] cb, x5, x6, x7, x8, x9, x10, x11, x12, x13, x14, x15, x16, x17, .int .i64 mid, x19, .int .i64 s, x21, x22, x23, .int .i64 e, x25, x26, x27, x28, x29, x30, x31, x32, x33, x34, x35, x36, x37, x38, x39, x40, x41, x42, x43, x44, x45, x46, x47, x48, x49, x50, x51, x52, x53, x54, x55, x56, x57, x58, x59, x60, x61, x62, x63, x64, x65, x66, x67, x68, x69, x70, x71, x72, x73, x74, x75, x76, x77, x78, x79, x80, x81, x82, x83, x84, x85, x86, x87, x88, x89, x90, x91, x92, x93, x94, x95, x96, x97, x98, x99, x100, x101, x102, x103, x104, x105, x106, x107, x108, x109, x110, x111, x112, x113, x114, x115, x116, x117, x118, x119, x120, x121, x122, x123, x124, x125, x126, x127, x128, x129, x130, x131, x132, x133, x134, x135, x136, x137, x138, x139, x140, x141, x142, x143, x144, x145, x146, x147, x148, x149, x150, x151, x152, x153, x154, x155, x156, x157, x158, x159, x160, x161, x162, x163, x164, x165, x166, x167, x168, x169, x170, x171, x172, x173, x174, x175, x176, x177, x178, x179, x180, x181, x182, x183, x184, x185, x186, x187, x188, x189, x190, x191, x192, x193, x194, x195, x196, x197, x198, x199, x200, x201, x202, x203, x204, x205, x206, x207, x208, x209, x210, x211, x212, x213, x214, x215, x216, x217, x218, x219], []⟩ w := by
 have mixed := T.mixed; have t0 := T.t0; have a0 := T.a0; have z0 := T.z0; have v0 := T.v0; have t3 := T.t3; have a3 := T.a3; have z3 := T.z3; have v3 := T.v3; have t4 := T.t4; have a4 := T.a4; have z4 := T.z4; have v4 := T.v4; have t22 := T.t22; have a22 := T.a22; have z22 := T.z22; have v22 := T.v22; have t25 := T.t25; have a25 := T.a25; have z25 := T.z25; have v25 := T.v25; have t57 := T.t57; have a57 := T.a57; have z57 := T.z57; have v57 := T.v57; have aE := T.aE; have zE := T.zE
 have u3 := run_underlying T.t3; have u57 := run_underlying T.t57
 have hsz : s ≤ N := by omega
 have hez : e ≤ N := by omega
 have hmz : mid ≤ N := by omega
 conv => arg 2; whnf
 go_upto_region 39 with (fail)
 rename_i K aK K1 aK1
 have HK := Lib.hid aK
 clear aK
 by_cases g1 : s < m
 ·have g1z : (s : Int) < (m : Int) := by omega
  by_cases g2 : m < e
  ·have g2z : (m : Int) < (e : Int) := by omega
   have hc := HROT.out (A ++ L1) L2 R1 (R2 ++ C) s m e w (by simp; omega) hL2 hR1 (by simp; omega) (by intro h; rw [h] at hL2; simp at hL2; omega) (by intro h; rw [h] at hR1; simp at hR1; omega) (by have := S2.out; simpa [SWL] using this)
   have HCC := Lib.hid hc
   clear hc S2
   go_wp2_with (go_at_fn 60; refine HCC.out.mono ?_; rintro e2 w2 ⟨rfl, hS2⟩; have hS3 : SWL enc k w0 blk off (A ++ (L1 ++ (R1 ++ (L2 ++ (R2 ++ C))))) w2 := (by simpa [SWL] using hS2); have S3 : Aside _ := hS3; clear hS2 hS3)
   refine HK.out _ _ ?_
   exact merge_rest2 T enc g cb cf tag blk off cap N nI w0 _ e38 HIH A L1 L2 R1 R2 C a s mid m e b ha hL1 hL2 hR1 hR2 hN hmid hn1 hn2 dL1 dT S3 Fin hfin Q hQ hbN _ _ _ _ _ _ _ _ _ _ _ _ _ _ _ _ _ _ _ _ _ _ _ _ _ _ _ _ _ _ _ _ _ _ _ _ _ _ _ _ _ _ _ _ _ _ _ _ _ _ _ _ _ _ _ _ _ _ _ _ _ _ _ _ _ _ _ _ _ _ _ _ _ _ _ _ _ _ _ _ _ _ _ _ _ _ _ _ _ _ _ _ _ _ _ _ _ _ _ _ _ _ _ _ _ _ _ _ _ _ _ _ _ _ _ _ _ _ _ _ _ _ _ _ _ _ _ _ _ _ _ _ _ _ _ _ _ _ _ _ _ _ _ _ _ _ _ _ _ _ _ _ _ _ _ _ _ _ _ _ _ _ _ _ _ _ _ _ _ _ _ _ _ _ _ _ _ _ _ _ _ _ _ _ _ _ _ _ _ _ _ _ _ _ _ _ _ _ _ _ _ _ _ _ _ _ _ _ _ _ _ _
  ·have g2z : ¬ (m : Int) < (e : Int) := by omega
   have hz : R1 = [] := List.eq_nil_of_length_eq_zero (by omega)
   have S3 : Aside (SWL enc k w0 blk off (A ++ (L1 ++ (R1 ++ (L2 ++ (R2 ++ C))))) w) := by
    have hS := S2.out
    rw [hz] at hS ⊢
    exact hS
   clear S2 hz
   go_wp2
   refine HK.out _ _ ?_
   exact merge_rest2 T enc g cb cf tag blk off cap N nI w0 _ e38 HIH A L1 L2 R1 R2 C a s mid m e b ha hL1 hL2 hR1 hR2 hN hmid hn1 hn2 dL1 dT S3 Fin hfin Q hQ hbN _ _ _ _ _ _ _ _ _ _ _ _ _ _ _ _ _ _ _ _ _ _ _ _ _ _ _ _ _ _ _ _ _ _ _ _ _ _ _ _ _ _ _ _ _ _ _ _ _ _ _ _ _ _ _ _ _ _ _ _ _ _ _ _ _ _ _ _ _ _ _ _ _ _ _ _ _ _ _ _ _ _ _ _ _ _ _ _ _ _ _ _ _ _ _ _ _ _ _ _ _ _ _ _ _ _ _ _ _ _ _ _ _ _ _ _ _ _ _ _ _ _ _ _ _ _ _ _ _ _ _ _ _ _ _ _ _ _ _ _ _ _ _ _ _ _ _ _ _ _ _ _ _ _ _ _ _ _ _ _ _ _ _ _ _ _ _ _ _ _ _ _ _ _ _ _ _ _ _ _ _ _ _ _ _ _ _ _ _ _ _ _ _ _ _ _ _ _ _ _ _ _ _ _ _ _ _ _ _ _ _ _
 ·have g1z : ¬ (s : Int) < (m : Int) := by omega
  have hz : L2 = [] := List.eq_nil_of_length_eq_zero (by omega)
  have S3 : Aside (SWL enc k w0 blk off (A ++ (L1 ++ (R1 ++ (L2 ++ (R2 ++ C))))) w) := by
   have hS := S2.out
   rw [hz] at hS ⊢
   exact hS
  clear S2 hz
  go_wp2
  refine HK.out _ _ ?_
  exact merge_rest2 T enc g cb cf tag blk off cap N nI w0 _ e38 HIH A L1 L2 R1 R2 C a s mid m e b ha hL1 hL2 hR1 hR2 hN hmid hn1 hn2 dL1 dT S3 Fin hfin Q hQ hbN _ _ _ _ _ _ _ _ _ _ _ _ _ _ _ _ _ _ _ _ _ _ _ _ _ _ _ _ _ _ _ _ _ _ _ _ _ _ _ _ _ _ _ _ _ _ _ _ _ _ _ _ _ _ _ _ _ _ _ _ _ _ _ _ _ _ _ _ _ _ _ _ _ _ _ _ _ _ _ _ _ _ _ _ _ _ _ _ _ _ _ _ _ _ _ _ _ _ _ _ _ _ _ _ _ _ _ _ _ _ _ _ _ _ _ _ _ _ _ _ _ _ _ _ _ _ _ _ _ _ _ _ _ _ _ _ _ _ _ _ _ _ _ _ _ _ _ _ _ _ _ _ _ _ _ _ _ _ _ _ _ _ _ _ _ _ _ _ _ _ _ _ _ _ _ _ _ _ _ _ _ _ _ _ _ _ _ _ _ _ _ _ _ _ _ _ _ _ _ _ _ _ _ _ _ _ _ _ _ _ _ _
end Go.Proofs.Ytdchnaghmmhkhaa.Stab.Au
set_option linter.unusedVariables false
set_option linter.unusedSimpArgs false
namespace Go.Proofs.Ytdchnaghmmhkhaa.Stab.Au
open Go.Shelf Go.RowKit Go.Lib Go.Sort
set_option linter.unusedSectionVars false
variable {α : Type} [Inhabited α]
theorem nil_or_last (X : List α) : X = [] ∨ ∃ Z z, X = Z ++ [z] := by
 rcases List.eq_nil_or_concat X with h | ⟨Z, z, h⟩
 ·exact .inl h
 ·exact .inr ⟨Z, z, by rw [h, List.concat_eq_append]⟩
theorem cut_facts {cf : α → α → Int} {tag : α → Nat} (hO : SWO (ltOf cf)) {L1 L2 R1 R2 : List α} (hL : Sd (ltOf cf) tag (L1 ++ L2)) (hR : Sd (ltOf cf) tag (R1 ++ R2))
 (h1 : L2 = [] ∨ R1 = [] ∨ ∃ (h : R1.length - 1 < (R1 ++ R2).length) (h' : L1.length < (L1 ++ L2).length), ltOf cf (R1 ++ R2)[R1.length - 1] (L1 ++ L2)[L1.length] = true)
 (h2 : L1 = [] ∨ R2 = [] ∨ ∃ (h : R1.length < (R1 ++ R2).length) (h' : L1.length - 1 < (L1 ++ L2).length), ltOf cf (R1 ++ R2)[R1.length] (L1 ++ L2)[L1.length - 1] = false) :
 (∀ x ∈ R1, ∀ y ∈ L2, ltOf cf x y = true) ∧ (∀ x ∈ L1, ∀ y ∈ R2, ltOf cf y x = false) := by
 constructor
 ·intro x hx y hy
  rcases h1 with rfl | rfl | ⟨ha, hb, h⟩
  ·cases hy
  ·cases hx
  ·rcases nil_or_last R1 with rfl | ⟨Z, z, rfl⟩
   ·cases hx
   ·match L2, hy with
    | l :: l2, hy =>
     simp at h
     exact cross_lt hO (Sd.left hR) (Sd.right hL) h x hx y hy
 ·intro x hx y hy
  rcases h2 with rfl | rfl | ⟨ha, hb, h⟩
  ·cases hx
  ·cases hy
  ·rcases nil_or_last L1 with rfl | ⟨Z, z, rfl⟩
   ·cases hx
   ·match R2, hy with
    | r :: r2, hy =>
     simp at h
     exact cross_not hO (Sd.left hL) (Sd.right hR) h x hx y hy
set_option maxHeartbeats 4000000 in
set_option maxRecDepth 1000000 in
theorem symMerge_gen {P : Program} {k : Nat} (T : LT P k) (F1 : P.funcs[62]? = some Try.f62) (F2 : P.funcs[60]? = some Try.f60) (F : P.funcs[58]? = some Try.f58) (enc : α → List Value) (g : Nat) (cb : Array Value) (cf : α → α → Int) (tag : α → Nat) (hO : SWO (ltOf cf)) (blk off cap : Nat) (w0 w : World) (d0 : Array α)
 (eg : ∀ args w, (callFunc g args).run P w = .ok (.enter g args) w) (R : RowK enc k w0 blk off d0) (N nI : Nat) (IH : Merges P enc k g cb cf tag blk off cap N w0 nI) (A X Y C : List α) (a m b : Nat) (hcmp : CmpLays P g cb enc k cf blk off N w0) (hnI : X.length + Y.length ≤ nI + 1) (ha : A.length = a) (hm : a + X.length = m) (hX2 : 2 ≤ X.length) (hb : m + Y.length = b) (hY2 : 2 ≤ Y.length) (hN : b + C.length = N) (hs : d0.size = N)
 (hX : Sd (ltOf cf) tag X) (hY : Sd (ltOf cf) tag Y) (htag : Tl tag X Y) (S : SWL enc k w0 blk off (A ++ (X ++ (Y ++ C))) w) (hsz : N < 4611686018427387904) :
 Calls P 58 #[.slice (some ⟨blk, off, none⟩) N cap, .int .i64 a, .int .i64 m, .int .i64 b, .func (.func g) #[] cb] w fun e w' => e = .returned (.tuple #[]) ∧ ∃ M, M.Perm (X ++ Y) ∧ Sd (ltOf cf) tag M ∧ SWL enc k w0 blk off (A ++ (M ++ C)) w' := by
 have mixed := T.mixed; have t0 := T.t0; have a0 := T.a0; have z0 := T.z0; have v0 := T.v0; have t3 := T.t3; have a3 := T.a3; have z3 := T.z3; have v3 := T.v3; have t4 := T.t4; have a4 := T.a4; have z4 := T.z4; have v4 := T.v4; have t22 := T.t22; have a22 := T.a22; have z22 := T.z22; have v22 := T.v22; have t25 := T.t25; have a25 := T.a25; have z25 := T.z25; have v25 := T.v25; have t57 := T.t57; have a57 := T.a57; have z57 := T.z57; have v57 := T.v57; have aE := T.aE; have zE := T.zE
 have u3 := run_underlying T.t3; have u57 := run_underlying T.t57
 have e38 : ∀ args w, (callFunc 58 args).run P w = .ok (.enter 58 args) w := enters_of F (by kernel_rfl) rfl
 have e39 : ∀ args w, (callFunc 60 args).run P w = .ok (.enter 60 args) w := enters_of F2 (by kernel_rfl) rfl
 have HROT : Hid (Turns P enc k g cb blk off cap N w0) := Lib.hid (fun (A X Y C : List α) (a m b : Nat) (w : World) h1 h2 h3 h4 h5 h6 hS => rotate_any T F1 F2 enc g cb blk off cap w0 w d0 R A X Y C a m b N h1 h2 h3 h4 hs h5 h6 hS hsz)
 have HIH := Lib.hid IH
 have HC : Aside _ := hcmp
 have HX : Aside _ := hX
 have HY : Aside _ := hY
 have HT : Aside _ := htag
 have S0 : Aside _ := S
 have hDN : (A ++ (X ++ (Y ++ C))).length = N := by simp; omega
 have HDN := Lib.hid hDN
 obtain ⟨mid, hmd⟩ : ∃ mid, (a + b) / 2 = mid := ⟨_, rfl⟩
 obtain ⟨nn, hnn⟩ : ∃ nn, mid + m = nn := ⟨_, rfl⟩
 have q0 : ((m : Int) - (a : Int) == 1) = false := by simp; omega
 have q1 : ((b : Int) - (m : Int) == 1) = false := by simp; omega
 have q2 : ((a : Int) + (b : Int)) / 2 = (mid : Int) := by omega
 have q3 : (mid : Int) + (m : Int) = (nn : Int) := by omega
 obtain ⟨pn, hpn⟩ : ∃ pn, nn = pn + 1 := ⟨nn - 1, by omega⟩
 have q3b : (nn : Int) - 1 = (pn : Int) := by omega
 have HPN := Lib.hid hpn
 clear hpn
 have hbN : b ≤ N := by omega
 have hma : a < mid := by omega
 have hmb : mid < b := by omega
 have hml : 2 * mid ≤ a + b := by omega
 have hmh : a + b ≤ 2 * mid + 1 := by omega
 have hnb : nn ≤ 2 * N := by omega
 clear S hcmp hX hY htag hDN IH hmd
 go_enter F, Try.ntmps58
 go_upto_if 140 with (fail)
 go_cut [20, 21] (fun v20 v21 wc => wc = w ∧ ∃ s0 r0 : Nat, v20 = .int .i64 s0 ∧ v21 = .int .i64 r0 ∧ a ≤ s0 ∧ s0 ≤ r0 ∧ r0 ≤ m ∧ r0 ≤ mid ∧ nn ≤ b + s0 ∧ (s0 = a ∨ nn = b + s0) ∧ (r0 = m ∨ r0 = mid))
 case first =>
  by_cases hmm : mid < m
  ·have hmmz : (mid : Int) < (m : Int) := by omega
   have q4 : (nn : Int) - (b : Int) = ((nn - b : Nat) : Int) := by omega
   go_wp2
   go_meet
   case rel => exact ⟨rfl, nn - b, mid, by rw [← q4], rfl, by omega, by omega, by omega, Nat.le_refl _, by omega, .inr (by omega), .inr rfl⟩
  ·have hmmz : ¬ (mid : Int) < (m : Int) := by omega
   go_wp2
   go_meet
   case rel => exact ⟨rfl, a, m, rfl, rfl, Nat.le_refl _, by omega, Nat.le_refl _, by omega, by omega, .inl rfl, .inl rfl⟩
 case rest =>
  obtain ⟨rfl, s0, r0, rfl, rfl, j1, j2, j3, j4, j5, j6, j7⟩ := hcut
  go_wp2
  go_loopg [20, 21, 23] (r0 - s0) (fun g1 v20 v21 _ wr => ∃ s r : Nat, v20 = .int .i64 s ∧ v21 = .int .i64 r ∧ s0 ≤ s ∧ s ≤ r ∧ r ≤ r0 ∧ r - s ≤ g1 ∧ Aside (SWL enc k w0 blk off (A ++ (X ++ (Y ++ C))) wr) ∧
   Aside ((s0 < s → ∀ (h : nn - s - m < Y.length) (h' : s - 1 - a < X.length), ltOf cf Y[nn - s - m] X[s - 1 - a] = false) ∧ (r < r0 → ∀ (h : nn - 1 - r - m < Y.length) (h' : r - a < X.length), ltOf cf Y[nn - 1 - r - m] X[r - a] = true)))
  case atStart => exact ⟨s0, r0, rfl, rfl, Nat.le_refl _, j2, Nat.le_refl _, Nat.le_refl _, S0, ⟨fun h => absurd h (Nat.lt_irrefl _), fun h => absurd h (Nat.lt_irrefl _)⟩⟩
  case round =>
   clear S0
   obtain ⟨s, r, rfl, rfl, hss, hsr, hrr, hg1, S1, I⟩ := hrel
   by_cases hlt : s < r
   ·have hlti : (s : Int) < (r : Int) := by omega
    obtain ⟨c, hc⟩ : ∃ c, (s + r) / 2 = c := ⟨_, rfl⟩
    have hc1 : s ≤ c := by omega
    have hc2 : c < r := by omega
    have hcX : c - a < X.length := by omega
    have hcY : nn - 1 - c - m < Y.length := by omega
    have q4 : ((s : Int) + (r : Int)) / 2 = (c : Int) := by omega
    have hpn := HPN.out
    have q5 : (pn : Int) - (c : Int) = ((nn - 1 - c : Nat) : Int) := by omega
    have q6 : IntKind.i64.wrap ((nn - 1 - c : Nat) : Int) = ((nn - 1 - c : Nat) : Int) := by rw [IntKind.wrap_i64]; omega
    clear hpn
    have jz : nn - 1 - c < N := by omega
    have jz2 : c < N := by omega
    have hgx : (A ++ (X ++ (Y ++ C))).toArray[c]! = X[c - a] := by
     rw [get_app (j := c - a) (by omega) (by simp; omega), List.getElem_append_left hcX]
    have hgy : (A ++ (X ++ (Y ++ C))).toArray[nn - 1 - c]! = Y[nn - 1 - c - m] := by
     rw [← List.append_assoc, get_app (j := nn - 1 - c - m) (by simp; omega) (by simp; omega), List.getElem_append_left hcY]
    obtain ⟨lj, lp, hcg, hsg⟩ := cmp_facts (P := P) S1.out R hs HDN.out HC.out (nn - 1 - c) c Y[nn - 1 - c - m] X[c - a] jz jz2 hgy hgx
    have HSG := Lib.hid hsg
    clear hsg hgx hgy S1
    by_cases hlv : cf Y[nn - 1 - c - m] X[c - a] < 0
    ·have I2 : Aside ((s0 < s → ∀ (h : nn - s - m < Y.length) (h' : s - 1 - a < X.length), ltOf cf Y[nn - s - m] X[s - 1 - a] = false) ∧ (c < r0 → ∀ (h : nn - 1 - c - m < Y.length) (h' : c - a < X.length), ltOf cf Y[nn - 1 - c - m] X[c - a] = true)) := ⟨I.out.1, fun _ _ _ => decide_eq_true hlv⟩
     clear I hc
     generalize Y[nn - 1 - c - m] = y at *
     generalize X[c - a] = x at *
     generalize nn - 1 - c = c' at lj q5 q6 jz
     have hlvd : decide (cf y x < 0) = true := decide_eq_true hlv
     go_wp2_with fail
     go_quiet_grown (first | (go_at_fn g; refine Calls.grown_of (hcg _ _)))
     have S4 : Aside _ := HSG.out nq osq
     clear lj lp hcg
     go_wp2
     go_roundg (c - s)
     case measure => omega
     case rel => exact ⟨s, c, rfl, rfl, hss, hc1, by omega, Nat.le_refl _, S4, I2⟩
    ·have I2 : Aside ((s0 < c + 1 → ∀ (h : nn - (c + 1) - m < Y.length) (h' : c + 1 - 1 - a < X.length), ltOf cf Y[nn - (c + 1) - m] X[c + 1 - 1 - a] = false) ∧ (r < r0 → ∀ (h : nn - 1 - r - m < Y.length) (h' : r - a < X.length), ltOf cf Y[nn - 1 - r - m] X[r - a] = true)) :=
      ⟨fun _ h h' => by simp only [show nn - (c + 1) - m = nn - 1 - c - m from by omega, Nat.add_sub_cancel]; exact decide_eq_false hlv, I.out.2⟩
     clear I hc
     generalize Y[nn - 1 - c - m] = y at *
     generalize X[c - a] = x at *
     generalize nn - 1 - c = c' at lj q5 q6 jz
     have hlvd : decide (cf y x < 0) = false := decide_eq_false hlv
     go_wp2_with fail
     go_quiet_grown (first | (go_at_fn g; refine Calls.grown_of (hcg _ _)))
     have S4 : Aside _ := HSG.out nq osq
     clear lj lp hcg
     go_wp2
     go_roundg (r - (c + 1))
     case measure => omega
     case rel => exact ⟨c + 1, r, by go_num, rfl, by omega, by omega, hrr, Nat.le_refl _, S4, I2⟩
   ·obtain rfl : s = r := by omega
    have hltz : ¬ (s : Int) < (s : Int) := by omega
    obtain ⟨L1, L2, hXs, hL1⟩ := split_at X (s - a) (by omega)
    obtain ⟨e, he⟩ : ∃ e, nn - s = e := ⟨_, rfl⟩
    obtain ⟨R1, R2, hYs, hR1⟩ := split_at Y (e - m) (by omega)
    have hL12 : L1.length + L2.length = X.length := by rw [hXs]; simp
    have hR12 : R1.length + R2.length = Y.length := by rw [hYs]; simp
    have q4 : (nn : Int) - (s : Int) = (e : Int) := by omega
    have hcr : (∀ x ∈ R1, ∀ y ∈ L2, ltOf cf x y = true) ∧ (∀ x ∈ L1, ∀ y ∈ R2, ltOf cf y x = false) := by
     have hsdX : Sd (ltOf cf) tag X := HX.out
     have hsdY : Sd (ltOf cf) tag Y := HY.out
     have hI := I.out
     rw [hXs] at hsdX
     rw [hYs] at hsdY
     refine cut_facts hO hsdX hsdY ?_ ?_
     ·by_cases hr : s < r0
      ·by_cases hsm : s < mid
       ·refine .inr (.inr ⟨by simp; omega, by simp; omega, ?_⟩)
        have := hI.2 hr (by omega) (by omega)
        simp only [hXs, hYs] at this
        simpa [hL1, hR1, show nn - 1 - s - m = e - m - 1 from by omega] using this
       ·exact .inr (.inl (List.eq_nil_of_length_eq_zero (by omega)))
      ·rcases j7 with h | h
       ·exact .inl (List.eq_nil_of_length_eq_zero (by omega))
       ·exact .inr (.inl (List.eq_nil_of_length_eq_zero (by omega)))
     ·by_cases hr : s0 < s
      ·by_cases heb : e < b
       ·refine .inr (.inr ⟨by simp; omega, by simp; omega, ?_⟩)
        have := hI.1 hr (by omega) (by omega)
        simp only [hXs, hYs] at this
        simpa [hL1, hR1, show nn - s - m = e - m from by omega, show s - 1 - a = s - a - 1 from by omega] using this
       ·exact .inr (.inl (List.eq_nil_of_length_eq_zero (by omega)))
      ·rcases j6 with h | h
       ·exact .inl (List.eq_nil_of_length_eq_zero (by omega))
       ·exact .inr (.inl (List.eq_nil_of_length_eq_zero (by omega)))
    have hTL : Tl tag (L1 ++ L2) (R1 ++ R2) := by have := HT.out; rw [hXs, hYs] at this; exact this
    have hfin : Aside (∀ M1 M2 W, M1.Perm (L1 ++ R1) → M2.Perm (L2 ++ R2) → Sd (ltOf cf) tag M1 → Sd (ltOf cf) tag M2 → SWL enc k w0 blk off (A ++ (M1 ++ (M2 ++ C))) W → ∃ M, M.Perm (X ++ Y) ∧ Sd (ltOf cf) tag M ∧ SWL enc k w0 blk off (A ++ (M ++ C)) W) := fun M1 M2 W p1 p2 d1 d2 hW => by
     have hsdX : Sd (ltOf cf) tag X := HX.out
     have hsdY : Sd (ltOf cf) tag Y := HY.out
     rw [hXs] at hsdX
     rw [hYs] at hsdY
     refine ⟨M1 ++ M2, ?_, cut_done hO hsdX hsdY hTL p1 p2 d1 d2 hcr.1 hcr.2, by simpa using hW⟩
     rw [hXs, hYs]
     refine (p1.append p2).trans ?_
     simp only [List.append_assoc]
     refine List.Perm.append_left L1 ?_
     rw [← List.append_assoc, ← List.append_assoc]
     exact List.Perm.append_right R2 List.perm_append_comm
    have dL1 : Aside (Sd (ltOf cf) tag L1 ∧ Sd (ltOf cf) tag L2 ∧ Sd (ltOf cf) tag R1 ∧ Sd (ltOf cf) tag R2) := by
     have hsdX : Sd (ltOf cf) tag X := HX.out
     have hsdY : Sd (ltOf cf) tag Y := HY.out
     rw [hXs] at hsdX
     rw [hYs] at hsdY
     exact ⟨Sd.left hsdX, Sd.right hsdX, Sd.left hsdY, Sd.right hsdY⟩
    have dT : Aside (Tl tag L1 R1 ∧ Tl tag L2 R2) := ⟨fun x hx y hy => hTL x (by simp [hx]) y (by simp [hy]), fun x hx y hy => hTL x (by simp [hx]) y (by simp [hy])⟩
    have S2 : Aside (SWL enc k w0 blk off (A ++ (L1 ++ (L2 ++ (R1 ++ (R2 ++ C))))) wr) := by
     have : SWL enc k w0 blk off (A ++ (L1 ++ (L2 ++ (R1 ++ (R2 ++ C))))) wr := by
      have := S1.out
      rw [hXs, hYs] at this
      simpa using this
     exact this
    clear S1 I hXs hYs hcr hTL
    have hX12 : L1.length = s - a := hL1
    go_upto_region 38 with (fail)
    rename_i K2 aK2
    have HK2 := Lib.hid aK2
    clear aK2
    go_wp2
    refine HK2.out _ _ ?_
    refine merge_rest1 T enc g cb cf tag blk off cap N nI w0 _ e38 e39 HROT HIH A L1 L2 R1 R2 C a s mid m e b ha (by omega) (by omega) (by omega) (by omega) hN (by omega) (by omega) (by omega) dL1 dT S2 (fun W => ∃ M, M.Perm (X ++ Y) ∧ Sd (ltOf cf) tag M ∧ SWL enc k w0 blk off (A ++ (M ++ C)) W) hfin _ (Lib.hid fun tmps W hM => ?_) (by omega) _ _ _ _ _ _ _ _ _ _ _ _ _ _ _ _ _ _ _ _ _ _ _ _ _ _ _ _ _ _ _ _ _ _ _ _ _ _ _ _ _ _ _ _ _ _ _ _ _ _ _ _ _ _ _ _ _ _ _ _ _ _ _ _ _ _ _ _ _ _ _ _ _ _ _ _ _ _ _ _ _ _ _ _ _ _ _ _ _ _ _ _ _ _ _ _ _ _ _ _ _ _ _ _ _ _ _ _ _ _ _ _ _ _ _ _ _ _ _ _ _ _ _ _ _ _ _ _ _ _ _ _ _ _ _ _ _ _ _ _ _ _ _ _ _ _ _ _ _ _ _ _ _ _ _ _ _ _ _ _ _ _ _ _ _ _ _ _ _ _ _ _ _ _ _ _ _ _ _ _ _ _ _ _ _ _ _ _ _ _ _ _ _ _ _ _ _ _ _ _ _ _ _ _ _ _ _ _ _ _ _ _
    exact bodyPost_end (results_none rfl _ _ _) rfl ⟨rfl, hM⟩
end Go.Proofs.Ytdchnaghmmhkhaa.Stab.Au
set_option linter.unusedVariables false
set_option linter.unusedSimpArgs false
namespace Go.Proofs.Ytdchnaghmmhkhaa.Stab.Au
open Go.Shelf Go.RowKit Go.Lib Go.Sort
set_option linter.unusedSectionVars false
variable {α : Type} [Inhabited α]
inductive Bl (lt : α → α → Bool) (tag : α → Nat) (bs : Nat) : List α → List α → Prop
 | nil : Bl lt tag bs [] []
 | last (o s : List α) : s.Perm o → Sd lt tag s → o.length ≤ bs → Bl lt tag bs o s
 | cons (o s O S : List α) : s.Perm o → Sd lt tag s → o.length = bs → Bl lt tag bs O S → Bl lt tag bs (o ++ O) (s ++ S)
theorem Bl.len {lt : α → α → Bool} {tag : α → Nat} {bs : Nat} {O S : List α} (h : Bl lt tag bs O S) : O.length = S.length := by
 induction h with
 | nil => rfl
 | last o s hp _ _ => exact hp.length_eq.symm
 | cons o s O S hp _ _ _ ih => rw [List.length_append, List.length_append, ih, hp.length_eq]
theorem Bl.first {lt : α → α → Bool} {tag : α → Nat} {bs : Nat} {O S : List α} (h : Bl lt tag bs O S) (hl : bs ≤ S.length) (h0 : 0 < bs) : ∃ o s O' S', O = o ++ O' ∧ S = s ++ S' ∧ o.length = bs ∧ s.Perm o ∧ Sd lt tag s ∧ Bl lt tag bs O' S' := by
 cases h with
 | nil => simp at hl; omega
 | last _ _ hp hs ho => exact ⟨O, S, [], [], by simp, by simp, by have := hp.length_eq; omega, hp, hs, .nil⟩
 | cons o s O' S' hp hs ho h => exact ⟨o, s, O', S', rfl, rfl, ho, hp, hs, h⟩
theorem Bl.one {lt : α → α → Bool} {tag : α → Nat} {bs : Nat} {O S : List α} (h : Bl lt tag bs O S) (hl : S.length ≤ bs) (h0 : 0 < bs) : S.Perm O ∧ Sd lt tag S := by
 cases h with
 | nil => exact ⟨List.Perm.refl _, List.Pairwise.nil⟩
 | last _ _ hp hs ho => exact ⟨hp, hs⟩
 | cons o s O' S' hp hs ho h =>
  have h1 := hp.length_eq
  have h2 := h.len
  rw [List.length_append] at hl
  have e1 : S' = [] := List.eq_nil_of_length_eq_zero (by omega)
  have e2 : O' = [] := List.eq_nil_of_length_eq_zero (by omega)
  subst e1 e2
  simpa using ⟨hp, hs⟩
def Full (lt : α → α → Bool) (tag : α → Nat) (bs : Nat) (U0 U : List α) : Prop := U0.length = U.length ∧ ∀ V0 V, Bl lt tag bs V0 V → Bl lt tag bs (U0 ++ V0) (U ++ V)
theorem Full.nil (lt : α → α → Bool) (tag : α → Nat) (bs : Nat) : Full lt tag bs [] [] := ⟨rfl, fun _ _ h => h⟩
theorem Full.snoc {lt : α → α → Bool} {tag : α → Nat} {bs : Nat} {U0 U o s : List α} (h : Full lt tag bs U0 U) (hp : s.Perm o) (hs : Sd lt tag s) (ho : o.length = bs) : Full lt tag bs (U0 ++ o) (U ++ s) :=
 ⟨by rw [List.length_append, List.length_append, h.1, hp.length_eq], fun V0 V hv => by
  rw [List.append_assoc, List.append_assoc]
  exact h.2 _ _ (.cons o s V0 V hp hs ho hv)⟩
theorem merges_all {P : Program} {k : Nat} (T : LT P k) (F1 : P.funcs[62]? = some Try.f62) (F2 : P.funcs[60]? = some Try.f60) (F : P.funcs[58]? = some Try.f58) (enc : α → List Value) (g : Nat) (cb : Array Value) (cf : α → α → Int) (tag : α → Nat) (hO : SWO (ltOf cf)) (blk off cap : Nat) (w0 : World) (d0 : Array α)
 (eg : ∀ args w, (callFunc g args).run P w = .ok (.enter g args) w) (R : RowK enc k w0 blk off d0) (N : Nat) (hcmp : CmpLays P g cb enc k cf blk off N w0) (hs : d0.size = N) (hsz : N < 4611686018427387904) : ∀ n, Merges P enc k g cb cf tag blk off cap N w0 n := by
 intro n
 induction n with
 | zero =>
  intro A X Y C a m b w hn _ _ _ _ hX _ _ _ _ _
  exact absurd (List.eq_nil_of_length_eq_zero (by omega)) hX
 | succ n ih =>
  intro A X Y C a m b w hn ha hm hb hN hX hY dX dY hT hS
  have hx0 := List.length_pos_iff.2 hX
  have hy0 := List.length_pos_iff.2 hY
  by_cases h1 : X.length = 1
  ·match X, h1 with
   | [x], _ =>
    refine (symMerge_left T F enc g cb cf tag hO blk off cap w0 w d0 eg R A Y C x a m b N hcmp ha (by simpa using hm) hb hN hs dY (fun y hy => hT x (by simp) y hy) (by simpa using hS) hsz).mono ?_
    rintro e w' ⟨he, M, p, d, h⟩
    exact ⟨he, M, by simpa using p, d, h⟩
  ·by_cases h2 : Y.length = 1
   ·match Y, h2 with
    | [y], _ =>
     exact symMerge_right T F enc g cb cf tag hO blk off cap w0 w d0 eg R A X C y a m b N hcmp ha hm (by omega) (by simpa using hb) hN hs dX (fun x hx => hT x hx y (by simp)) (by simpa using hS) hsz
   ·exact symMerge_gen T F1 F2 F enc g cb cf tag hO blk off cap w0 w d0 eg R N n ih A X Y C a m b hcmp (by omega) ha hm (by omega) hb (by omega) hN hs dX dY hT hS hsz
set_option maxHeartbeats 2000000 in
set_option maxRecDepth 1000000 in
theorem stable_any {P : Program} {k : Nat} (T : LT P k) (F1 : P.funcs[62]? = some Try.f62) (F2 : P.funcs[60]? = some Try.f60) (F3 : P.funcs[58]? = some Try.f58) (F4 : P.funcs[57]? = some Try.f57)
 (F : P.funcs[54]? = some Try.f54) (enc : α → List Value) (g : Nat) (cb : Array Value) (cf : α → α → Int) (tag : α → Nat) (hO : SWO (ltOf cf)) (blk off cap : Nat) (w0 w : World) (d0 : Array α)
 (eg : ∀ args w, (callFunc g args).run P w = .ok (.enter g args) w) (R : RowK enc k w0 blk off d0) (D : List α) (N : Nat) (hcmp : CmpLays P g cb enc k cf blk off N w0) (hN : D.length = N) (hs : d0.size = N) (htag : D.Pairwise fun x y => tag x < tag y)
 (S : SWL enc k w0 blk off D w) (hsz : N < 1152921504606846976) :
 Calls P 54 #[.slice (some ⟨blk, off, none⟩) N cap, .int .i64 N, .func (.func g) #[] cb] w fun e w' => e = .returned (.tuple #[]) ∧ ∃ D', D'.Perm D ∧ Sd (ltOf cf) tag D' ∧ SWL enc k w0 blk off D' w' := by
 have mixed := T.mixed; have t0 := T.t0; have a0 := T.a0; have z0 := T.z0; have v0 := T.v0; have t3 := T.t3; have a3 := T.a3; have z3 := T.z3; have v3 := T.v3; have t4 := T.t4; have a4 := T.a4; have z4 := T.z4; have v4 := T.v4; have t22 := T.t22; have a22 := T.a22; have z22 := T.z22; have v22 := T.v22; have t25 := T.t25; have a25 := T.a25; have z25 := T.z25; have v25 := T.v25; have t57 := T.t57; have a57 := T.a57; have z57 := T.z57; have v57 := T.v57; have aE := T.aE; have zE := T.zE
 have u3 := run_underlying T.t3; have u57 := run_underlying T.t57
 have e37 : ∀ args w, (callFunc 57 args).run P w = .ok (.enter 57 args) w := enters_of F4 (by kernel_rfl) rfl
 have e38 : ∀ args w, (callFunc 58 args).run P w = .ok (.enter 58 args) w := enters_of F3 (by kernel_rfl) rfl
 have HINS := Lib.hid (fun (A X C : List α) (a b : Nat) (w : World) h1 h2 h3 h4 hS => insertion_any T F4 enc g cb cf tag hO blk off cap w0 w d0 eg R A X C a b N hcmp h1 h2 h3 hs h4 hS (by omega))
 have HM := Lib.hid (fun n => merges_all T F1 F2 F3 enc g cb cf tag hO blk off cap w0 d0 eg R N hcmp hs (by omega) n)
 have HT : Aside _ := htag
 have S0 : Aside (∃ U0 U V, D = U0 ++ V ∧ Full (ltOf cf) tag 20 U0 U ∧ U.length = 0 ∧ SWL enc k w0 blk off (U ++ V) w) := ⟨[], [], D, rfl, Full.nil _ _ _, rfl, S⟩
 clear S hcmp htag
 go_enter F, Try.ntmps54
 go_wp2
 go_loopg [7, 8] (N + 20) (fun g1 v7 v8 wr => ∃ a b : Nat, v7 = .int .i64 a ∧ v8 = .int .i64 b ∧ a + 20 ≤ b ∧ b ≤ a + 20 ∧ a ≤ N ∧ N + 20 - a ≤ g1 ∧ Aside (∃ U0 U V, D = U0 ++ V ∧ Full (ltOf cf) tag 20 U0 U ∧ U.length = a ∧ SWL enc k w0 blk off (U ++ V) wr))
 case atStart => exact ⟨0, 20, rfl, rfl, by omega, by omega, by omega, by omega, S0⟩
 case round =>
  clear S0
  obtain ⟨a, b, rfl, rfl, hb1, hb2, haN, hg1, S1⟩ := hrel
  obtain ⟨b2, hb3⟩ : ∃ b2, b + 20 = b2 := ⟨_, rfl⟩
  have hb20 : (b : Int) + 20 = (b2 : Int) := by omega
  have HB := Lib.hid hb3
  clear hb3
  by_cases hlt : b ≤ N
  ·have hltz : (b : Int) ≤ (N : Int) := by omega
   obtain ⟨U0, U, V, hD, hF, hU, hS⟩ := S1.out
   have hUV : U.length + V.length = N := by rw [← hN, hD, List.length_append, hF.1]
   have hVs := List.take_append_drop 20 V
   have h20 : (V.take 20).length = 20 := by rw [List.length_take]; omega
   have hc := HINS.out U (V.take 20) (V.drop 20) a b wr hU (by omega) (by rw [List.length_drop]; omega) (by
    have := HT.out
    rw [hD, ← hVs] at this
    exact (List.pairwise_append.1 (List.pairwise_append.1 this).2.1).1) (by rw [hVs]; exact hS)
   have HCC := Lib.hid hc
   have hnext : ∀ W X', X'.Perm (V.take 20) → Sd (ltOf cf) tag X' → SWL enc k w0 blk off (U ++ (X' ++ V.drop 20)) W → Aside (∃ U0 U V, D = U0 ++ V ∧ Full (ltOf cf) tag 20 U0 U ∧ U.length = b ∧ SWL enc k w0 blk off (U ++ V) W) := fun W X' p d h =>
    ⟨U0 ++ V.take 20, U ++ X', V.drop 20, by rw [List.append_assoc, hVs]; exact hD, hF.snoc p d h20, by rw [List.length_append, p.length_eq, h20]; omega, by rw [List.append_assoc]; exact h⟩
   have HNX := Lib.hid hnext
   clear hc hnext hS S1 hD hF hVs
   go_wp2_with (go_at_fn 57; refine HCC.out.mono ?_; rintro e w2 ⟨rfl, X', p, d, hS2⟩; have S2 := HNX.out w2 X' p d hS2; clear p d hS2)
   go_roundg (N + 20 - b)
   case measure => omega
   case rel => exact ⟨b, b2, rfl, rfl, (by have := HB.out; omega), (by have := HB.out; omega), hlt, Nat.le_refl _, S2⟩
  ·have hltz : ¬ (b : Int) ≤ (N : Int) := by omega
   obtain ⟨U0, U, V, hD, hF, hU, hS⟩ := S1.out
   have hUV : U.length + V.length = N := by rw [← hN, hD, List.length_append, hF.1]
   have hc := HINS.out U V [] a N wr hU (by omega) (by simp) (by
    have := HT.out
    rw [hD] at this
    exact (List.pairwise_append.1 this).2.1) (by simpa using hS)
   have HCC := Lib.hid hc
   have hnext : ∀ W X', X'.Perm V → Sd (ltOf cf) tag X' → SWL enc k w0 blk off (U ++ (X' ++ [])) W → Aside (∃ S, Bl (ltOf cf) tag 20 D S ∧ SWL enc k w0 blk off S W) := fun W X' p d h =>
    ⟨U ++ X', by rw [hD]; exact hF.2 _ _ (.last _ _ p d (by omega)), by simpa using h⟩
   have HNX := Lib.hid hnext
   clear hc hnext hS S1 hD hF
   go_wp2_with (go_at_fn 57; refine HCC.out.mono ?_; rintro e w2 ⟨rfl, X', p, d, hS2⟩; have S2 := HNX.out w2 X' p d hS2; clear p d hS2)
   clear hb20 HB hltz hUV hU HCC HNX hlt hb1 hb2 b2
   go_loopg [6, 7, 8, 9] (2 * N + 2) (fun g2 v6 _ _ _ wr => ∃ bs : Nat, v6 = .int .i64 bs ∧ 0 < bs ∧ bs ≤ 2 * N + 20 ∧ 2 * N + 20 - bs ≤ g2 + 18 ∧ Aside (∃ S, Bl (ltOf cf) tag bs D S ∧ SWL enc k w0 blk off S wr))
   case atStart => exact ⟨20, rfl, by omega, by omega, by omega, S2⟩
   case round =>
    clear S2
    obtain ⟨bs, rfl, hbs0, hbsN, hg2, S1⟩ := hrel
    by_cases hlt : bs < N
    ·have hltz : (bs : Int) < (N : Int) := by omega
     obtain ⟨bb, hbb⟩ : ∃ bb, 2 * bs = bb := ⟨_, rfl⟩
     have hr1 : (2 : Int) * (bs : Int) = (bb : Int) := by omega
     have hr2 : (bs : Int) * 2 = (bb : Int) := by omega
     have HB := Lib.hid hbb
     clear hbb
     have S3 : Aside (∃ U0 U V0 V, D = U0 ++ V0 ∧ Full (ltOf cf) tag bb U0 U ∧ U.length = 0 ∧ Bl (ltOf cf) tag bs V0 V ∧ SWL enc k w0 blk off (U ++ V) wr) := by
      obtain ⟨S, hS, hW⟩ := S1.out
      exact ⟨[], [], D, S, rfl, Full.nil _ _ _, rfl, hS, hW⟩
     clear S1
     go_wp2
     go_loopg [7, 8] (N + 1) (fun g3 v7 v8 wr => ∃ a b : Nat, v7 = .int .i64 a ∧ v8 = .int .i64 b ∧ a + bb ≤ b ∧ b ≤ a + bb ∧ a ≤ N ∧ N - a ≤ g3 ∧ Aside (∃ U0 U V0 V, D = U0 ++ V0 ∧ Full (ltOf cf) tag bb U0 U ∧ U.length = a ∧ Bl (ltOf cf) tag bs V0 V ∧ SWL enc k w0 blk off (U ++ V) wr))
     case atStart => exact ⟨0, bb, rfl, rfl, by omega, by omega, by omega, by omega, S3⟩
     case round =>
      clear S3
      obtain ⟨a, b, rfl, rfl, hb1, hb2, haN, hg3, S4⟩ := hrel
      obtain ⟨m, hm⟩ : ∃ m, a + bs = m := ⟨_, rfl⟩
      have hm1 : (a : Int) + (bs : Int) = (m : Int) := by omega
      have HMM := Lib.hid hm
      clear hm
      by_cases hbN : b ≤ N
      ·have hbz : (b : Int) ≤ (N : Int) := by omega
       obtain ⟨b2, hb3⟩ : ∃ b2, b + bb = b2 := ⟨_, rfl⟩
       have hb2z : (b : Int) + (bb : Int) = (b2 : Int) := by omega
       have HB2 := Lib.hid hb3
       clear hb3
       have hc : ∃ U0 U o1 o2 s1 s2 V0 V, D = U0 ++ (o1 ++ (o2 ++ V0)) ∧ Full (ltOf cf) tag bb U0 U ∧ U.length = a ∧ o1.length = bs ∧ o2.length = bs ∧ s1.Perm o1 ∧ s2.Perm o2 ∧ Sd (ltOf cf) tag s1 ∧ Sd (ltOf cf) tag s2 ∧ Bl (ltOf cf) tag bs V0 V ∧ SWL enc k w0 blk off (U ++ (s1 ++ (s2 ++ V))) wr := by
        obtain ⟨U0, U, V0, V, hD, hF, hU, hBl, hS⟩ := S4.out
        have e1 := HB.out
        have hl := hBl.len
        have hDN : U0.length + V0.length = N := by rw [← hN, hD, List.length_append]
        have hUU := hF.1
        obtain ⟨o1, s1, V1, W1, rfl, rfl, ho1, p1, d1, hB1⟩ := hBl.first (by omega) hbs0
        have hq1 := p1.length_eq
        have hl1 := hB1.len
        rw [List.length_append, List.length_append] at hl
        rw [List.length_append] at hDN
        obtain ⟨o2, s2, V2, W2, rfl, rfl, ho2, p2, d2, hB2⟩ := hB1.first (by omega) hbs0
        exact ⟨U0, U, o1, o2, s1, s2, V2, W2, hD, hF, hU, ho1, ho2, p1, p2, d1, d2, hB2, hS⟩
       clear S4
       obtain ⟨U0, U, o1, o2, s1, s2, V0, V, hD, hF, hU, ho1, ho2, p1, p2, d1, d2, hBl, hS⟩ := hc
       have hc := HM.out (s1.length + s2.length) U s1 s2 V a m b wr (Nat.le_refl _) hU (by have := HMM.out; have := p1.length_eq; omega) (by have := HMM.out; have := HB.out; have := p2.length_eq; omega) (by
        have e1 := HB.out
        have e2 := hBl.len
        have e3 := hF.1
        have e4 : U0.length + (o1.length + (o2.length + V0.length)) = N := by rw [← hN, hD, List.length_append, List.length_append, List.length_append]
        omega) (by intro h; rw [h] at p1; have := p1.length_eq; simp at this; omega) (by intro h; rw [h] at p2; have := p2.length_eq; simp at this; omega) d1 d2 (by
        have h1 := HT.out
        rw [hD] at h1
        have h2 := (List.pairwise_append.1 (List.pairwise_append.1 h1).2.1).2.2
        exact Tl.perm (fun x hx y hy => h2 x hx y (List.mem_append_left _ hy)) p1 p2) hS
       have HCC := Lib.hid hc
       have hnext : ∀ W M, M.Perm (s1 ++ s2) → Sd (ltOf cf) tag M → SWL enc k w0 blk off (U ++ (M ++ V)) W → Aside (∃ U0 U V0 V, D = U0 ++ V0 ∧ Full (ltOf cf) tag bb U0 U ∧ U.length = b ∧ Bl (ltOf cf) tag bs V0 V ∧ SWL enc k w0 blk off (U ++ V) W) := fun W M p d h =>
        ⟨U0 ++ (o1 ++ o2), U ++ M, V0, V, by rw [hD]; simp only [List.append_assoc], hF.snoc (p.trans (List.Perm.append p1 p2)) d (by rw [List.length_append, ho1, ho2]; have := HB.out; omega), by
         have e1 := HB.out
         rw [List.length_append, p.length_eq, List.length_append, p1.length_eq, p2.length_eq]; omega, hBl, by rw [List.append_assoc]; exact h⟩
       have HNX := Lib.hid hnext
       clear hc hnext hS hD hF hU p1 p2 d1 d2 hBl
       go_wp2_with (go_at_fn 58; refine HCC.out.mono ?_; rintro e w2 ⟨rfl, M, p, d, hS2⟩; have S5 := HNX.out w2 M p d hS2; clear p d hS2)
       go_roundg (N - b)
       case measure => omega
       case rel => exact ⟨b, b2, rfl, rfl, (by have := HB2.out; omega), (by have := HB2.out; omega), hbN, Nat.le_refl _, S5⟩
      ·have hbz : ¬ (b : Int) ≤ (N : Int) := by omega
       by_cases hmN : m < N
       ·have hmz : (m : Int) < (N : Int) := by omega
        have hc : ∃ U0 U o1 o2 s1 s2, D = U0 ++ (o1 ++ o2) ∧ Full (ltOf cf) tag bb U0 U ∧ U.length = a ∧ o1.length = bs ∧ o2.length ≤ bs ∧ o2 ≠ [] ∧ s1.Perm o1 ∧ s2.Perm o2 ∧ Sd (ltOf cf) tag s1 ∧ Sd (ltOf cf) tag s2 ∧ SWL enc k w0 blk off (U ++ (s1 ++ (s2 ++ []))) wr := by
         obtain ⟨U0, U, V0, V, hD, hF, hU, hBl, hS⟩ := S4.out
         have e1 := HB.out
         have e2 := HMM.out
         have hl := hBl.len
         have hDN : U0.length + V0.length = N := by rw [← hN, hD, List.length_append]
         have hUU := hF.1
         obtain ⟨o1, s1, V1, W1, rfl, rfl, ho1, p1, d1, hB1⟩ := hBl.first (by omega) hbs0
         have hq1 := p1.length_eq
         have hl1 := hB1.len
         rw [List.length_append, List.length_append] at hl
         rw [List.length_append] at hDN
         obtain ⟨p2, d2⟩ := hB1.one (by omega) hbs0
         exact ⟨U0, U, o1, V1, s1, W1, hD, hF, hU, ho1, by omega, (by intro h; rw [h] at hDN; simp at hDN; omega), p1, p2, d1, d2, by simpa using hS⟩
        clear S4
        obtain ⟨U0, U, o1, o2, s1, s2, hD, hF, hU, ho1, ho2, hne, p1, p2, d1, d2, hS⟩ := hc
        have hc := HM.out (s1.length + s2.length) U s1 s2 [] a m N wr (Nat.le_refl _) hU (by have := HMM.out; have := p1.length_eq; omega) (by
         have e1 := HMM.out
         have e2 := p2.length_eq
         have e3 := hF.1
         have e4 : U0.length + (o1.length + o2.length) = N := by rw [← hN, hD, List.length_append, List.length_append]
         omega) rfl (by intro h; rw [h] at p1; have := p1.length_eq; simp at this; omega) (by intro h; rw [h] at p2; exact hne (List.eq_nil_of_length_eq_zero (by have := p2.length_eq; simpa using this.symm))) d1 d2 (by
         have h1 := HT.out
         rw [hD] at h1
         exact Tl.perm (List.pairwise_append.1 (List.pairwise_append.1 h1).2.1).2.2 p1 p2) hS
        have HCC := Lib.hid hc
        have hnext : ∀ W M, M.Perm (s1 ++ s2) → Sd (ltOf cf) tag M → SWL enc k w0 blk off (U ++ (M ++ [])) W → Aside (∃ S, Bl (ltOf cf) tag bb D S ∧ SWL enc k w0 blk off S W) := fun W M p d h =>
         ⟨U ++ M, by rw [hD]; exact hF.2 _ _ (.last _ _ (p.trans (List.Perm.append p1 p2)) d (by rw [List.length_append]; have := HB.out; omega)), by simpa using h⟩
        have HNX := Lib.hid hnext
        clear hc hnext hS hD hF hU p1 p2 d1 d2 hne
        go_wp2_with (go_at_fn 58; refine HCC.out.mono ?_; rintro e w2 ⟨rfl, M, p, d, hS2⟩; have S5 := HNX.out w2 M p d hS2; clear p d hS2)
        go_roundg (2 * N + 2 - bb)
        case measure => have := HB.out; omega
        case rel => exact ⟨bb, rfl, (by have := HB.out; omega), (by have := HB.out; omega), (by have := HB.out; omega), S5⟩
       ·have hmz : ¬ (m : Int) < (N : Int) := by omega
        have S5 : Aside (∃ S, Bl (ltOf cf) tag bb D S ∧ SWL enc k w0 blk off S wr) := by
         obtain ⟨U0, U, V0, V, hD, hF, hU, hBl, hS⟩ := S4.out
         have e1 := HB.out
         have e2 := HMM.out
         have hl := hBl.len
         have hDN : U0.length + V0.length = N := by rw [← hN, hD, List.length_append]
         have hUU := hF.1
         obtain ⟨p2, d2⟩ := hBl.one (by omega) hbs0
         exact ⟨U ++ V, by rw [hD]; exact hF.2 _ _ (.last _ _ p2 d2 (by omega)), hS⟩
        clear S4
        go_wp2
        go_roundg (2 * N + 2 - bb)
        case measure => have := HB.out; omega
        case rel => exact ⟨bb, rfl, (by have := HB.out; omega), (by have := HB.out; omega), (by have := HB.out; omega), S5⟩
    ·have hltz : ¬ (bs : Int) < (N : Int) := by omega
     obtain ⟨S, hS, hW⟩ := S1.out
     have hl := hS.len
     obtain ⟨p, d⟩ := hS.one (by omega) hbs0
     have HE : Aside (∃ D', D'.Perm D ∧ Sd (ltOf cf) tag D' ∧ SWL enc k w0 blk off D' wr) := ⟨S, p, d, hW⟩
     clear S1 hS hW p d
     go_wp2
     go_end0
     exact ⟨rfl, HE.out⟩
set_option maxHeartbeats 2000000 in
set_option maxRecDepth 1000000 in
theorem sortStable_any {P : Program} {k : Nat} (T : LT P k) (F1 : P.funcs[62]? = some Try.f62) (F2 : P.funcs[60]? = some Try.f60) (F3 : P.funcs[58]? = some Try.f58) (F4 : P.funcs[57]? = some Try.f57)
 (F5 : P.funcs[54]? = some Try.f54) (F : P.funcs[50]? = some Try.f50) (enc : α → List Value) (g : Nat) (cb : Array Value) (cf : α → α → Int) (tag : α → Nat) (hO : SWO (ltOf cf)) (blk off cap : Nat) (w0 : World)
 (eg : ∀ args w, (callFunc g args).run P w = .ok (.enter g args) w) (D : List α) (R : RowK enc k w0 blk off D.toArray) (hcmp : CmpLays P g cb enc k cf blk off D.length w0) (htag : D.Pairwise fun x y => tag x < tag y)
 (hsz : D.length < 1152921504606846976) :
 Calls P 50 #[.slice (some ⟨blk, off, none⟩) D.length cap, .func (.func g) #[] cb] w0 fun e w' => e = .returned (.tuple #[]) ∧ ∃ D', D'.Perm D ∧ Sd (ltOf cf) tag D' ∧ SWL enc k w0 blk off D' w' := by
 have mixed := T.mixed; have t0 := T.t0; have a0 := T.a0; have z0 := T.z0; have v0 := T.v0; have t3 := T.t3; have a3 := T.a3; have z3 := T.z3; have v3 := T.v3; have t4 := T.t4; have a4 := T.a4; have z4 := T.z4; have v4 := T.v4; have t22 := T.t22; have a22 := T.a22; have z22 := T.z22; have v22 := T.v22; have t25 := T.t25; have a25 := T.a25; have z25 := T.z25; have v25 := T.v25; have t57 := T.t57; have a57 := T.a57; have z57 := T.z57; have v57 := T.v57; have aE := T.aE; have zE := T.zE
 have u3 := run_underlying T.t3; have u57 := run_underlying T.t57
 have e34 : ∀ args w, (callFunc 54 args).run P w = .ok (.enter 54 args) w := enters_of F5 (by kernel_rfl) rfl
 have S0 : SWL enc k w0 blk off D w0 := ⟨0, #[], by unfold sortWorldK; rw [grow_empty]; exact (putRowK_self enc k w0 blk off _ R.hH).symm⟩
 obtain ⟨N, hN⟩ : ∃ N, D.length = N := ⟨_, rfl⟩
 have hc := stable_any T F1 F2 F3 F4 F5 enc g cb cf tag hO blk off cap w0 w0 D.toArray eg R D N (hN ▸ hcmp) hN (by simpa using hN) htag S0 (by omega)
 have HCC := Lib.hid hc
 clear hc S0 hcmp htag
 rw [hN]
 go_enter F, Try.ntmps50
 go_wp2_with (go_at_fn 54; refine HCC.out.mono ?_; rintro e w2 ⟨rfl, D', p, d, hS2⟩; have HE : Aside (∃ D', D'.Perm D ∧ Sd (ltOf cf) tag D' ∧ SWL enc k w0 blk off D' w2) := ⟨D', p, d, hS2⟩; clear p d hS2)
 go_end0
 exact ⟨rfl, HE.out⟩
end Go.Proofs.Ytdchnaghmmhkhaa.Stab.Au
set_option linter.unusedVariables false
set_option linter.unusedSimpArgs false
namespace Go.Proofs.Ytdchnaghmmhkhaa.Stab.Au
open Go.Shelf Go.RowKit Go.Lib Go.Sort Go.Proofs.Ytdchnaghmmhkhaa.RowAt
set_option linter.unusedSectionVars false
structure LU (P : Program) (k : Nat) (z : Array Value) (bytes : Nat) (i0 : TypeInfo) : Prop where
 t42 : P.underlying 74 = some (TypeDesc.func #[55] #[4] false)
 a42 : ∀ w, (isAgg 74).run P w = .ok false w
 z42 : ∀ w, (Go.sizeOf 74).run P w = .ok 1 w
 v42 : ∀ w, (zeroValue 74).run P w = .ok (Value.nilFunc) w
 vE : ∀ w, (zeroValue 55).run P w = .ok (Value.agg z) w
 hz : z.size = k
 hz1 : ∀ v ∈ z, v.oneCell' = true
 hk : 0 < k
 hi : P.info? 55 = some i0
 hi0 : i0.zero = some (Value.agg z)
 hi1 : i0.size = k
 hi2 : i0.bytes = bytes
variable {α : Type} [Inhabited α]
def PredB (P : Program) (g : Nat) (cb : Array Value) (enc : α → List Value) (p : α → Bool) : Prop :=
 ∀ (W : World) (x : α), Calls P g (#[.agg (enc x).toArray] ++ cb) W fun e w' => e = .returned (.bool (p x)) ∧ Below W.heap.size W w'
set_option maxHeartbeats 1000000 in
set_option maxRecDepth 1000000 in
theorem indexFunc_any {P : Program} {k bytes : Nat} {z : Array Value} {i0 : TypeInfo} (T : LT P k) (U : LU P k z bytes i0) (F : P.funcs[47]? = some Try.f47) (enc : α → List Value) (hk : ∀ x, (enc x).length = k) (p : α → Bool) (g : Nat) (cb : Array Value) (eg : ∀ args w, (callFunc g args).run P w = .ok (.enter g args) w)
 (blk off cap : Nat) (D : List α) (w : World) (hp : PredB P g cb enc p) (R : Row enc k w blk off D) (hblk : blk < w.heap.size) (hsz : D.length < 1152921504606846976) :
 Calls P 47 #[.slice (some ⟨blk, off, none⟩) D.length cap, .func (.func g) #[] cb] w fun e w' => ((e = .returned (.int .i64 (-1)) ∧ ∀ x ∈ D, p x = false) ∨ ∃ A x C, D = A ++ x :: C ∧ e = .returned (.int .i64 A.length) ∧ p x = true ∧ ∀ y ∈ A, p y = false) ∧ Below w.heap.size w w' := by
 have mixed := T.mixed; have t0 := T.t0; have a0 := T.a0; have z0 := T.z0; have v0 := T.v0; have t3 := T.t3; have a3 := T.a3; have z3 := T.z3; have v3 := T.v3; have t4 := T.t4; have a4 := T.a4; have z4 := T.z4; have v4 := T.v4; have t22 := T.t22; have a22 := T.a22; have z22 := T.z22; have v22 := T.v22; have t42 := U.t42; have a42 := U.a42; have z42 := U.z42; have v42 := U.v42; have aE := T.aE; have zE := T.zE
 have u3 := run_underlying T.t3
 obtain ⟨N, hN⟩ : ∃ N, D.length = N := ⟨_, rfl⟩
 have HN := Lib.hid hN
 have HR : Aside (Row enc k w blk off D) := R
 have HP : Aside (PredB P g cb enc p) := hp
 rw [hN] at hsz ⊢
 clear R hp hN
 go_enter F, Try.ntmps47
 go_wp2
 go_loopg [5, 8] N (fun gg _ s8 wr => ∃ kk : Nat, s8 = .int .i64 kk ∧ kk ≤ N ∧ N - kk ≤ gg ∧ Aside (Below w.heap.size w wr) ∧ Aside (∀ y ∈ D.take kk, p y = false))
 case atStart => exact ⟨0, rfl, by omega, by omega, Below.refl _ w, fun y hy => by simp at hy⟩
 case round =>
  obtain ⟨kk, rfl, hkk, hg, BW, A⟩ := hrel
  by_cases hlt : kk < N
  ·have hltz : (kk : Int) < (N : Int) := by omega
   have hD : D[kk]? = some (D[kk]'(by rw [HN.out]; exact hlt)) := List.getElem?_eq_getElem _
   generalize (D[kk]'(by rw [HN.out]; exact hlt)) = y at hD
   have l2 := (HR.out.below BW.out hblk).load hk P hD
   have hcall := HP.out wr y
   have hsplit : D = D.take kk ++ y :: D.drop (kk + 1) := by
    obtain ⟨h1, h2⟩ := List.getElem?_eq_some_iff.1 hD
    rw [← h2, ← List.drop_eq_getElem_cons h1, List.take_append_drop]
   have HSP := Lib.hid hsplit
   have hnn : (enc y).length = k := hk y
   clear hsplit hD
   generalize henc : enc y = ce at l2 hcall hnn
   clear henc
   cases hq : p y with
   | true =>
    rw [hq] at hcall
    go_wp2_with (go_at_fn g; refine hcall.mono ?_; rintro e w' ⟨rfl, hb'⟩)
    go_ret
    refine ⟨.inr ⟨D.take kk, y, D.drop (kk + 1), HSP.out, ?_, hq, A.out⟩, BW.out.trans (hb'.mono BW.out.size)⟩
    rw [List.length_take, HN.out, Nat.min_eq_left (by omega)]
    rfl
   | false =>
    rw [hq] at hcall
    go_wp2_with (go_at_fn g; refine hcall.mono ?_; rintro e w' ⟨rfl, hb'⟩)
    go_roundg (N - (kk + 1))
    case measure => omega
    case rel =>
     refine ⟨kk + 1, by go_num, by omega, Nat.le_refl _, BW.out.trans (hb'.mono BW.out.size), (show Aside _ from fun x hx => ?_)⟩
     have h2 := HSP.out
     rw [h2, List.take_append, List.length_take, HN.out, Nat.min_eq_left (by omega), show kk + 1 - kk = 1 by omega, List.take_of_length_le (by rw [List.length_take]; omega)] at hx
     rcases List.mem_append.1 hx with hx | hx
     ·exact A.out x hx
     ·have : x = y := by simpa using hx
      rw [this]; exact hq
  ·have hltz : ¬ (kk : Int) < (N : Int) := by omega
   have hkN : kk = N := by omega
   subst hkN
   go_wp2
   go_ret
   exact ⟨.inl ⟨rfl, fun x hx => A.out x (by rw [List.take_of_length_le (by rw [HN.out]; exact Nat.le_refl _)]; exact hx)⟩, BW.out⟩
set_option maxHeartbeats 1000000 in
set_option maxRecDepth 1000000 in
theorem clone_any {P : Program} {k bytes : Nat} {z : Array Value} {i0 : TypeInfo} (T : LT P k) (U : LU P k z bytes i0) (F : P.funcs[40]? = some Try.f40) (ad : Addr) (n c : Nat) (news : List Value) (w : World) (hl : news.length = n * k) (hn : n ≤ maxLen) (hbig : n * bytes ≤ 140737488355328)
 (hc : ∀ j u, news[j]? = some u → w.cell? (ad.add j) = some u) (h1 : ∀ u ∈ news, u.oneCell' = true) :
 Calls P 40 #[.slice (some ad) n c] w fun e w' => ∃ v', e = .returned v' ∧ w'.ownsRow w.heap.size 55 k v' n news ∧ v' ≠ .slice none 0 0 ∧ Below w.heap.size w w' := by
 have mixed := T.mixed; have t4 := T.t4; have a4 := T.a4; have z4 := T.z4; have v4 := T.v4; have t22 := T.t22; have a22 := T.a22; have z22 := T.z22; have v22 := T.v22; have zE := T.zE
 have q22 : ∀ (w : World) (a : Option Addr) (n c n' c' : Nat), (binOp .eql 51 (.slice a n c) (.slice none n' c')).run P w = .ok (.bool a.isNone) w := fun w a n c n' c' => Lib.run_eql_slice_nil w _ _ a n c n' c' T.t22
 have u22 : ∀ w, Sem.run P (underlying 51) w = .ok (TypeDesc.slice 55) w := run_underlying t22
 have A : Aside (∀ j u, news[j]? = some u → w.cell? (ad.add j) = some u) := hc
 have hzs : (Value.agg z).cells.size = k := U.hz
 clear hc
 go_enter F, Try.ntmps40
 go_wp2_with (at_builtin; refine wpList_append_own _ rfl _ _ 51 rfl w.heap.size 55 i0 (Value.agg z) k bytes t22 U.hi U.hi0 U.hi1 U.hi2 hzs U.hk _ _ _ rfl (World.ownsRow_made w #[] 0 (Nat.le_refl _) (Nat.zero_le _) (by simp)) ad n c news rfl ?qc1 ?qc2 ?qc3 ?qc4 ?qc5 ?qc6 ?_)
 case qc1 => exact hl
 case qc2 =>
  intro j u hj
  exact Lib.cell?_alloc_some _ (A.out j u hj)
 case qc3 => exact h1
 case qc4 => rw [Nat.zero_add]; exact hn
 case qc5 => rw [Nat.zero_add]; exact hbig
 case qc6 => simp
 intro v' w1 hown hgrow hnil
 go_wp2
 go_ret
 refine ⟨v', rfl, by simpa using hown, ?_, ?_⟩
 ·exact hnil
 ·exact ((Below.refl _ w).alloc (Nat.le_refl _) _).grown hgrow (by simp) (by intro k hk; simp [Value.ownBlock] at hk; omega)
theorem first_hit (p : α → Bool) : ∀ D : List α, (∀ x ∈ D, p x = false) ∨ ∃ A x C, D = A ++ x :: C ∧ p x = true ∧ ∀ y ∈ A, p y = false
 | [] => .inl (fun x hx => by simp at hx)
 | a :: D => by
  cases h : p a with
  | true => exact .inr ⟨[], a, D, rfl, h, fun y hy => by simp at hy⟩
  | false =>
   rcases first_hit p D with hall | ⟨A, x, C, hD, hx, hA⟩
   ·exact .inl (fun x hx => (List.mem_cons.1 hx).elim (fun e => e ▸ h) (hall x))
   ·exact .inr ⟨a :: A, x, C, by rw [hD]; rfl, hx, fun y hy => (List.mem_cons.1 hy).elim (fun e => e ▸ h) (hA y)⟩
theorem first_one {p : α → Bool} {D A C : List α} {x : α} (hD : D = A ++ x :: C) (hx : p x = true) (hA : ∀ y ∈ A, p y = false) : A.length = (D.takeWhile fun y => !p y).length := by
 rw [hD, List.takeWhile_append_of_pos (by intro y hy; simp [hA y hy])]
 simp [hx]
theorem below_put {B b : Nat} {a : World} (hb : B ≤ b) : ∀ (vs : List Value) (o : Nat) (w : World), Below B a w → Below B a (w.setCells b o vs)
 | [], _, _, h => h
 | v :: r, o, w, h => below_put hb r (o + 1) _ (h.setCell (by exact hb) v)
theorem boxed {P : Program} {k bytes : Nat} {z : Array Value} {i0 : TypeInfo} (T : LT P k) (U : LU P k z bytes i0) (w : World) (cs : List Value) (hl : cs.length = k) (h1 : ∀ v ∈ cs, v.oneCell' = true) :
 ∃ W2, Sem.run P (storeCells ⟨w.heap.size, 0, none⟩ cs 0) (w.alloc (.cells z 55)) = .ok () W2 ∧ (Sem.run P (loadCellsFrom ⟨w.heap.size, 0, none⟩ 0 k #[]) W2 = .ok cs.toArray W2 ∧ ∀ w3, Below W2.heap.size W2 w3 → Sem.run P (loadCellsFrom ⟨w.heap.size, 0, none⟩ 0 k #[]) w3 = .ok cs.toArray w3) ∧ Below w.heap.size w W2 := by
 have hb : (w.alloc (.cells z 55)).heap[w.heap.size]? = some (.cells z 55 (0, 0)) := Array.getElem?_push_size
 have hc : ∀ j, j < cs.length → ((w.alloc (.cells z 55)).cell? ⟨w.heap.size, j, none⟩).isSome = true := fun j hj => by
  rw [cell_of_row _ _ _ _ _ _ hb, Array.getElem?_eq_getElem (by rw [U.hz, ← hl]; exact hj)]; rfl
 have hst := run_storeCells_cells (P := P) w.heap.size 0 cs 0 (w.alloc (.cells z 55)) (fun j hj => by simpa using hc j hj) (fun j hj => frozen_of_row _ _ _ _ _ hb) h1
 have hin : ∀ c v, cs[c]? = some v → ((w.alloc (.cells z 55)).setCells w.heap.size 0 cs).cell? ⟨w.heap.size, c, none⟩ = some v := fun c v hv => by
  obtain ⟨hcl, hcv⟩ := List.getElem?_eq_some_iff.1 hv
  have := World.cell?_setCells_in w.heap.size cs 0 (w.alloc (.cells z 55)) (fun j hj => by simpa using hc j hj) c hcl
  rw [Nat.zero_add, hcv] at this
  exact this
 refine ⟨_, by simpa using hst, ⟨run_loadCellsFrom_list P _ _ _ k hl fun c v hv => by rw [Addr.add_lit, Nat.zero_add]; exact hin c v hv, fun w3 h3 => run_loadCellsFrom_list P _ _ _ k hl fun c v hv => by
  rw [Addr.add_lit, Nat.zero_add, h3.cell (p := ⟨w.heap.size, c, none⟩) (by rw [size_setCells]; simp)]; exact hin c v hv⟩, below_put (Nat.le_refl _) _ _ _ ((Below.refl _ w).alloc (Nat.le_refl _) _)⟩
set_option maxHeartbeats 1000000 in
set_option maxRecDepth 1000000 in
theorem deleteFunc_any {P : Program} {k bytes : Nat} {z : Array Value} {i0 : TypeInfo} (T : LT P k) (U : LU P k z bytes i0) (F1 : P.funcs[47]? = some Try.f47) (F : P.funcs[48]? = some Try.f48) (enc : α → List Value) (hk : ∀ x, (enc x).length = k) (h1 : ∀ x, ∀ v ∈ enc x, v.oneCell' = true) (p : α → Bool) (g : Nat) (cb : Array Value) (eg : ∀ args w, (callFunc g args).run P w = .ok (.enter g args) w)
 (B blk off cap : Nat) (D : List α) (w : World) (hp : PredB P g cb enc p) (R : Row enc k w blk off D) (hB : B ≤ blk) (hblk : blk < w.heap.size) (hsz : D.length < 1152921504606846976) (hcap : D.length ≤ cap) :
 Calls P 48 #[.slice (some ⟨blk, off, none⟩) D.length cap, .func (.func g) #[] cb] w fun e w' => e = .returned (.slice (some ⟨blk, off, none⟩) (D.filter fun x => !p x).length cap) ∧ Row enc k w' blk off (D.filter fun x => !p x) ∧ blk < w'.heap.size ∧ Below B w w' := by
 have mixed := T.mixed; have t0 := T.t0; have a0 := T.a0; have z0 := T.z0; have v0 := T.v0; have t3 := T.t3; have a3 := T.a3; have z3 := T.z3; have v3 := T.v3; have t4 := T.t4; have a4 := T.a4; have z4 := T.z4; have v4 := T.v4; have t22 := T.t22; have a22 := T.a22; have z22 := T.z22; have v22 := T.v22; have t42 := U.t42; have a42 := U.a42; have z42 := U.z42; have v42 := U.v42; have aE := T.aE; have zE := T.zE; have vE := U.vE
 have u3 := run_underlying T.t3
 have e33 : ∀ args w, (callFunc 47 args).run P w = .ok (.enter 47 args) w := enters_of F1 (by kernel_rfl) rfl
 have hIF := indexFunc_any T U F1 enc hk p g cb eg blk off cap D w hp R hblk hsz
 obtain ⟨N, hN⟩ : ∃ N, D.length = N := ⟨_, rfl⟩
 have HN := Lib.hid hN
 have HR : Aside (Row enc k w blk off D) := R
 have HP : Aside (PredB P g cb enc p) := hp
 obtain ⟨FD, hFD⟩ : ∃ FD, (D.filter fun x => !p x) = FD := ⟨_, rfl⟩
 have HFD := Lib.hid hFD
 rw [hFD]
 rw [hN] at hsz hcap hIF ⊢
 clear R hp hN hFD
 rcases first_hit p D with hall | ⟨A, x, C, hD, hx, hA⟩
 ·have hIF2 : Calls P 47 #[.slice (some ⟨blk, off, none⟩) N cap, .func (.func g) #[] cb] w fun e w' => e = .returned (.int .i64 (-1)) ∧ Below w.heap.size w w' := hIF.mono fun e w' ⟨h, hb⟩ => ⟨h.elim (fun h => h.1) (fun ⟨A, x, C, hD, _, hx, _⟩ => by
   have := hall x (by rw [hD]; simp)
   rw [this] at hx; exact absurd hx (by simp)), hb⟩
  have HE : Aside (FD = D) := by
   have := HFD.out
   rw [List.filter_eq_self.2 (fun y hy => by simp [hall y hy])] at this
   exact this.symm
  clear hIF
  go_enter F, Try.ntmps48
  go_wp2_with (go_at_fn 47; refine hIF2.mono ?_; rintro e w1 ⟨rfl, hb1⟩)
  go_ret
  rw [HE.out, HN.out]
  exact ⟨rfl, HR.out.below hb1 hblk, Nat.lt_of_lt_of_le hblk hb1.size, hb1.mono (by omega)⟩
 ·obtain ⟨i0, hi0⟩ : ∃ i, A.length = i := ⟨_, rfl⟩
  have hIF2 : Calls P 47 #[.slice (some ⟨blk, off, none⟩) N cap, .func (.func g) #[] cb] w fun e w' => e = .returned (.int .i64 i0) ∧ Below w.heap.size w w' := hIF.mono fun e w' ⟨h, hb⟩ => ⟨h.elim (fun h => by
   have := h.2 x (by rw [hD]; simp)
   rw [hx] at this; exact absurd this (by simp)) (fun ⟨A', x', C', hD', he, hx', hA'⟩ => by
   rw [he, ← hi0, first_one hD hx hA, first_one hD' hx' hA']), hb⟩
  have hiN : i0 < N := by rw [← HN.out, hD, ← hi0]; simp
  have S0 : ∀ w1, Below w.heap.size w w1 → Aside (∃ M, Row enc k w1 blk off M ∧ M.length = N ∧ M.take i0 = (D.take (i0 + 1)).filter (fun x => !p x) ∧ M.drop (i0 + 1) = D.drop (i0 + 1) ∧ blk < w1.heap.size ∧ Below B w w1) := fun w1 hb1 =>
   ⟨D, HR.out.below hb1 hblk, HN.out, by
    rw [hD, ← hi0, List.take_left' rfl, List.take_append, List.take_of_length_le (by omega), show A.length + 1 - A.length = 1 by omega, List.filter_append, List.filter_eq_self.2 (fun y hy => by simp [hA y hy])]
    simp [hx], rfl, Nat.lt_of_lt_of_le hblk hb1.size, hb1.mono (by omega)⟩
  have HS0 := Lib.hid S0
  have hne1 : ((i0 : Int) == -1) = false := beq_eq_false_iff_ne.2 (by omega)
  clear hIF S0 hD hx hA hi0
  go_enter F, Try.ntmps48
  go_wp2_with (go_at_fn 47; refine hIF2.mono ?_; rintro e w1 ⟨rfl, hb1⟩; have S1 := HS0.out w1 hb1; clear hb1)
  go_loopg [5, 6, 7] N (fun gg s5 s6 _ wr => ∃ i j : Nat, s5 = .int .i64 i ∧ s6 = .int .i64 j ∧ i < j ∧ j ≤ N ∧ N - j ≤ gg ∧ Aside (∃ M, Row enc k wr blk off M ∧ M.length = N ∧ M.take i = (D.take j).filter (fun x => !p x) ∧ M.drop j = D.drop j ∧ blk < wr.heap.size ∧ Below B w wr))
  case atStart => exact ⟨i0, i0 + 1, rfl, by go_num, by omega, by omega, by omega, S1⟩
  case round =>
   clear S1 hne1 hIF2 HS0 hiN
   obtain ⟨i, j, rfl, rfl, hij, hjN, hgg, S⟩ := hrel
   by_cases hlt : j < N
   ·have hltz : (j : Int) < (N : Int) := by omega
    have hizN : (i : Int) < (N : Int) := by omega
    obtain ⟨M, hRM, hMN, hMi, hMj, hbk, hBw⟩ := S.out
    obtain ⟨y, hy⟩ : ∃ y, M[j]? = some y := ⟨_, List.getElem?_eq_getElem (by omega)⟩
    have l2 := hRM.load hk P hy
    have hnn : (enc y).length = k := hk y
    obtain ⟨W2, s1, l3, hb2⟩ := boxed T U wr (enc y) hnn (h1 y)
    have hcall := HP.out W2 y
    have hl4 : ∀ w3, Below W2.heap.size W2 w3 → Sem.run P (loadCellsFrom ⟨wr.heap.size, 0, none⟩ 0 k #[]) w3 = .ok (enc y).toArray w3 := fun w3 h3 => l3.2 w3 h3
    have l3 := l3.1
    have hR3 : ∀ w3, Below W2.heap.size W2 w3 → Row enc k w3 blk off M := fun w3 h3 => hRM.below (hb2.trans (h3.mono hb2.size)) hbk
    have hs2 : ∀ w3, Below W2.heap.size W2 w3 → Sem.run P (storeCells ⟨blk, off + i * k, none⟩ (enc y) 0) w3 = .ok () (w3.setCells blk (off + i * k) (enc y)) := fun w3 h3 => (hR3 w3 h3).store hk P (by omega) y (h1 y)
    have hDj : (D.take (j + 1)).filter (fun x => !p x) = M.take i ++ (if p y then [] else [y]) := by
     have h2 : D[j]? = some y := by
      have := congrArg (fun l => l[0]?) hMj
      simpa [hy] using this.symm
     rw [List.take_add_one, h2, List.filter_append, ← hMi]
     cases hq : p y <;> simp [hq]
    have hMj2 : M.drop (j + 1) = D.drop (j + 1) := by
     have := congrArg (fun l => l.drop 1) hMj
     simpa [List.drop_drop, Nat.add_comm] using this
    cases hq : p y with
    | true =>
     rw [hq] at hcall hDj
     have hnext : ∀ w3, Below W2.heap.size W2 w3 → Aside (∃ M, Row enc k w3 blk off M ∧ M.length = N ∧ M.take i = (D.take (j + 1)).filter (fun x => !p x) ∧ M.drop (j + 1) = D.drop (j + 1) ∧ blk < w3.heap.size ∧ Below B w w3) := fun w3 h3 =>
      ⟨M, hR3 w3 h3, hMN, by rw [hDj]; simp, hMj2, Nat.lt_of_lt_of_le hbk (Nat.le_trans hb2.size h3.size), hBw.trans ((hb2.trans (h3.mono hb2.size)).mono (by omega))⟩
     have HNX := Lib.hid hnext
     clear hnext hl4 hR3 hs2 hDj hMj2 hRM hMN hMi hMj hbk hBw hb2 S hy
     go_wp2_with (go_at_fn g; refine hcall.mono ?_; rintro e w3 ⟨rfl, h3⟩; have S3 := HNX.out w3 h3; clear h3)
     go_roundg (N - (j + 1))
     case measure => omega
     case rel => exact ⟨i, j + 1, rfl, by go_num, by omega, by omega, Nat.le_refl _, S3⟩
    | false =>
     rw [hq] at hcall hDj
     have hnext : ∀ w3, Below W2.heap.size W2 w3 → Aside (∃ M, Row enc k (w3.setCells blk (off + i * k) (enc y)) blk off M ∧ M.length = N ∧ M.take (i + 1) = (D.take (j + 1)).filter (fun x => !p x) ∧ M.drop (j + 1) = D.drop (j + 1) ∧ blk < (w3.setCells blk (off + i * k) (enc y)).heap.size ∧ Below B w (w3.setCells blk (off + i * k) (enc y))) := fun w3 h3 =>
      ⟨M.set i y, (hR3 w3 h3).put hk (by omega) y, by rw [List.length_set]; exact hMN, by
       rw [hDj, List.take_add_one, List.getElem?_set_self (by omega), List.take_set_of_le (Nat.le_refl _)]; simp, by rw [List.drop_set_of_lt (by omega)]; exact hMj2, by
       rw [size_setCells]; exact Nat.lt_of_lt_of_le hbk (Nat.le_trans hb2.size h3.size), below_put hB _ _ _ (hBw.trans ((hb2.trans (h3.mono hb2.size)).mono (by omega)))⟩
     have HNX := Lib.hid hnext
     have HL4 := Lib.hid hl4
     have HS2 := Lib.hid hs2
     clear hnext hl4 hR3 hs2 hDj hMj2 hRM hMN hMi hMj hbk hBw hb2 S hy
     go_wp2_with (go_at_fn g; refine hcall.mono ?_; rintro e w3 ⟨rfl, h3⟩; have S3 := HNX.out w3 h3; have l4 := HL4.out w3 h3; have s2 := HS2.out w3 h3; clear h3)
     go_roundg (N - (j + 1))
     case measure => omega
     case rel => exact ⟨i + 1, j + 1, by go_num, by go_num, by omega, by omega, Nat.le_refl _, S3⟩
   ·have hltz : ¬ (j : Int) < (N : Int) := by omega
    have hjN2 : j = N := by omega
    subst hjN2
    obtain ⟨M, hRM, hMN, hMi, hMj, hbk, hBw⟩ := S.out
    have eD : D.take j = D := List.take_of_length_le (by rw [HN.out]; exact Nat.le_refl _)
    rw [eD, HFD.out] at hMi
    have hiF : FD.length = i := by rw [← hMi, List.length_take]; omega
    have hzl : (Builtin.zeroCells (Value.agg z).cells (j - i)).toList.length = (M.length - i) * k := by
     rw [hMN]
     show ((Array.range ((j - i) * z.size)).map fun i => z[i % z.size]!).toList.length = _
     rw [U.hz]; simp
    have hz1 : ∀ v ∈ (Builtin.zeroCells (Value.agg z).cells (j - i)).toList, v.oneCell' = true := by
     intro v hv
     have : v ∈ ((Array.range ((j - i) * z.size)).map fun i => z[i % z.size]!).toList := hv
     simp only [Array.toList_map, List.mem_map] at this
     obtain ⟨t, _, rfl⟩ := this
     have hl : t % z.size < z.size := Nat.mod_lt _ (by rw [U.hz]; exact U.hk)
     rw [getElem!_pos z _ hl]
     exact U.hz1 _ (Array.getElem_mem hl)
    have hst := hRM.wipe hk P (n := i) (by omega) _ hzl hz1
    have hhd := hRM.head hk i (Builtin.zeroCells (Value.agg z).cells (j - i)).toList
    have hcl : ∀ ty, (Builtin.clear_ #[51] ty #[.slice (some ⟨blk, off + i * k, none⟩) (j - i) (cap - i)]).run P wr = .ok (.tuple #[]) (wr.setCells blk (off + i * k) (Builtin.zeroCells (Value.agg z).cells (j - i)).toList) := fun ty => by
     obtain ⟨m, hm⟩ : ∃ m, j - i = m + 1 := ⟨j - i - 1, by omega⟩
     rw [hm] at hst ⊢
     simp [Builtin.clear_, run_underlying T.t22, vE, hst]
    generalize (Builtin.zeroCells (Value.agg z).cells (j - i)).toList = zs at hst hhd hcl
    have HE : Aside (FD.length = i ∧ Row enc k (wr.setCells blk (off + i * k) zs) blk off FD ∧ blk < (wr.setCells blk (off + i * k) zs).heap.size ∧ Below B w (wr.setCells blk (off + i * k) zs)) :=
     ⟨hiF, by rw [← hMi]; exact hhd, by rw [size_setCells]; exact hbk, below_put hB _ _ _ hBw⟩
    have hiz : (i : Int) ≤ (j : Int) := by omega
    have hjc : j ≤ cap := hcap
    have hic : i ≤ cap := by omega
    have hij2 : i ≤ j := by omega
    clear hst hhd hzl hz1 hRM hMN hMi hMj hbk hBw S hiF
    go_wp2
    go_ret
    obtain ⟨e1, e2⟩ := HE.out
    rw [e1]
    exact ⟨rfl, e2⟩
end Go.Proofs.Ytdchnaghmmhkhaa.Stab.Au
