/- slices.swapRangeCmpFunc and rotateCmpFunc at api.Finding, over any program that bears them: by own walks. -/
import Derived.Test.YtkjddfmhledckaaStabPlain
import Derived.Test.YtkjddfmhledckaaBase
import Derived.Shelf.SlSortCmp.KitK
import Derived.Shelf.SlSortCmp.QuietGrown
import Derived.Sort.WalkB2
import Derived.Sort.WalkB12
import Derived.Deep.LoopGhost
set_option linter.unusedVariables false
set_option linter.unusedSimpArgs false
namespace Go.Proofs.Ytkjddfmhledckaa.Stab
open Go.Shelf Go.RowKit Go.Lib Go.Sort
set_option linter.unusedSectionVars false

/-- What is asked of the types. -/
structure LT (P : Program) (k : Nat) : Prop where
  mixed : P.follows .mixedOrders = true
  t0 : P.underlying 0 = some (TypeDesc.tuple #[])
  a0 : ∀ w, (isAgg 0).run P w = .ok false w
  z0 : ∀ w, (Go.sizeOf 0).run P w = .ok 1 w
  v0 : ∀ w, (zeroValue 0).run P w = .ok (Value.tuple #[]) w
  t3 : P.underlying 3 = some (TypeDesc.int IntKind.i64)
  a3 : ∀ w, (isAgg 3).run P w = .ok false w
  z3 : ∀ w, (Go.sizeOf 3).run P w = .ok 1 w
  v3 : ∀ w, (zeroValue 3).run P w = .ok (Value.int IntKind.i64 0) w
  t4 : P.underlying 4 = some (TypeDesc.bool)
  a4 : ∀ w, (isAgg 4).run P w = .ok false w
  z4 : ∀ w, (Go.sizeOf 4).run P w = .ok 1 w
  v4 : ∀ w, (zeroValue 4).run P w = .ok (Value.bool false) w
  t22 : P.underlying 25 = some (TypeDesc.slice 32)
  a22 : ∀ w, (isAgg 25).run P w = .ok false w
  z22 : ∀ w, (Go.sizeOf 25).run P w = .ok 1 w
  v22 : ∀ w, (zeroValue 25).run P w = .ok (Value.slice none 0 0) w
  t25 : P.underlying 45 = some (TypeDesc.func #[32, 32] #[3] false)
  a25 : ∀ w, (isAgg 45).run P w = .ok false w
  z25 : ∀ w, (Go.sizeOf 45).run P w = .ok 1 w
  v25 : ∀ w, (zeroValue 45).run P w = .ok (Value.nilFunc) w
  t57 : P.underlying 57 = some (TypeDesc.int IntKind.u64)
  a57 : ∀ w, (isAgg 57).run P w = .ok false w
  z57 : ∀ w, (Go.sizeOf 57).run P w = .ok 1 w
  v57 : ∀ w, (zeroValue 57).run P w = .ok (Value.int IntKind.u64 0) w
  aE : ∀ w, (isAgg 32).run P w = .ok true w
  zE : ∀ w, (Go.sizeOf 32).run P w = .ok k w

variable {α : Type} [Inhabited α]
/-- The row holds the list. -/
def SWL (enc : α → List Value) (k : Nat) (w0 : World) (blk off : Nat) (D : List α) (w : World) : Prop := SWK enc k w0 blk off D.toArray w
/-- Between two rounds of an exchange of two ranges. -/
def mid (A U M V C : List α) (i : Nat) : List α := A ++ (V.take i ++ (U.drop i ++ (M ++ (U.take i ++ (V.drop i ++ C)))))
theorem mid_len {A U M V C : List α} {i : Nat} (hi : i ≤ U.length) (h : U.length = V.length) : (mid A U M V C i).length = A.length + U.length + M.length + V.length + C.length := by
  simp only [mid, List.length_append, List.length_take, List.length_drop]; omega
theorem mid_cut {A U M V C : List α} {i : Nat} (hi : i < U.length) (h : U.length = V.length) :
    mid A U M V C i = (A ++ V.take i) ++ U[i] :: ((U.drop (i + 1) ++ (M ++ U.take i)) ++ V[i] :: (V.drop (i + 1) ++ C)) ∧
    mid A U M V C (i + 1) = (A ++ V.take i) ++ V[i] :: ((U.drop (i + 1) ++ (M ++ U.take i)) ++ U[i] :: (V.drop (i + 1) ++ C)) := by
  unfold mid
  constructor
  · rw [List.drop_eq_getElem_cons hi, List.drop_eq_getElem_cons (show i < V.length by omega)]
    simp only [List.append_assoc, List.cons_append, List.nil_append]
  · rw [List.take_succ_eq_append_getElem (show i < V.length by omega), List.take_succ_eq_append_getElem hi]
    simp only [List.append_assoc, List.cons_append, List.nil_append]

set_option maxHeartbeats 1000000 in
set_option maxRecDepth 1000000 in
theorem swapRange_any {P : Program} {k : Nat} (T : LT P k) (F : P.funcs[40]? = some Try.f40) (enc : α → List Value) (g : Nat) (cb : Array Value) (blk off cap : Nat) (w0 w : World) (d0 : Array α)
    (R : RowK enc k w0 blk off d0) (A U M V C : List α) (a b n N : Nat) (ha : A.length = a) (hb : a + U.length + M.length = b) (hU : U.length = n) (hV : V.length = n) (hN : A.length + U.length + M.length + V.length + C.length = N) (hs : d0.size = N)
    (S : SWL enc k w0 blk off (A ++ (U ++ (M ++ (V ++ C)))) w) (hsz : N < 4611686018427387904) :
    Calls P 40 #[.slice (some ⟨blk, off, none⟩) N cap, .int .i64 a, .int .i64 b, .int .i64 n, .func (.func g) #[] cb] w fun e w' => e = .returned (.tuple #[]) ∧ SWL enc k w0 blk off (A ++ (V ++ (M ++ (U ++ C)))) w' := by
  have mixed := T.mixed; have t0 := T.t0; have a0 := T.a0; have z0 := T.z0; have v0 := T.v0; have t3 := T.t3; have a3 := T.a3; have z3 := T.z3; have v3 := T.v3; have t4 := T.t4; have a4 := T.a4; have z4 := T.z4; have v4 := T.v4; have t22 := T.t22; have a22 := T.a22; have z22 := T.z22; have v22 := T.v22; have t25 := T.t25; have a25 := T.a25; have z25 := T.z25; have v25 := T.v25; have aE := T.aE; have zE := T.zE
  have S0 : Aside (SWK enc k w0 blk off (mid A U M V C 0).toArray w) := by
    have : mid A U M V C 0 = A ++ (U ++ (M ++ (V ++ C))) := by simp [mid]
    rw [this]; exact S
  have HE : Hid (mid A U M V C n = A ++ (V ++ (M ++ (U ++ C)))) := Lib.hid (by
    unfold mid
    rw [List.take_of_length_le (by omega), List.drop_eq_nil_of_le (by omega), List.take_of_length_le (by omega), List.drop_eq_nil_of_le (by omega)]
    simp)
  have hcut := fun i (hi : i < n) => mid_cut (A := A) (U := U) (M := M) (V := V) (C := C) (i := i) (by omega) (by omega)
  have hlen := fun i (hi : i ≤ n) => mid_len (A := A) (U := U) (M := M) (V := V) (C := C) (i := i) (by omega) (by omega)
  have HCUT := Lib.hid hcut
  have HLEN := Lib.hid hlen
  clear S hcut hlen
  go_enter F, Try.ntmps40
  go_wp2
  go_loopg [10] n (fun kx v10 wr => ∃ i : Nat, v10 = .int .i64 i ∧ i ≤ n ∧ n - i ≤ kx ∧ Aside (SWK enc k w0 blk off (mid A U M V C i).toArray wr))
  case atStart => exact ⟨0, rfl, by omega, by omega, S0⟩
  case round =>
    clear S0
    obtain ⟨i, rfl, hi, hkx, S1⟩ := hrel
    by_cases hlt : i < n
    · have hlti : (i : Int) < (n : Int) := by omega
      go_wp2_with fail
      have r1 : IntKind.i64.wrap ((a : Int) + (i : Int)) = (a : Int) + (i : Int) := by rw [IntKind.wrap_i64]; omega
      have r2 : IntKind.i64.wrap ((b : Int) + (i : Int)) = (b : Int) + (i : Int) := by rw [IntKind.wrap_i64]; omega
      have e1 : ((a : Int) + (i : Int)).toNat = a + i := by omega
      have e2 : ((b : Int) + (i : Int)).toNat = b + i := by omega
      have p1 : (0 : Int) ≤ (a : Int) + (i : Int) := by omega
      have p2 : (0 : Int) ≤ (b : Int) + (i : Int) := by omega
      have b1 : (a : Int) + (i : Int) < (N : Int) := by omega
      have b2 : (b : Int) + (i : Int) < (N : Int) := by omega
      obtain ⟨c1, c2⟩ := HCUT.out i hlt
      have hsz1 : (mid A U M V C i).toArray.size = N := by rw [List.size_toArray, HLEN.out i (by omega)]; exact hN
      have hx1 : (mid A U M V C i).toArray[a + i]! = U[i] := by rw [c1]; exact get_at (by simp; omega)
      have hx2 : (mid A U M V C i).toArray[b + i]! = V[i] := by
        rw [c1, ← List.cons_append, ← List.append_assoc]
        exact get_at (by simp; omega)
      have hsw : swp (mid A U M V C i).toArray (a + i) (b + i) = (mid A U M V C (i + 1)).toArray := by
        rw [c1, c2]; exact swp_at (by simp; omega) (by simp; omega)
      have S2 : Aside (SWK enc k w0 blk off (mid A U M V C (i + 1)).toArray ((wr.drew.setCells blk (off + (a + i) * k) (enc V[i])).setCells blk (off + (b + i) * k) (enc U[i]))) := by
        have := S1.out.swapped R (a + i) (b + i) (by omega) (by omega)
        rw [hx1, hx2, hsw] at this
        exact this
      have l1 := S1.out.ld1 R (by omega) P (a + i) (by omega)
      have l2 := S1.out.ld1 R (by omega) P (b + i) (by omega)
      rw [hx1] at l1
      rw [hx2] at l2
      have s1 := S1.out.st1 R (by omega) P (a + i) (by omega) V[i]
      have s2 := S1.out.st2 R (by omega) P (a + i) (b + i) (by omega) (by omega) V[i] U[i]
      have n1 : (enc U[i]).length = k := R.hk _
      have n2 : (enc V[i]).length = k := R.hk _
      generalize enc U[i] = cI at S2 l1 s2 n1
      generalize enc V[i] = cJ at S2 l2 s1 s2 n2
      clear S1 c1 c2 hsz1 hx1 hx2 hsw
      go_wp2_with fail
      go_big_region_o
      clear l1 l2 s1 s2
      generalize (wr.drew.setCells blk (off + (a + i) * k) cJ).setCells blk (off + (b + i) * k) cI = w2 at S2 ⊢
      go_wp2
      go_roundg (n - (i + 1))
      case measure => omega
      case rel => exact ⟨i + 1, by go_num, by omega, Nat.le_refl _, S2⟩
    · have hin : i = n := by omega
      subst hin
      go_wp2
      go_end0
      refine ⟨rfl, ?_⟩
      have := S1.out
      rw [HE.out] at this
      exact this

theorem abs_comm (A X Y Z C : List α) : (A ++ X) ++ (Y ++ (Z ++ C)) = A ++ (X ++ (Y ++ (Z ++ C))) := by simp
set_option maxHeartbeats 1000000 in
set_option maxRecDepth 1000000 in
theorem rotate_any {P : Program} {k : Nat} (T : LT P k) (F1 : P.funcs[40]? = some Try.f40) (F : P.funcs[39]? = some Try.f39) (enc : α → List Value) (g : Nat) (cb : Array Value) (blk off cap : Nat) (w0 w : World) (d0 : Array α)
    (R : RowK enc k w0 blk off d0) (A X Y C : List α) (a m b N : Nat) (ha : A.length = a) (hm : a + X.length = m) (hb : m + Y.length = b) (hN : b + C.length = N) (hs : d0.size = N) (hX : X ≠ []) (hY : Y ≠ [])
    (S : SWL enc k w0 blk off (A ++ (X ++ (Y ++ C))) w) (hsz : N < 4611686018427387904) :
    Calls P 39 #[.slice (some ⟨blk, off, none⟩) N cap, .int .i64 a, .int .i64 m, .int .i64 b, .func (.func g) #[] cb] w fun e w' => e = .returned (.tuple #[]) ∧ SWL enc k w0 blk off (A ++ (Y ++ (X ++ C))) w' := by
  have mixed := T.mixed; have t0 := T.t0; have a0 := T.a0; have z0 := T.z0; have v0 := T.v0; have t3 := T.t3; have a3 := T.a3; have z3 := T.z3; have v3 := T.v3; have t4 := T.t4; have a4 := T.a4; have z4 := T.z4; have v4 := T.v4; have t22 := T.t22; have a22 := T.a22; have z22 := T.z22; have v22 := T.v22; have t25 := T.t25; have a25 := T.a25; have z25 := T.z25; have v25 := T.v25; have aE := T.aE; have zE := T.zE
  have e40 : ∀ args w, (callFunc 40 args).run P w = .ok (.enter 40 args) w := enters_of F1 (by kernel_rfl) rfl
  have HS := Lib.hid (fun (w : World) (A U M V C : List α) (a b n : Nat) h1 h2 h3 h4 h5 hS => swapRange_any T F1 enc g cb blk off cap w0 w d0 R A U M V C a b n N h1 h2 h3 h4 h5 hs hS hsz)
  -- what is left: X' of i elements ahead of m, Y' of j behind it; around them all lies as it will
  have S0 : Aside (∃ (B X' Y' E : List α), SWL enc k w0 blk off (B ++ (X' ++ (Y' ++ E))) w ∧ B ++ (Y' ++ (X' ++ E)) = A ++ (Y ++ (X ++ C)) ∧ X'.length = X.length ∧ Y'.length = Y.length ∧ B.length + X'.length = m ∧ B.length + X'.length + Y'.length + E.length = N) :=
    ⟨A, X, Y, C, S, rfl, rfl, rfl, by omega, by omega⟩
  have hx0 : 0 < X.length := List.length_pos_iff.2 hX
  have hy0 : 0 < Y.length := List.length_pos_iff.2 hY
  clear S
  have hX1 : (m : Int) - (a : Int) = (X.length : Int) := by omega
  have hY1 : (b : Int) - (m : Int) = (Y.length : Int) := by omega
  have hmN : m ≤ N := by omega
  have hbN : b ≤ N := by omega
  go_enter F, Try.ntmps39
  go_wp2
  go_loopg [10, 11] (X.length + Y.length) (fun kx v10 v11 wr => ∃ i j : Nat, v10 = .int .i64 i ∧ v11 = .int .i64 j ∧ 0 < i ∧ 0 < j ∧ i + j ≤ kx ∧ i ≤ m ∧ m + j ≤ N ∧
    Aside (∃ (B X' Y' E : List α), SWL enc k w0 blk off (B ++ (X' ++ (Y' ++ E))) wr ∧ B ++ (Y' ++ (X' ++ E)) = A ++ (Y ++ (X ++ C)) ∧ X'.length = i ∧ Y'.length = j ∧ B.length + X'.length = m ∧ B.length + X'.length + Y'.length + E.length = N))
  case atStart =>
    refine ⟨X.length, Y.length, ?_, ?_, hx0, hy0, by omega, by omega, by omega, S0⟩
    · rw [← hX1]
    · rw [← hY1]
  case round =>
    clear S0
    obtain ⟨i, j, rfl, rfl, hi0, hj0, hk, him, hjN, S1⟩ := hrel
    have hmi : (m : Int) - (i : Int) = ((m - i : Nat) : Int) := by omega
    by_cases hij : i = j
    · subst hij
      obtain ⟨B, X', Y', E, hS, hf, hx, hy, hbm, hbN2⟩ := S1.out
      have hc := HS.out wr B X' [] Y' E (m - i) m i (by omega) (by simp; omega) hx hy (by simp; omega) (by simpa using hS)
      have hcc := Lib.hid hc
      have HF := Lib.hid hf
      clear hc hS hf S1 HS
      go_wp2_with fail
      refine hcc.out.mono ?_
      rintro e w2 ⟨rfl, hS2⟩
      have HS2 := Lib.hid hS2
      clear hS2
      go_wp2
      go_end0
      refine ⟨rfl, ?_⟩
      have := HS2.out
      rw [List.nil_append, HF.out] at this
      exact this
    · have hne : ((i : Int) != (j : Int)) = true := by simp; omega
      by_cases hgt : j < i
      · have hgti : (j : Int) < (i : Int) := by omega
        obtain ⟨B, X', Y', E, hS, hf, hx, hy, hbm, hbN2⟩ := S1.out
        have hsplit := List.take_append_drop j X'
        have h1 : (X'.take j).length = j := by rw [List.length_take]; omega
        have h2 : (X'.drop j).length = i - j := by rw [List.length_drop]; omega
        have hc := HS.out wr B (X'.take j) (X'.drop j) Y' E (m - i) m j (by omega) (by omega) h1 hy (by omega) (by rw [← List.append_assoc (X'.take j), hsplit]; exact hS)
        have hcc := Lib.hid hc
        have hnext : ∀ w2, SWL enc k w0 blk off (B ++ (Y' ++ (X'.drop j ++ (X'.take j ++ E)))) w2 → Aside (∃ (B X' Y' E : List α), SWL enc k w0 blk off (B ++ (X' ++ (Y' ++ E))) w2 ∧ B ++ (Y' ++ (X' ++ E)) = A ++ (Y ++ (X ++ C)) ∧ X'.length = i - j ∧ Y'.length = j ∧ B.length + X'.length = m ∧ B.length + X'.length + Y'.length + E.length = N) := fun w2 hS2 => by
          refine ⟨B ++ Y', X'.drop j, X'.take j, E, by simpa using hS2, ?_, h2, h1, by simp; omega, by simp; omega⟩
          rw [← hf]
          simp only [List.append_assoc]
          rw [← List.append_assoc (X'.take j), hsplit]
        have HNX := Lib.hid hnext
        clear hc hS hf S1 hnext hsplit h1 h2
        go_wp2_with fail
        refine hcc.out.mono ?_
        rintro e w2 ⟨rfl, hS2⟩
        have S2 := HNX.out w2 hS2
        clear hS2 hcc HNX
        have hsub : (i : Int) - (j : Int) = ((i - j : Nat) : Int) := by omega
        go_wp2
        go_roundg (i - j + j)
        case measure => omega
        case rel => exact ⟨i - j, j, by rw [← hsub], rfl, by omega, hj0, Nat.le_refl _, by omega, hjN, S2⟩
      · have hgti : ¬ (j : Int) < (i : Int) := by omega
        obtain ⟨B, X', Y', E, hS, hf, hx, hy, hbm, hbN2⟩ := S1.out
        have hsplit := List.take_append_drop (j - i) Y'
        have h1 : (Y'.take (j - i)).length = j - i := by rw [List.length_take]; omega
        have h2 : (Y'.drop (j - i)).length = i := by rw [List.length_drop]; omega
        have hmj : (m : Int) + (j : Int) - (i : Int) = ((m + (j - i) : Nat) : Int) := by omega
        have hc := HS.out wr B X' (Y'.take (j - i)) (Y'.drop (j - i)) E (m - i) (m + (j - i)) i (by omega) (by omega) hx h2 (by omega) (by rw [← List.append_assoc (Y'.take (j - i)), hsplit]; exact hS)
        have hcc := Lib.hid hc
        have hnext : ∀ w2, SWL enc k w0 blk off (B ++ (Y'.drop (j - i) ++ (Y'.take (j - i) ++ (X' ++ E)))) w2 → Aside (∃ (B X' Y' E : List α), SWL enc k w0 blk off (B ++ (X' ++ (Y' ++ E))) w2 ∧ B ++ (Y' ++ (X' ++ E)) = A ++ (Y ++ (X ++ C)) ∧ X'.length = i ∧ Y'.length = j - i ∧ B.length + X'.length = m ∧ B.length + X'.length + Y'.length + E.length = N) := fun w2 hS2 => by
          refine ⟨B, Y'.drop (j - i), Y'.take (j - i), X' ++ E, hS2, ?_, h2, h1, by omega, by simp; omega⟩
          rw [← hf]
          rw [← List.append_assoc (Y'.take (j - i)), hsplit]
        have HNX := Lib.hid hnext
        clear hc hS hf S1 hnext hsplit h1 h2
        go_wp2_with fail
        refine hcc.out.mono ?_
        rintro e w2 ⟨rfl, hS2⟩
        have S2 := HNX.out w2 hS2
        clear hS2 hcc HNX
        have hsub : (j : Int) - (i : Int) = ((j - i : Nat) : Int) := by omega
        go_wp2
        go_roundg (i + (j - i))
        case measure => omega
        case rel => exact ⟨i, j - i, rfl, by rw [← hsub], hi0, by omega, Nat.le_refl _, him, by omega, S2⟩
end Go.Proofs.Ytkjddfmhledckaa.Stab
