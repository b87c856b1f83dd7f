/- slices.CompactFunc at api.Finding: by an own walk over any program that bears it. -/
import Derived.Test.YtkjddfmhledckaaStabGFd
import Derived.Shelf.SlSortCmp.QuietGrown
set_option linter.unusedVariables false
set_option linter.unusedSimpArgs false
namespace Go.Proofs.Ytkjddfmhledckaa.Stab
open Go.Shelf Go.RowKit Go.Lib Go.Sort Go.Proofs.Ytkjddfmhledckaa.RowAt
set_option linter.unusedSectionVars false

variable {α : Type} [Inhabited α]
/-- An equality that may draw and lay blocks of its own. -/
def EqG (P : Program) (g : Nat) (cb : Array Value) (enc : α → List Value) (q : α → α → Bool) : Prop :=
  ∀ (W : World) (x y : α), Calls P g (#[.agg (enc x).toArray, .agg (enc y).toArray] ++ cb) W fun e w' => e = .returned (.bool (q x y)) ∧ ∃ n os, w' = grow (W.drewN n) os

theorem below_grown (w : World) (n : Nat) (os : Array Obj) : Below w.heap.size w (grow (w.drewN n) os) :=
  ⟨rfl, rfl, rfl, by simp [grow], fun k hk => by simp [grow, Array.getElem?_append, hk]⟩

/-- The first of each run of alike ones; what stands ahead is prev. -/
def keep (q : α → α → Bool) (prev : α) : List α → List α
  | [] => []
  | y :: l => if q y prev then keep q y l else y :: keep q y l
def cmpt (q : α → α → Bool) : List α → List α
  | [] => []
  | x :: l => x :: keep q x l
theorem keep_snoc (q : α → α → Bool) (z y : α) : ∀ (L : List α) (prev : α), keep q prev (L ++ [z] ++ [y]) = keep q prev (L ++ [z]) ++ (if q y z then [] else [y])
  | [], prev => by simp only [List.nil_append, List.cons_append, keep]; split <;> split <;> simp
  | x :: L, prev => by
    have ih := keep_snoc q z y L x
    simp only [List.cons_append, keep] at ih ⊢
    split
    · exact ih
    · rw [ih]; rfl
theorem cmpt_snoc (q : α → α → Bool) (z y : α) (L : List α) : cmpt q (L ++ [z] ++ [y]) = cmpt q (L ++ [z]) ++ (if q y z then [] else [y]) := by
  cases L with
  | nil => cases h : q y z <;> simp [cmpt, keep, h]
  | cons x L =>
    have := keep_snoc q z y L x
    simp only [List.cons_append, cmpt] at this ⊢
    rw [this]
theorem cmpt_step (q : α → α → Bool) (D : List α) (m : Nat) (z y : α) (hz : D[m]? = some z) (hy : D[m + 1]? = some y) : cmpt q (D.take (m + 1 + 1)) = cmpt q (D.take (m + 1)) ++ (if q y z then [] else [y]) := by
  have e1 : D.take (m + 1) = D.take m ++ [z] := by rw [List.take_add_one, hz]; simp
  have e2 : D.take (m + 1 + 1) = D.take m ++ [z] ++ [y] := by rw [List.take_add_one, hy, e1]; simp
  rw [e1, e2, cmpt_snoc]

/-- What a test 'eq(s[i], s[j])' wants. -/
theorem eq_facts {P : Program} {enc : α → List Value} {k : Nat} {w : World} {blk off : Nat} {g : Nat} {cb : Array Value} {q : α → α → Bool} {M : List α} (R : Row enc k w blk off M) (hk : ∀ x, (enc x).length = k) (hblk : blk < w.heap.size) (hp : EqG P g cb enc q) (i j : Nat) (x y : α) (hx : M[i]? = some x) (hy : M[j]? = some y) :
    (∀ n os, Sem.run P (loadCellsFrom ⟨blk, off + i * k, none⟩ 0 k #[]) (grow (w.drewN n) os) = .ok (enc x).toArray (grow (w.drewN n) os)) ∧
    (∀ n os, Sem.run P (loadCellsFrom ⟨blk, off + j * k, none⟩ 0 k #[]) (grow (w.drewN n) os) = .ok (enc y).toArray (grow (w.drewN n) os)) ∧
    (∀ n os, Calls P g (#[.agg (enc x).toArray, .agg (enc y).toArray] ++ cb) (grow (w.drewN n) os) fun e w' => e = .returned (.bool (q x y)) ∧ ∃ q os', w' = grow ((grow (w.drewN n) os).drewN q) os') :=
  ⟨fun n os => (R.below (below_grown w n os) hblk).load hk P hx, fun n os => (R.below (below_grown w n os) hblk).load hk P hy, fun n os => hp _ x y⟩

set_option maxHeartbeats 2000000 in
set_option maxRecDepth 1000000 in
theorem compactFunc_any {P : Program} {k bytes : Nat} {z : Array Value} {i0 : TypeInfo} (T : LT P k) (U : LU P k z bytes i0) (F : P.funcs[29]? = some Try.f29) (enc : α → List Value) (hk : ∀ x, (enc x).length = k) (h1 : ∀ x, ∀ v ∈ enc x, v.oneCell' = true) (q : α → α → Bool) (g : Nat) (cb : Array Value) (eg : ∀ args w, (callFunc g args).run P w = .ok (.enter g args) w)
    (B blk off cap : Nat) (D : List α) (w : World) (hp : EqG P g cb enc q) (R : Row enc k w blk off D) (hB : B ≤ blk) (hBw : B ≤ w.heap.size) (hblk : blk < w.heap.size) (hsz : D.length < 1152921504606846976) (hcap : D.length ≤ cap) :
    Calls P 29 #[.slice (some ⟨blk, off, none⟩) D.length cap, .func (.func g) #[] cb] w fun e w' => e = .returned (.slice (some ⟨blk, off, none⟩) (cmpt q D).length cap) ∧ Row enc k w' blk off (cmpt q D) ∧ blk < w'.heap.size ∧ Below B w w' := by
  have mixed := T.mixed; have t0 := T.t0; have a0 := T.a0; have z0 := T.z0; have v0 := T.v0; have t3 := T.t3; have a3 := T.a3; have z3 := T.z3; have v3 := T.v3; have t4 := T.t4; have a4 := T.a4; have z4 := T.z4; have v4 := T.v4; have t22 := T.t22; have a22 := T.a22; have z22 := T.z22; have v22 := T.v22; have t47 := U.t47; have a47 := U.a47; have z47 := U.z47; have v47 := U.v47; have aE := T.aE; have zE := T.zE; have vE := U.vE
  have u3 := run_underlying T.t3
  obtain ⟨N, hN⟩ : ∃ N, D.length = N := ⟨_, rfl⟩
  have HN := Lib.hid hN
  have HP : Aside (EqG P g cb enc q) := hp
  have HE : Aside (D.length < 2 → cmpt q D = D) := fun h => by
    match D, h with
    | [], _ => rfl
    | [x], _ => rfl
    | _ :: _ :: _, h => simp at h; omega
  have S0 : Aside (cmpt q (D.take 1) = D.take 1 ∧ Row enc k w blk off D ∧ blk < w.heap.size ∧ Below B w w) := ⟨by cases D <;> rfl, R, hblk, Below.refl _ _⟩
  have HR : Aside (Row enc k w blk off D) := R
  rw [hN] at hsz hcap ⊢
  clear R hp hN
  go_enter F, Try.ntmps29
  by_cases h2 : N < 2
  · have h2z : (N : Int) < 2 := by omega
    have hE2 : Aside (cmpt q D = D ∧ D.length = N) := ⟨HE.out (by rw [HN.out]; exact h2), HN.out⟩
    go_wp2
    go_ret
    rw [hE2.out.1, hE2.out.2]
    exact ⟨rfl, HR.out, hblk, Below.refl _ _⟩
  · have h2z : ¬ (N : Int) < 2 := by omega
    clear HE HR
    go_wp2
    go_loopg [5, 6, 7] N (fun g1 v5 _ _ wr => ∃ kk : Nat, v5 = .int .i64 kk ∧ 1 ≤ kk ∧ kk ≤ N ∧ N - kk ≤ g1 ∧ Aside (cmpt q (D.take kk) = D.take kk ∧ Row enc k wr blk off D ∧ blk < wr.heap.size ∧ Below B w wr))
    case atStart => exact ⟨1, rfl, by omega, by omega, by omega, S0⟩
    case round =>
      clear S0
      obtain ⟨kk, rfl, hk1, hkN, hg1, S⟩ := hrel
      by_cases hlt : kk < N
      · have hltz : (kk : Int) < (N : Int) := by omega
        obtain ⟨kp, hkp⟩ : ∃ kp, kp + 1 = kk := ⟨kk - 1, by omega⟩
        have hkz : (kk : Int) - 1 = (kp : Int) := by omega
        have hwp : IntKind.i64.wrap (kp : Int) = (kp : Int) := by rw [IntKind.wrap_i64]; omega
        have hkpN : (kp : Int) < (N : Int) := by omega
        obtain ⟨hc, hRD, hbk, hBw2⟩ := S.out
        have hDN := HN.out
        obtain ⟨y, hy⟩ : ∃ y, D[kk]? = some y := ⟨_, List.getElem?_eq_getElem (by omega)⟩
        obtain ⟨x, hx⟩ : ∃ x, D[kp]? = some x := ⟨_, List.getElem?_eq_getElem (by omega)⟩
        have hstep := cmpt_step q D kp x y hx (by rw [hkp]; exact hy)
        rw [hkp, hc] at hstep
        obtain ⟨lj, lp, hcg⟩ := eq_facts hRD hk hbk HP.out kk kp y x hy hx
        cases hq : q y x with
        | false =>
          rw [hq] at hcg hstep
          have hnext : ∀ n os, Aside (cmpt q (D.take (kk + 1)) = D.take (kk + 1) ∧ Row enc k (grow (wr.drewN n) os) blk off D ∧ blk < (grow (wr.drewN n) os).heap.size ∧ Below B w (grow (wr.drewN n) os)) := fun n os =>
            ⟨by rw [hstep, List.take_add_one, hy]; rfl, hRD.below (below_grown wr n os) hbk, Nat.lt_of_lt_of_le hbk (below_grown wr n os).size, hBw2.trans ((below_grown wr n os).mono (by have := hBw2.size; omega))⟩
          have HNX := Lib.hid hnext
          clear hnext hstep hc hRD hbk hBw2 hy hx S hkp hDN
          go_wp2_with fail
          go_quiet_grown (first | (go_at_fn g; refine Calls.grown_of (hcg _ _)))
          have S3 := HNX.out nq osq
          clear lj lp hcg
          go_wp2
          go_roundg (N - (kk + 1))
          case measure => omega
          case rel => exact ⟨kk + 1, by go_num, by omega, by omega, Nat.le_refl _, S3⟩
        | true =>
          rw [hq] at hcg hstep
          have hnext : ∀ n os, Aside (∃ M, Row enc k (grow (wr.drewN n) os) blk off M ∧ M.length = N ∧ M.take kk = cmpt q (D.take (kk + 1)) ∧ M.drop kk = D.drop kk ∧ blk < (grow (wr.drewN n) os).heap.size ∧ Below B w (grow (wr.drewN n) os)) := fun n os =>
            ⟨D, hRD.below (below_grown wr n os) hbk, hDN, by rw [hstep]; simp, rfl, Nat.lt_of_lt_of_le hbk (below_grown wr n os).size, hBw2.trans ((below_grown wr n os).mono (by have := hBw2.size; omega))⟩
          have HNX := Lib.hid hnext
          have hNc : N ≤ cap := hcap
          have hkc : kk ≤ cap := by omega
          clear hnext hstep hc hRD hbk hBw2 hy hx S hkp hDN
          go_wp2_with fail
          go_quiet_grown (first | (go_at_fn g; refine Calls.grown_of (hcg _ _)))
          have S3 := HNX.out nq osq
          clear lj lp hcg
          go_wp2
          generalize grow (wr.drewN nq) osq = wz at S3 ⊢
          go_loopg [5, 7] (N + 1) (fun g3 v5 v7 wr => ∃ i k2 : Nat, v5 = .int .i64 i ∧ v7 = .int .i64 k2 ∧ 1 ≤ k2 ∧ i + 1 ≤ kk + k2 ∧ kk + k2 ≤ N ∧ N - k2 ≤ g3 ∧ Aside (∃ M, Row enc k wr blk off M ∧ M.length = N ∧ M.take i = cmpt q (D.take (kk + k2)) ∧ M.drop (kk + k2 - 1) = D.drop (kk + k2 - 1) ∧ blk < wr.heap.size ∧ Below B w wr))
          case atStart => exact ⟨kk, 1, rfl, rfl, by omega, by omega, by omega, by omega, S3⟩
          case round =>
            clear S3
            obtain ⟨i, k2, rfl, rfl, hk21, hik, hkN2, hg3, S⟩ := hrel
            by_cases hlt2 : k2 < N - kk
            · have hlt2z : (k2 : Int) < ((N - kk : Nat) : Int) := by omega
              obtain ⟨m, hm⟩ : ∃ m, m + 1 = k2 := ⟨k2 - 1, by omega⟩
              have hmz : (k2 : Int) - 1 = (m : Int) := by omega
              have hwm : IntKind.i64.wrap (m : Int) = (m : Int) := by rw [IntKind.wrap_i64]; omega
              have hmN : (m : Int) < ((N - kk : Nat) : Int) := by omega
              have hiN : (i : Int) < (N : Int) := by omega
              obtain ⟨M, hRM, hMN, hMi, hMj, hbk, hBw2⟩ := S.out
              have hDN := HN.out
              obtain ⟨y, hy⟩ : ∃ y, M[kk + k2]? = some y := ⟨_, List.getElem?_eq_getElem (by omega)⟩
              obtain ⟨x, hx⟩ : ∃ x, M[kk + m]? = some x := ⟨_, List.getElem?_eq_getElem (by omega)⟩
              have hat : ∀ t, kk + k2 - 1 ≤ t → M[t]? = D[t]? := fun t ht => by
                have := congrArg (fun l => l[t - (kk + k2 - 1)]?) hMj
                simp only [List.getElem?_drop] at this
                rwa [show kk + k2 - 1 + (t - (kk + k2 - 1)) = t by omega] at this
              have hstep := cmpt_step q D (kk + m) x y (by rw [← hat _ (by omega)]; exact hx) (by rw [show kk + m + 1 = kk + k2 by omega, ← hat _ (by omega)]; exact hy)
              rw [show kk + m + 1 = kk + k2 by omega, ← hMi] at hstep
              have hMj2 : M.drop (kk + (k2 + 1) - 1) = D.drop (kk + (k2 + 1) - 1) := by
                apply List.ext_getElem?
                intro t
                rw [List.getElem?_drop, List.getElem?_drop]
                exact hat _ (by omega)
              obtain ⟨lj, lp, hcg⟩ := eq_facts hRM hk hbk HP.out (kk + k2) (kk + m) y x hy hx
              rw [show off + (kk + k2) * k = off + kk * k + k2 * k by rw [Nat.add_mul]; omega] at lj
              rw [show off + (kk + m) * k = off + kk * k + m * k by rw [Nat.add_mul]; omega] at lp
              have hg : ∀ n os, Row enc k (grow (wr.drewN n) os) blk off M ∧ blk < (grow (wr.drewN n) os).heap.size ∧ Below B w (grow (wr.drewN n) os) := fun n os =>
                ⟨hRM.below (below_grown wr n os) hbk, Nat.lt_of_lt_of_le hbk (below_grown wr n os).size, hBw2.trans ((below_grown wr n os).mono (by have := hBw2.size; omega))⟩
              cases hq : q y x with
              | true =>
                rw [hq] at hcg hstep
                have hnext : ∀ n os, Aside (∃ M, Row enc k (grow (wr.drewN n) os) blk off M ∧ M.length = N ∧ M.take i = cmpt q (D.take (kk + (k2 + 1))) ∧ M.drop (kk + (k2 + 1) - 1) = D.drop (kk + (k2 + 1) - 1) ∧ blk < (grow (wr.drewN n) os).heap.size ∧ Below B w (grow (wr.drewN n) os)) := fun n os =>
                  ⟨M, (hg n os).1, hMN, by rw [show kk + (k2 + 1) = kk + k2 + 1 by omega, hstep]; simp, hMj2, (hg n os).2⟩
                have HNX := Lib.hid hnext
                clear hnext hstep hg hat hMj2 hMi hMj hRM hMN hbk hBw2 hy hx S hm hDN
                go_wp2_with fail
                go_quiet_grown (first | (go_at_fn g; refine Calls.grown_of (hcg _ _)))
                have S3 := HNX.out nq osq
                clear lj lp hcg
                go_wp2
                go_roundg (N - (k2 + 1))
                case measure => omega
                case rel => exact ⟨i, k2 + 1, rfl, by go_num, by omega, by omega, by omega, Nat.le_refl _, S3⟩
              | false =>
                rw [hq] at hcg hstep
                have hnext : ∀ n os, Sem.run P (storeCells ⟨blk, off + i * k, none⟩ (enc y) 0) (grow (wr.drewN n) os) = .ok () ((grow (wr.drewN n) os).setCells blk (off + i * k) (enc y)) ∧ Aside (∃ M, Row enc k ((grow (wr.drewN n) os).setCells blk (off + i * k) (enc y)) blk off M ∧ M.length = N ∧ M.take (i + 1) = cmpt q (D.take (kk + (k2 + 1))) ∧ M.drop (kk + (k2 + 1) - 1) = D.drop (kk + (k2 + 1) - 1) ∧ blk < ((grow (wr.drewN n) os).setCells blk (off + i * k) (enc y)).heap.size ∧ Below B w ((grow (wr.drewN n) os).setCells blk (off + i * k) (enc y))) := fun n os =>
                  ⟨(hg n os).1.store hk P (by omega) y (h1 y), M.set i y, (hg n os).1.put hk (by omega) y, by rw [List.length_set]; exact hMN, by
                    rw [show kk + (k2 + 1) = kk + k2 + 1 by omega, hstep, List.take_add_one, List.getElem?_set_self (by omega), List.take_set_of_le (Nat.le_refl _)]; simp, by
                    rw [List.drop_set_of_lt (by omega)]; exact hMj2, by rw [size_setCells]; exact (hg n os).2.1, below_put hB _ _ _ (hg n os).2.2⟩
                have HNX := Lib.hid hnext
                have hnn : (enc y).length = k := hk y
                clear hnext hstep hg hat hMj2 hMi hMj hRM hMN hbk hBw2 hy hx S hm hDN
                go_wp2_with fail
                go_quiet_grown (first | (go_at_fn g; refine Calls.grown_of (hcg _ _)))
                obtain ⟨s1, S3⟩ := HNX.out nq osq
                have l5 := lj nq osq
                clear lj lp hcg
                generalize grow (wr.drewN nq) osq = wq at s1 l5 S3 ⊢
                go_wp2
                go_roundg (N - (k2 + 1))
                case measure => omega
                case rel => exact ⟨i + 1, k2 + 1, by go_num, by go_num, by omega, by omega, by omega, Nat.le_refl _, S3⟩
            · have hlt2z : ¬ (k2 : Int) < ((N - kk : Nat) : Int) := by omega
              obtain ⟨M, hRM, hMN, hMi, hMj, hbk, hBw2⟩ := S.out
              have eD : D.take (kk + k2) = D := List.take_of_length_le (by rw [HN.out]; omega)
              rw [eD] at hMi
              have hiF : (cmpt q D).length = i := by rw [← hMi, List.length_take]; omega
              have hzl : (Builtin.zeroCells (Value.agg z).cells (N - i)).toList.length = (M.length - i) * k := by
                rw [hMN]
                show ((Array.range ((N - i) * z.size)).map fun i => z[i % z.size]!).toList.length = _
                rw [U.hz]; simp
              have hz1 : ∀ v ∈ (Builtin.zeroCells (Value.agg z).cells (N - i)).toList, v.oneCell' = true := by
                intro v hv
                have : v ∈ ((Array.range ((N - i) * z.size)).map fun i => z[i % z.size]!).toList := hv
                simp only [Array.toList_map, List.mem_map] at this
                obtain ⟨t, _, rfl⟩ := this
                have hl : t % z.size < z.size := Nat.mod_lt _ (by rw [U.hz]; exact U.hk)
                rw [getElem!_pos z _ hl]
                exact U.hz1 _ (Array.getElem_mem hl)
              have hst := hRM.wipe hk P (n := i) (by omega) _ hzl hz1
              have hhd := hRM.head hk i (Builtin.zeroCells (Value.agg z).cells (N - i)).toList
              have hcl : ∀ ty, (Builtin.clear_ #[25] ty #[.slice (some ⟨blk, off + i * k, none⟩) (N - i) (cap - i)]).run P wr = .ok (.tuple #[]) (wr.setCells blk (off + i * k) (Builtin.zeroCells (Value.agg z).cells (N - i)).toList) := fun ty => by
                obtain ⟨m, hm⟩ : ∃ m, N - i = m + 1 := ⟨N - i - 1, by omega⟩
                rw [hm] at hst ⊢
                simp [Builtin.clear_, run_underlying T.t22, vE, hst]
              generalize (Builtin.zeroCells (Value.agg z).cells (N - i)).toList = zs at hst hhd hcl
              have HE : Aside ((cmpt q D).length = i ∧ Row enc k (wr.setCells blk (off + i * k) zs) blk off (cmpt q D) ∧ blk < (wr.setCells blk (off + i * k) zs).heap.size ∧ Below B w (wr.setCells blk (off + i * k) zs)) :=
                ⟨hiF, by rw [← hMi]; exact hhd, by rw [size_setCells]; exact hbk, below_put hB _ _ _ hBw2⟩
              have hiz : (i : Int) ≤ (N : Int) := by omega
              have hic : i ≤ cap := by omega
              have hij2 : i ≤ N := by omega
              clear hst hhd hzl hz1 hRM hMN hMi hMj hbk hBw2 S hiF eD
              go_wp2
              go_ret
              obtain ⟨e1, e2⟩ := HE.out
              rw [e1]
              exact ⟨rfl, e2⟩
      · have hltz : ¬ (kk : Int) < (N : Int) := by omega
        have hkN2 : kk = N := by omega
        subst hkN2
        have HE : Aside (cmpt q D = D ∧ D.length = kk ∧ Row enc k wr blk off D ∧ blk < wr.heap.size ∧ Below B w wr) := by
          obtain ⟨hc, hRD, h3⟩ := S.out
          have eD : D.take kk = D := List.take_of_length_le (by rw [HN.out]; exact Nat.le_refl _)
          rw [eD] at hc
          exact ⟨hc, HN.out, hRD, h3⟩
        clear S
        go_wp2
        go_ret
        obtain ⟨e1, e2, e3⟩ := HE.out
        rw [e1, e2]
        exact ⟨rfl, e3⟩
end Go.Proofs.Ytkjddfmhledckaa.Stab
