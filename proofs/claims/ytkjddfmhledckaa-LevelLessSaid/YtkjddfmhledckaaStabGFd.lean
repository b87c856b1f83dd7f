/- slices.Clone, IndexFunc, DeleteFunc at api.Finding: by own walks over any program that bears them. -/
import Derived.Test.YtkjddfmhledckaaStabFd
import Derived.Test.YtkjddfmhledckaaRowAt
set_option linter.unusedVariables false
set_option linter.unusedSimpArgs false
namespace Go.Proofs.Ytkjddfmhledckaa.Stab
open Go.Shelf Go.RowKit Go.Lib Go.Sort Go.Proofs.Ytkjddfmhledckaa.RowAt
set_option linter.unusedSectionVars false

/-- What more a program's types say: predicates, and the element's zero value. -/
structure LU (P : Program) (k : Nat) (z : Array Value) (bytes : Nat) (i0 : TypeInfo) : Prop where
  t42 : P.underlying 42 = some (TypeDesc.func #[32] #[4] false)
  a42 : ∀ w, (isAgg 42).run P w = .ok false w
  z42 : ∀ w, (Go.sizeOf 42).run P w = .ok 1 w
  v42 : ∀ w, (zeroValue 42).run P w = .ok (Value.nilFunc) w
  t47 : P.underlying 47 = some (TypeDesc.func #[32, 32] #[4] false)
  a47 : ∀ w, (isAgg 47).run P w = .ok false w
  z47 : ∀ w, (Go.sizeOf 47).run P w = .ok 1 w
  v47 : ∀ w, (zeroValue 47).run P w = .ok (Value.nilFunc) w
  vE : ∀ w, (zeroValue 32).run P w = .ok (Value.agg z) w
  hz : z.size = k
  hz1 : ∀ v ∈ z, v.oneCell' = true
  hk : 0 < k
  hi : P.info? 32 = some i0
  hi0 : i0.zero = some (Value.agg z)
  hi1 : i0.size = k
  hi2 : i0.bytes = bytes

variable {α : Type} [Inhabited α]
/-- A predicate that may lay blocks of its own. -/
def PredB (P : Program) (g : Nat) (cb : Array Value) (enc : α → List Value) (p : α → Bool) : Prop :=
  ∀ (W : World) (x : α), Calls P g (#[.agg (enc x).toArray] ++ cb) W fun e w' => e = .returned (.bool (p x)) ∧ Below W.heap.size W w'

set_option maxHeartbeats 1000000 in
set_option maxRecDepth 1000000 in
theorem indexFunc_any {P : Program} {k bytes : Nat} {z : Array Value} {i0 : TypeInfo} (T : LT P k) (U : LU P k z bytes i0) (F : P.funcs[33]? = some Try.f33) (enc : α → List Value) (hk : ∀ x, (enc x).length = k) (p : α → Bool) (g : Nat) (cb : Array Value) (eg : ∀ args w, (callFunc g args).run P w = .ok (.enter g args) w)
    (blk off cap : Nat) (D : List α) (w : World) (hp : PredB P g cb enc p) (R : Row enc k w blk off D) (hblk : blk < w.heap.size) (hsz : D.length < 1152921504606846976) :
    Calls P 33 #[.slice (some ⟨blk, off, none⟩) D.length cap, .func (.func g) #[] cb] w fun e w' => ((e = .returned (.int .i64 (-1)) ∧ ∀ x ∈ D, p x = false) ∨ ∃ A x C, D = A ++ x :: C ∧ e = .returned (.int .i64 A.length) ∧ p x = true ∧ ∀ y ∈ A, p y = false) ∧ Below w.heap.size w w' := by
  have mixed := T.mixed; have t0 := T.t0; have a0 := T.a0; have z0 := T.z0; have v0 := T.v0; have t3 := T.t3; have a3 := T.a3; have z3 := T.z3; have v3 := T.v3; have t4 := T.t4; have a4 := T.a4; have z4 := T.z4; have v4 := T.v4; have t22 := T.t22; have a22 := T.a22; have z22 := T.z22; have v22 := T.v22; have t42 := U.t42; have a42 := U.a42; have z42 := U.z42; have v42 := U.v42; have aE := T.aE; have zE := T.zE
  have u3 := run_underlying T.t3
  obtain ⟨N, hN⟩ : ∃ N, D.length = N := ⟨_, rfl⟩
  have HN := Lib.hid hN
  have HR : Aside (Row enc k w blk off D) := R
  have HP : Aside (PredB P g cb enc p) := hp
  rw [hN] at hsz ⊢
  clear R hp hN
  go_enter F, Try.ntmps33
  go_wp2
  go_loopg [5, 8] N (fun gg _ s8 wr => ∃ kk : Nat, s8 = .int .i64 kk ∧ kk ≤ N ∧ N - kk ≤ gg ∧ Aside (Below w.heap.size w wr) ∧ Aside (∀ y ∈ D.take kk, p y = false))
  case atStart => exact ⟨0, rfl, by omega, by omega, Below.refl _ w, fun y hy => by simp at hy⟩
  case round =>
    obtain ⟨kk, rfl, hkk, hg, BW, A⟩ := hrel
    by_cases hlt : kk < N
    · have hltz : (kk : Int) < (N : Int) := by omega
      have hD : D[kk]? = some (D[kk]'(by rw [HN.out]; exact hlt)) := List.getElem?_eq_getElem _
      generalize (D[kk]'(by rw [HN.out]; exact hlt)) = y at hD
      have l2 := (HR.out.below BW.out hblk).load hk P hD
      have hcall := HP.out wr y
      have hsplit : D = D.take kk ++ y :: D.drop (kk + 1) := by
        obtain ⟨h1, h2⟩ := List.getElem?_eq_some_iff.1 hD
        rw [← h2, ← List.drop_eq_getElem_cons h1, List.take_append_drop]
      have HSP := Lib.hid hsplit
      have hnn : (enc y).length = k := hk y
      clear hsplit hD
      generalize henc : enc y = ce at l2 hcall hnn
      clear henc
      cases hq : p y with
      | true =>
        rw [hq] at hcall
        go_wp2_with (go_at_fn g; refine hcall.mono ?_; rintro e w' ⟨rfl, hb'⟩)
        go_ret
        refine ⟨.inr ⟨D.take kk, y, D.drop (kk + 1), HSP.out, ?_, hq, A.out⟩, BW.out.trans (hb'.mono BW.out.size)⟩
        rw [List.length_take, HN.out, Nat.min_eq_left (by omega)]
        rfl
      | false =>
        rw [hq] at hcall
        go_wp2_with (go_at_fn g; refine hcall.mono ?_; rintro e w' ⟨rfl, hb'⟩)
        go_roundg (N - (kk + 1))
        case measure => omega
        case rel =>
          refine ⟨kk + 1, by go_num, by omega, Nat.le_refl _, BW.out.trans (hb'.mono BW.out.size), (show Aside _ from fun x hx => ?_)⟩
          have h2 := HSP.out
          rw [h2, List.take_append, List.length_take, HN.out, Nat.min_eq_left (by omega), show kk + 1 - kk = 1 by omega, List.take_of_length_le (by rw [List.length_take]; omega)] at hx
          rcases List.mem_append.1 hx with hx | hx
          · exact A.out x hx
          · have : x = y := by simpa using hx
            rw [this]; exact hq
    · have hltz : ¬ (kk : Int) < (N : Int) := by omega
      have hkN : kk = N := by omega
      subst hkN
      go_wp2
      go_ret
      exact ⟨.inl ⟨rfl, fun x hx => A.out x (by rw [List.take_of_length_le (by rw [HN.out]; exact Nat.le_refl _)]; exact hx)⟩, BW.out⟩

set_option maxHeartbeats 1000000 in
set_option maxRecDepth 1000000 in
theorem clone_any {P : Program} {k bytes : Nat} {z : Array Value} {i0 : TypeInfo} (T : LT P k) (U : LU P k z bytes i0) (F : P.funcs[24]? = some Try.f24) (ad : Addr) (n c : Nat) (news : List Value) (w : World) (hl : news.length = n * k) (hn : n ≤ maxLen) (hbig : n * bytes ≤ 140737488355328)
    (hc : ∀ j u, news[j]? = some u → w.cell? (ad.add j) = some u) (h1 : ∀ u ∈ news, u.oneCell' = true) :
    Calls P 24 #[.slice (some ad) n c] w fun e w' => ∃ v', e = .returned v' ∧ w'.ownsRow w.heap.size 32 k v' n news ∧ v' ≠ .slice none 0 0 ∧ Below w.heap.size w w' := by
  have mixed := T.mixed; have t4 := T.t4; have a4 := T.a4; have z4 := T.z4; have v4 := T.v4; have t22 := T.t22; have a22 := T.a22; have z22 := T.z22; have v22 := T.v22; have zE := T.zE
  have q22 : ∀ (w : World) (a : Option Addr) (n c n' c' : Nat), (binOp .eql 25 (.slice a n c) (.slice none n' c')).run P w = .ok (.bool a.isNone) w := fun w a n c n' c' => Lib.run_eql_slice_nil w _ _ a n c n' c' T.t22
  have u22 : ∀ w, Sem.run P (underlying 25) w = .ok (TypeDesc.slice 32) w := run_underlying t22
  have A : Aside (∀ j u, news[j]? = some u → w.cell? (ad.add j) = some u) := hc
  have hzs : (Value.agg z).cells.size = k := U.hz
  clear hc
  go_enter F, Try.ntmps24
  go_wp2_with (at_builtin; refine wpList_append_own _ rfl _ _ 25 rfl w.heap.size 32 i0 (Value.agg z) k bytes t22 U.hi U.hi0 U.hi1 U.hi2 hzs U.hk _ _ _ rfl (World.ownsRow_made w #[] 0 (Nat.le_refl _) (Nat.zero_le _) (by simp)) ad n c news rfl ?qc1 ?qc2 ?qc3 ?qc4 ?qc5 ?qc6 ?_)
  case qc1 => exact hl
  case qc2 =>
    intro j u hj
    exact Lib.cell?_alloc_some _ (A.out j u hj)
  case qc3 => exact h1
  case qc4 => rw [Nat.zero_add]; exact hn
  case qc5 => rw [Nat.zero_add]; exact hbig
  case qc6 => simp
  intro v' w1 hown hgrow hnil
  go_wp2
  go_ret
  refine ⟨v', rfl, by simpa using hown, ?_, ?_⟩
  · exact hnil
  · exact ((Below.refl _ w).alloc (Nat.le_refl _) _).grown hgrow (by simp) (by intro k hk; simp [Value.ownBlock] at hk; omega)

theorem first_hit (p : α → Bool) : ∀ D : List α, (∀ x ∈ D, p x = false) ∨ ∃ A x C, D = A ++ x :: C ∧ p x = true ∧ ∀ y ∈ A, p y = false
  | [] => .inl (fun x hx => by simp at hx)
  | a :: D => by
    cases h : p a with
    | true => exact .inr ⟨[], a, D, rfl, h, fun y hy => by simp at hy⟩
    | false =>
      rcases first_hit p D with hall | ⟨A, x, C, hD, hx, hA⟩
      · exact .inl (fun x hx => (List.mem_cons.1 hx).elim (fun e => e ▸ h) (hall x))
      · exact .inr ⟨a :: A, x, C, by rw [hD]; rfl, hx, fun y hy => (List.mem_cons.1 hy).elim (fun e => e ▸ h) (hA y)⟩
theorem first_one {p : α → Bool} {D A C : List α} {x : α} (hD : D = A ++ x :: C) (hx : p x = true) (hA : ∀ y ∈ A, p y = false) : A.length = (D.takeWhile fun y => !p y).length := by
  rw [hD, List.takeWhile_append_of_pos (by intro y hy; simp [hA y hy])]
  simp [hx]

theorem below_put {B b : Nat} {a : World} (hb : B ≤ b) : ∀ (vs : List Value) (o : Nat) (w : World), Below B a w → Below B a (w.setCells b o vs)
  | [], _, _, h => h
  | v :: r, o, w, h => below_put hb r (o + 1) _ (h.setCell (by exact hb) v)
/-- An element put into a block of its own. -/
theorem boxed {P : Program} {k bytes : Nat} {z : Array Value} {i0 : TypeInfo} (T : LT P k) (U : LU P k z bytes i0) (w : World) (cs : List Value) (hl : cs.length = k) (h1 : ∀ v ∈ cs, v.oneCell' = true) :
    ∃ W2, Sem.run P (storeCells ⟨w.heap.size, 0, none⟩ cs 0) (w.alloc (.cells z 32)) = .ok () W2 ∧ (Sem.run P (loadCellsFrom ⟨w.heap.size, 0, none⟩ 0 k #[]) W2 = .ok cs.toArray W2 ∧ ∀ w3, Below W2.heap.size W2 w3 → Sem.run P (loadCellsFrom ⟨w.heap.size, 0, none⟩ 0 k #[]) w3 = .ok cs.toArray w3) ∧ Below w.heap.size w W2 := by
  have hb : (w.alloc (.cells z 32)).heap[w.heap.size]? = some (.cells z 32 (0, 0)) := Array.getElem?_push_size
  have hc : ∀ j, j < cs.length → ((w.alloc (.cells z 32)).cell? ⟨w.heap.size, j, none⟩).isSome = true := fun j hj => by
    rw [cell_of_row _ _ _ _ _ _ hb, Array.getElem?_eq_getElem (by rw [U.hz, ← hl]; exact hj)]; rfl
  have hst := run_storeCells_cells (P := P) w.heap.size 0 cs 0 (w.alloc (.cells z 32)) (fun j hj => by simpa using hc j hj) (fun j hj => frozen_of_row _ _ _ _ _ hb) h1
  have hin : ∀ c v, cs[c]? = some v → ((w.alloc (.cells z 32)).setCells w.heap.size 0 cs).cell? ⟨w.heap.size, c, none⟩ = some v := fun c v hv => by
    obtain ⟨hcl, hcv⟩ := List.getElem?_eq_some_iff.1 hv
    have := World.cell?_setCells_in w.heap.size cs 0 (w.alloc (.cells z 32)) (fun j hj => by simpa using hc j hj) c hcl
    rw [Nat.zero_add, hcv] at this
    exact this
  refine ⟨_, by simpa using hst, ⟨run_loadCellsFrom_list P _ _ _ k hl fun c v hv => by rw [Addr.add_lit, Nat.zero_add]; exact hin c v hv, fun w3 h3 => run_loadCellsFrom_list P _ _ _ k hl fun c v hv => by
    rw [Addr.add_lit, Nat.zero_add, h3.cell (p := ⟨w.heap.size, c, none⟩) (by rw [size_setCells]; simp)]; exact hin c v hv⟩, below_put (Nat.le_refl _) _ _ _ ((Below.refl _ w).alloc (Nat.le_refl _) _)⟩

set_option maxHeartbeats 1000000 in
set_option maxRecDepth 1000000 in
theorem deleteFunc_any {P : Program} {k bytes : Nat} {z : Array Value} {i0 : TypeInfo} (T : LT P k) (U : LU P k z bytes i0) (F1 : P.funcs[33]? = some Try.f33) (F : P.funcs[23]? = some Try.f23) (enc : α → List Value) (hk : ∀ x, (enc x).length = k) (h1 : ∀ x, ∀ v ∈ enc x, v.oneCell' = true) (p : α → Bool) (g : Nat) (cb : Array Value) (eg : ∀ args w, (callFunc g args).run P w = .ok (.enter g args) w)
    (B blk off cap : Nat) (D : List α) (w : World) (hp : PredB P g cb enc p) (R : Row enc k w blk off D) (hB : B ≤ blk) (hblk : blk < w.heap.size) (hsz : D.length < 1152921504606846976) (hcap : D.length ≤ cap) :
    Calls P 23 #[.slice (some ⟨blk, off, none⟩) D.length cap, .func (.func g) #[] cb] w fun e w' => e = .returned (.slice (some ⟨blk, off, none⟩) (D.filter fun x => !p x).length cap) ∧ Row enc k w' blk off (D.filter fun x => !p x) ∧ blk < w'.heap.size ∧ Below B w w' := by
  have mixed := T.mixed; have t0 := T.t0; have a0 := T.a0; have z0 := T.z0; have v0 := T.v0; have t3 := T.t3; have a3 := T.a3; have z3 := T.z3; have v3 := T.v3; have t4 := T.t4; have a4 := T.a4; have z4 := T.z4; have v4 := T.v4; have t22 := T.t22; have a22 := T.a22; have z22 := T.z22; have v22 := T.v22; have t42 := U.t42; have a42 := U.a42; have z42 := U.z42; have v42 := U.v42; have aE := T.aE; have zE := T.zE; have vE := U.vE
  have u3 := run_underlying T.t3
  have e33 : ∀ args w, (callFunc 33 args).run P w = .ok (.enter 33 args) w := enters_of F1 (by kernel_rfl) rfl
  have hIF := indexFunc_any T U F1 enc hk p g cb eg blk off cap D w hp R hblk hsz
  obtain ⟨N, hN⟩ : ∃ N, D.length = N := ⟨_, rfl⟩
  have HN := Lib.hid hN
  have HR : Aside (Row enc k w blk off D) := R
  have HP : Aside (PredB P g cb enc p) := hp
  obtain ⟨FD, hFD⟩ : ∃ FD, (D.filter fun x => !p x) = FD := ⟨_, rfl⟩
  have HFD := Lib.hid hFD
  rw [hFD]
  rw [hN] at hsz hcap hIF ⊢
  clear R hp hN hFD
  rcases first_hit p D with hall | ⟨A, x, C, hD, hx, hA⟩
  · have hIF2 : Calls P 33 #[.slice (some ⟨blk, off, none⟩) N cap, .func (.func g) #[] cb] w fun e w' => e = .returned (.int .i64 (-1)) ∧ Below w.heap.size w w' := hIF.mono fun e w' ⟨h, hb⟩ => ⟨h.elim (fun h => h.1) (fun ⟨A, x, C, hD, _, hx, _⟩ => by
      have := hall x (by rw [hD]; simp)
      rw [this] at hx; exact absurd hx (by simp)), hb⟩
    have HE : Aside (FD = D) := by
      have := HFD.out
      rw [List.filter_eq_self.2 (fun y hy => by simp [hall y hy])] at this
      exact this.symm
    clear hIF
    go_enter F, Try.ntmps23
    go_wp2_with (go_at_fn 33; refine hIF2.mono ?_; rintro e w1 ⟨rfl, hb1⟩)
    go_ret
    rw [HE.out, HN.out]
    exact ⟨rfl, HR.out.below hb1 hblk, Nat.lt_of_lt_of_le hblk hb1.size, hb1.mono (by omega)⟩
  · obtain ⟨i0, hi0⟩ : ∃ i, A.length = i := ⟨_, rfl⟩
    have hIF2 : Calls P 33 #[.slice (some ⟨blk, off, none⟩) N cap, .func (.func g) #[] cb] w fun e w' => e = .returned (.int .i64 i0) ∧ Below w.heap.size w w' := hIF.mono fun e w' ⟨h, hb⟩ => ⟨h.elim (fun h => by
      have := h.2 x (by rw [hD]; simp)
      rw [hx] at this; exact absurd this (by simp)) (fun ⟨A', x', C', hD', he, hx', hA'⟩ => by
      rw [he, ← hi0, first_one hD hx hA, first_one hD' hx' hA']), hb⟩
    have hiN : i0 < N := by rw [← HN.out, hD, ← hi0]; simp
    have S0 : ∀ w1, Below w.heap.size w w1 → Aside (∃ M, Row enc k w1 blk off M ∧ M.length = N ∧ M.take i0 = (D.take (i0 + 1)).filter (fun x => !p x) ∧ M.drop (i0 + 1) = D.drop (i0 + 1) ∧ blk < w1.heap.size ∧ Below B w w1) := fun w1 hb1 =>
      ⟨D, HR.out.below hb1 hblk, HN.out, by
        rw [hD, ← hi0, List.take_left' rfl, List.take_append, List.take_of_length_le (by omega), show A.length + 1 - A.length = 1 by omega, List.filter_append, List.filter_eq_self.2 (fun y hy => by simp [hA y hy])]
        simp [hx], rfl, Nat.lt_of_lt_of_le hblk hb1.size, hb1.mono (by omega)⟩
    have HS0 := Lib.hid S0
    have hne1 : ((i0 : Int) == -1) = false := beq_eq_false_iff_ne.2 (by omega)
    clear hIF S0 hD hx hA hi0
    go_enter F, Try.ntmps23
    go_wp2_with (go_at_fn 33; refine hIF2.mono ?_; rintro e w1 ⟨rfl, hb1⟩; have S1 := HS0.out w1 hb1; clear hb1)
    go_loopg [5, 6, 7] N (fun gg s5 s6 _ wr => ∃ i j : Nat, s5 = .int .i64 i ∧ s6 = .int .i64 j ∧ i < j ∧ j ≤ N ∧ N - j ≤ gg ∧ Aside (∃ M, Row enc k wr blk off M ∧ M.length = N ∧ M.take i = (D.take j).filter (fun x => !p x) ∧ M.drop j = D.drop j ∧ blk < wr.heap.size ∧ Below B w wr))
    case atStart => exact ⟨i0, i0 + 1, rfl, by go_num, by omega, by omega, by omega, S1⟩
    case round =>
      clear S1 hne1 hIF2 HS0 hiN
      obtain ⟨i, j, rfl, rfl, hij, hjN, hgg, S⟩ := hrel
      by_cases hlt : j < N
      · have hltz : (j : Int) < (N : Int) := by omega
        have hizN : (i : Int) < (N : Int) := by omega
        obtain ⟨M, hRM, hMN, hMi, hMj, hbk, hBw⟩ := S.out
        obtain ⟨y, hy⟩ : ∃ y, M[j]? = some y := ⟨_, List.getElem?_eq_getElem (by omega)⟩
        have l2 := hRM.load hk P hy
        have hnn : (enc y).length = k := hk y
        obtain ⟨W2, s1, l3, hb2⟩ := boxed T U wr (enc y) hnn (h1 y)
        have hcall := HP.out W2 y
        have hl4 : ∀ w3, Below W2.heap.size W2 w3 → Sem.run P (loadCellsFrom ⟨wr.heap.size, 0, none⟩ 0 k #[]) w3 = .ok (enc y).toArray w3 := fun w3 h3 => l3.2 w3 h3
        have l3 := l3.1
        have hR3 : ∀ w3, Below W2.heap.size W2 w3 → Row enc k w3 blk off M := fun w3 h3 => hRM.below (hb2.trans (h3.mono hb2.size)) hbk
        have hs2 : ∀ w3, Below W2.heap.size W2 w3 → Sem.run P (storeCells ⟨blk, off + i * k, none⟩ (enc y) 0) w3 = .ok () (w3.setCells blk (off + i * k) (enc y)) := fun w3 h3 => (hR3 w3 h3).store hk P (by omega) y (h1 y)
        have hDj : (D.take (j + 1)).filter (fun x => !p x) = M.take i ++ (if p y then [] else [y]) := by
          have h2 : D[j]? = some y := by
            have := congrArg (fun l => l[0]?) hMj
            simpa [hy] using this.symm
          rw [List.take_add_one, h2, List.filter_append, ← hMi]
          cases hq : p y <;> simp [hq]
        have hMj2 : M.drop (j + 1) = D.drop (j + 1) := by
          have := congrArg (fun l => l.drop 1) hMj
          simpa [List.drop_drop, Nat.add_comm] using this
        cases hq : p y with
        | true =>
          rw [hq] at hcall hDj
          have hnext : ∀ w3, Below W2.heap.size W2 w3 → Aside (∃ M, Row enc k w3 blk off M ∧ M.length = N ∧ M.take i = (D.take (j + 1)).filter (fun x => !p x) ∧ M.drop (j + 1) = D.drop (j + 1) ∧ blk < w3.heap.size ∧ Below B w w3) := fun w3 h3 =>
            ⟨M, hR3 w3 h3, hMN, by rw [hDj]; simp, hMj2, Nat.lt_of_lt_of_le hbk (Nat.le_trans hb2.size h3.size), hBw.trans ((hb2.trans (h3.mono hb2.size)).mono (by omega))⟩
          have HNX := Lib.hid hnext
          clear hnext hl4 hR3 hs2 hDj hMj2 hRM hMN hMi hMj hbk hBw hb2 S hy
          go_wp2_with (go_at_fn g; refine hcall.mono ?_; rintro e w3 ⟨rfl, h3⟩; have S3 := HNX.out w3 h3; clear h3)
          go_roundg (N - (j + 1))
          case measure => omega
          case rel => exact ⟨i, j + 1, rfl, by go_num, by omega, by omega, Nat.le_refl _, S3⟩
        | false =>
          rw [hq] at hcall hDj
          have hnext : ∀ w3, Below W2.heap.size W2 w3 → Aside (∃ M, Row enc k (w3.setCells blk (off + i * k) (enc y)) blk off M ∧ M.length = N ∧ M.take (i + 1) = (D.take (j + 1)).filter (fun x => !p x) ∧ M.drop (j + 1) = D.drop (j + 1) ∧ blk < (w3.setCells blk (off + i * k) (enc y)).heap.size ∧ Below B w (w3.setCells blk (off + i * k) (enc y))) := fun w3 h3 =>
            ⟨M.set i y, (hR3 w3 h3).put hk (by omega) y, by rw [List.length_set]; exact hMN, by
              rw [hDj, List.take_add_one, List.getElem?_set_self (by omega), List.take_set_of_le (Nat.le_refl _)]; simp, by rw [List.drop_set_of_lt (by omega)]; exact hMj2, by
              rw [size_setCells]; exact Nat.lt_of_lt_of_le hbk (Nat.le_trans hb2.size h3.size), below_put hB _ _ _ (hBw.trans ((hb2.trans (h3.mono hb2.size)).mono (by omega)))⟩
          have HNX := Lib.hid hnext
          have HL4 := Lib.hid hl4
          have HS2 := Lib.hid hs2
          clear hnext hl4 hR3 hs2 hDj hMj2 hRM hMN hMi hMj hbk hBw hb2 S hy
          go_wp2_with (go_at_fn g; refine hcall.mono ?_; rintro e w3 ⟨rfl, h3⟩; have S3 := HNX.out w3 h3; have l4 := HL4.out w3 h3; have s2 := HS2.out w3 h3; clear h3)
          go_roundg (N - (j + 1))
          case measure => omega
          case rel => exact ⟨i + 1, j + 1, by go_num, by go_num, by omega, by omega, Nat.le_refl _, S3⟩
      · have hltz : ¬ (j : Int) < (N : Int) := by omega
        have hjN2 : j = N := by omega
        subst hjN2
        obtain ⟨M, hRM, hMN, hMi, hMj, hbk, hBw⟩ := S.out
        have eD : D.take j = D := List.take_of_length_le (by rw [HN.out]; exact Nat.le_refl _)
        rw [eD, HFD.out] at hMi
        have hiF : FD.length = i := by rw [← hMi, List.length_take]; omega
        have hzl : (Builtin.zeroCells (Value.agg z).cells (j - i)).toList.length = (M.length - i) * k := by
          rw [hMN]
          show ((Array.range ((j - i) * z.size)).map fun i => z[i % z.size]!).toList.length = _
          rw [U.hz]; simp
        have hz1 : ∀ v ∈ (Builtin.zeroCells (Value.agg z).cells (j - i)).toList, v.oneCell' = true := by
          intro v hv
          have : v ∈ ((Array.range ((j - i) * z.size)).map fun i => z[i % z.size]!).toList := hv
          simp only [Array.toList_map, List.mem_map] at this
          obtain ⟨t, _, rfl⟩ := this
          have hl : t % z.size < z.size := Nat.mod_lt _ (by rw [U.hz]; exact U.hk)
          rw [getElem!_pos z _ hl]
          exact U.hz1 _ (Array.getElem_mem hl)
        have hst := hRM.wipe hk P (n := i) (by omega) _ hzl hz1
        have hhd := hRM.head hk i (Builtin.zeroCells (Value.agg z).cells (j - i)).toList
        have hcl : ∀ ty, (Builtin.clear_ #[25] ty #[.slice (some ⟨blk, off + i * k, none⟩) (j - i) (cap - i)]).run P wr = .ok (.tuple #[]) (wr.setCells blk (off + i * k) (Builtin.zeroCells (Value.agg z).cells (j - i)).toList) := fun ty => by
          obtain ⟨m, hm⟩ : ∃ m, j - i = m + 1 := ⟨j - i - 1, by omega⟩
          rw [hm] at hst ⊢
          simp [Builtin.clear_, run_underlying T.t22, vE, hst]
        generalize (Builtin.zeroCells (Value.agg z).cells (j - i)).toList = zs at hst hhd hcl
        have HE : Aside (FD.length = i ∧ Row enc k (wr.setCells blk (off + i * k) zs) blk off FD ∧ blk < (wr.setCells blk (off + i * k) zs).heap.size ∧ Below B w (wr.setCells blk (off + i * k) zs)) :=
          ⟨hiF, by rw [← hMi]; exact hhd, by rw [size_setCells]; exact hbk, below_put hB _ _ _ hBw⟩
        have hiz : (i : Int) ≤ (j : Int) := by omega
        have hjc : j ≤ cap := hcap
        have hic : i ≤ cap := by omega
        have hij2 : i ≤ j := by omega
        clear hst hhd hzl hz1 hRM hMN hMi hMj hbk hBw S hiF
        go_wp2
        go_ret
        obtain ⟨e1, e2⟩ := HE.out
        rw [e1]
        exact ⟨rfl, e2⟩
end Go.Proofs.Ytkjddfmhledckaa.Stab
