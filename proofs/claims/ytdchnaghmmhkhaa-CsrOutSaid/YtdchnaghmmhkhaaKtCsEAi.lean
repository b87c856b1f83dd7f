/- csr at Arc[int]: New, walked. -/
import Derived.Test.YtdchnaghmmhkhaaKtCsEpAi
import Derived.Laws.EntriesVeiled
set_option linter.unusedSimpArgs false
namespace Go.Proofs.Ytdchnaghmmhkhaa.Cs.Ai
open Go.Shelf Go.RowKit Go.Lib Go.Sort Go.Proofs.Ytdchnaghmmhkhaa.RowAt Go.Proofs.Ytdchnaghmmhkhaa.Stab Go.Proofs.Ytdchnaghmmhkhaa.Stab.Ai Go.Proofs.Ytdchnaghmmhkhaa.PCsrGraphs Go.Proofs.YtdchnaghmmhkhaaW.PrintWords Go.Proofs.YtdchnaghmmhkhaaW.PrintLast
set_option linter.unusedSectionVars false
set_option linter.unusedVariables false

theorem int_info : (Try.prog.info? 3).map (fun i => (i.zero, i.size, i.bytes)) = some (some (.int .i64 0), 1, 8) := by kernel_rfl
theorem made_list (n : Nat) (z : Value) : madeCells #[z] n = (List.replicate n z).toArray := by
  unfold madeCells
  apply Array.ext
  · simp
  · intro i h1 h2
    simp [Nat.mod_one]
theorem made (i : Int) (n : Nat) (hi : Hid (i = n)) (hn : n ≤ 4294967296) : ∀ W : World, (Instr.makeSlice 46 (.int .i64 i) (.int .i64 i)).run Try.prog W = .ok (.slice (some ⟨W.heap.size, 0, none⟩) n n) (W.alloc (.cells (List.replicate n (Value.int .i64 0)).toArray 3)) := by
  intro W
  rw [hi.out, ← made_list]
  exact run_make_row' 46 3 (.int .i64 0) 8 Try.underlying46 int_info rfl .i64 .i64 n (by omega) (by omega) W
theorem made_tb (W : World) (n : Nat) : Tb (W.alloc (.cells (List.replicate n (Value.int .i64 0)).toArray 3)) W.heap.size n (fun _ => 0) := fun j hj => by
  have b := Blk.new W (List.replicate n (Value.int .i64 0)) 3
  refine ⟨?_, b.free j⟩
  rw [b.cell j, List.getElem?_replicate, if_pos hj]; rfl

theorem rk {k m : Nat} (h : k < m) (hm : m ≤ 1024) : wrap64 ((k : Int) + 1) = (k : Int) + 1 ∧ ((k : Int) + 1).toNat = k + 1 ∧ 0 ≤ (k : Int) + 1 ∧ (k : Int) + 1 < (m : Int) + 1 ∧ (k : Int) < (m : Int) + 1 ∧ k + 1 < m + 1 := by
  unfold wrap64; omega
theorem wnext {i n : Nat} (h : i < n) (hn : n ≤ 6000000000000) : Value.int .i64 (wrap64 ((i : Int) + 1)) = Value.int .i64 ((i + 1 : Nat) : Int) := by
  have : wrap64 ((i : Int) + 1) = ((i + 1 : Nat) : Int) := by unfold wrap64; omega
  rw [this]
theorem rc1 {c n : Nat} (h : c ≤ n) (hn : n ≤ 6000000000000) : wrap64 ((c : Int) + 1) = (c : Int) + 1 := by unfold wrap64; omega
theorem rc2 {c d n : Nat} (h : c ≤ n) (hd : d ≤ n) (hn : n ≤ 6000000000000) : wrap64 ((c : Int) + (d : Int)) = (c : Int) + (d : Int) := by unfold wrap64; omega
/-- May it be? -/
def okN (n : Int) (D : List Ar) : Bool := decide (0 ≤ n) && decide (n ≤ 1024) && !D.any (outA n)

/-- What New hands back. -/
def NewOut (w : World) (n : Int) (D : List Ar) (e : Ending) (w' : World) : Prop :=
  Below w.heap.size w w' ∧ ((okN n D = false ∧ e = .returned (.tuple #[.pointer none, .int .i64 2])) ∨ (okN n D = true ∧ ∃ p r, e = .returned (.tuple #[p, .int .i64 0]) ∧ Joined D r ∧ r.length ≤ D.length ∧ Gr w' p n.toNat r))

theorem own_reads {w : World} {base c : Nat} {e : TypeId} {A : Option Addr} {r : List Ar} (h : w.ownsRow base e 3 (.slice A r.length c) r.length (r.flatMap enc1)) : Reads w A r ∧ r.length ≤ c ∧ ∀ g o, A = some ⟨g, o, none⟩ → base ≤ g ∧ g < w.heap.size := by
  refine ⟨fun hr => ?_, ?_, fun g o e => ?_⟩
  · rcases h.2 with ⟨_, h0⟩ | ⟨g, cap, cur, h0, _⟩
    · exact absurd (List.eq_nil_of_length_eq_zero h0) hr
    · injection h0 with h0 _ h1
      subst h0
      refine ⟨g, 0, rfl, fun i x hx => ?_⟩
      have hi := (List.getElem?_eq_some_iff.1 hx).1
      have hc : ∀ d v, (enc1 x)[d]? = some v → w.cell? ⟨g, 0 + i * 3 + d, none⟩ = some v := fun d v hv => by
        have hd := (List.getElem?_eq_some_iff.1 hv).1
        rw [enc1_len] at hd
        rw [Nat.zero_add, World.ownsRow.cellAt h (i * 3 + d) (by omega), flat_get enc1_len r i d hd, hx]; exact hv
      exact ⟨hc 0 _ rfl, hc 1 _ rfl, hc 2 _ rfl⟩
  · rcases h.2 with ⟨h0, h1⟩ | ⟨g, cap, cur, h0, _, _, h1, _⟩
    · omega
    · injection h0 with _ _ h2; omega
  · subst e
    exact World.ownsRow.lt h g rfl

/-- The table behind one more arc. -/
theorem Tb.next {W : World} {g n i k : Nat} {r : List Ar} {a : Ar} (h : Tb W g n (c1 r i)) (ha : r[i]? = some a) (hk : a.f0 = (k : Int)) (hkn : k + 1 < n) : Tb (W.setCell ⟨g, k + 1, none⟩ (.int .i64 ((c1 r i (k + 1) + 1 : Nat) : Int))) g n (c1 r (i + 1)) := by
  have := h.set (k := k + 1) (v := c1 r i (k + 1) + 1) hkn
  have e : (fun j => if j = k + 1 then c1 r i (k + 1) + 1 else c1 r i j) = c1 r (i + 1) := by
    funext j
    rw [c1_succ ha j]
    by_cases hj : j = k + 1
    · subst hj; rw [if_pos rfl, if_pos (by rw [hk]; omega)]
    · rw [if_neg hj, if_neg (by rw [hk]; omega)]; rfl
  rw [e] at this; exact this
/-- The table behind one more vertex. -/
def sums (r : List Ar) (v j : Nat) : Nat := if j ≤ v then cnt r j else c1 r r.length j
theorem Tb.add {W : World} {g n v : Nat} {r : List Ar} (h : Tb W g n (sums r v)) (hv : v + 1 < n) : Tb (W.setCell ⟨g, v + 1, none⟩ (.int .i64 ((c1 r r.length (v + 1) + cnt r v : Nat) : Int))) g n (sums r (v + 1)) := by
  have := h.set (k := v + 1) (v := c1 r r.length (v + 1) + cnt r v) hv
  have e : (fun j => if j = v + 1 then c1 r r.length (v + 1) + cnt r v else sums r v j) = sums r (v + 1) := by
    funext j
    unfold sums
    by_cases hj : j = v + 1
    · subst hj; rw [if_pos rfl, if_pos (Nat.le_refl _), cnt_succ]; omega
    · rw [if_neg hj]
      by_cases h2 : j ≤ v
      · rw [if_pos h2, if_pos (by omega)]
      · rw [if_neg h2, if_neg (by omega)]
  rw [e] at this; exact this

def RgN4.T : Bool × List (List Nat × List Nat) := (true, [([], []), ([0], [0]), ([1, 1], [1]), ([], []), ([3], [3]), ([2, 4], [2, 4]), ([5], [5]), ([6, 4, 0, 1, 2, 3, 4, 5, 6], [6])])
def RgN4.B : List Nat := [0, 1, 3, 0, 8, 31, 63, 127]
theorem RgN4.tab : rtab .any (opsOf Try.f9 4) = RgN4.T := by kernel_rfl
theorem RgN4.bits : waitsOk RgN4.T.2 RgN4.B = true := by kernel_rfl
def RgN8.T : Bool × List (List Nat × List Nat) := (true, [([], []), ([0], [0]), ([1], [1]), ([2], [2]), ([], []), ([4], [4]), ([5], [5]), ([3, 6], [3, 6]), ([7], [7]), ([8], [8]), ([3, 6, 0, 1, 2, 3, 4, 5, 6, 7, 8, 9], [3, 6]), ([10, 9, 0, 1, 2, 3, 4, 5, 6, 7, 8, 9], [9, 10])])
def RgN8.B : List Nat := [0, 1, 3, 7, 0, 16, 48, 127, 255, 511, 1023, 2047]
theorem RgN8.tab : rtab .any (opsOf Try.f9 8) = RgN8.T := by kernel_rfl
theorem RgN8.bits : waitsOk RgN8.T.2 RgN8.B = true := by kernel_rfl
def RgN13.T : Bool × List (List Nat × List Nat) := (true, [([], []), ([0], [0]), ([1], [1]), ([2], [2]), ([], []), ([4], [4]), ([3, 5], [3, 5]), ([6], [6]), ([], []), ([8], [8]), ([9], [9]), ([10], [10]), ([], []), ([11, 12], [11, 12]), ([13], [13]), ([7, 14], [7, 14]), ([3, 5, 0, 1, 2, 3, 4, 5, 6, 7, 8, 9, 10, 11, 12, 13, 14, 15], [3, 5]), ([16, 15, 0, 1, 2, 3, 4, 5, 6, 7, 8, 9, 10, 11, 12, 13, 14, 15], [15, 16])])
def RgN13.B : List Nat := [0, 1, 3, 7, 0, 16, 63, 127, 0, 256, 768, 1792, 0, 7936, 16128, 32767, 65535, 131071]
theorem RgN13.tab : rtab .any (opsOf Try.f9 13) = RgN13.T := by kernel_rfl
theorem RgN13.bits : waitsOk RgN13.T.2 RgN13.B = true := by kernel_rfl
set_option maxHeartbeats 4000000 in
set_option maxRecDepth 1000000 in
theorem new_c (n : Int) (A : Option Addr) (cap : Nat) (D : List Ar) (w : World) (R : Reads w A D) (hsz : D.length * 24 ≤ 140737488355328) :
    Calls Try.prog 9 #[.int .i64 n, .slice A D.length cap] w (NewOut w n D) := by
  have e1 : ∀ args w, (callFunc 26 args).run Try.prog w = .ok (.enter 26 args) w := enters_of Try.func26 (by kernel_rfl) rfl
  have e2 : ∀ args w, (callFunc 28 args).run Try.prog w = .ok (.enter 28 args) w := enters_of Try.func28 (by kernel_rfl) rfl
  have e3 : ∀ args w, (callFunc 27 args).run Try.prog w = .ok (.enter 27 args) w := enters_of Try.func27 (by kernel_rfl) rfl
  have HR := Lib.hid R
  obtain ⟨N, hN⟩ : ∃ N, D.length = N := ⟨_, rfl⟩
  have HN := Lib.hid hN
  have HCC : Hid (∀ (q p : Addr) (W : World), Below w.heap.size w W → q.block < W.heap.size → p.block < W.heap.size → W.cell? p = some (.int .i64 n) → W.cell? q = some (.func (.func 26) #[] #[.pointer (some p)]) →
      Calls Try.prog 27 #[.slice A N cap, .func (.func 28) #[] #[.pointer (some q)]] W fun e w' => e = .returned (.bool (D.any (outA n))) ∧ Below W.heap.size W w') := Lib.hid fun q p W hb hq hp h1 h2 => by
    have := containsFunc_w 28 #[.pointer (some q)] (outA n) A cap D W e2 (fun W2 hb2 x => new2 n x p q W2 (below_cell hb2 _ _ h1) (below_cell hb2 _ _ h2)) (HR.out.below hb) (by omega)
    rw [hN] at this; exact this
  have HF : Hid (∀ w' , Below w.heap.size w w' → okN n D = false → NewOut w n D (.returned (.tuple #[.pointer none, .int .i64 2])) w') := Lib.hid fun w' hb h => ⟨hb, .inl ⟨h, rfl⟩⟩
  rw [hN]
  clear R hN
  by_cases h1 : n < 0
  · have hk : okN n D = false := by unfold okN; rw [decide_eq_false (by omega)]; rfl
    have HK := Lib.hid hk
    have HB : Hid (Below w.heap.size w ((((w.alloc (.cells #[.int .i64 n] 3)).alloc (.cells #[.func (.func 26) #[] #[.pointer (some ⟨w.heap.size, 0, none⟩)]] 63))))) := Lib.hid (((Below.refl _ w).alloc (Nat.le_refl _) _).alloc (by simp) _)
    clear hk
    go_enter Try.func9, Try.ntmps9
    go_wp2
    refine bodyPost_ret (results_tmp2 (t := 4) (u := 5) rfl _ _ _) rfl ?_
    exact HF.out _ HB.out HK.out
  · by_cases h2 : n > 1024
    · have hk : okN n D = false := by unfold okN; rw [decide_eq_false (by omega : ¬ n ≤ 1024), Bool.and_false]; rfl
      have HK := Lib.hid hk
      have HB : Hid (Below w.heap.size w ((((w.alloc (.cells #[.int .i64 n] 3)).alloc (.cells #[.func (.func 26) #[] #[.pointer (some ⟨w.heap.size, 0, none⟩)]] 63))))) := Lib.hid (((Below.refl _ w).alloc (Nat.le_refl _) _).alloc (by simp) _)
      clear hk
      go_enter Try.func9, Try.ntmps9
      go_wp2
      refine bodyPost_ret (results_tmp2 (t := 4) (u := 5) rfl _ _ _) rfl ?_
      exact HF.out _ HB.out HK.out
    · obtain ⟨m, rfl⟩ : ∃ m : Nat, n = m := ⟨n.toNat, by omega⟩
      have HM : Hid (m ≤ 1024) := Lib.hid (by omega)
      have hB : Below w.heap.size w ((((w.alloc (.cells #[.int .i64 m] 3)).alloc (.cells #[.func (.func 26) #[] #[.pointer (some ⟨w.heap.size, 0, none⟩)]] 63)))) := ((Below.refl _ w).alloc (Nat.le_refl _) _).alloc (by simp) _
      have b1 := (Blk.new w [.int .i64 (m : Int)] 3).alloc (.cells #[.func (.func 26) #[] #[.pointer (some ⟨w.heap.size, 0, none⟩)]] 63)
      have b2 := Blk.new (w.alloc (.cells #[.int .i64 (m : Int)] 3)) [.func (.func 26) #[] #[.pointer (some ⟨w.heap.size, 0, none⟩)]] 63
      rw [World.size_alloc] at b2
      have HC := Lib.hid (HCC.out ⟨w.heap.size + 1, 0, none⟩ ⟨w.heap.size, 0, none⟩ _ hB b2.lt b1.lt ((b1.cell 0).trans rfl) ((b2.cell 0).trans rfl))
      have BN := Lib.hid b1
      have HB := Lib.hid hB
      clear HCC hB b1 b2
      cases hany : D.any (outA m) with
      | true =>
        have hk : okN (m : Int) D = false := by unfold okN; rw [hany]; simp
        have HK := Lib.hid hk
        rw [hany] at HC
        clear hk hany
        go_enter Try.func9, Try.ntmps9
        go_wp2_with (go_at_fn 27; refine HC.out.mono ?_; rintro e w' ⟨rfl, hb⟩; replace hb := Lib.hid hb)
        refine bodyPost_ret (results_tmp2 (t := 4) (u := 5) rfl _ _ _) rfl ?_
        exact HF.out _ (HB.out.trans (hb.out.mono HB.out.size)) HK.out
      | false =>
        have hk : okN (m : Int) D = true := by unfold okN; rw [hany, decide_eq_true (by omega), decide_eq_true (by omega)]; rfl
        have HK := Lib.hid hk
        rw [hany] at HC
        have HIN : Hid (∀ x ∈ D, 0 ≤ x.f0 ∧ x.f0 < m) := Lib.hid fun x hx => by
          have := List.any_eq_false.1 hany x hx
          unfold outA outB at this
          simp only [Bool.or_eq_true, decide_eq_true_eq, not_or] at this
          omega
        clear hk hany
        go_enter Try.func9, Try.ntmps9
        go_wp2_with (go_at_fn 27; refine HC.out.mono ?_; rintro e w4 ⟨rfl, hb⟩; replace hb := Lib.hid hb)
        have HB4 : Hid (Below w.heap.size w w4) := Lib.hid (HB.out.trans (hb.out.mono HB.out.size))
        have HN4 : Hid (w4.cell? ⟨w.heap.size, 0, none⟩ = some (.int .i64 (m : Int))) := Lib.hid (below_cell hb.out _ _ ((BN.out.cell 0).trans rfl))
        have HR4 : Hid (Reads w4 A D) := Lib.hid (HR.out.below HB4.out)
        have HML : Hid (∀ W : World, (Instr.makeSlice 46 (.int .i64 ((m : Int) + 1)) (.int .i64 ((m : Int) + 1))).run Try.prog W = .ok (.slice (some ⟨W.heap.size, 0, none⟩) (m + 1) (m + 1)) (W.alloc (.cells (List.replicate (m + 1) (Value.int .i64 0)).toArray 3))) := Lib.hid (made ((m : Int) + 1) (m + 1) (Lib.hid (by omega)) (by have := HM.out; omega))
        have HJ : Hid (∀ W : World, Below w4.heap.size w4 W → Calls Try.prog 29 #[.slice A N cap] W fun e w' => ∃ v r, e = .returned v ∧ Joined D r ∧ r.length ≤ D.length ∧ w'.ownsRow W.heap.size 62 3 v r.length (r.flatMap enc1) ∧ Below W.heap.size W w') := Lib.hid fun W hb => by
          have := joined_c A cap D W (HR4.out.below hb) hsz
          rw [HN.out] at this
          exact this.mono fun e w' ⟨v, r, h1, h2, h3, h4⟩ => ⟨v, r, h1, h2, by rw [HN.out]; exact h3, h4⟩
        have hN4 : ∀ W, Below w4.heap.size w4 W → W.cell? ⟨w.heap.size, 0, none⟩ = some (.int .i64 (m : Int)) := fun W h => below_cell h _ _ HN4.out
        have HN4' := Lib.hid hN4
        have rm : wrap64 ((m : Int) + 1) = (m : Int) + 1 := by have := HM.out; unfold wrap64; omega
        clear HB HC hb BN hN4
        refine start_ (n := 8) (S := fun w' => Below w4.heap.size w4 w') (ds := []) #[false, false, false, false, false, false, false, false] (by kernel_rfl) rfl rfl (Below.refl w4.heap.size w4).drew (fun hHeld => ?_)
        refine with_tabW RgN4.tab RgN4.bits (fun HT_ HW_ => ?_)
        generalize w4.drew = wd at *
        refine take_ (i := 0) (N := some 23) (v := ?_) (a' := ?_) #[true, false, false, false, false, false, false, false] rfl rfl (take_ofW HT_.out HW_.out (by kernel_rfl)) (fun _ _ _ h => h) (Or.inl ⟨by rfl, ?_⟩) hHeld ?_ ?_
        rotate_left
        · intro w' hW
          have x0_ := HN4'.out w' hW
          go_simp
          with_reducible rfl
        rotate_left
        · simp only [Act.put, List.setIfInBounds_toArray, List.set_cons_zero, List.set_cons_succ, i64_w, i32_w]
          rfl
        refine pure_ (i := 1) (N := some 24) (v := ?_) (a' := ?_) #[true, true, false, false, false, false, false, false] rfl rfl (any_of HT_.out (by kernel_rfl)) (fun _ _ _ h => h) (Or.inl ⟨by rfl, ?_⟩) ?_ ?_
        rotate_left
        · intro w'
          go_simp
          with_reducible rfl
        rotate_left
        · simp only [Act.put, List.setIfInBounds_toArray, List.set_cons_zero, List.set_cons_succ, i64_w, i32_w]
          rfl
        refine pure_ (i := 3) (N := some 26) (v := ?_) (a' := ?_) #[true, true, false, true, false, false, false, false] rfl rfl (any_of HT_.out (by kernel_rfl)) (fun _ _ _ h => h) (Or.inl ⟨by rfl, ?_⟩) ?_ ?_
        rotate_left
        · intro w'
          go_simp
          with_reducible rfl
        rotate_left
        · simp only [Act.put, List.setIfInBounds_toArray, List.set_cons_zero, List.set_cons_succ, i64_w, i32_w]
          rfl
        refine join_ (σ := Nat × Option Addr × Nat × List Ar) 3 #[true, true, true, true, true, false, false, false] (fun s_ => [(25, .slice (some ⟨s_.1, 0, none⟩) (m + 1) (m + 1)), (27, .slice s_.2.1 s_.2.2.2.length s_.2.2.1)]) (fun s_ w' => Below w4.heap.size w4 w' ∧ Tb w' s_.1 (m + 1) (fun _ => 0) ∧ s_.1 < w'.heap.size ∧ w4.heap.size ≤ s_.1 ∧ Joined D s_.2.2.2 ∧ s_.2.2.2.length ≤ D.length ∧ w'.ownsRow w4.heap.size 62 3 (.slice s_.2.1 s_.2.2.2.length s_.2.2.1) s_.2.2.2.length (s_.2.2.2.flatMap enc1) ∧ ∀ g o, s_.2.1 = some ⟨g, o, none⟩ → g ≠ s_.1) ?_ ?_
        rotate_left
        · intro hCont
          refine two_ (i := 2) (j := 4) (Ni := some 25) (Nj := some 27) #[true, true, true, true, false, false, false, false] #[true, true, false, true, true, false, false, false] rfl rfl rfl rfl (two_of HT_.out (by kernel_rfl)) (by decide) (by decide) (fun K hK => ?_) (fun K hK => ?_)
          · refine value_ (v := .slice (some ⟨wd.heap.size, 0, none⟩) (m + 1) (m + 1)) (w1 := wd.alloc (.cells (List.replicate (m + 1) (Value.int .i64 0)).toArray 3)) (by rfl) rfl (by first | (go_simp; done) | (go_simp; rfl) | (go_simp; simp only [HML.out]; rfl)) ?_
            have hT := made_tb wd (m + 1)
            have hga : w4.heap.size ≤ wd.heap.size := hHeld.size
            have hs1 : (wd.alloc (.cells (List.replicate (m + 1) (Value.int .i64 0)).toArray 3)).heap.size = wd.heap.size + 1 := World.size_alloc _ _
            have hn_ := below_alloc hHeld (.cells (List.replicate (m + 1) (Value.int .i64 0)).toArray 3)
            refine hK.out _ _ hn_ (fun hHeld => ?_)
            clear hK K hn_
            generalize wd.alloc (.cells (List.replicate (m + 1) (Value.int .i64 0)).toArray 3) = wk at *
            generalize wd.heap.size = ga at *
            refine norm_ (a' := ?_) ?_ ?_
            rotate_left
            · show Act.put _ (some 25) _ = _
              simp only [Act.put, List.setIfInBounds_toArray, List.set_cons_zero, List.set_cons_succ, i64_w, i32_w]
              rfl
            refine one_ (i := 4) (N := some 27) #[true, true, true, true, true, false, false, false] rfl rfl (one_of HT_.out (by kernel_rfl)) (by decide) (fun K hK => ?_)
            refine goes_ Try.func29 (by kernel_rfl) rfl #[.slice A N cap] (by rfl) rfl rfl (by (try simp only [List.map_toArray, List.map_cons, List.map_nil]); first | done | rfl) ?_
            refine (HJ.out _ hHeld).mono ?_
            rintro e_ wj ⟨v5, r, rfl, hj, hlr, hown, hbj⟩
            refine ⟨_, rfl, ?_⟩
            obtain ⟨A5, c5, rfl⟩ := own_slice hown
            have hn_ := hHeld.trans (hbj.mono hHeld.size)
            have hlt := (own_reads hown).2.2
            replace hown := own_base hown hHeld.size
            have hT := hT.keep hbj (by rw [hs1]; exact Nat.lt_succ_self _)
            have hne : ∀ g o, A5 = some ⟨g, o, none⟩ → g ≠ ga := fun g o e => by have := (hlt g o e).1; rw [hs1] at this; omega
            have hgs : ga < wj.heap.size := by have := hbj.size; omega
            refine hK.out _ _ hn_ (fun hHeld => ?_)
            clear hK K hn_
            refine norm_ (a' := ?_) ?_ ?_
            rotate_left
            · show Act.put _ (some 27) _ = _
              simp only [Act.put, List.setIfInBounds_toArray, List.set_cons_zero, List.set_cons_succ, i64_w, i32_w]
              rfl
            exact norm_ (by simp only [putAll, Act.put, List.setIfInBounds_toArray, List.set_cons_zero, List.set_cons_succ]) (hCont (ga, A5, c5, r) _ ⟨hHeld, hT, hgs, hga, hj, hlr, hown, hne⟩)
          · refine goes_ Try.func29 (by kernel_rfl) rfl #[.slice A N cap] (by rfl) rfl rfl (by (try simp only [List.map_toArray, List.map_cons, List.map_nil]); first | done | rfl) ?_
            refine (HJ.out _ hHeld).mono ?_
            rintro e_ wj ⟨v5, r, rfl, hj, hlr, hown, hbj⟩
            refine ⟨_, rfl, ?_⟩
            obtain ⟨A5, c5, rfl⟩ := own_slice hown
            have hn_ := hHeld.trans (hbj.mono hHeld.size)
            have hlt := (own_reads hown).2.2
            replace hown := own_base hown hHeld.size
            refine hK.out _ _ hn_ (fun hHeld => ?_)
            clear hK K hn_
            refine norm_ (a' := ?_) ?_ ?_
            rotate_left
            · show Act.put _ (some 27) _ = _
              simp only [Act.put, List.setIfInBounds_toArray, List.set_cons_zero, List.set_cons_succ, i64_w, i32_w]
              rfl
            refine one_ (i := 2) (N := some 25) #[true, true, true, true, true, false, false, false] rfl rfl (one_of HT_.out (by kernel_rfl)) (by decide) (fun K hK => ?_)
            refine value_ (v := .slice (some ⟨wj.heap.size, 0, none⟩) (m + 1) (m + 1)) (w1 := wj.alloc (.cells (List.replicate (m + 1) (Value.int .i64 0)).toArray 3)) (by rfl) rfl (by first | (go_simp; done) | (go_simp; rfl) | (go_simp; simp only [HML.out]; rfl)) ?_
            have hT := made_tb wj (m + 1)
            have hga : w4.heap.size ≤ wj.heap.size := hHeld.size
            have hs1 : (wj.alloc (.cells (List.replicate (m + 1) (Value.int .i64 0)).toArray 3)).heap.size = wj.heap.size + 1 := World.size_alloc _ _
            have hn_ := below_alloc hHeld (.cells (List.replicate (m + 1) (Value.int .i64 0)).toArray 3)
            have hne : ∀ g o, A5 = some ⟨g, o, none⟩ → g ≠ wj.heap.size := fun g o e => Nat.ne_of_lt (hlt g o e).2
            have hown := World.ownsRow.alloc hown (.cells (List.replicate (m + 1) (Value.int .i64 0)).toArray 3)
            refine hK.out _ _ hn_ (fun hHeld => ?_)
            clear hK K hn_
            generalize wj.alloc (.cells (List.replicate (m + 1) (Value.int .i64 0)).toArray 3) = wk at *
            generalize wj.heap.size = ga at *
            refine norm_ (a' := ?_) ?_ ?_
            rotate_left
            · show Act.put _ (some 25) _ = _
              simp only [Act.put, List.setIfInBounds_toArray, List.set_cons_zero, List.set_cons_succ, i64_w, i32_w]
              rfl
            exact norm_ (by simp only [putAll, Act.put, List.setIfInBounds_toArray, List.set_cons_zero, List.set_cons_succ]) (hCont (ga, A5, c5, r) _ ⟨hHeld, hT, (by omega), hga, hj, hlr, hown, hne⟩)
        intro s_ w_ hF_
        obtain ⟨ga, A5, c5, r⟩ := s_
        obtain ⟨hHeld, hT, hgs, hga, hj, hlr, hown, hne⟩ := hF_
        simp only at hHeld hT hgs hga hj hlr hown hne
        refine norm_ (a' := ?_) ?_ ?_
        rotate_left
        · simp only [putAll, Act.put, List.setIfInBounds_toArray, List.set_cons_zero, List.set_cons_succ]
          rfl
        refine pure_ (i := 5) (N := some 28) (v := ?_) (a' := ?_) #[true, true, true, true, true, true, false, false] rfl rfl (any_of HT_.out (by kernel_rfl)) (fun _ _ _ h => h) (Or.inl ⟨by rfl, ?_⟩) ?_ ?_
        rotate_left
        · intro w'
          go_simp
          with_reducible rfl
        rotate_left
        · simp only [Act.put, List.setIfInBounds_toArray, List.set_cons_zero, List.set_cons_succ, i64_w, i32_w]
          rfl
        refine one_ (i := 6) (N := some 29) #[true, true, true, true, true, true, true, false] rfl rfl (one_of HT_.out (by kernel_rfl)) (by decide) (fun K hK => ?_)
        refine value_ (v := .pointer (some ⟨w_.heap.size, 0, none⟩)) (w1 := w_.alloc (.cells #[.slice (some ⟨ga, 0, none⟩) (m + 1) (m + 1), .slice A5 r.length c5] 68)) (by rfl) rfl (by first | (go_simp; done) | (go_simp; rfl)) ?_
        have bg := Blk.new w_ [.slice (some ⟨ga, 0, none⟩) (m + 1) (m + 1), .slice A5 r.length c5] 68
        have hn_ := below_alloc hHeld (.cells #[.slice (some ⟨ga, 0, none⟩) (m + 1) (m + 1), .slice A5 r.length c5] 68)
        have hown := World.ownsRow.alloc hown (.cells #[.slice (some ⟨ga, 0, none⟩) (m + 1) (m + 1), .slice A5 r.length c5] 68)
        have hT := hT.keep ((Below.refl _ w_).alloc (Nat.le_refl _) (.cells #[.slice (some ⟨ga, 0, none⟩) (m + 1) (m + 1), .slice A5 r.length c5] 68)) hgs
        have hbs : (w_.alloc (.cells #[.slice (some ⟨ga, 0, none⟩) (m + 1) (m + 1), .slice A5 r.length c5] 68)).heap.size = w_.heap.size + 1 := World.size_alloc _ _
        refine hK.out _ _ hn_ (fun hHeld => ?_)
        clear hK K hn_
        generalize w_.alloc (.cells #[.slice (some ⟨ga, 0, none⟩) (m + 1) (m + 1), .slice A5 r.length c5] 68) = w5 at *
        generalize w_.heap.size = b at *
        refine norm_ (a' := ?_) ?_ ?_
        rotate_left
        · show Act.put _ (some 29) _ = _
          simp only [Act.put, List.setIfInBounds_toArray, List.set_cons_zero, List.set_cons_succ, i64_w, i32_w]
          rfl
        refine pure_ (i := 7) (N := some 7) (v := ?_) (a' := ?_) #[true, true, true, true, true, true, true, true] rfl rfl (any_of HT_.out (by kernel_rfl)) (fun _ _ _ h => h) (Or.inl ⟨by rfl, ?_⟩) ?_ ?_
        rotate_left
        · intro w'
          go_simp
          with_reducible rfl
        rotate_left
        · simp only [Act.put, List.setIfInBounds_toArray, List.set_cons_zero, List.set_cons_succ, i64_w, i32_w]
          rfl
        refine done_ (done_of HT_.out (by kernel_rfl)) ?_
        obtain ⟨hRd, hrc, hge⟩ := own_reads hown
        have HW45 : Hid (w4.heap.size ≤ w5.heap.size) := Lib.hid hHeld.size
        have HGA4 : Hid (w4.heap.size ≤ ga) := Lib.hid hga
        have HN45 : Hid (w5.cell? ⟨w.heap.size, 0, none⟩ = some (.int .i64 (m : Int))) := Lib.hid (HN4'.out _ hHeld)
        have HLD5 : Hid (r.length ≤ D.length) := Lib.hid hlr
        have HHB : Hid (Below w.heap.size w w5) := Lib.hid (HB4.out.trans (hHeld.mono HB4.out.size))
        have HGA : Hid (w.heap.size ≤ ga) := Lib.hid (Nat.le_trans HB4.out.size hga)
        have hb0 := (bg.cell 0).trans rfl
        have hb1 := (bg.cell 1).trans rfl
        simp only [List.getElem?_cons_zero, List.getElem?_cons_succ] at hb0 hb1
        have HRd := Lib.hid hRd
        have HJD := Lib.hid hj
        obtain ⟨NR, hNR⟩ : ∃ NR, r.length = NR := ⟨_, rfl⟩
        have HNR := Lib.hid hNR
        have HNE := Lib.hid hne
        have HRC := Lib.hid hrc
        have HB5 : Hid (∀ W, Bx ga w5 W → W.cell? ⟨b, 0, none⟩ = some (.slice (some ⟨ga, 0, none⟩) (m + 1) (m + 1)) ∧ W.cell? ⟨b, 1, none⟩ = some (.slice A5 NR c5)) := Lib.hid fun W h => ⟨(h.2 ⟨b, 0, none⟩ (by show b < _; omega) (by show b ≠ ga; omega)).trans hb0, (h.2 ⟨b, 1, none⟩ (by show b < _; omega) (by show b ≠ ga; omega)).trans (by rw [hb1, hNR])⟩
        have HX5 : Hid (∀ W, Bx ga w5 W → Reads W A5 r) := Lib.hid fun W h hr => by
          obtain ⟨bb, o, e, hc⟩ := HRd.out hr
          subst e
          have hne2 := HNE.out _ _ rfl
          refine ⟨bb, o, rfl, fun i x hx => ?_⟩
          obtain ⟨q0, q1, q2⟩ := hc i x hx
          exact ⟨(h.2 _ (cell_lt q0) hne2).trans q0, (h.2 _ (cell_lt q1) hne2).trans q1, (h.2 _ (cell_lt q2) hne2).trans q2⟩
        have HLR : Hid (NR ≤ 6000000000000) := Lib.hid (by omega)
        rw [hNR] at hb1 ⊢
        clear hRd hrc hge hj hNR hne hHeld bg hown hlr HR4 HJ HML HRd
        have HT5 : Hid (Tb w5 ga (m + 1) (c1 r 0)) := Lib.hid hT
        have HGS5 : Hid (ga < w5.heap.size) := Lib.hid (by omega)
        clear hT hbs hgs hga rm
        go_wp2_with fail
        go_loopg [9, 35] NR (fun kx _ v35 wr => ∃ i : Nat, v35 = .int .i64 i ∧ i ≤ NR ∧ NR - i ≤ kx ∧ Aside (Bx ga w5 wr) ∧ Aside (Tb wr ga (m + 1) (c1 r i)) ∧ Aside (Below w.heap.size w wr))
        case atStart => exact ⟨0, rfl, by omega, by omega, Bx.refl _ _, HT5.out, HHB.out⟩
        case round =>
          obtain ⟨i, rfl, hi, hkx, HBX, HTB, HBW⟩ := hrel
          by_cases hlt : i < NR
          · have hlti : (i : Int) < (NR : Int) := by omega
            have hx : r[i]? = some (r[i]'(by rw [HNR.out]; exact hlt)) := List.getElem?_eq_getElem _
            generalize (r[i]'(by rw [HNR.out]; exact hlt)) = x at hx
            obtain ⟨y, hy, hy0, hy1⟩ := HJD.out.mem (List.mem_of_getElem? hx)
            obtain ⟨hin1, hin2⟩ := HIN.out y hy
            obtain ⟨k, hk⟩ : ∃ k : Nat, x.f0 = (k : Int) := ⟨x.f0.toNat, by omega⟩
            have hkm : k < m := by omega
            obtain ⟨bb, o, rfl, hcell⟩ := HX5.out _ HBX.out (by intro e; rw [e] at hx; cases hx)
            obtain ⟨l0, l1, l2⟩ := hcell i x hx
            rw [hk] at l0
            have HA := Lib.hid hx
            have HK0 := Lib.hid hk
            have rci := c1_le r i (k + 1)
            rw [HNR.out] at rci
            clear hcell hx hk hy hy0 hy1 hin1 hin2
            go_wp2_with fail
            have BK6 := Blk.new wr [.int .i64 (k : Int), .int .i64 x.f1, .int .i64 x.f2] 62
            have HB6 := Lib.hid (HBW.out.alloc (HBW.out.size) (.cells #[.int .i64 (k : Int), .int .i64 x.f1, .int .i64 x.f2] 62))
            have hbl := (Below.refl wr.heap.size wr).alloc (Nat.le_refl _) (.cells #[.int .i64 (k : Int), .int .i64 x.f1, .int .i64 x.f2] 62)
            have HBX6 := Lib.hid (HBX.out.below hbl)
            have hgr : ga < wr.heap.size := Nat.lt_of_lt_of_le HGS5.out HBX.out.1
            have hT := HTB.out.keep hbl hgr
            have HGS6 : Hid (ga < (wr.alloc (.cells #[.int .i64 (k : Int), .int .i64 x.f1, .int .i64 x.f2] 62)).heap.size) := Lib.hid (Nat.lt_of_lt_of_le hgr hbl.size)
            clear HBX HTB HBW l0 l1 l2 hbl hgr
            generalize wr.heap.size = p at *
            generalize wr.alloc (.cells #[.int .i64 (k : Int), .int .i64 x.f1, .int .i64 x.f2] 62) = w6 at *
            have HY : Hid (∀ W, Below w6.heap.size w6 W → W.cell? ⟨b, 0, none⟩ = some (.slice (some ⟨ga, 0, none⟩) (m + 1) (m + 1)) ∧ W.cell? ⟨p, 0, none⟩ = some (.int .i64 (k : Int)) ∧ (W.cell? ⟨ga, k + 1, none⟩ = some (.int .i64 (c1 r i (k + 1) : Int)) ∧ W.frozen? ⟨ga, k + 1, none⟩ = false) ∧ True) := Lib.hid fun W h => ⟨(HB5.out W (HBX6.out.below h)).1, below_cell h _ _ ((BK6.cell 0).trans rfl), hT.keep h HGS6.out (k + 1) (Nat.succ_lt_succ hkm), trivial⟩
            obtain ⟨r1, r2, r3, r4, -, -⟩ := rk hkm HM.out
            have r5 := rc1 rci HLR.out
            clear BK6
            refine start_ (n := 12) (S := fun w' => Below w6.heap.size w6 w') (ds := [11]) #[false, false, false, false, false, false, false, false, false, false, false, false] (by kernel_rfl) rfl rfl (Below.refl w6.heap.size w6).drew (fun hHeld => ?_)
            refine with_tabW RgN8.tab RgN8.bits (fun HT_ HW_ => ?_)
            generalize w6.drew = wx at *
            refine pure_ (i := 0) (N := some 39) (v := ?_) (a' := ?_) #[true, false, false, false, false, false, false, false, false, false, false, false] rfl rfl (any_of HT_.out (by kernel_rfl)) (fun _ _ _ h => h) (Or.inl ⟨by rfl, ?_⟩) ?_ ?_
            rotate_left
            · intro w'
              go_simp
              with_reducible rfl
            rotate_left
            · simp only [Act.put, List.setIfInBounds_toArray, List.set_cons_zero, List.set_cons_succ, i64_w, i32_w]
              rfl
            refine pure_ (i := 1) (N := some 40) (v := ?_) (a' := ?_) #[true, true, false, false, false, false, false, false, false, false, false, false] rfl rfl (any_of HT_.out (by kernel_rfl)) (fun _ _ _ h => h) (Or.inl ⟨by rfl, ?_⟩) ?_ ?_
            rotate_left
            · intro w'
              go_simp
              with_reducible rfl
            rotate_left
            · simp only [Act.put, List.setIfInBounds_toArray, List.set_cons_zero, List.set_cons_succ, i64_w, i32_w]
              rfl
            refine pure_ (i := 2) (N := some 41) (v := ?_) (a' := ?_) #[true, true, true, false, false, false, false, false, false, false, false, false] rfl rfl (any_of HT_.out (by kernel_rfl)) (fun _ _ _ h => h) (Or.inl ⟨by rfl, ?_⟩) ?_ ?_
            rotate_left
            · intro w'
              go_simp
              with_reducible rfl
            rotate_left
            · simp only [Act.put, List.setIfInBounds_toArray, List.set_cons_zero, List.set_cons_succ, i64_w, i32_w]
              rfl
            refine take_ (i := 3) (N := some 42) (v := ?_) (a' := ?_) #[true, true, true, true, false, false, false, false, false, false, false, false] rfl rfl (take_ofW HT_.out HW_.out (by kernel_rfl)) (fun _ _ _ h => h) (Or.inl ⟨by rfl, ?_⟩) hHeld ?_ ?_
            rotate_left
            · intro w' hW
              obtain ⟨y0_, y1_, ⟨y2_, y3_⟩, y4_⟩ := HY.out w' hW
              go_simp
              with_reducible rfl
            rotate_left
            · simp only [Act.put, List.setIfInBounds_toArray, List.set_cons_zero, List.set_cons_succ, i64_w, i32_w]
              rfl
            refine pure_ (i := 4) (N := some 43) (v := ?_) (a' := ?_) #[true, true, true, true, true, false, false, false, false, false, false, false] rfl rfl (any_of HT_.out (by kernel_rfl)) (fun _ _ _ h => h) (Or.inl ⟨by rfl, ?_⟩) ?_ ?_
            rotate_left
            · intro w'
              go_simp
              with_reducible rfl
            rotate_left
            · simp only [Act.put, List.setIfInBounds_toArray, List.set_cons_zero, List.set_cons_succ, i64_w, i32_w]
              rfl
            refine take_ (i := 5) (N := some 44) (v := ?_) (a' := ?_) #[true, true, true, true, true, true, false, false, false, false, false, false] rfl rfl (take_ofW HT_.out HW_.out (by kernel_rfl)) (fun _ _ _ h => h) (Or.inl ⟨by rfl, ?_⟩) hHeld ?_ ?_
            rotate_left
            · intro w' hW
              obtain ⟨y0_, y1_, ⟨y2_, y3_⟩, y4_⟩ := HY.out w' hW
              go_simp
              with_reducible rfl
            rotate_left
            · simp only [Act.put, List.setIfInBounds_toArray, List.set_cons_zero, List.set_cons_succ, i64_w, i32_w]
              rfl
            refine pure_ (i := 6) (N := some 45) (v := ?_) (a' := ?_) #[true, true, true, true, true, true, true, false, false, false, false, false] rfl rfl (any_of HT_.out (by kernel_rfl)) (fun _ _ _ h => h) (Or.inl ⟨by rfl, ?_⟩) ?_ ?_
            rotate_left
            · intro w'
              go_simp
              with_reducible rfl
            rotate_left
            · simp only [Act.put, List.setIfInBounds_toArray, List.set_cons_zero, List.set_cons_succ, i64_w, i32_w]
              rfl
            refine pure_ (i := 7) (N := some 46) (v := ?_) (a' := ?_) #[true, true, true, true, true, true, true, true, false, false, false, false] rfl rfl (any_of HT_.out (by kernel_rfl)) (fun _ _ _ h => h) (Or.inl ⟨by rfl, ?_⟩) ?_ ?_
            rotate_left
            · intro w'
              go_simp
              with_reducible rfl
            rotate_left
            · simp only [Act.put, List.setIfInBounds_toArray, List.set_cons_zero, List.set_cons_succ, i64_w, i32_w]
              rfl
            refine take_ (i := 8) (N := some 47) (v := ?_) (a' := ?_) #[true, true, true, true, true, true, true, true, true, false, false, false] rfl rfl (take_ofW HT_.out HW_.out (by kernel_rfl)) (fun _ _ _ h => h) (Or.inl ⟨by rfl, ?_⟩) hHeld ?_ ?_
            rotate_left
            · intro w' hW
              obtain ⟨y0_, y1_, ⟨y2_, y3_⟩, y4_⟩ := HY.out w' hW
              go_simp
              with_reducible rfl
            rotate_left
            · simp only [Act.put, List.setIfInBounds_toArray, List.set_cons_zero, List.set_cons_succ, i64_w, i32_w]
              rfl
            refine pure_ (i := 9) (N := some 48) (v := ?_) (a' := ?_) #[true, true, true, true, true, true, true, true, true, true, false, false] rfl rfl (any_of HT_.out (by kernel_rfl)) (fun _ _ _ h => h) (Or.inl ⟨by rfl, ?_⟩) ?_ ?_
            rotate_left
            · intro w'
              go_simp
              with_reducible rfl
            rotate_left
            · simp only [Act.put, List.setIfInBounds_toArray, List.set_cons_zero, List.set_cons_succ, i64_w, i32_w]
              rfl
            refine pure_ (i := 10) (N := some 49) (v := ?_) (a' := ?_) #[true, true, true, true, true, true, true, true, true, true, true, false] rfl rfl (any_of HT_.out (by kernel_rfl)) (fun _ _ _ h => h) (Or.inl ⟨by rfl, ?_⟩) ?_ ?_
            rotate_left
            · intro w'
              go_simp
              with_reducible rfl
            rotate_left
            · simp only [Act.put, List.setIfInBounds_toArray, List.set_cons_zero, List.set_cons_succ, i64_w, i32_w]
              rfl
            refine last_ (i := 11) (N := none) #[true, true, true, true, true, true, true, true, true, true, true, true] rfl rfl (one_of HT_.out (by kernel_rfl)) (by decide) (fun K hK => ?_)
            obtain ⟨y0_, y1_, ⟨y2_, y3_⟩, y4_⟩ := HY.out _ hHeld
            refine skip_ (w1 := wx.setCell ⟨ga, k + 1, none⟩ (.int .i64 ((c1 r i (k + 1) : Int) + 1))) (by rfl) rfl (by first | (go_simp; done) | (go_simp; rfl)) ?_
            refine hK.out _ _ ?_
            clear hK K
            refine done_ (done_of HT_.out (by kernel_rfl)) ?_
            have hst := Tb.next (hT.keep hHeld HGS6.out) HA.out HK0.out (Nat.succ_lt_succ hkm)
            replace hst := Lib.hid hst
            have hBX := Lib.hid (Bx.set (k := k + 1) (v := .int .i64 ((c1 r i (k + 1) : Int) + 1)) (HBX6.out.below hHeld))
            have hBW := Lib.hid ((HB6.out.trans (hHeld.mono HB6.out.size)).setCell (p := ⟨ga, k + 1, none⟩) HGA.out (.int .i64 ((c1 r i (k + 1) : Int) + 1)))
            clear hHeld hT r1 r2 r3 r4 r5 rci
            go_wp2
            go_roundg (NR - (i + 1))
            case measure => exact Nat.lt_of_lt_of_le (Nat.sub_lt_sub_left hlt (Nat.lt_succ_self i)) hkx
            case rel => exact ⟨i + 1, wnext hlt HLR.out, hlt, Nat.le_refl _, hBX.out, hst.out, hBW.out⟩
          · have hin : NR = i := by omega
            subst hin
            have hlti : ¬ (NR : Int) < (NR : Int) := by omega
            have hn4 := (HBX.out.below (Below.refl _ _)).2
            have hcn : wr.cell? ⟨w.heap.size, 0, none⟩ = some (.int .i64 (m : Int)) := by
              rw [HBX.out.2 ⟨w.heap.size, 0, none⟩ (Nat.lt_of_lt_of_le (cell_lt HN4.out) HW45.out) (by show w.heap.size ≠ ga; exact Nat.ne_of_lt (Nat.lt_of_lt_of_le (cell_lt HN4.out) HGA4.out))]
              exact HN45.out
            clear hn4
            go_wp2_with fail
            have HT2 : Hid (Tb wr ga (m + 1) (sums r 0)) := Lib.hid (fun j hj => by
              have := HTB.out j hj
              have e : sums r 0 j = c1 r NR j := by
                unfold sums
                by_cases h0 : j ≤ 0
                · have : j = 0 := by omega
                  subst this
                  rw [if_pos (Nat.le_refl _), cnt_zero (fun a ha => by obtain ⟨y, hy, e1, _⟩ := HJD.out.mem ha; rw [e1]; exact (HIN.out y hy).1)]
                  unfold c1
                  symm
                  rw [List.length_eq_zero_iff, List.filter_eq_nil_iff]
                  intro a ha
                  obtain ⟨y, hy, e1, _⟩ := HJD.out.mem (List.mem_of_mem_take ha)
                  have := (HIN.out y hy).1
                  simp; omega
                · rw [if_neg h0, HNR.out]
              rw [e]; exact this)
            have HBX1 := Lib.hid HBX.out
            have HBW1 := Lib.hid HBW.out
            clear HBX HTB HBW hcn
            go_loopg [10, 52] m (fun kx _ v52 wr => ∃ v : Nat, v52 = .int .i64 v ∧ v ≤ m ∧ m - v ≤ kx ∧ Aside (Bx ga w5 wr) ∧ Aside (Tb wr ga (m + 1) (sums r v)) ∧ Aside (Below w.heap.size w wr))
            case atStart => exact ⟨0, rfl, by omega, by omega, HBX1.out, HT2.out, HBW1.out⟩
            case round =>
              obtain ⟨v, rfl, hv, hkv, HBX, HTB, HBW⟩ := hrel
              by_cases hlv : v < m
              · have hlvi : (v : Int) < (m : Int) := by omega
                go_wp2_with fail
                have HB6 := Lib.hid HBW.out
                have HBX6 := Lib.hid HBX.out
                have hT := HTB.out
                have HGS6 : Hid (ga < wr.heap.size) := Lib.hid (Nat.lt_of_lt_of_le HGS5.out HBX.out.1)
                clear HBX HTB HBW
                generalize wr = w6 at *
                have HY : Hid (∀ W, Below w6.heap.size w6 W → W.cell? ⟨b, 0, none⟩ = some (.slice (some ⟨ga, 0, none⟩) (m + 1) (m + 1)) ∧ W.cell? ⟨ga, v, none⟩ = some (.int .i64 (cnt r v : Int)) ∧ (W.cell? ⟨ga, v + 1, none⟩ = some (.int .i64 (c1 r NR (v + 1) : Int)) ∧ W.frozen? ⟨ga, v + 1, none⟩ = false) ∧ True) := Lib.hid fun W h => by
                  have q1 := hT.keep h HGS6.out v (by omega)
                  have q2 := hT.keep h HGS6.out (v + 1) (by omega)
                  unfold sums at q1 q2
                  rw [if_pos (Nat.le_refl _)] at q1
                  rw [if_neg (by omega), HNR.out] at q2
                  exact ⟨(HB5.out W (HBX6.out.below h)).1, q1.1, q2, trivial⟩
                have rcA := c1_le r NR (v + 1)
                have rcB := cnt_le r v
                rw [HNR.out] at rcA rcB
                obtain ⟨r1, r2, r3, r4, r6, -⟩ := rk hlv HM.out
                have r5 := Cs.Ai.rc2 rcA rcB HLR.out
                refine start_ (n := 18) (S := fun w' => Below w6.heap.size w6 w') (ds := [17]) #[false, false, false, false, false, false, false, false, false, false, false, false, false, false, false, false, false, false] (by kernel_rfl) rfl rfl (Below.refl w6.heap.size w6).drew (fun hHeld => ?_)
                refine with_tabW RgN13.tab RgN13.bits (fun HT_ HW_ => ?_)
                generalize w6.drew = wx at *
                refine pure_ (i := 0) (N := some 55) (v := ?_) (a' := ?_) #[true, false, false, false, false, false, false, false, false, false, false, false, false, false, false, false, false, false] rfl rfl (any_of HT_.out (by kernel_rfl)) (fun _ _ _ h => h) (Or.inl ⟨by rfl, ?_⟩) ?_ ?_
                rotate_left
                · intro w'
                  go_simp
                  with_reducible rfl
                rotate_left
                · simp only [Act.put, List.setIfInBounds_toArray, List.set_cons_zero, List.set_cons_succ, i64_w, i32_w]
                  rfl
                refine pure_ (i := 1) (N := some 56) (v := ?_) (a' := ?_) #[true, true, false, false, false, false, false, false, false, false, false, false, false, false, false, false, false, false] rfl rfl (any_of HT_.out (by kernel_rfl)) (fun _ _ _ h => h) (Or.inl ⟨by rfl, ?_⟩) ?_ ?_
                rotate_left
                · intro w'
                  go_simp
                  with_reducible rfl
                rotate_left
                · simp only [Act.put, List.setIfInBounds_toArray, List.set_cons_zero, List.set_cons_succ, i64_w, i32_w]
                  rfl
                refine pure_ (i := 2) (N := some 57) (v := ?_) (a' := ?_) #[true, true, true, false, false, false, false, false, false, false, false, false, false, false, false, false, false, false] rfl rfl (any_of HT_.out (by kernel_rfl)) (fun _ _ _ h => h) (Or.inl ⟨by rfl, ?_⟩) ?_ ?_
                rotate_left
                · intro w'
                  go_simp
                  with_reducible rfl
                rotate_left
                · simp only [Act.put, List.setIfInBounds_toArray, List.set_cons_zero, List.set_cons_succ, i64_w, i32_w]
                  rfl
                refine take_ (i := 3) (N := some 58) (v := ?_) (a' := ?_) #[true, true, true, true, false, false, false, false, false, false, false, false, false, false, false, false, false, false] rfl rfl (take_ofW HT_.out HW_.out (by kernel_rfl)) (fun _ _ _ h => h) (Or.inl ⟨by rfl, ?_⟩) hHeld ?_ ?_
                rotate_left
                · intro w' hW
                  obtain ⟨y0_, y1_, ⟨y2_, y3_⟩, y4_⟩ := HY.out w' hW
                  go_simp
                  with_reducible rfl
                rotate_left
                · simp only [Act.put, List.setIfInBounds_toArray, List.set_cons_zero, List.set_cons_succ, i64_w, i32_w]
                  rfl
                refine pure_ (i := 4) (N := some 59) (v := ?_) (a' := ?_) #[true, true, true, true, true, false, false, false, false, false, false, false, false, false, false, false, false, false] rfl rfl (any_of HT_.out (by kernel_rfl)) (fun _ _ _ h => h) (Or.inl ⟨by rfl, ?_⟩) ?_ ?_
                rotate_left
                · intro w'
                  go_simp
                  with_reducible rfl
                rotate_left
                · simp only [Act.put, List.setIfInBounds_toArray, List.set_cons_zero, List.set_cons_succ, i64_w, i32_w]
                  rfl
                refine pure_ (i := 5) (N := some 60) (v := ?_) (a' := ?_) #[true, true, true, true, true, true, false, false, false, false, false, false, false, false, false, false, false, false] rfl rfl (any_of HT_.out (by kernel_rfl)) (fun _ _ _ h => h) (Or.inl ⟨by rfl, ?_⟩) ?_ ?_
                rotate_left
                · intro w'
                  go_simp
                  with_reducible rfl
                rotate_left
                · simp only [Act.put, List.setIfInBounds_toArray, List.set_cons_zero, List.set_cons_succ, i64_w, i32_w]
                  rfl
                refine pure_ (i := 6) (N := some 61) (v := ?_) (a' := ?_) #[true, true, true, true, true, true, true, false, false, false, false, false, false, false, false, false, false, false] rfl rfl (any_of HT_.out (by kernel_rfl)) (fun _ _ _ h => h) (Or.inl ⟨by rfl, ?_⟩) ?_ ?_
                rotate_left
                · intro w'
                  go_simp
                  with_reducible rfl
                rotate_left
                · simp only [Act.put, List.setIfInBounds_toArray, List.set_cons_zero, List.set_cons_succ, i64_w, i32_w]
                  rfl
                refine take_ (i := 7) (N := some 62) (v := ?_) (a' := ?_) #[true, true, true, true, true, true, true, true, false, false, false, false, false, false, false, false, false, false] rfl rfl (take_ofW HT_.out HW_.out (by kernel_rfl)) (fun _ _ _ h => h) (Or.inl ⟨by rfl, ?_⟩) hHeld ?_ ?_
                rotate_left
                · intro w' hW
                  obtain ⟨y0_, y1_, ⟨y2_, y3_⟩, y4_⟩ := HY.out w' hW
                  go_simp
                  with_reducible rfl
                rotate_left
                · simp only [Act.put, List.setIfInBounds_toArray, List.set_cons_zero, List.set_cons_succ, i64_w, i32_w]
                  rfl
                refine pure_ (i := 8) (N := some 63) (v := ?_) (a' := ?_) #[true, true, true, true, true, true, true, true, true, false, false, false, false, false, false, false, false, false] rfl rfl (any_of HT_.out (by kernel_rfl)) (fun _ _ _ h => h) (Or.inl ⟨by rfl, ?_⟩) ?_ ?_
                rotate_left
                · intro w'
                  go_simp
                  with_reducible rfl
                rotate_left
                · simp only [Act.put, List.setIfInBounds_toArray, List.set_cons_zero, List.set_cons_succ, i64_w, i32_w]
                  rfl
                refine pure_ (i := 9) (N := some 64) (v := ?_) (a' := ?_) #[true, true, true, true, true, true, true, true, true, true, false, false, false, false, false, false, false, false] rfl rfl (any_of HT_.out (by kernel_rfl)) (fun _ _ _ h => h) (Or.inl ⟨by rfl, ?_⟩) ?_ ?_
                rotate_left
                · intro w'
                  go_simp
                  with_reducible rfl
                rotate_left
                · simp only [Act.put, List.setIfInBounds_toArray, List.set_cons_zero, List.set_cons_succ, i64_w, i32_w]
                  rfl
                refine pure_ (i := 10) (N := some 65) (v := ?_) (a' := ?_) #[true, true, true, true, true, true, true, true, true, true, true, false, false, false, false, false, false, false] rfl rfl (any_of HT_.out (by kernel_rfl)) (fun _ _ _ h => h) (Or.inl ⟨by rfl, ?_⟩) ?_ ?_
                rotate_left
                · intro w'
                  go_simp
                  with_reducible rfl
                rotate_left
                · simp only [Act.put, List.setIfInBounds_toArray, List.set_cons_zero, List.set_cons_succ, i64_w, i32_w]
                  rfl
                refine take_ (i := 11) (N := some 66) (v := ?_) (a' := ?_) #[true, true, true, true, true, true, true, true, true, true, true, true, false, false, false, false, false, false] rfl rfl (take_ofW HT_.out HW_.out (by kernel_rfl)) (fun _ _ _ h => h) (Or.inl ⟨by rfl, ?_⟩) hHeld ?_ ?_
                rotate_left
                · intro w' hW
                  obtain ⟨y0_, y1_, ⟨y2_, y3_⟩, y4_⟩ := HY.out w' hW
                  go_simp
                  with_reducible rfl
                rotate_left
                · simp only [Act.put, List.setIfInBounds_toArray, List.set_cons_zero, List.set_cons_succ, i64_w, i32_w]
                  rfl
                refine pure_ (i := 12) (N := some 67) (v := ?_) (a' := ?_) #[true, true, true, true, true, true, true, true, true, true, true, true, true, false, false, false, false, false] rfl rfl (any_of HT_.out (by kernel_rfl)) (fun _ _ _ h => h) (Or.inl ⟨by rfl, ?_⟩) ?_ ?_
                rotate_left
                · intro w'
                  go_simp
                  with_reducible rfl
                rotate_left
                · simp only [Act.put, List.setIfInBounds_toArray, List.set_cons_zero, List.set_cons_succ, i64_w, i32_w]
                  rfl
                refine pure_ (i := 13) (N := some 68) (v := ?_) (a' := ?_) #[true, true, true, true, true, true, true, true, true, true, true, true, true, true, false, false, false, false] rfl rfl (any_of HT_.out (by kernel_rfl)) (fun _ _ _ h => h) (Or.inl ⟨by rfl, ?_⟩) ?_ ?_
                rotate_left
                · intro w'
                  go_simp
                  with_reducible rfl
                rotate_left
                · simp only [Act.put, List.setIfInBounds_toArray, List.set_cons_zero, List.set_cons_succ, i64_w, i32_w]
                  rfl
                refine take_ (i := 14) (N := some 69) (v := ?_) (a' := ?_) #[true, true, true, true, true, true, true, true, true, true, true, true, true, true, true, false, false, false] rfl rfl (take_ofW HT_.out HW_.out (by kernel_rfl)) (fun _ _ _ h => h) (Or.inl ⟨by rfl, ?_⟩) hHeld ?_ ?_
                rotate_left
                · intro w' hW
                  obtain ⟨y0_, y1_, ⟨y2_, y3_⟩, y4_⟩ := HY.out w' hW
                  go_simp
                  with_reducible rfl
                rotate_left
                · simp only [Act.put, List.setIfInBounds_toArray, List.set_cons_zero, List.set_cons_succ, i64_w, i32_w]
                  rfl
                refine pure_ (i := 15) (N := some 70) (v := ?_) (a' := ?_) #[true, true, true, true, true, true, true, true, true, true, true, true, true, true, true, true, false, false] rfl rfl (any_of HT_.out (by kernel_rfl)) (fun _ _ _ h => h) (Or.inl ⟨by rfl, ?_⟩) ?_ ?_
                rotate_left
                · intro w'
                  go_simp
                  with_reducible rfl
                rotate_left
                · simp only [Act.put, List.setIfInBounds_toArray, List.set_cons_zero, List.set_cons_succ, i64_w, i32_w]
                  rfl
                refine pure_ (i := 16) (N := some 71) (v := ?_) (a' := ?_) #[true, true, true, true, true, true, true, true, true, true, true, true, true, true, true, true, true, false] rfl rfl (any_of HT_.out (by kernel_rfl)) (fun _ _ _ h => h) (Or.inl ⟨by rfl, ?_⟩) ?_ ?_
                rotate_left
                · intro w'
                  go_simp
                  with_reducible rfl
                rotate_left
                · simp only [Act.put, List.setIfInBounds_toArray, List.set_cons_zero, List.set_cons_succ, i64_w, i32_w]
                  rfl
                refine last_ (i := 17) (N := none) #[true, true, true, true, true, true, true, true, true, true, true, true, true, true, true, true, true, true] rfl rfl (one_of HT_.out (by kernel_rfl)) (by decide) (fun K hK => ?_)
                obtain ⟨y0_, y1_, ⟨y2_, y3_⟩, y4_⟩ := HY.out _ hHeld
                refine skip_ (w1 := wx.setCell ⟨ga, v + 1, none⟩ (.int .i64 ((c1 r NR (v + 1) : Int) + (cnt r v : Int)))) (by rfl) rfl (by first | (go_simp; done) | (go_simp; rfl)) ?_
                refine hK.out _ _ ?_
                clear hK K
                refine done_ (done_of HT_.out (by kernel_rfl)) ?_
                have hst := Tb.add (hT.keep hHeld HGS6.out) (Nat.succ_lt_succ hlv)
                replace hst := Lib.hid hst
                have hBX := Lib.hid (Bx.set (k := v + 1) (v := .int .i64 ((c1 r NR (v + 1) : Int) + (cnt r v : Int))) (HBX6.out.below hHeld))
                have hBW := Lib.hid ((HB6.out.trans (hHeld.mono HB6.out.size)).setCell (p := ⟨ga, v + 1, none⟩) HGA.out (.int .i64 ((c1 r NR (v + 1) : Int) + (cnt r v : Int))))
                clear hHeld hT r1 r2 r3 r4 r5 r6 rcA rcB
                go_wp2
                go_roundg (m - (v + 1))
                case measure => exact Nat.lt_of_lt_of_le (Nat.sub_lt_sub_left hlv (Nat.lt_succ_self v)) hkv
                case rel => exact ⟨v + 1, rfl, hlv, Nat.le_refl _, hBX.out, (by have := hst.out; rw [HNR.out] at this; exact this), hBW.out⟩
              · have hvm : v = m := by omega
                subst hvm
                have hlvi : ¬ (v : Int) < (v : Int) := by omega
                go_wp2
                refine bodyPost_ret (results_tmp2 (t := 4) (u := 5) rfl _ _ _) rfl ?_
                refine ⟨HBW.out, .inr ⟨HK.out, _, r, rfl, HJD.out, HLD5.out, b, ga, v + 1, A5, c5, rfl, (HB5.out _ HBX.out).1, ?_, Nat.le_refl _, HRC.out, HX5.out _ HBX.out, fun j hj => ?_⟩⟩
                · rw [(HB5.out _ HBX.out).2, HNR.out]
                · have := (HTB.out j (by have : (v : Int).toNat = v := by omega
                                         omega)).1
                  unfold sums at this
                  rw [if_pos (by have : (v : Int).toNat = v := by omega
                                 omega)] at this
                  exact this
end Go.Proofs.Ytdchnaghmmhkhaa.Cs.Ai
