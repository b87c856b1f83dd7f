/- Printed by shake.py. -/
import Derived.Test.YtdchnaghmmhkhaaKz29
import Derived.Test.YtdchnaghmmhkhaaKz31
import Derived.Test.YtdchnaghmmhkhaaKz30
set_option linter.unusedSimpArgs false
namespace Go.Proofs.Ytdchnaghmmhkhaa.Cs.Ai
open Go.Shelf Go.RowKit Go.Lib Go.Sort Go.Proofs.Ytdchnaghmmhkhaa.RowAt Go.Proofs.Ytdchnaghmmhkhaa.Stab Go.Proofs.Ytdchnaghmmhkhaa.Stab.Ai Go.Proofs.Ytdchnaghmmhkhaa.PCsrGraphs Go.Proofs.YtdchnaghmmhkhaaW.PrintWords
set_option linter.unusedSectionVars false
set_option linter.unusedVariables false
attribute [local go_sem] Oper.semAt_some
def Kp (F : List (Nat × Obj)) (W : World) : Prop := ∀ q ∈ F, W.heap[q.1]? = some q.2 ∧ ∀ cs fr, q.2 ≠ .cells cs 62 fr
def TJ (w : World) (F : List (Nat × Obj)) (xs : List Ar) (A : Option Addr) (c : Nat) (W : World) : Prop :=
 Below w.heap.size w W ∧ Kp F W ∧ Blk W w.heap.size [.slice A xs.length c] 28 ∧ W.ownsRow (w.heap.size + 1) 62 3 (.slice A xs.length c) xs.length (xs.flatMap enc1)
theorem own_ne {W : World} {base c n : Nat} {A : Option Addr} {F : List (Nat × Obj)} {vs : List Value} (hk : Kp F W) (ho : W.ownsRow base 62 3 (.slice A n c) n vs) : ∀ q ∈ F, some q.1 ≠ (Value.slice A n c).ownBlock := fun q hq e => by
 obtain ⟨h1, h2⟩ := hk q hq
 rcases ho.2 with ⟨h0, _⟩ | ⟨g, cap, cur, h0, _, hg, _⟩
 ·rw [h0] at e; cases e
 ·rw [h0] at e
  have : q.1 = g := Option.some.inj e
  rw [this, hg] at h1
  exact h2 _ _ (Option.some.inj h1).symm
theorem TJ.step {w W W1 : World} {F : List (Nat × Obj)} {xs : List Ar} {a : Ar} {A A1 : Option Addr} {c c1 : Nat} (hb : Below w.heap.size w W) (hk : Kp F W) (hB : Blk W w.heap.size [.slice A xs.length c] 28)
 (ho : W.ownsRow (w.heap.size + 1) 62 3 (.slice A xs.length c) xs.length (xs.flatMap enc1)) (hF : ∀ q ∈ F, q.1 ≠ w.heap.size)
 (ho1 : W1.ownsRow (w.heap.size + 1) 62 3 (.slice A1 (xs.length + 1) c1) (xs.length + 1) (xs.flatMap enc1 ++ enc1 a)) (hb1 : Below (w.heap.size + 1) W W1)
 (hg : ∀ i, i < W.heap.size → some i ≠ (Value.slice A xs.length c).ownBlock → W1.heap[i]? = W.heap[i]?) : TJ w F (xs ++ [a]) A1 c1 (W1.setCell ⟨w.heap.size, 0, none⟩ (.slice A1 (xs.length + 1) c1)) := by
 have e1 : (xs ++ [a]).length = xs.length + 1 := by simp
 have e2 : (xs ++ [a]).flatMap enc1 = xs.flatMap enc1 ++ enc1 a := by rw [List.flatMap_append, show [a].flatMap enc1 = enc1 a from List.append_nil _]
 unfold TJ
 rw [e1, e2]
 have hL : w.heap.size < W.heap.size := hB.lt
 refine ⟨(hb.trans (hb1.mono (by omega))).setCell (p := ⟨w.heap.size, 0, none⟩) (Nat.le_refl _) _, fun q hq => ?_, ?_, ?_⟩
 ·have h1 := (hk q hq).1
  refine ⟨?_, (hk q hq).2⟩
  rw [heap_setCell_other _ _ _ _ (hF q hq)]
  have hlt : q.1 < W.heap.size := by
   rcases Nat.lt_or_ge q.1 W.heap.size with h | h
   ·exact h
   ·rw [Array.getElem?_eq_none h] at h1; cases h1
  rw [hg q.1 hlt (own_ne hk ho q hq)]; exact h1
 ·exact (hB.below hb1 (Nat.lt_succ_self _)).set 0 _
 ·exact ownsRow_setCell_below ho1 (Nat.lt_succ_self _) _
theorem Kp.below {F : List (Nat × Obj)} {W W' : World} (h : Kp F W) (hb : Below W.heap.size W W') : Kp F W' := fun q hq => by
 obtain ⟨h1, h2⟩ := h q hq
 have hlt : q.1 < W.heap.size := by
  rcases Nat.lt_or_ge q.1 W.heap.size with h | h
  ·exact h
  ·rw [Array.getElem?_eq_none h] at h1; cases h1
 exact ⟨by rw [hb.block q.1 hlt]; exact h1, h2⟩
theorem TJ.below {w W W' : World} {F : List (Nat × Obj)} {xs : List Ar} {A : Option Addr} {c : Nat} (h : TJ w F xs A c W) (hb : Below W.heap.size W W') : TJ w F xs A c W' :=
 ⟨h.1.trans (hb.mono h.1.size), h.2.1.below hb, h.2.2.1.below hb h.2.2.1.lt, own_below h.2.2.2 hb⟩
theorem own_mv {w w' : World} {base k n : Nat} {e : TypeId} {v : Value} {xs : List Value} (h : w.ownsRow base e k v n xs) (hk : ∀ q, v.ownBlock = some q → w'.heap[q]? = w.heap[q]?) : w'.ownsRow base e k v n xs := by
 refine ⟨h.1, ?_⟩
 rcases h.2 with h0 | ⟨g, cap, cur, h1, h2, h3, h4⟩
 ·exact .inl h0
 ·exact .inr ⟨g, cap, cur, h1, h2, by rw [hk g (by rw [h1]; rfl)]; exact h3, h4⟩
theorem TJ.put {w W : World} {F : List (Nat × Obj)} {xs : List Ar} {A : Option Addr} {c i : Nat} {o : Obj} (h : TJ w F xs A c W) (hi : w.heap.size < i) (hF : ∀ q ∈ F, q.1 ≠ i) (ho : (Value.slice A xs.length c).ownBlock ≠ some i) : TJ w F xs A c (W.putObj i o) := by
 have hne : ∀ j, j ≠ i → (W.putObj i o).heap[j]? = W.heap[j]? := fun j hj => World.putObj_heap_other hj
 refine ⟨h.1.trans ⟨rfl, rfl, rfl, by simp, fun j hj => hne j (by omega)⟩, fun q hq => ⟨by rw [hne _ (hF q hq)]; exact (h.2.1 q hq).1, (h.2.1 q hq).2⟩, (hne _ (by omega)).trans h.2.2.1, own_mv h.2.2.2 fun q hq => hne q (fun e => ho (by rw [hq, e]))⟩
theorem TJ.start (w : World) : TJ w [] [] none 0 (w.alloc (.cells #[.slice none 0 0] 28)) :=
 ⟨(Below.refl _ w).alloc (Nat.le_refl _) _, fun q hq => (by cases hq), Blk.new w [.slice none 0 0] _, World.ownsRow_nil _ _ _ _⟩
theorem TJ.more {w W : World} {F F' : List (Nat × Obj)} {xs : List Ar} {A : Option Addr} {c : Nat} (h : TJ w F xs A c W) (h' : Kp F' W) : TJ w (F' ++ F) xs A c W :=
 ⟨h.1, fun q hq => (List.mem_append.1 hq).elim (fun h1 => h' q h1) (fun h1 => h.2.1 q h1), h.2.2⟩
theorem TJ.less {w W : World} {F F' : List (Nat × Obj)} {xs : List Ar} {A : Option Addr} {c : Nat} (h : TJ w F xs A c W) (h' : ∀ q ∈ F', q ∈ F) : TJ w F' xs A c W :=
 ⟨h.1, fun q hq => h.2.1 q (h' q hq), h.2.2⟩
def tArcs (m : Int) (r : List Ar) (k : Nat) : List Ar := (List.range k).flatMap fun v => (flt m (rowW r v)).map fun a => ⟨a.f1, (v : Int), a.f2⟩
theorem tArcs_succ (m : Int) (r : List Ar) (k : Nat) : tArcs m r (k + 1) = tArcs m r k ++ (flt m (rowW r k)).map fun a => ⟨a.f1, (k : Int), a.f2⟩ := by
 unfold tArcs
 rw [List.range_succ, List.flatMap_append, List.flatMap_singleton]
end Go.Proofs.Ytdchnaghmmhkhaa.Cs.Ai
set_option linter.unusedSimpArgs false
namespace Go.Proofs.Ytdchnaghmmhkhaa.Cs.Ai
open Go.Shelf Go.RowKit Go.Lib Go.Sort Go.Proofs.Ytdchnaghmmhkhaa.RowAt Go.Proofs.Ytdchnaghmmhkhaa.Stab Go.Proofs.Ytdchnaghmmhkhaa.Stab.Ai Go.Proofs.Ytdchnaghmmhkhaa.PCsrGraphs Go.Proofs.YtdchnaghmmhkhaaW.PrintWords Go.Proofs.YtdchnaghmmhkhaaW.PrintLast
set_option linter.unusedSectionVars false
set_option linter.unusedVariables false
attribute [local go_sem] Oper.semAt_some
def NoP (Q : Exit → Act → World → Prop) : Exit → Act → World → Prop
 | .panic _, _, _ => False
 | e, a, w => Q e a w
theorem NoP.out {Q : Exit → Act → World → Prop} : ∀ e a w, NoP Q e a w → Q e a w := by
 intro e a w h
 cases e <;> first | exact h | exact h.elim
theorem met_cell (Ds : List Nat) (w : World) (h : ∀ D ∈ Ds, w.heap[D]? = some (.deferred (some []))) {a : Addr} {v : Value} (hc : w.cell? a = some v) : (met Ds w).cell? a = some v := by
 have hn : a.block ∉ Ds := fun hD => by
  have := h _ hD
  unfold World.cell? at hc
  rw [this] at hc; cases hc
 unfold World.cell? at hc ⊢
 rw [met_heap Ds w a.block hn]; exact hc
theorem Gr.keep {W W' : World} {p : Value} {n : Nat} {r : List Ar} (h : Gr W p n r) (hk : ∀ a v, W.cell? a = some v → W'.cell? a = some v) : Gr W' p n r := by
 obtain ⟨b, ga, ca, A, c, h1, h2, h3, h4, h5, h6, h7⟩ := h
 exact ⟨b, ga, ca, A, c, h1, hk _ _ h2, hk _ _ h3, h4, h5, h6.keep hk, fun v hv => hk _ _ (h7 v hv)⟩
def mAll : Int := Go.bits .xor .i64 (-1) 0
theorem mAll_eq : Go.bits .xor .i64 (-1) 0 = mAll := rfl
theorem tArcs_len (m : Int) (r : List Ar) : ∀ k, (tArcs m r k).length ≤ cnt r k
 | 0 => Nat.zero_le _
 | k + 1 => by
  rw [tArcs_succ, List.length_append, List.length_map]
  have h1 := tArcs_len m r k
  have h2 : (flt m (rowW r k)).length ≤ (rowW r k).length := List.length_filter_le ..
  rw [rowW_len] at h2
  have h3 := cnt_mono r k
  omega
def ob1 (k : Nat) (b V : Nat) (m : Int) : List (Nat × Obj) := [(V, .cells #[.int .i64 (k : Int)] 3), (V + 1, .cells #[.pointer (some ⟨b, 0, none⟩)] 24), (V + 2, .cells #[.int .i64 (k : Int)] 3), (V + 3, .cells #[.int .i64 m] 3)]
def TOut (w : World) (n : Nat) (D : List Ar) (e : Ending) (w' : World) : Prop :=
 Below w.heap.size w w' ∧ ∃ v, e = .returned v ∧ ((okN n D = false ∧ v = .pointer none) ∨ (okN n D = true ∧ ∃ r', Joined D r' ∧ r'.length ≤ D.length ∧ Gr w' v n r'))
def TInv (b n : Nat) (r : List Ar) (w : World) (a' : Act) (w' : World) : Prop := ∃ (u4 u12 u13 u14 u15 u16 u17 u18 u28 : Value) (k : Nat) (Ds : List Nat) (A4 : Option Addr) (c4 : Nat), a' = { tmps := #[.pointer (some ⟨b, 0, none⟩), undef, .pointer none, .pointer (some ⟨w.heap.size, 0, none⟩), u4, undef, undef, undef, undef, .pointer (some ⟨b, 0, none⟩), .int .i64 (n : Int), .int .i64 (k : Int), u12, u13, u14, u15, u16, u17, u18, undef, undef, undef, undef, undef, undef, undef, undef, undef, u28, undef, undef, undef, undef, undef, undef, undef, undef], defers := Ds.map markOf } ∧ k ≤ n ∧ Ds.Nodup ∧ (∀ D ∈ Ds, w.heap.size < D) ∧ TJ w (Ds.map fun D => (D, .deferred (some []))) (tArcs mAll r k) A4 c4 w'
def TMu (n : Nat) (a' : Act) (_ : World) : Nat := n - (intOf (a'.tmps.getD 11 undef)).toNat
theorem ob1_kp (wr : World) (k b : Nat) (m : Int) : Kp (ob1 k b wr.heap.size m) ((((wr.alloc (.cells #[.int .i64 (k : Int)] 3)).alloc (.cells #[.pointer (some ⟨b, 0, none⟩)] 24)).alloc (.cells #[.int .i64 (k : Int)] 3)).alloc (.cells #[.int .i64 m] 3)) := by
 have b0 := (((Blk.new wr [.int .i64 (k : Int)] 3).alloc (.cells #[.pointer (some ⟨b, 0, none⟩)] 24)).alloc (.cells #[.int .i64 (k : Int)] 3)).alloc (.cells #[.int .i64 m] 3)
 have b1 := ((Blk.new (wr.alloc (.cells #[.int .i64 (k : Int)] 3)) [.pointer (some ⟨b, 0, none⟩)] 24).alloc (.cells #[.int .i64 (k : Int)] 3)).alloc (.cells #[.int .i64 m] 3)
 have b2 := (Blk.new ((wr.alloc (.cells #[.int .i64 (k : Int)] 3)).alloc (.cells #[.pointer (some ⟨b, 0, none⟩)] 24)) [.int .i64 (k : Int)] 3).alloc (.cells #[.int .i64 m] 3)
 have b3 := Blk.new (((wr.alloc (.cells #[.int .i64 (k : Int)] 3)).alloc (.cells #[.pointer (some ⟨b, 0, none⟩)] 24)).alloc (.cells #[.int .i64 (k : Int)] 3)) [.int .i64 m] 3
 simp only [World.size_alloc] at b1 b2 b3
 intro q hq
 simp only [ob1, List.mem_cons, List.mem_nil_iff, or_false] at hq
 rcases hq with rfl | rfl | rfl | rfl
 ·exact ⟨b0, fun cs fr e => by injection e with _ e _; exact absurd e (by decide)⟩
 ·exact ⟨b1, fun cs fr e => by injection e with _ e _; exact absurd e (by decide)⟩
 ·exact ⟨b2, fun cs fr e => by injection e with _ e _; exact absurd e (by decide)⟩
 ·exact ⟨b3, fun cs fr e => by injection e with _ e _; exact absurd e (by decide)⟩
theorem Kp.cell {F : List (Nat × Obj)} {W : World} (h : Kp F W) {i : Nat} {cs : Array Value} {t : TypeId} (hq : (i, Obj.cells cs t (0, 0)) ∈ F) (j : Nat) : W.cell? ⟨i, j, none⟩ = cs[j]? := cell_of_row _ _ _ _ _ _ (h _ hq).1
theorem app_arc {F : Fence} {n : Nat} (W : World) {ops : Array Oper} {rest : List Oper} {op : Oper} {a : Act} {Q : Exit → Act → World → Prop} (base : Nat) (s x : Operand) (hgd : op.guard = none)
 (ho : op.op = .call { callee := .builtin .append, args := #[s, x], argTypes := #[28, 28] })
 (A : Option Addr) (m c : Nat) (xs : List Value) (f0 f1 f2 : Int) (hs : a.eval s = .slice A m c) (hx : a.eval x = .slice (some ⟨W.heap.size, 0, none⟩) 1 1)
 (HO : W.ownsRow base 62 3 (.slice A m c) m xs) (hbase : base ≤ W.heap.size) (hl : (m + 1) * 24 ≤ 140737488355328)
 (h : ∀ A1 c1 w1, w1.ownsRow base 62 3 (.slice A1 (m + 1) c1) (m + 1) (xs ++ enc1 ⟨f0, f1, f2⟩) → Below base W w1 → (W.alloc (.cells #[.int .i64 f0, .int .i64 f1, .int .i64 f2] 62)).grownBy w1 (Value.slice A m c).ownBlock → ((Value.slice A1 (m + 1) c1).ownBlock = (Value.slice A m c).ownBlock ∨ ∃ b, (Value.slice A1 (m + 1) c1).ownBlock = some b ∧ W.heap.size < b) → wpListIn F n Try.prog ops Q rest (a.put op.dst (.slice A1 (m + 1) c1)) w1) :
 wpListIn F n Try.prog ops Q (op :: rest) a (W.alloc (.cells #[.int .i64 f0, .int .i64 f1, .int .i64 f2] 62)) := by
 refine wplin_appK (w0 := W) base hgd s x 28 62 (.agg zc) 3 24 ho Try.underlying28 arc_info rfl (by decide) (by decide) (.slice A m c) xs (enc1 ⟨f0, f1, f2⟩) (some ⟨W.heap.size, 0, none⟩) m 1 1 hs hx rfl (HO.alloc _) (Cells.new W (enc1 ⟨f0, f1, f2⟩) 62) (enc1_one _) ((Below.refl base W).alloc hbase _) (by rw [World.size_alloc]; omega) hl ?_
 intro A1 c1 w1 h1 h2 h3 h4 _
 exact h A1 c1 w1 h1 h2 h3 (h4.imp id fun ⟨b, e, hb⟩ => ⟨b, e, by rw [World.size_alloc] at hb; omega⟩)
def JT (w : World) (F : List (Nat × Obj)) (xs ys : List Ar) (H : Nat) (j : Nat) (W : World) : Prop :=
 j ≤ ys.length ∧ H ≤ W.heap.size ∧ ∃ A c, TJ w F (xs ++ ys.take j) A c W ∧ (Value.slice A (xs ++ ys.take j).length c).ownBlock ≠ some (H - 1)
def RgT.T : Bool × List (List Nat × List Nat) := (true, [([], []), ([0], [0]), ([], []), ([1, 2, 1], [1, 2]), ([3], [3]), ([4], [4]), ([4], [4]), ([5, 3, 0, 1, 2, 3, 4, 5], [5]), ([6, 7, 0, 1, 2, 3, 4, 5, 6, 7], [6])])
def RgT.B : List Nat := [0, 1, 0, 7, 15, 31, 31, 63, 255]
theorem RgT.tab : rtab .any (opsOf Try.f23 10) = RgT.T := by kernel_rfl
theorem RgT.bits : waitsOk RgT.T.2 RgT.B = true := by kernel_rfl
set_option maxRecDepth 1000000 in
set_option maxHeartbeats 4000000 in
theorem turned_in (b ga ca : Nat) (A : Option Addr) (c n : Nat) (r : List Ar) (w : World) (h : GrA w b ga ca A c n r) (hn : n ≤ 1024) (hr : r.length * 24 ≤ 140737488355328) :
 CallsIn Fence.wide 0 Try.prog 23 #[.pointer (some ⟨b, 0, none⟩)] w (TOut w n (tArcs mAll r n)) := by
 have e1 : ∀ args w, (callFunc 12 args).run Try.prog w = .ok (.enter 12 args) w := enters_of Try.func12 (by kernel_rfl) rfl
 have e2 : ∀ args w, (callFunc 20 args).run Try.prog w = .ok (.enter 20 args) w := enters_of Try.func20 (by kernel_rfl) rfl
 have hen : ∀ (args : Array Value) (w : World), (callFunc 35 args).run Try.prog w = .ok (.enter 35 args) w := enters_of Try.func35 (by kernel_rfl) rfl
 refine callsIn_of_wp_marks Try.func23 rfl trivial ?_ rfl
 simp only [Try.ntmps23, List.size_toArray, List.length_cons, List.length_nil, Nat.reduceAdd, Nat.reduceSub, Array.replicate_succ, Array.replicate_zero, List.push_toArray, List.append_toArray, List.nil_append, List.cons_append]
 have hF : ∀ f, Fence.wide.fn f = True := fun _ => rfl
 have hD : Fence.wide.depth = none := rfl
 have HG := Lib.hid h
 have HNN := Lib.hid hn
 have HR := Lib.hid hr
 have HL : Hid (∀ W, Below w.heap.size w W → Calls Try.prog 12 #[.pointer (some ⟨b, 0, none⟩)] W fun e w' => e = .returned (.int .i64 (n : Int)) ∧ w' = W) := Lib.hid fun W hb => len_c n r _ W (h.below hb).gr hn
 have hb0 : Below w.heap.size w (w.alloc (.cells #[.slice none 0 0] 28)) := (Below.refl _ w).alloc (Nat.le_refl _) _
 have HB0 := Lib.hid hb0
 have hm := mAll_eq
 clear h hn hr
 gi_wp2_with (gi_at_call 12; refine (callsIn_wide.2 (HL.out _ hb0)).mono ?_; rintro e w' ⟨rfl, rfl⟩)
 refine wpIn_loop (TInv b n r w) (TMu n) ?_ ?_
 ·exact ⟨_, _, _, _, _, _, _, _, _, 0, [], none, 0, rfl, Nat.zero_le _, List.nodup_nil, fun D hD => by (cases hD), TJ.start w⟩
 ·rintro a' wr ⟨u4, u12, u13, u14, u15, u16, u17, u18, u28, k, Ds, A4, c4, rfl, hk, hnd, hDs, hT⟩
  have HT := Lib.hid hT
  by_cases hlt : k < n
  ·have hlti : (k : Int) < (n : Int) := by omega
   clear hT
   gi_wp2_with (gi_at_call 20; refine (callsIn_wide.2 (out_c (some ⟨b, 0, none⟩) (k : Int) mAll _)).mono ?_; rintro e w' ⟨rfl, rfl⟩)
   have hkp := ob1_kp wr k b mAll
   have hbw : Below wr.heap.size wr ((((wr.alloc (.cells #[.int .i64 (k : Int)] 3)).alloc (.cells #[.pointer (some ⟨b, 0, none⟩)] 24)).alloc (.cells #[.int .i64 (k : Int)] 3)).alloc (.cells #[.int .i64 mAll] 3)) := ((((Below.refl _ wr).alloc (Nat.le_refl _) _).alloc (by simp) _).alloc (by simp; omega) _).alloc (by simp; omega) _
   have hTm := (HT.out.below hbw).more hkp
   have hsz : ((((wr.alloc (.cells #[.int .i64 (k : Int)] 3)).alloc (.cells #[.pointer (some ⟨b, 0, none⟩)] 24)).alloc (.cells #[.int .i64 (k : Int)] 3)).alloc (.cells #[.int .i64 mAll] 3)).heap.size = wr.heap.size + 4 := by simp
   have hwl : w.heap.size < wr.heap.size := HT.out.2.2.1.lt
   have hdl : ∀ D ∈ Ds, D < wr.heap.size := fun D hD => by
    have h1 := (HT.out.2.1 (D, .deferred (some [])) (List.mem_map.2 ⟨D, hD, rfl⟩)).1
    rcases Nat.lt_or_ge D wr.heap.size with h | h
    ·exact h
    ·rw [Array.getElem?_eq_none h] at h1; cases h1
   have hol : ∀ q, (Value.slice A4 (tArcs mAll r k).length c4).ownBlock = some q → q < wr.heap.size := fun q hq => (World.ownsRow.lt HT.out.2.2.2 q hq).2
   have hFi : ∀ q ∈ ob1 k b wr.heap.size mAll ++ Ds.map (fun D => (D, Obj.deferred (some []))), q.1 ≠ w.heap.size ∧ q.1 < wr.heap.size + 4 := fun q hq => by
    rcases List.mem_append.1 hq with h | h
    ·simp only [ob1, List.mem_cons, List.mem_nil_iff, or_false] at h
     rcases h with rfl | rfl | rfl | rfl <;> simp <;> omega
    ·obtain ⟨D, hD, rfl⟩ := List.mem_map.1 h
     exact ⟨Nat.ne_of_gt (hDs D hD), by have := hdl D hD; simp; omega⟩
   have hm0 : (wr.heap.size, Obj.cells #[.int .i64 (k : Int)] 3 (0, 0)) ∈ ob1 k b wr.heap.size mAll ++ Ds.map (fun D => (D, Obj.deferred (some []))) := by simp [ob1]
   have hm1 : (wr.heap.size + 1, Obj.cells #[.pointer (some ⟨b, 0, none⟩)] 24 (0, 0)) ∈ ob1 k b wr.heap.size mAll ++ Ds.map (fun D => (D, Obj.deferred (some []))) := by simp [ob1]
   have hm2 : (wr.heap.size + 2, Obj.cells #[.int .i64 (k : Int)] 3 (0, 0)) ∈ ob1 k b wr.heap.size mAll ++ Ds.map (fun D => (D, Obj.deferred (some []))) := by simp [ob1]
   have hm3 : (wr.heap.size + 3, Obj.cells #[.int .i64 mAll] 3 (0, 0)) ∈ ob1 k b wr.heap.size mAll ++ Ds.map (fun D => (D, Obj.deferred (some []))) := by simp [ob1]
   have hmD : ∀ q ∈ Ds.map (fun D => (D, Obj.deferred (some []))), q ∈ ob1 k b wr.heap.size mAll ++ Ds.map (fun D => (D, Obj.deferred (some []))) := fun q hq => List.mem_append.2 (.inr hq)
   have hrow : ∀ W, Below w.heap.size w W → RowAt W (.pointer (some ⟨b, 0, none⟩)) (k : Int) (rAd A c (cnt r k)) (rowW r k) := fun W hb => row_in n r b ga ca A c k W (HG.out.below hb) HNN.out HR.out hlt
   have hrl : (rowW r k).length * 24 ≤ 140737488355328 := by
    have h1 := rowW_len r k
    have h2 := cnt_le r (k + 1)
    have h3 := HR.out
    omega
   have hyl : ∀ j, (tArcs mAll r k ++ (((flt mAll (rowW r k)).map fun a => (⟨a.f1, (k : Int), a.f2⟩ : Ar)).take j)).length ≤ r.length := fun j => by
    have h1 := tArcs_len mAll r (k + 1)
    have h2 := cnt_le r (k + 1)
    rw [tArcs_succ, List.length_append] at h1
    rw [List.length_append, List.length_take]
    omega
   have hts := tArcs_succ mAll r k
   have HTS := Lib.hid hts
   have HYL := Lib.hid hyl
   have HRW := Lib.hid hrow
   have HM0 := Lib.hid hm0
   have HMD := Lib.hid hmD
   have HDL := Lib.hid hdl
   have HFI := Lib.hid hFi
   have HNX : Hid (Value.int .i64 (wrap64 ((k : Int) + 1)) = Value.int .i64 ((k + 1 : Nat) : Int)) := Lib.hid (wnext hlt (by have := HNN.out; omega))
   have HME : Hid (n - (intOf (Value.int .i64 (wrap64 ((k : Int) + 1)))).toNat < n - (intOf (Value.int .i64 (k : Int))).toNat) := Lib.hid (meas hlt (by have := HNN.out; omega))
   clear hkp hbw hts hyl hrow hm0 hmD hdl hFi HT
   generalize ob1 k b wr.heap.size mAll ++ Ds.map (fun D => (D, Obj.deferred (some []))) = F at *
   generalize ((((wr.alloc (.cells #[.int .i64 (k : Int)] 3)).alloc (.cells #[.pointer (some ⟨b, 0, none⟩)] 24)).alloc (.cells #[.int .i64 (k : Int)] 3)).alloc (.cells #[.int .i64 mAll] 3)) = w0 at *
   generalize wr.heap.size = V at *
   refine wp_range_by (fun j a => { tmps := (((a.tmps.setIfInBounds 19 (.int .i64 ((flt mAll (rowW r k)).getD j ⟨0, 0, 0⟩).f1)).setIfInBounds 20 (.int .i64 ((flt mAll (rowW r k)).getD j ⟨0, 0, 0⟩).f2)).setIfInBounds 5 (.int .i64 ((flt mAll (rowW r k)).getD j ⟨0, 0, 0⟩).f1)).setIfInBounds 6 (.int .i64 ((flt mAll (rowW r k)).getD j ⟨0, 0, 0⟩).f2), defers := [] })
    (gf := 35) (lb := #[.pointer (some ⟨V + 1, 0, none⟩), .pointer (some ⟨V + 2, 0, none⟩), .pointer (some ⟨V + 3, 0, none⟩)]) rfl hen (flt mAll (rowW r k)).length (fun j => #[.int .i64 ((flt mAll (rowW r k)).getD j ⟨0, 0, 0⟩).f1, .int .i64 ((flt mAll (rowW r k)).getD j ⟨0, 0, 0⟩).f2]) (fun _ => rfl) (fun W W' => Below W.heap.size W W')
    (fun W W' i ob hs h _ => by
     have hlt : i < W.heap.size := (Array.getElem?_eq_some_iff.1 h).1
     rw [hs.block i hlt]; exact h)
    (JT w ((V + 4, .deferred (some [])) :: F) (tArcs mAll r k) ((flt mAll (rowW r k)).map fun a => (⟨a.f1, (k : Int), a.f2⟩ : Ar)) (V + 6)) (fun _ _ => False)
    ?put (fun _ _ _ h => h) ?draw (fun _ _ _ _ h => h) ?start
    (fun W => W.cell? ⟨V + 1, 0, none⟩ = some (.pointer (some ⟨b, 0, none⟩)) ∧ W.cell? ⟨V + 1 + 1, 0, none⟩ = some (.int .i64 (k : Int)) ∧ W.cell? ⟨V + 1 + 2, 0, none⟩ = some (.int .i64 mAll) ∧ RowAt W (.pointer (some ⟨b, 0, none⟩)) (k : Int) (rAd A c (cnt r k)) (rowW r k)) ?inv
    (fun rr => out1_goes _ (V + 1) (some ⟨b, 0, none⟩) (k : Int) mAll (rAd A c (cnt r k)) (rowW r k) hrl _) ?assign ?body ?done (fun _ _ h => h.elim)
   case put =>
    rintro j W ob ⟨h1, h2, A', c', h3, h4⟩
    rw [hsz]
    have hq5 : ∀ q ∈ (V + 4, Obj.deferred (some [])) :: F, q.1 ≠ V + 4 + 1 := fun q hq => by
     rcases List.mem_cons.1 hq with rfl | hq
     ·simp
     ·have := (HFI.out q hq).2
      omega
    exact ⟨h1, by simpa using h2, A', c', h3.put (by omega) hq5 (by simpa using h4), h4⟩
   case draw =>
    rintro j W W' hb ⟨h1, h2, A', c', h3, h4⟩
    exact ⟨h1, Nat.le_trans h2 hb.size, A', c', h3.below hb, h4⟩
   case start =>
    intro rr
    refine ⟨Nat.zero_le _, by simp [hsz], A4, c4, ?_, ?_⟩
    ·rw [List.take_zero, List.append_nil]
     have hnew : ((w0.alloc (.deferred (some []))).alloc (.loop rr)).heap[V + 4]? = some (.deferred (some [])) := by
      have := World.alloc_heap_new w0 (.deferred (some []))
      rw [hsz] at this
      rw [Below.heap_alloc (w0.alloc (.deferred (some []))) (.loop rr) (V + 4) (by rw [World.size_alloc]; omega)]; exact this
     exact TJ.more (F' := [(V + 4, .deferred (some []))]) (hTm.below (((Below.refl _ w0).alloc (Nat.le_refl _) _).alloc (by simp) _)) (fun q hq => by
      rw [List.mem_singleton] at hq
      subst hq
      exact ⟨hnew, fun cs fr e => by cases e⟩)
    ·rw [List.take_zero, List.append_nil]
     intro e
     have := hol _ e
     omega
   case inv =>
    rintro j W ⟨h1, h2, A', c', h3, h4⟩
    exact ⟨(h3.2.1.cell (List.mem_cons_of_mem _ hm1) 0).trans rfl, (h3.2.1.cell (List.mem_cons_of_mem _ hm2) 0).trans rfl, (h3.2.1.cell (List.mem_cons_of_mem _ hm3) 0).trans rfl, HRW.out W h3.1⟩
   case assign =>
    intro j W K hK
    gi_wp2
    simpa using hK
   case body =>
    rintro j W hj ⟨h1, h2, A', c', h3, h4⟩
    have hx : (flt mAll (rowW r k))[j]? = some ((flt mAll (rowW r k))[j]'hj) := List.getElem?_eq_getElem _
    have hgd : (flt mAll (rowW r k)).getD j ⟨0, 0, 0⟩ = (flt mAll (rowW r k))[j]'hj := by rw [List.getD_eq_getElem?_getD, hx]; rfl
    have htk : ((flt mAll (rowW r k)).map fun a => (⟨a.f1, (k : Int), a.f2⟩ : Ar)).take (j + 1) = ((flt mAll (rowW r k)).map fun a => (⟨a.f1, (k : Int), a.f2⟩ : Ar)).take j ++ [⟨((flt mAll (rowW r k))[j]'hj).f1, (k : Int), ((flt mAll (rowW r k))[j]'hj).f2⟩] := by
     rw [List.take_add_one, List.getElem?_map, hx]; rfl
    have hlj := HYL.out j
    have hlj1 := HYL.out (j + 1)
    rw [htk, ← List.append_assoc] at hlj1
    rw [hgd]
    generalize (flt mAll (rowW r k))[j]'hj = x at *
    have HTK := Lib.hid htk
    have hJl : (((flt mAll (rowW r k)).map fun a => (⟨a.f1, (k : Int), a.f2⟩ : Ar))).length = (flt mAll (rowW r k)).length := List.length_map ..
    have HJL := Lib.hid hJl
    generalize ((flt mAll (rowW r k)).map fun a => (⟨a.f1, (k : Int), a.f2⟩ : Ar)) = ys at *
    generalize hxs : tArcs mAll r k ++ ys.take j = xs at *
    have HXS := Lib.hid hxs
    obtain ⟨hb, hk2, hB, ho⟩ := h3
    have hq := hB.cell 0
    have hf := hB.free 0
    have hv : W.cell? ⟨V, 0, none⟩ = some (.int .i64 (k : Int)) := (hk2.cell (List.mem_cons_of_mem _ HM0.out) 0).trans rfl
    simp only [List.getElem?_cons_zero] at hq
    have HKP := Lib.hid hk2
    have HBL := Lib.hid hB
    have HBW := Lib.hid hb
    have HOW := Lib.hid ho
    have H4 := Lib.hid h4
    have HH2 := Lib.hid h2
    have HRD := Lib.hid (show (xs.length + 1) * 24 ≤ 140737488355328 from Nat.le_trans (Nat.mul_le_mul_right 24 (by rw [List.length_append] at hlj1; exact hlj1)) HR.out)
    clear hx hgd htk hlj hlj1 hJl hxs hb hk2 hB ho h4 h2
    rw [hsz]
    have HBS := Lib.hid (show w.heap.size + 1 ≤ W.heap.size from HBL.out.lt)
    gi_wp2_with (gi_at_builtin; refine app_arc W (w.heap.size + 1) (.tmp 21) (.tmp 26) rfl rfl A' xs.length c' (xs.flatMap enc1) x.f1 (k : Int) x.f2 rfl rfl HOW.out HBS.out HRD.out ?_; intro A1 c1 w1 ho1 hb1 hg1 hat1; have hq1 := (hb1.cell (p := ⟨w.heap.size, 0, none⟩) (Nat.lt_succ_self _)).trans hq; have hf1 := (hb1.frozen (p := ⟨w.heap.size, 0, none⟩) (Nat.lt_succ_self _)).trans hf; replace ho1 := Lib.hid ho1; replace hb1 := Lib.hid hb1; replace hg1 := Lib.hid hg1; replace hat1 := Lib.hid hat1)
    have hkeep : ∀ i, i < W.heap.size → some i ≠ (Value.slice A' xs.length c').ownBlock → w1.heap[i]? = W.heap[i]? := fun i hi hne => by
     rw [hg1.out.block i (by rw [World.size_alloc]; omega) hne, Below.heap_alloc W _ i hi]
    have hne4 := own_ne HKP.out HOW.out (V + 4, .deferred (some [])) (List.mem_cons_self ..)
    have hne5 : some (V + 5) ≠ (Value.slice A' xs.length c').ownBlock := fun e => H4.out e.symm
    have h2 := HH2.out
    have hst := TJ.step HBW.out HKP.out HBL.out HOW.out (fun q hq => by
     rcases List.mem_cons.1 hq with rfl | hq
     ·simp; omega
     ·exact (HFI.out q hq).1) ho1.out hb1.out hkeep
    have hset : ∀ i, i ≠ w.heap.size → (w1.setCell ⟨w.heap.size, 0, none⟩ (.slice A1 (xs.length + 1) c1)).heap[i]? = w1.heap[i]? := fun i hi => heap_setCell_other _ _ _ _ hi
    refine ⟨⟨by rw [HJL.out]; exact hj, ?_, A1, c1, ?_, ?_⟩, ?_, ?_⟩
    ·rw [World.size_setCell]; exact Nat.le_trans h2 hb1.out.size
    ·rw [HTK.out, ← List.append_assoc, HXS.out]; exact hst
    ·rw [HTK.out, ← List.append_assoc, HXS.out, List.length_append]
     intro e
     rcases hat1.out with h | ⟨bb, h, hlt2⟩
     ·exact H4.out (h.symm.trans e)
     ·have := h.symm.trans e
      have := Option.some.inj this
      omega
    ·rw [hset _ (by omega)]
     exact hkeep _ (by omega) hne5
    ·rw [hset _ (by omega)]
     exact hkeep _ (by omega) hne4
   case done =>
    rintro W ⟨h1, h2, A', c', h3, h4⟩ hDf
    have hJl : (((flt mAll (rowW r k)).map fun a => (⟨a.f1, (k : Int), a.f2⟩ : Ar))).length = (flt mAll (rowW r k)).length := List.length_map ..
    rw [← hJl, List.take_length, ← HTS.out] at h3
    have h5 := h3.less (F' := ((V + 4) :: Ds).map fun D => (D, Obj.deferred (some []))) (fun q hq => by
     rw [List.map_cons] at hq
     rcases List.mem_cons.1 hq with rfl | hq
     ·exact List.mem_cons_self ..
     ·exact List.mem_cons_of_mem _ (HMD.out q hq))
    clear h4
    rw [hsz] at hDf ⊢
    gi_wp2
    refine ⟨⟨_, _, _, _, _, _, _, _, _, k + 1, (V + 4) :: Ds, A', c', by rw [← HNX.out]; rfl, hlt, List.nodup_cons.2 ⟨fun h => by have := HDL.out _ h; omega, hnd⟩, fun D hD => ?_, h5⟩, HME.out⟩
    rcases List.mem_cons.1 hD with rfl | hD
    ·omega
    ·exact hDs D hD
  ·obtain rfl : k = n := by omega
   have hlti : ¬ (k : Int) < (k : Int) := by omega
   have HX : Hid (∀ W, Below wr.heap.size wr W → W.cell? ⟨w.heap.size, 0, none⟩ = some (.slice A4 (tArcs mAll r k).length c4)) := Lib.hid fun W hb => below_cell hb _ _ ((HT.out.2.2.1.cell 0).trans rfl)
   have HLN : Hid (∀ W, Below wr.heap.size wr W → Calls Try.prog 12 #[.pointer (some ⟨b, 0, none⟩)] W fun e w' => e = .returned (.int .i64 (k : Int)) ∧ Below wr.heap.size wr w') := Lib.hid fun W hb => (HL.out W (HT.out.1.trans (hb.mono HT.out.1.size))).mono fun e w' ⟨he, hw⟩ => ⟨he, by rw [hw]; exact hb⟩
   have HNEW : Hid (∀ W, Below wr.heap.size wr W → Calls Try.prog 9 #[.int .i64 (k : Int), .slice A4 (tArcs mAll r k).length c4] W fun e w' => ∃ p z, e = .returned (.tuple #[p, .int .i64 z]) ∧ Below W.heap.size W w' ∧ ((okN k (tArcs mAll r k) = false ∧ p = .pointer none) ∨ (okN k (tArcs mAll r k) = true ∧ ∃ r', Joined (tArcs mAll r k) r' ∧ r'.length ≤ (tArcs mAll r k).length ∧ Gr w' p k r'))) := Lib.hid fun W hb => by
    have h1 := own_below HT.out.2.2.2 hb
    have h2 := tArcs_len mAll r k
    have h3 := cnt_le r k
    refine (new_c (k : Int) A4 c4 (tArcs mAll r k) W (own_reads h1).1 (Nat.le_trans (Nat.mul_le_mul_right 24 (Nat.le_trans h2 h3)) HR.out)).mono ?_
    rintro e w' ⟨hb2, ⟨hk2, rfl⟩ | ⟨hk2, p, r', rfl, hj, hl, hg⟩⟩
    ·exact ⟨_, _, rfl, hb2, .inl ⟨hk2, rfl⟩⟩
    ·exact ⟨_, _, rfl, hb2, .inr ⟨hk2, r', hj, hl, by simpa using hg⟩⟩
   have HDS : Hid (∀ W, Below wr.heap.size wr W → ∀ D ∈ Ds, W.heap[D]? = some (.deferred (some []))) := Lib.hid fun W hb D hD => ((HT.out.2.1.below hb) (D, .deferred (some [])) (List.mem_map.2 ⟨D, hD, rfl⟩)).1
   have HTB : Hid (Below w.heap.size w wr) := Lib.hid HT.out.1
   have hbD := (Below.refl wr.heap.size wr).drew
   clear hT
   generalize hNL : (tArcs mAll r k).length = NL at HX HNEW
   have HNL := Lib.hid hNL
   clear hNL
   gi_wp2_with (fail)
   refine wpIn_wide.2 (wp_mono (Q := NoP _) ?_ NoP.out)
   refine start_ (n := 9) (S := fun w' => Below wr.heap.size wr w') (ds := []) #[false, false, false, false, false, false, false, false, false] (by kernel_rfl) rfl rfl hbD (fun hHeld => ?_)
   refine with_tabW RgT.tab RgT.bits (fun HT_ HW_ => ?_)
   refine pure_ (i := 0) (N := some 30) (v := ?_) (a' := ?_) #[true, false, false, false, false, false, false, false, false] rfl rfl (any_of HT_.out (by kernel_rfl)) (fun _ _ _ h => h) (Or.inl ⟨by rfl, ?_⟩) ?_ ?_
   rotate_left
   ·intro w'
    go_simp
    with_reducible rfl
   rotate_left
   ·simp only [Act.put, List.setIfInBounds_toArray, List.set_cons_zero, List.set_cons_succ, i64_w, i32_w]
    rfl
   refine take_ (i := 2) (N := some 32) (v := ?_) (a' := ?_) #[true, false, true, false, false, false, false, false, false] rfl rfl (take_ofW HT_.out HW_.out (by kernel_rfl)) (fun _ _ _ h => h) (Or.inl ⟨by rfl, ?_⟩) hHeld ?_ ?_
   rotate_left
   ·intro w' hW
    have x0_ := HX.out w' hW
    go_simp
    with_reducible rfl
   rotate_left
   ·simp only [Act.put, List.setIfInBounds_toArray, List.set_cons_zero, List.set_cons_succ, i64_w, i32_w]
    rfl
   refine one_ (i := 1) (N := some 31) #[true, true, true, false, false, false, false, false, false] rfl rfl (one_of HT_.out (by kernel_rfl)) (by decide) (fun K hK => ?_)
   refine goes_ Try.func12 (by kernel_rfl) rfl #[.pointer (some ⟨b, 0, none⟩)] (by rfl) rfl rfl (by (try simp only [List.map_toArray, List.map_cons, List.map_nil]); first | done | rfl) ?_
   refine (HLN.out _ hHeld).mono ?_
   rintro e_ w_1 ⟨rfl, hH_⟩
   refine ⟨_, rfl, ?_⟩
   refine hK.out _ _ hH_ (fun hHeld => ?_)
   clear hK K hH_
   refine norm_ (a' := ?_) ?_ ?_
   rotate_left
   ·show Act.put _ (some 31) _ = _
    simp only [Act.put, List.setIfInBounds_toArray, List.set_cons_zero, List.set_cons_succ, i64_w, i32_w]
    rfl
   refine one_ (i := 3) (N := some 33) #[true, true, true, true, false, false, false, false, false] rfl rfl (one_of HT_.out (by kernel_rfl)) (by decide) (fun K hK => ?_)
   refine goes_ Try.func9 (by kernel_rfl) rfl #[.int .i64 (k : Int), .slice A4 NL c4] (by rfl) rfl rfl (by (try simp only [List.map_toArray, List.map_cons, List.map_nil]); first | done | rfl) ?_
   refine (HNEW.out _ hHeld).mono ?_
   rintro e_ w9 ⟨p9, z9, rfl, hb9, hq9⟩
   refine ⟨_, rfl, ?_⟩
   have hn_ := hHeld.trans (hb9.mono hHeld.size)
   have HQ9 := Lib.hid hq9
   clear hq9
   refine hK.out _ _ hn_ (fun hHeld => ?_)
   clear hK K hn_
   refine norm_ (a' := ?_) ?_ ?_
   rotate_left
   ·show Act.put _ (some 33) _ = _
    simp only [Act.put, List.setIfInBounds_toArray, List.set_cons_zero, List.set_cons_succ, i64_w, i32_w]
    rfl
   refine pure_ (i := 4) (N := some 29) (v := ?_) (a' := ?_) #[true, true, true, true, true, false, false, false, false] rfl rfl (any_of HT_.out (by kernel_rfl)) (fun _ _ _ h => h) (Or.inl ⟨by rfl, ?_⟩) ?_ ?_
   rotate_left
   ·intro w'
    go_simp
    with_reducible rfl
   rotate_left
   ·simp only [Act.put, List.setIfInBounds_toArray, List.set_cons_zero, List.set_cons_succ, i64_w, i32_w]
    rfl
   refine pure_ (i := 5) (N := some 34) (v := ?_) (a' := ?_) #[true, true, true, true, true, true, false, false, false] rfl rfl (any_of HT_.out (by kernel_rfl)) (fun _ _ _ h => h) (Or.inl ⟨by rfl, ?_⟩) ?_ ?_
   rotate_left
   ·intro w'
    go_simp
    with_reducible rfl
   rotate_left
   ·simp only [Act.put, List.setIfInBounds_toArray, List.set_cons_zero, List.set_cons_succ, i64_w, i32_w]
    rfl
   refine pure_ (i := 6) (N := some 35) (v := ?_) (a' := ?_) #[true, true, true, true, true, true, true, false, false] rfl rfl (any_of HT_.out (by kernel_rfl)) (fun _ _ _ h => h) (Or.inl ⟨by rfl, ?_⟩) ?_ ?_
   rotate_left
   ·intro w'
    go_simp
    with_reducible rfl
   rotate_left
   ·simp only [Act.put, List.setIfInBounds_toArray, List.set_cons_zero, List.set_cons_succ, i64_w, i32_w]
    rfl
   refine pure_ (i := 7) (N := some 7) (v := ?_) (a' := ?_) #[true, true, true, true, true, true, true, true, false] rfl rfl (any_of HT_.out (by kernel_rfl)) (fun _ _ _ h => h) (Or.inl ⟨by rfl, ?_⟩) ?_ ?_
   rotate_left
   ·intro w'
    go_simp
    with_reducible rfl
   rotate_left
   ·simp only [Act.put, List.setIfInBounds_toArray, List.set_cons_zero, List.set_cons_succ, i64_w, i32_w]
    rfl
   refine pure_ (i := 8) (N := some 8) (v := ?_) (a' := ?_) #[true, true, true, true, true, true, true, true, true] rfl rfl (any_of HT_.out (by kernel_rfl)) (fun _ _ _ h => h) (Or.inl ⟨by rfl, ?_⟩) ?_ ?_
   rotate_left
   ·intro w'
    go_simp
    with_reducible rfl
   rotate_left
   ·simp only [Act.put, List.setIfInBounds_toArray, List.set_cons_zero, List.set_cons_succ, i64_w, i32_w]
    rfl
   refine done_ (done_of HT_.out (by kernel_rfl)) ?_
   have HH9 := Lib.hid hHeld
   clear hHeld hbD
   show Exit.then _ (bodyPostM Fence.wide 0 Try.prog Try.f23 (TOut w k (tArcs mAll r k))) Exit.normal _ _
   gi_wp2
   refine leaves_marks Ds w9 (HDS.out _ HH9.out) hnd (results_tmp (t := 2) rfl _ _ _) ?_
   have hmc : ∀ a v, w9.cell? a = some v → (met Ds w9).cell? a = some v := fun a v hc => met_cell Ds w9 (HDS.out _ HH9.out) hc
   refine ⟨met_below Ds _ _ (fun D hD => Nat.le_of_lt (hDs D hD)) (HTB.out.trans (HH9.out.mono HTB.out.size)), p9, rfl, ?_⟩
   rcases HQ9.out with h | ⟨h1, r', h2, h3, h4⟩
   ·exact .inl h
   ·exact .inr ⟨h1, r', h2, (by rw [HNL.out]; exact h3), h4.keep hmc⟩
theorem turned_c (n : Nat) (r : List Ar) (p : Value) (w : World) (h : Gr w p n r) (hn : n ≤ 1024) (hr : r.length * 24 ≤ 140737488355328) :
 Calls Try.prog 23 #[p] w (TOut w n (tArcs mAll r n)) := by
 obtain ⟨b, ga, ca, A, c, rfl, hA⟩ := h.a
 exact callsIn_wide.1 (turned_in b ga ca A c n r w hA hn hr)
end Go.Proofs.Ytdchnaghmmhkhaa.Cs.Ai
set_option linter.unusedSimpArgs false
namespace Go.Proofs.Ytdchnaghmmhkhaa.Cs.Ai
open Go.Shelf Go.RowKit Go.Lib Go.Sort Go.Proofs.Ytdchnaghmmhkhaa.RowAt Go.Proofs.Ytdchnaghmmhkhaa.Stab Go.Proofs.Ytdchnaghmmhkhaa.Stab.Ai Go.Proofs.Ytdchnaghmmhkhaa.PCsrGraphs Go.Proofs.YtdchnaghmmhkhaaW.PrintWords
set_option linter.unusedSectionVars false
set_option linter.unusedVariables false
def D3 : List Ar := [⟨0, 1, 1⟩, ⟨0, 1, 4⟩, ⟨2, 2, 1⟩]
def D1 : List Ar := [⟨0, 1, 1⟩]
def R3 : List Ar := [⟨0, 1, 5⟩]
def T3 : List Ar := [⟨1, 0, 5⟩]
theorem is3 : Is D3 R3 := by
 refine ⟨List.pairwise_singleton _ _, fun b hb => ?_, fun f t hft hz => ?_⟩
 ·rw [show R3 = [⟨0, 1, 5⟩] from rfl, List.mem_singleton] at hb
  subst hb
  exact ⟨by unfold Rg; kernel_rfl, by decide, by decide, by kernel_rfl⟩
 ·obtain ⟨b, hb, h0, h1⟩ := mk_some hz
  simp only [D3, List.mem_cons, List.mem_nil_iff, or_false] at hb
  rcases hb with rfl | rfl | rfl
  ·exact ⟨⟨0, 1, 5⟩, by simp [R3], h0, h1⟩
  ·exact ⟨⟨0, 1, 5⟩, by simp [R3], h0, h1⟩
  ·exact absurd (h0.symm.trans h1) hft
theorem isT : Is T3 T3 := by
 refine ⟨List.pairwise_singleton _ _, fun b hb => ?_, fun f t hft hz => ?_⟩
 ·rw [show T3 = [⟨1, 0, 5⟩] from rfl, List.mem_singleton] at hb
  subst hb
  exact ⟨by unfold Rg; kernel_rfl, by decide, by decide, by kernel_rfl⟩
 ·exact mk_some hz
theorem t3_eq : tArcs mAll R3 3 = T3 := by kernel_rfl
theorem rg3 : ∀ a ∈ D3, Rg a.f2 := by
 intro a ha
 simp only [D3, List.mem_cons, List.mem_nil_iff, or_false] at ha
 rcases ha with rfl | rfl | rfl <;> (unfold Rg; kernel_rfl)
theorem rgT : ∀ a ∈ T3, Rg a.f2 := by
 intro a ha
 simp only [T3, List.mem_cons, List.mem_nil_iff, or_false] at ha
 subst ha; unfold Rg; kernel_rfl
theorem joined3 {r : List Ar} (h : Joined D3 r) : r = R3 := Is.uniq (joined_is h rg3) is3
theorem joinedT {r : List Ar} (h : Joined T3 r) : r = T3 := Is.uniq (joined_is h rgT) isT
theorem lit_reads (W : World) (D : List Ar) : Reads (W.alloc (.cells (D.flatMap enc1).toArray 62)) (some ⟨W.heap.size, 0, none⟩) D := fun _ => by
 refine ⟨W.heap.size, 0, rfl, fun i x hx => ?_⟩
 have b := Blk.new W (D.flatMap enc1) 62
 have hc : ∀ d v, (enc1 x)[d]? = some v → (W.alloc (.cells (D.flatMap enc1).toArray 62)).cell? ⟨W.heap.size, 0 + i * 3 + d, none⟩ = some v := fun d v hv => by
  have hd := (List.getElem?_eq_some_iff.1 hv).1
  rw [enc1_len] at hd
  rw [b.cell, Nat.zero_add, flat_get enc1_len D i d hd, hx]; exact hv
 exact ⟨hc 0 _ rfl, hc 1 _ rfl, hc 2 _ rfl⟩
theorem mask_gr (n : Nat) (r : List Ar) (p : Value) (v t : Nat) (w : World) (h : Gr w p n r) (hr : r.Pairwise Lx) (hn : n ≤ 1024) (hl : r.length * 24 ≤ 140737488355328) (hv : v < n) :
 Calls Try.prog 17 #[p, .int .i64 (v : Int), .int .i64 (t : Int)] w fun e w' => e = .returned (.int .i64 (lookD (rowW r v) t)) ∧ Below w.heap.size w w' := by
 obtain ⟨b, ga, ca, A, c, rfl, hA⟩ := h.a
 have h1 := rowW_len r v
 have h2 := cnt_le r (v + 1)
 exact mask_c _ _ _ _ _ w (row_in n r b ga ca A c v w hA hn hl hv) (rowW_rising hr v) (by omega)
theorem func_ne (w : World) (f : Fn) (a b : Array Value) : (binOp .neq 44 (.func f a b) .nilFunc).run Try.prog w = .ok (.bool true) w := by
 have h : ∀ d : Nat, (Op.equalIn (d + 1) 44 (.func f a b) .nilFunc).run Try.prog w = .ok false w := fun d => by
  simp [Op.equalIn, run_underlying Try.underlying44]
 simp only [binOp]
 simp [Op.equal, Op.maxDepth, h 9999]
set_option maxHeartbeats 4000000 in
set_option maxRecDepth 1000000 in
theorem works_c (w : World) : Calls Try.prog 8 #[] w fun e w' => e = .returned (.bool true) ∧ Below w.heap.size w w' := by
 have e1 : ∀ args w, (callFunc 9 args).run Try.prog w = .ok (.enter 9 args) w := enters_of Try.func9 (by kernel_rfl) rfl
 have e2 : ∀ args w, (callFunc 12 args).run Try.prog w = .ok (.enter 12 args) w := enters_of Try.func12 (by kernel_rfl) rfl
 have e3 : ∀ args w, (callFunc 15 args).run Try.prog w = .ok (.enter 15 args) w := enters_of Try.func15 (by kernel_rfl) rfl
 have e4 : ∀ args w, (callFunc 17 args).run Try.prog w = .ok (.enter 17 args) w := enters_of Try.func17 (by kernel_rfl) rfl
 have e5 : ∀ args w, (callFunc 23 args).run Try.prog w = .ok (.enter 23 args) w := enters_of Try.func23 (by kernel_rfl) rfl
 have e6 : ∀ args w, (callFunc 20 args).run Try.prog w = .ok (.enter 20 args) w := enters_of Try.func20 (by kernel_rfl) rfl
 have HN3 : Hid (∀ W : World, Calls Try.prog 9 #[.int .i64 3, .slice (some ⟨W.heap.size, 0, none⟩) 3 3] (W.alloc (.cells #[.int .i64 0, .int .i64 1, .int .i64 1, .int .i64 0, .int .i64 1, .int .i64 4, .int .i64 2, .int .i64 2, .int .i64 1] 62)) fun e w' => ∃ p, e = .returned (.tuple #[p, .int .i64 0]) ∧ Gr w' p 3 R3 ∧ Below W.heap.size W w') := Lib.hid fun W => by
  refine (new_c 3 _ 3 D3 _ (lit_reads W D3) (by decide)).mono ?_
  rintro e w' ⟨hb, ⟨h, _⟩ | ⟨_, p, r, rfl, hj, _, hg⟩⟩
  ·exact absurd h (by decide)
  ·rw [joined3 hj] at hg
   exact ⟨p, rfl, hg, ((Below.refl _ W).alloc (Nat.le_refl _) _).trans (hb.mono (by simp))⟩
 have HN1 : Hid (∀ W : World, Calls Try.prog 9 #[.int .i64 1, .slice (some ⟨W.heap.size, 0, none⟩) 1 1] (W.alloc (.cells #[.int .i64 0, .int .i64 1, .int .i64 1] 62)) fun e w' => e = .returned (.tuple #[.pointer none, .int .i64 2]) ∧ Below W.heap.size W w') := Lib.hid fun W => by
  refine (new_c 1 _ 1 D1 _ (lit_reads W D1) (by decide)).mono ?_
  rintro e w' ⟨hb, ⟨_, rfl⟩ | ⟨h, _⟩⟩
  ·exact ⟨rfl, ((Below.refl _ W).alloc (Nat.le_refl _) _).trans (hb.mono (by simp))⟩
  ·exact absurd h (by decide)
 go_enter Try.func8, Try.ntmps8
 have HL : Hid (∀ p W, Gr W p 3 R3 → Calls Try.prog 12 #[p] W fun e w' => e = .returned (.int .i64 3) ∧ Gr w' p 3 R3 ∧ Below W.heap.size W w') := Lib.hid fun p W h => (len_c 3 R3 p W h (by decide)).mono fun e w' ⟨he, hw⟩ => by subst hw; exact ⟨he, h, Below.refl _ _⟩
 have HA : Hid (∀ p W, Gr W p 3 R3 → Calls Try.prog 15 #[p] W fun e w' => ∃ A c, e = .returned (.slice A 1 c) ∧ Gr w' p 3 R3 ∧ Below W.heap.size W w') := Lib.hid fun p W h => (arcs_c 3 R3 p W h (by decide)).mono fun e w' ⟨A, c, he, _, _, hb⟩ => ⟨A, c, he, h.below hb, hb⟩
 have hv1 : lookD (rowW R3 0) 1 = 5 := by kernel_rfl
 have hv2 : lookD (rowW R3 1) 0 = 0 := by kernel_rfl
 have hv3 : lookD (rowW T3 1) 0 = 5 := by kernel_rfl
 have HM1 : Hid (∀ p W, Gr W p 3 R3 → Calls Try.prog 17 #[p, .int .i64 0, .int .i64 1] W fun e w' => e = .returned (.int .i64 5) ∧ Gr w' p 3 R3 ∧ Below W.heap.size W w') := Lib.hid fun p W h => (mask_gr 3 R3 p 0 1 W h is3.1 (by decide) (by decide) (by decide)).mono fun e w' ⟨he, hb⟩ => ⟨he.trans (ret_eq (congrArg (Value.int .i64) hv1)), h.below hb, hb⟩
 have HM2 : Hid (∀ p W, Gr W p 3 R3 → Calls Try.prog 17 #[p, .int .i64 1, .int .i64 0] W fun e w' => e = .returned (.int .i64 0) ∧ Gr w' p 3 R3 ∧ Below W.heap.size W w') := Lib.hid fun p W h => (mask_gr 3 R3 p 1 0 W h is3.1 (by decide) (by decide) (by decide)).mono fun e w' ⟨he, hb⟩ => ⟨he.trans (ret_eq (congrArg (Value.int .i64) hv2)), h.below hb, hb⟩
 have HM3 : Hid (∀ p W, Gr W p 3 T3 → Calls Try.prog 17 #[p, .int .i64 1, .int .i64 0] W fun e w' => e = .returned (.int .i64 5) ∧ Below W.heap.size W w') := Lib.hid fun p W h => (mask_gr 3 T3 p 1 0 W h isT.1 (by decide) (by decide) (by decide)).mono fun e w' ⟨he, hb⟩ => ⟨he.trans (ret_eq (congrArg (Value.int .i64) hv3)), hb⟩
 have HT : Hid (∀ p W, Gr W p 3 R3 → Calls Try.prog 23 #[p] W fun e w' => ∃ q, e = .returned q ∧ Gr w' q 3 T3 ∧ Gr w' p 3 R3 ∧ Below W.heap.size W w') := Lib.hid fun p W h => (turned_c 3 R3 p W h (by decide) (by decide)).mono fun e w' ⟨hb, v, he, ho⟩ => by
  rw [t3_eq] at ho
  rcases ho with ⟨h0, _⟩ | ⟨_, r', hj, _, hg⟩
  ·exact absurd h0 (by decide)
  ·rw [joinedT hj] at hg
   exact ⟨v, he, hg, h.below hb, hb⟩
 clear hv1 hv2 hv3
 go_wp2_with (fail)
 refine (HN3.out w).mono ?_
 rintro e w1 ⟨p, rfl, hg1, hb1⟩
 have HG1 := Lib.hid hg1
 have HB1 := Lib.hid hb1
 obtain ⟨b0, ga0, ca0, A0, c0, hp0, _⟩ := hg1.a
 subst hp0
 clear hg1 hb1
 go_wp2_with (fail)
 refine (HN1.out w1).mono ?_
 rintro e w2 ⟨rfl, hb2⟩
 have HG2 := Lib.hid (HG1.out.below hb2)
 have HB2 := Lib.hid (HB1.out.trans (hb2.mono HB1.out.size))
 clear hb2
 go_wp2_with (fail)
 refine (HL.out _ w2 HG2.out).mono ?_
 rintro e w3 ⟨rfl, hg3, hb3⟩
 have HG3 := Lib.hid hg3
 have HB3 := Lib.hid (HB2.out.trans (hb3.mono HB2.out.size))
 clear hg3 hb3
 go_wp2_with (fail)
 refine (HA.out _ w3 HG3.out).mono ?_
 rintro e w4 ⟨A4, c4, rfl, hg4, hb4⟩
 have HG4 := Lib.hid hg4
 have HB4 := Lib.hid (HB3.out.trans (hb4.mono HB3.out.size))
 clear hg4 hb4
 go_wp2_with (fail)
 refine (HM1.out _ w4 HG4.out).mono ?_
 rintro e w5 ⟨rfl, hg5, hb5⟩
 have HG5 := Lib.hid hg5
 have HB5 := Lib.hid (HB4.out.trans (hb5.mono HB4.out.size))
 clear hg5 hb5
 go_wp2_with (fail)
 refine (HM2.out _ w5 HG5.out).mono ?_
 rintro e w6 ⟨rfl, hg6, hb6⟩
 have HG6 := Lib.hid hg6
 have HB6 := Lib.hid (HB5.out.trans (hb6.mono HB5.out.size))
 clear hg6 hb6
 go_wp2_with (fail)
 refine (HT.out _ w6 HG6.out).mono ?_
 rintro e w7 ⟨q, rfl, hq7, hg7, hb7⟩
 have HQ7 := Lib.hid hq7
 have HG7 := Lib.hid hg7
 have HB7 := Lib.hid (HB6.out.trans (hb7.mono HB6.out.size))
 clear hq7 hg7 hb7
 go_wp2_with (fail)
 refine (HM3.out _ w7 HQ7.out).mono ?_
 rintro e w8 ⟨rfl, hb8⟩
 have HB8 := Lib.hid (HB7.out.trans (hb8.mono HB7.out.size))
 clear hb8
 go_wp2_with (fail)
 refine (out_c (some ⟨b0, 0, none⟩) 0 1 w8).mono ?_
 rintro e w9 ⟨rfl, rfl⟩
 have hfn := func_ne
 go_wp2
 go_ret
 exact ⟨rfl, HB8.out.trans ((((Below.refl _ w8).alloc HB8.out.size _).alloc (by have := HB8.out.size; simp; omega) _).alloc (by have := HB8.out.size; simp; omega) _)⟩
end Go.Proofs.Ytdchnaghmmhkhaa.Cs.Ai
