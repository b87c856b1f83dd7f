/- Printed by shake.py. -/
import Derived.Test.YtdchnaghmmhkhaaKz23
import Derived.RangeFuncOwn
import Derived.Shelf.Abstract
set_option linter.unusedVariables false
set_option linter.unusedSimpArgs false
namespace Go.Proofs.Ytdchnaghmmhkhaa
open Go.RowKit Go.Shelf
variable {P : Program}
def Goes (P : Program) (gf : Nat) (lb : Array Value) (N : Nat) (encs : Nat → Array Value) (St : World → World → Prop) (Inv : World → Prop) (l : Nat) (W : World) : Prop :=
 ∀ (Y : Nat → World → Prop) (Yx : World → Prop), Y 0 W → (∀ k W, Y k W → Inv W) → (∀ k W W', St W W' → Y k W → Y k W') → (∀ W W', St W W' → Yx W → Yx W') →
  (∀ k, k < N → ∃ fn tmps assign body, ∀ W1, Y k W1 → (Instr.yield l (encs k)).run P W1 = .ok (.round l fn tmps assign body) W1 ∧
   RoundIn Fence.wide 0 P l fn tmps assign body W1 fun e W' => ∃ bv : Bool, e = .returned (.bool bv) ∧ (bv = true → Y (k + 1) W') ∧ (bv = false → Yx W')) →
  CallsIn Fence.wide 0 P gf (#[.func (.yield l) #[] #[]] ++ lb) W fun e W' => (∃ v, e = .returned v) ∧ (Y N W' ∨ Yx W')
def roundEnd (L D : Nat) (k : Nat) (J : Nat → World → Prop) (Jx : Code → World → Prop) (W : World) : Exit → Act → World → Prop
 | .normal, _, W' => J (k + 1) W' ∧ W'.heap[L]? = W.heap[L]? ∧ W'.heap[D]? = W.heap[D]?
 | .ret, _, W' => Jx .ret W' ∧ W'.heap[L]? = W.heap[L]? ∧ W'.heap[D]? = W.heap[D]?
 | .exit id, _, W' => Jx (.exit id) W' ∧ W'.heap[L]? = W.heap[L]? ∧ W'.heap[D]? = W.heap[D]?
 | .goto t, _, W' => Jx (.goto t) W' ∧ W'.heap[L]? = W.heap[L]? ∧ W'.heap[D]? = W.heap[D]?
 | _, _, _ => False
theorem wp_range {g : Operand} {ps : Array Tmp} {assign body : Code} {Q : Exit → Act → World → Prop} {a : Act} {w : World}
 {gf : Nat} {lb : Array Value} (hg : a.eval g = .func (.func gf) #[] lb) (eg : ∀ args w, (callFunc gf args).run P w = .ok (.enter gf args) w)
 (N : Nat) (encs : Nat → Array Value) (hps : ∀ k, (encs k).size = ps.size) (St : World → World → Prop)
 (hSt : ∀ (W W' : World) (i : Nat) (o : Obj), St W W' → W.heap[i]? = some o → o.isCells = false → W'.heap[i]? = some o)
 (J : Nat → World → Prop) (Jx : Code → World → Prop) (a₁ : Nat → Act)
 (hput : ∀ (k : Nat) (W : World) (o : Obj), J k W → J k (W.putObj (w.heap.size + 1) o)) (hputx : ∀ (c : Code) (W : World) (o : Obj), Jx c W → Jx c (W.putObj (w.heap.size + 1) o))
 (hJ : ∀ k W W', St W W' → J k W → J k W') (hJx : ∀ c W W', St W W' → Jx c W → Jx c W')
 (h0 : ∀ r : Loop, J 0 ((w.alloc (.deferred (some []))).alloc (.loop r)))
 (Inv : World → Prop) (hInv : ∀ k W, J k W → Inv W)
 (hseq : ∀ r : Loop, Goes P gf lb N encs St Inv (w.heap.size + 1) ((w.alloc (.deferred (some []))).alloc (.loop r)))
 (hassign : ∀ (k : Nat) (W : World) (K : Act → World → Prop), K (a₁ k) W →
  assign.wpIn (Fence.wide.inRound (w.heap.size + 1)) 0 P (Exit.then K (fun _ _ _ => False)) { tmps := (ps.zip (encs k)).foldl (fun t (p, v) => t.setIfInBounds p v) a.tmps, defers := [] } W)
 (hbody : ∀ (k : Nat) (W : World), k < N → J k W → body.wpIn (Fence.wide.inRound (w.heap.size + 1)) 0 P (roundEnd (w.heap.size + 1) w.heap.size k J Jx W) (a₁ k) W)
 (hdone : ∀ (W : World), J N W → W.heap[w.heap.size]? = some (.deferred (some [])) → Q .normal { a with defers := { target := .collected w.heap.size, args := #[] } :: a.defers } W)
 (hstop : ∀ (c : Code) (W : World), Jx c W → W.heap[w.heap.size]? = some (.deferred (some [])) → c.wpIn Fence.wide 0 P Q { a with defers := { target := .collected w.heap.size, args := #[] } :: a.defers } W) :
 (Code.rangeFunc g ps assign body).wpIn Fence.wide 0 P Q a w := by
 refine wpIn_rangeFunc ?_
 intro fn hfn
 obtain ⟨rec, hrec⟩ : ∃ rec : LoopState → Option Code → Loop, rec = fun st pe => { state := st, pending := pe, fn, tmps := a.tmps, params := ps, assign, body, defers := w.heap.size } := ⟨_, rfl⟩
 obtain ⟨W1, hW1⟩ : ∃ W1, (w.alloc (.deferred (some []))).alloc (.loop (rec .ready none)) = W1 := ⟨_, rfl⟩
 have hL1 : W1.heap[w.heap.size + 1]? = some (.loop (rec .ready none)) := by
  rw [← hW1]; have := World.alloc_heap_new (w.alloc (.deferred (some []))) (.loop (rec .ready none)); rwa [World.size_alloc] at this
 have hK1 : W1.heap[w.heap.size]? = some (.deferred (some [])) := by
  rw [← hW1]; exact (Below.heap_alloc _ _ _ (by simp)).trans (World.alloc_heap_new w _)
 have hI1 : J 0 W1 := by rw [← hW1]; exact h0 _
 refine ⟨w.heap.size + 1, [{ target := .collected w.heap.size, args := #[] }], W1, { target := .fn (.func gf) lb, args := #[.func (.yield (w.heap.size + 1)) #[] #[]] }, W1, gf,
  #[.func (.yield (w.heap.size + 1)) #[] #[]] ++ lb, W1, ?_, ?_, ?_, ?_, (fun h => by cases h), ?_⟩
 ·rw [← hW1, hrec]; exact run_enterLoop_outer _ _ _ _ _
 ·simp only [resolve, hg]
  simp [go_sem]
 ·intro f' hf'; trivial
 ·simp [invoke, go_sem, eg]
 ·have hs := hseq (rec .ready none)
  rw [hW1] at hs
  refine (hs (fun k W => J k W ∧ W.heap[w.heap.size + 1]? = some (.loop (rec .ready none)) ∧ W.heap[w.heap.size]? = some (.deferred (some [])))
   (fun W => ∃ c, Jx c W ∧ W.heap[w.heap.size + 1]? = some (.loop (rec .done (some c))) ∧ W.heap[w.heap.size]? = some (.deferred (some [])))
   ⟨hI1, hL1, hK1⟩ (fun k W h => hInv k W h.1) (fun k W W' hs h => ⟨hJ k W W' hs h.1, hSt W W' _ _ hs h.2.1 rfl, hSt W W' _ _ hs h.2.2 rfl⟩)
   (fun W W' hs ⟨c, h1, h2, h3⟩ => ⟨c, hJx c W W' hs h1, hSt W W' _ _ hs h2 rfl, hSt W W' _ _ hs h3 rfl⟩) ?_).mono ?_
  ·intro k hk
   refine ⟨fn, (ps.zip (encs k)).foldl (fun t (p, v) => t.setIfInBounds p v) a.tmps, assign, body, ?_⟩
   rintro W ⟨hi, hl, hd⟩
   have hlt : w.heap.size + 1 < W.heap.size := (Array.getElem?_eq_some_iff.1 hl).1
   have hy := run_yield (P := P) (args := encs k) hl (by rw [hrec]; simp [hps])
   rw [hrec] at hy
   refine ⟨hy, roundIn_of_wpIn hfn (hassign k W _ ⟨_, run_beginRound hl (by rw [hrec]), ?_⟩)⟩
   have hl2 : (W.putObj (w.heap.size + 1) (.loop { rec .ready none with state := .busy })).heap[w.heap.size + 1]? = some (.loop { rec .ready none with state := .busy }) := World.putObj_heap_same hlt
   have hk2 : (W.putObj (w.heap.size + 1) (.loop { rec .ready none with state := .busy })).heap[w.heap.size]? = some (.deferred (some [])) := (World.putObj_heap_other (by omega)).trans hd
   refine wpIn_mono (hbody k _ hk (hput k _ _ hi)) ?_
   have fin : ∀ (jump : Option Code) (W3 : World), W3.heap[w.heap.size + 1]? = (W.putObj (w.heap.size + 1) (.loop { rec .ready none with state := .busy })).heap[w.heap.size + 1]? →
    W3.heap[w.heap.size]? = (W.putObj (w.heap.size + 1) (.loop { rec .ready none with state := .busy })).heap[w.heap.size]? →
    (Instr.endRound (w.heap.size + 1) jump).run P W3 = .ok (.bool jump.isNone) (W3.putObj (w.heap.size + 1) (.loop (rec (if jump.isNone then .ready else .done) jump))) ∧
    (W3.putObj (w.heap.size + 1) (.loop (rec (if jump.isNone then .ready else .done) jump))).heap[w.heap.size + 1]? = some (.loop (rec (if jump.isNone then .ready else .done) jump)) ∧
    (W3.putObj (w.heap.size + 1) (.loop (rec (if jump.isNone then .ready else .done) jump))).heap[w.heap.size]? = some (.deferred (some [])) := fun jump W3 e1 e2 => by
    have hl3 := e1.trans hl2
    have := run_endRound (P := P) jump hl3
    rw [hrec] at this ⊢
    exact ⟨this, World.putObj_heap_same (Array.getElem?_eq_some_iff.1 hl3).1, (World.putObj_heap_other (by omega)).trans (e2.trans hk2)⟩
   rintro e a3 W3 hp
   cases e with
   | normal =>
    obtain ⟨hi3, e1, e2⟩ := hp
    obtain ⟨hr, hl4, hk4⟩ := fin none W3 e1 e2
    exact ⟨_, _, hr, true, rfl, fun _ => ⟨hput _ _ _ hi3, hl4, hk4⟩, fun h => by cases h⟩
   | ret =>
    obtain ⟨hi3, e1, e2⟩ := hp
    obtain ⟨hr, hl4, hk4⟩ := fin (some .ret) W3 e1 e2
    exact ⟨_, _, hr, false, rfl, (fun h => by cases h), fun _ => ⟨.ret, hputx _ _ _ hi3, hl4, hk4⟩⟩
   | exit id =>
    obtain ⟨hi3, e1, e2⟩ := hp
    obtain ⟨hr, hl4, hk4⟩ := fin (some (.exit id)) W3 e1 e2
    exact ⟨_, _, hr, false, rfl, (fun h => by cases h), fun _ => ⟨.exit id, hputx _ _ _ hi3, hl4, hk4⟩⟩
   | goto t =>
    obtain ⟨hi3, e1, e2⟩ := hp
    obtain ⟨hr, hl4, hk4⟩ := fin (some (.goto t)) W3 e1 e2
    exact ⟨_, _, hr, false, rfl, (fun h => by cases h), fun _ => ⟨.goto t, hputx _ _ _ hi3, hl4, hk4⟩⟩
   | panic ch => exact hp.elim
   | outgrown => exact hp.elim
  ·rintro e W2 ⟨⟨v, rfl⟩, (⟨hi, hl, hk⟩ | ⟨c, hi, hl, hk⟩)⟩
   ·exact ⟨none, _, by have := run_endLoop (P := P) hl (by rw [hrec]; simp); rw [hrec] at this; exact this, hdone _ (hput _ _ _ hi) ((World.putObj_heap_other (by omega)).trans hk)⟩
   ·exact ⟨some c, _, by have := run_endLoop (P := P) hl (by rw [hrec]; simp); rw [hrec] at this; exact this, hstop c _ (hputx c _ _ hi) ((World.putObj_heap_other (by omega)).trans hk)⟩
theorem wp_range_by {g : Operand} {ps : Array Tmp} {assign body : Code} {Q : Exit → Act → World → Prop} {a : Act} {w : World} (f : Nat → Act → Act)
 {gf : Nat} {lb : Array Value} (hg : a.eval g = .func (.func gf) #[] lb) (eg : ∀ args w, (callFunc gf args).run P w = .ok (.enter gf args) w)
 (N : Nat) (encs : Nat → Array Value) (hps : ∀ k, (encs k).size = ps.size) (St : World → World → Prop)
 (hSt : ∀ (W W' : World) (i : Nat) (o : Obj), St W W' → W.heap[i]? = some o → o.isCells = false → W'.heap[i]? = some o)
 (J : Nat → World → Prop) (Jx : Code → World → Prop)
 (hput : ∀ (k : Nat) (W : World) (o : Obj), J k W → J k (W.putObj (w.heap.size + 1) o)) (hputx : ∀ (c : Code) (W : World) (o : Obj), Jx c W → Jx c (W.putObj (w.heap.size + 1) o))
 (hJ : ∀ k W W', St W W' → J k W → J k W') (hJx : ∀ c W W', St W W' → Jx c W → Jx c W')
 (h0 : ∀ r : Loop, J 0 ((w.alloc (.deferred (some []))).alloc (.loop r)))
 (Inv : World → Prop) (hInv : ∀ k W, J k W → Inv W)
 (hseq : ∀ r : Loop, Goes P gf lb N encs St Inv (w.heap.size + 1) ((w.alloc (.deferred (some []))).alloc (.loop r)))
 (hassign : ∀ (k : Nat) (W : World) (K : Act → World → Prop), K (f k a) W →
  assign.wpIn (Fence.wide.inRound (w.heap.size + 1)) 0 P (Exit.then K (fun _ _ _ => False)) { tmps := (ps.zip (encs k)).foldl (fun t (p, v) => t.setIfInBounds p v) a.tmps, defers := [] } W)
 (hbody : ∀ (k : Nat) (W : World), k < N → J k W → body.wpIn (Fence.wide.inRound (w.heap.size + 1)) 0 P (roundEnd (w.heap.size + 1) w.heap.size k J Jx W) (f k a) W)
 (hdone : ∀ (W : World), J N W → W.heap[w.heap.size]? = some (.deferred (some [])) → Q .normal { a with defers := { target := .collected w.heap.size, args := #[] } :: a.defers } W)
 (hstop : ∀ (c : Code) (W : World), Jx c W → W.heap[w.heap.size]? = some (.deferred (some [])) → c.wpIn Fence.wide 0 P Q { a with defers := { target := .collected w.heap.size, args := #[] } :: a.defers } W) :
 (Code.rangeFunc g ps assign body).wpIn Fence.wide 0 P Q a w :=
 wp_range hg eg N encs hps St hSt J Jx (fun k => f k a) hput hputx hJ hJx h0 Inv hInv hseq hassign hbody hdone hstop
end Go.Proofs.Ytdchnaghmmhkhaa
