/- The walk of the law DequeGoes. -/
import Derived.Test.YtndciilmnnaemaaDequeGo
set_option linter.unusedVariables false
set_option linter.unusedSimpArgs false
namespace Go.Proofs.Ytndciilmnnaemaa
open Go.RowKit Go.Shelf Go.Proofs.YtndciilmnnaemaaW.PrintWords Go.Proofs.YtndciilmnnaemaaW.PrintMore DqI
attribute [local go_sem] Oper.semAt_some max2_int min2_int max_two min_two

theorem cells_C {w : World} {A : Option Addr} {l : List Int} (h : Kd.C (Kd.int .i64) w A l.length l) : Cells w A (l.map enc) := fun h0 => by
  have h0' : 0 < l.length := by simpa using h0
  obtain ⟨ad, rfl, _⟩ := Kd.at_int h 0 (by omega) (by omega)
  refine ⟨ad, rfl, fun j v hv => ?_⟩
  have hj : j < l.length := by
    have := lt_of_get hv
    simpa using this
  obtain ⟨ad', e, hx⟩ := Kd.at_int h j (by omega) (by omega)
  injection e with e; subst e
  rw [Int.toNat_natCast] at hx
  have hrd : rd l j = l[j] := by unfold rd; rw [Int.toNat_natCast, List.getD_eq_getElem?_getD, List.getElem?_eq_getElem hj]; rfl
  rw [hrd] at hx
  rw [hx, ← hv]
  simp [enc, List.getElem?_eq_getElem hj]
/-- A statement that is left normally alone. -/
def onlyNormal (Q : Exit → Act → World → Prop) : Exit → Act → World → Prop
  | .normal, a, w => Q .normal a w
  | _, _, _ => False
theorem wp_only {P : Program} {c : Code} {Q : Exit → Act → World → Prop} {a : Act} {w : World} (h : c.wp P (onlyNormal Q) a w) : c.wp P Q a w :=
  wp_mono h (by intro e a w h; cases e <;> first | exact h | exact False.elim h)

/-- Where the deque is made and played with, ahead of the range. -/
def GoB (w W : World) (n D : Nat) (cs : List Value) (L : List Int) : Prop :=
  w.heap.size + 2 ≤ D ∧ D + 2 ≤ W.heap.size ∧ Is W D D 0 43 cs L ∧ Blk W w.heap.size [.int .u8 n] 5 ∧ Blk W (w.heap.size + 1) [.bool false] 4 ∧ Blk W (D + 1) [.pointer (some ⟨D, 0, none⟩)] 41 ∧
    ¬ set cs D 0 (D + 1) ∧ Below w.heap.size w W
theorem GoB.step {w W W1 : World} {n D : Nat} {cs cs1 : List Value} {L L1 : List Int} (h : GoB w W n D cs L) (hS : Step W W1 D D 0 43 cs cs1) (hI : Is W1 D D 0 43 cs1 L1) : GoB w W1 n D cs1 L1 := by
  obtain ⟨h1, h2, h3, h4, h5, h6, h7, h8⟩ := h
  have hlo : ∀ q, q < D → ¬ set cs D 0 q := fun q hq hs => by have := set_ge h3 q hs; omega
  refine ⟨h1, Nat.le_trans h2 hS.2.2.1.size, hI, h4.chg hS.2.2.1 (hlo _ (by omega)), h5.chg hS.2.2.1 (hlo _ (by omega)), h6.chg hS.2.2.1 h7, fun hs => ?_, h8.trans (hS.2.2.1.below (by omega) fun q hq => by have := set_ge h3 q hq; omega)⟩
  rcases hS.2.2.2 _ hs with h | h
  · exact h7 h
  · omega

theorem GoB.drew {w W : World} {n D : Nat} {cs : List Value} {L : List Int} (h : GoB w W n D cs L) : GoB w W.drew n D cs L :=
  ⟨h.1, h.2.1, h.2.2.1, h.2.2.2.1, h.2.2.2.2.1, h.2.2.2.2.2.1, h.2.2.2.2.2.2.1, h.2.2.2.2.2.2.2.drew⟩

theorem DqI.GJ.putObj {W0 W : World} {D G : Nat} {cs0 : List Value} {m : Nat} (h0 : ∀ q, set cs0 D 0 q → q < W0.heap.size) (h : GJ W0 W D D G cs0 m) (o : Obj) : GJ W0 (W.putObj (W0.heap.size + 1) o) D D G cs0 m := by
  obtain ⟨cs, L, hI, hl, hset, hc, hsz⟩ := h
  have hne : ∀ q, q ≠ W0.heap.size + 1 → (W.putObj (W0.heap.size + 1) o).heap[q]? = W.heap[q]? := fun q hq => World.putObj_heap_other hq
  refine ⟨cs, L, hI.keeps fun q hq => hne q ?_, hl, hset, ⟨hc.os, hc.tape, hc.output, ?_, fun q hq hn => (hne q (by omega)).trans (hc.block q hq hn)⟩, ?_⟩
  · rcases hset q hq with h | h
    · have := h0 q h; omega
    · omega
  · have := hc.size; simpa using this
  · simpa using hsz
theorem DqI.GJ.drewN {W0 W : World} {D G : Nat} {cs0 : List Value} {m : Nat} (h : GJ W0 W D D G cs0 m) (n : Nat) : GJ W0 (W.drewN n) D D G cs0 m := by
  obtain ⟨cs, L, hI, hl, hset, hc, hsz⟩ := h
  exact ⟨cs, L, hI, hl, hset, hc.drewN n, hsz⟩
theorem DqI.GJ.start {W0 : World} {D G : Nat} {cs0 : List Value} {L : List Int} {m : Nat} (hI : Is W0 D D 0 43 cs0 L) (hl : L.length ≤ m) (r : Loop) : GJ W0 ((W0.alloc (.deferred (some []))).alloc (.loop r)) D D G cs0 m :=
  ⟨cs0, L, hI.below (((Below.refl _ _).alloc (Nat.le_refl _) _).alloc (by simp) _), hl, fun q hq => .inl hq, ((Chg.refl _ _).alloc _).alloc _, by simp⟩
/-- A store into the block G. -/
theorem DqI.GJ.setG {W0 W : World} {D G : Nat} {cs0 : List Value} {m : Nat} (hG : ¬ set cs0 D 0 G) (hGl : G < W0.heap.size) (h : GJ W0 W D D G cs0 m) (v : Value) : GJ W0 (W.setCell ⟨G, 0, none⟩ v) D D G cs0 m := by
  obtain ⟨cs, L, hI, hl, hset, hc, hsz⟩ := h
  refine ⟨cs, L, hI.keeps fun q hq => heap_setCell_other _ _ _ _ ?_, hl, hset, hc.set 0 (.inl (.inr rfl)) v, by simpa [World.setCell] using hsz⟩
  rintro rfl
  rcases hset _ hq with h | h
  · exact hG h
  · omega

theorem results_cell_bool {fn : Func} {p : Tmp} {ty : TypeId} (h : fn.results = #[.cell p ty]) (tmps : Array Value) (P : Program) (w : World) (a : Addr) (b : Bool) (hp : tmps.getD p undef = .pointer (some a)) (hc : w.cell? a = some (.bool b)) (hu : P.underlying ty = some .bool) :
    (results fn tmps).run P w = .ok (.bool b) w := by
  have hp' : tmps[p]?.getD undef = .pointer (some a) := by simpa using hp
  have hagg : (isAgg ty).run P w = .ok false w := by
    unfold isAgg
    rw [Sem.run_bind, run_underlying hu w]
    simp
  simp only [results, h]
  simp [hp', asAddr, loadVar, hagg, hc]

set_option maxRecDepth 100000 in
set_option maxHeartbeats 4000000 in
theorem goes_in (w : World) (A : Option Addr) (c : Nat) (l : List Int) (stolen n : Nat) (hr : Hid (Kd.C (Kd.int .i64) w A l.length l)) (hl : l.length ≤ 200) (hc : l.length ≤ c) (hs : stolen ≤ 255) (hn : n ≤ 255) :
    CallsIn Fence.wide 0 Try.prog 10 #[.slice A l.length c, .int .u8 stolen, .int .u8 n] w fun e w' => e = .returned (.bool true) ∧ Below w.heap.size w w' := by
  refine callsIn_of_wp_marks Try.func10 rfl trivial ?_ rfl
  simp only [Try.ntmps10, List.size_toArray, List.length_cons, List.length_nil, Nat.reduceAdd, Nat.reduceSub, Array.replicate_succ, Array.replicate_zero, List.push_toArray, List.append_toArray, List.nil_append, List.cons_append]
  have hF : ∀ f, Fence.wide.fn f = True := fun _ => rfl
  have hD : Fence.wide.depth = none := rfl
  refine wpIn_wide.2 ?_
  go_wp2_with (go_at_call 29; refine (works07 _).mono ?_; rintro e w1 ⟨rfl, hb1⟩)
  have hG0 : ∃ cs, GoB w ((w1.alloc (.cells #[.slice none 0 0, .int .i64 0, .int .i64 0] 43)).alloc (.cells #[.pointer (some ⟨w1.heap.size, 0, none⟩)] 41)) n w1.heap.size cs [] := by
    have hsz := hb1.size
    simp only [World.size_alloc] at hsz
    have hI := is_new w1 w1.heap.size 43 (Nat.le_refl _)
    have e1 : Blk ((w.alloc (.cells #[.int .u8 n] 5)).alloc (.cells #[.bool false] 4)) w.heap.size [.int .u8 n] 5 := (Blk.new w [.int .u8 n] _).alloc _
    have e2 : Blk ((w.alloc (.cells #[.int .u8 n] 5)).alloc (.cells #[.bool false] 4)) (w.heap.size + 1) [.bool false] 4 := blk_new2' w (.cells #[.int .u8 n] 5) [.bool false] _
    refine ⟨_, by omega, by simp, hI.below ((Below.refl _ _).alloc (Nat.le_refl _) _), ((e1.below hb1 (by simp; omega)).alloc _).alloc _, ((e2.below hb1 (by simp)).alloc _).alloc _, blk_new2' w1 _ _ _, ?_, ?_⟩
    · rintro (h | h)
      · omega
      · simp [Value.ownBlock] at h
    · exact ((((Below.refl w.heap.size w).alloc (Nat.le_refl _) _).alloc (by simp) _).trans (hb1.mono (by simp; omega))).alloc (by omega) _ |>.alloc (by simp; omega) _
  generalize ((w1.alloc (.cells #[.slice none 0 0, .int .i64 0, .int .i64 0] 43)).alloc (.cells #[.pointer (some ⟨w1.heap.size, 0, none⟩)] 41)) = w2 at *
  generalize w1.heap.size = D at *
  clear hb1
  go_loopw [8] (fun v8 wr => ∃ k cs, k ≤ l.length ∧ v8 = .int .i64 (k : Nat) ∧ GoB w wr n D cs (l.take k)) (fun v8 _ => l.length - (intOf v8).toNat)
  case atStart =>
    obtain ⟨cs, hG⟩ := hG0
    exact ⟨0, cs, by omega, rfl, hG⟩
  case round =>
    obtain ⟨k, cs, hk, rfl, hG⟩ := hrel
    by_cases hlt : k < l.length
    · have hb := hG.2.2.2.2.2.2.2
      have hp := hG.2.2.2.2.2.1.cell 0
      obtain ⟨ad, rfl, hx⟩ := Kd.at_int (Kd.C_below hr.out hb) k (by omega) (by omega)
      rw [Int.toNat_natCast] at hx
      have hrd : rd l k = l[k] := by unfold rd; rw [Int.toNat_natCast, List.getD_eq_getElem?_getD, List.getElem?_eq_getElem hlt]; rfl
      rw [hrd] at hx
      have hpush := push_calls D 0 _ D wr.drew cs (l.take k) l[k] hG.2.2.1 (by simp; omega) (by have := hG.2.1; simp; omega)
      rw [← List.take_succ_eq_append_getElem hlt] at hpush
      have HP := Lib.hid hpush
      have HG := Lib.hid hG.drew
      clear hpush hG hG0 hb hrd
      generalize l[k] = x at *
      have hlti : (k : Int) < l.length := by omega
      unfold enc at HP
      simp only [List.getElem?_cons_zero] at hp
      go_wp2
      have hp' : wr.drew.cell? ⟨D + 1, 0, none⟩ = some (.pointer (some ⟨D, 0, none⟩)) := hp
      have hx' : wr.drew.cell? (ad.add k) = some (.int .i64 x) := hx
      refine wp_only ?_
      go_region_with (go_at_call 34; refine HP.out.mono ?_; rintro e w3 ⟨rfl, cs', hI, hS⟩)
      all_goals
        simp only [onlyNormal]
        go_wp2
        go_roundw
        case rel => exact ⟨k + 1, cs', by omega, by go_num, HG.out.step hS hI⟩
        case measure => simp [intOf]; omega
    · have hkk : k = l.length := by omega
      subst hkk
      rw [List.take_length] at hG
      clear hG0
      go_wp2
      go_loopw [9] (fun v9 wr => ∃ k cs, k ≤ stolen ∧ v9 = .int .i64 (k : Nat) ∧ GoB w wr n D cs (l.drop k)) (fun v9 _ => stolen - (intOf v9).toNat)
      case atStart => exact ⟨0, cs, by omega, rfl, hG⟩
      case round =>
        clear hG
        obtain ⟨k, cs, hk, rfl, hG⟩ := hrel
        by_cases hlt : k < stolen
        · have hp := hG.2.2.2.2.2.1.cell 0
          simp only [List.getElem?_cons_zero] at hp
          have hst := steal_any D 0 _ D _ cs (l.drop k) hG.2.2.1 (by simp; omega)
          rw [List.drop_drop] at hst
          have HP := Lib.hid hst
          have HG := Lib.hid hG
          clear hst hG
          go_wp2_with (go_at_call 32; refine HP.out.mono ?_; rintro e w3 ⟨v3, rfl, cs', hI, hS⟩)
          go_roundw
          case rel => exact ⟨k + 1, cs', by omega, by go_num, HG.out.step hS hI⟩
          case measure => simp [intOf]; omega
        · have hkk : k = stolen := by omega
          subst hkk
          have hp := hG.2.2.2.2.2.1.cell 0
          simp only [List.getElem?_cons_zero] at hp
          have hcl := cells_C hr.out
          have hfin : ∀ (A' : Option Addr) (m' c' : Nat), m' = (l.drop k).length → Cells w A' ((l.drop k).map enc) → ∃ A'' c'', Blk (wr.alloc (.cells #[.slice A' m' c'] 27)) wr.heap.size [.slice A'' (l.drop k).length c''] 27 ∧
              GoB w (wr.alloc (.cells #[.slice A' m' c'] 27)) n D cs (l.drop k) ∧ wr.heap.size + 1 = (wr.alloc (.cells #[.slice A' m' c'] 27)).heap.size ∧ Cells w A'' ((l.drop k).map enc) ∧ ∀ q, set cs D 0 q → q < wr.heap.size := by
            rintro A' m' c' rfl hC
            obtain ⟨h1, h2, h3, h4, h5, h6, h7, h8⟩ := hG
            refine ⟨A', c', Blk.new _ _ _, ⟨h1, by simp; omega, h3.below ((Below.refl _ _).alloc (Nat.le_refl _) _), h4.alloc _, h5.alloc _, h6.alloc _, h7, h8.alloc (by omega) _⟩, by simp, hC, h3.lt_ring⟩
          have HFin := Lib.hid hfin; clear hfin
          have HCl := Lib.hid hcl; clear hcl
          have HG := Lib.hid hG; clear hG
          go_upto_region 12 with (fail)
          go_cut [10] from 45 to 51 (fun v10 wc => v10 = .pointer (some ⟨wr.heap.size, 0, none⟩) ∧ ∃ A' c', Blk wc wr.heap.size [.slice A' (l.drop k).length c'] 27 ∧ GoB w wc n D cs (l.drop k) ∧ wr.heap.size + 1 = wc.heap.size ∧ Cells w A' ((l.drop k).map enc) ∧ ∀ q, set cs D 0 q → q < wr.heap.size)
          case first =>
            go_wp2
            · go_meet
              case rel =>
                refine ⟨rfl, HFin.out _ _ _ (by simp) ?_⟩
                intro h0
                obtain ⟨ad, rfl, _⟩ := HCl.out (by simp at h0 ⊢; omega)
                have := HCl.out.drop k
                rw [← List.map_drop] at this
                exact this h0
            · subst h
              go_meet
              case rel => exact ⟨rfl, HFin.out _ _ _ (by simp; omega) (fun h0 => by simp at h0; omega)⟩
            · go_meet
              case rel => exact ⟨rfl, HFin.out _ _ _ (by simp; omega) (fun h0 => by simp at h0; omega)⟩
          case rest =>
            obtain ⟨rfl, A', c', hbl, hG, hsz, hcw, hset⟩ := hcut
            clear HG HFin HCl hp
            have hp := hG.2.2.2.2.2.1.cell 0
            simp only [List.getElem?_cons_zero] at hp
            have hall := all_calls D 0 _ D wc cs (l.drop k) hG.2.2.1 (by simp; omega)
            have HA := Lib.hid hall; clear hall
            go_wp2_with (go_at_call 41; refine HA.out.mono ?_; rintro e w4 ⟨g, A4, c4, rfl, hg4, ho4, hc4, hgs, hgo, hb4⟩; have hne := fun (w : World) => run_eql_func_nil (P := Try.prog) w 62 (.func 86) #[] #[.pointer (some ⟨g, 0, none⟩)] Try.underlying62)
            have hI4 := (hG.2.2.1.below hb4).below ((Below.refl w4.heap.size w4).alloc (Nat.le_refl _) (.cells #[.int .i64 0] 3))
            have bW := (Below.refl w4.heap.size w4).alloc (Nat.le_refl _) (.cells #[.int .i64 0] 3)
            have hwc4 := hb4.size
            have fN := (hG.2.2.2.1.below hb4 hG.2.2.2.1.lt).alloc (.cells #[.int .i64 0] 3)
            have fR := (hG.2.2.2.2.1.below hb4 hG.2.2.2.2.1.lt).alloc (.cells #[.int .i64 0] 3)
            have fP := (hG.2.2.2.2.2.1.below hb4 hG.2.2.2.2.2.1.lt).alloc (.cells #[.int .i64 0] 3)
            have fW := (hbl.below hb4 hbl.lt).alloc (.cells #[.int .i64 0] 3)
            have fg := hg4.alloc (.cells #[.int .i64 0] 3)
            have fG := Blk.new w4 [.int .i64 0] 3
            have fo := ho4.alloc (.cells #[.int .i64 0] 3)
            have hBB : Below w.heap.size w (w4.alloc (.cells #[.int .i64 0] 3)) := (hG.2.2.2.2.2.2.2.trans (hb4.mono hG.2.2.2.2.2.2.2.size)).alloc (by have := hG.2.2.2.2.2.2.2.size; omega) _
            have hDw := hG.1
            have hD7 := hG.2.2.2.2.2.2.1
            have hD2 := hG.2.1
            have hG0 : ∀ q, set cs D 0 q → D ≤ q := set_ge hG.2.2.1
            have hgl := hg4.lt
            clear hG hb4 hg4 hbl ho4 hp hne HA bW
            have hGs : w4.heap.size + 1 = (w4.alloc (.cells #[.int .i64 0] 3)).heap.size := by simp
            generalize hW0 : w4.alloc (.cells #[.int .i64 0] 3) = W0 at *
            have HW0 := Lib.hid hW0; clear hW0
            generalize hLL : l.drop k = L at *
            have hLl : L.length ≤ 200 := by rw [← hLL]; simp; omega
            clear hLL
            generalize w4.heap.size = G at *
            generalize wc.heap.size = C at *
            generalize wr.heap.size = R at *
            refine (wpIn_wide (n := 0)).1 ?_
            have hns : ∀ q, q < D ∨ R ≤ q ∨ q = D + 1 → ¬ set cs D 0 q := by
              intro q hq hs
              have h1 := hset q hs
              have h2 := hG0 q hs
              rcases hq with h | h | h
              · omega
              · omega
              · subst h; exact hD7 hs
            have hGS : G < W0.heap.size := by omega
            have hGn : ¬ set cs D 0 G := hns G (.inr (.inl (by omega)))
            have hlt0 : ∀ q, set cs D 0 q → q < W0.heap.size := fun q hq => by have := hset q hq; omega
            have hen : ∀ (args : Array Value) (w : World), (callFunc 86 args).run Try.prog w = .ok (.enter 86 args) w := enters_of Try.func86 (by kernel_rfl) rfl
            -- what of W0 is still so in W
            have hold : ∀ W, GJ W0 W D D G cs 200 → Blk W w.heap.size [.int .u8 n] 5 ∧ Blk W (w.heap.size + 1) [.bool false] 4 ∧ Blk W (D + 1) [.pointer (some ⟨D, 0, none⟩)] 41 ∧ Blk W R [.slice A' L.length c'] 27 ∧
                Blk W g [.slice A4 L.length c4] 27 ∧ Cells W A4 (L.map enc) ∧ Cells W A' (L.map enc) ∧ Below w.heap.size w W := by
              intro W hJ
              have hc := hJ.chg
              have hn : ∀ q, q < D ∨ R ≤ q ∨ q = D + 1 → q ≠ G → ¬ (set cs D 0 q ∨ q = G) := fun q h1 h2 h3 => by
                rcases h3 with h | h
                · exact hns q h1 h
                · exact h2 h
              have hbw : Below w.heap.size w W := hBB.trans (hc.below (by have := hBB.size; omega) fun q hq => by
                rcases hq with h | h
                · have := hG0 q h; omega
                · omega)
              refine ⟨fN.chg hc (hn _ (.inl (by omega)) (by omega)), fR.chg hc (hn _ (.inl (by omega)) (by omega)), fP.chg hc (hn _ (.inr (.inr rfl)) (by omega)), fW.chg hc (hn _ (.inr (.inl (by omega))) (by omega)), fg.chg hc (hn _ (.inr (.inl (by omega))) (by omega)), ?_, hcw.below hbw, hbw⟩
              refine Cells.of_own (base := C) (e := 3) (n := L.length) (c := c4) (own_move fo fun q hq => ?_)
              have h1 := hgo q hq
              have h2 := own_base fo q hq
              exact hc.block q (by omega) (hn q (.inr (.inl (by omega))) (by omega))
            refine wp_range_by (fun k a => { tmps := (((a.tmps.setIfInBounds 57 (.int .i64 k)).setIfInBounds 58 (enc (L.getD k 0))).setIfInBounds 13 (.int .i64 k)).setIfInBounds 14 (enc (L.getD k 0)), defers := [] })
              (gf := 86) (lb := #[.pointer (some ⟨g, 0, none⟩)]) rfl hen L.length (fun k => #[.int .i64 k, enc (L.getD k 0)]) (fun _ => rfl) (fun W W' => ∃ n, W' = W.drewN n)
              (fun W W' i ob hs h _ => by obtain ⟨n, rfl⟩ := hs; exact h)
              (fun k W => k ≤ n ∧ GJ W0 W D D G cs 200 ∧ Blk W G [.int .i64 k] 3) (fun c W => c = .exit 4 ∧ GJ W0 W D D G cs 200 ∧ Blk W G [.int .i64 (n + 1 : Nat)] 3 ∧ n + 1 ≤ L.length)
              ?put ?putx ?draw ?drawx ?start
              (fun W => W.cell? ⟨g, 0, none⟩ = some (.slice A4 L.length c4) ∧ (0 < L.length → ∃ ad, A4 = some ad ∧ ∀ k, k < L.length → W.cell? (ad.add k) = some (enc (L.getD k 0)))) ?inv
              (fun r => all1_goes _ g A4 c4 L (by omega) _) ?assign ?body ?done ?stop
            case put =>
              rintro k W ob ⟨h1, h2, h3⟩
              exact ⟨h1, h2.putObj hlt0 ob, (World.putObj_heap_other (by omega)).trans h3⟩
            case putx =>
              rintro c W ob ⟨h1, h2, h3, h4⟩
              exact ⟨h1, h2.putObj hlt0 ob, (World.putObj_heap_other (by omega)).trans h3, h4⟩
            case draw =>
              rintro k W W' ⟨n, rfl⟩ ⟨h1, h2, h3⟩
              exact ⟨h1, h2.drewN n, h3⟩
            case drawx =>
              rintro c W W' ⟨n, rfl⟩ ⟨h1, h2, h3, h4⟩
              exact ⟨h1, h2.drewN n, h3, h4⟩
            case start =>
              intro r
              exact ⟨by omega, GJ.start hI4 hLl r, (fG.alloc _).alloc _⟩
            case inv =>
              rintro k W ⟨h1, h2, h3⟩
              obtain ⟨_, _, _, _, o5, o6, _, _⟩ := hold W h2
              refine ⟨o5.cell 0, fun h0 => ?_⟩
              obtain ⟨ad, e, hc⟩ := o6 (by simpa using h0)
              refine ⟨ad, e, fun k hk => hc k _ ?_⟩
              simp [List.getD_eq_getElem?_getD, List.getElem?_eq_getElem hk]
            case assign =>
              intro k W K hK
              gi_wp2
              simpa using hK
            case body =>
              rintro k W hk ⟨hkn, hJ, hB⟩
              obtain ⟨o1, o2, o3, o4, o5, o6, o7, o8⟩ := hold W hJ
              have hx := o7
              obtain ⟨ad, rfl, hcx⟩ := o7 (by simp; omega)
              have hxk := hcx k (enc (L.getD k 0)) (by simp [List.getD_eq_getElem?_getD, List.getElem?_eq_getElem hk])
              have q1 := o1.cell 0
              have q3 := o3.cell 0
              have q4 := o4.cell 0
              have qB := hB.cell 0
              simp only [List.getElem?_cons_zero] at q1 q3 q4 qB
              have HJ := Lib.hid hJ
              have HB := Lib.hid hB
              have HOL := Lib.hid hold
              clear o1 o2 o3 o4 o5 o6 o8 hcx hx hJ
              generalize L.getD k 0 = x at *
              have hki : (k : Int) < L.length := by omega
              have hlb : decide (L.length ≤ k) = false := decide_eq_false (by omega)
              have hnb : decide (n < k) = false := decide_eq_false (by omega)
              unfold enc at *
              simp only [World.size_alloc]
              gi_wp2_with (fail)
              refine (callsIn_round _ (callsIn_wide.2 (pop_gj hlt0 hGn hGS HJ.out (by omega)))).mono ?_
              rintro e W1 ⟨v1, rfl, hJ1, hk1⟩
              replace q3 := (HOL.out W1 (hJ1.mono (by omega))).2.2.1.cell 0
              simp only [List.getElem?_cons_zero] at q3
              have HP := fun y => Lib.hid (push_gj hlt0 hGn hGS hJ1 (by omega) (by omega) y)
              clear hJ1 q1 q4 qB hxk
              unfold enc at HP
              gi_wp2_with (fail)
              refine (callsIn_round _ (callsIn_wide.2 (HP _).out)).mono ?_
              rintro e W2 ⟨rfl, hJ2, hk2⟩
              replace q3 := (HOL.out W2 (hJ2.mono (by omega))).2.2.1.cell 0
              simp only [List.getElem?_cons_zero] at q3
              have HS := Lib.hid (steal_gj hlt0 hGn hGS hJ2 (by omega))
              clear hJ2 HP
              gi_wp2_with (fail)
              refine (callsIn_round _ (callsIn_wide.2 HS.out)).mono ?_
              rintro e W3 ⟨v3, rfl, hJ3, hk3⟩
              have hkp := (hk1.trans hk2).trans hk3
              have hB3 : Blk W3 G [.int .i64 k] 3 := hkp.1.trans HB.out
              have q1 := (HOL.out W3 (hJ3.mono (by omega))).1.cell 0
              have qB := hB3.cell 0
              have fB := hB3.free 0
              simp only [List.getElem?_cons_zero] at q1 qB
              have hset4 : ∀ v, GJ W0 (W3.setCell ⟨G, 0, none⟩ v) D D G cs 200 := fun v => (hJ3.setG hGn hGS v).mono (by omega)
              have hkeep : ∀ v, (W3.setCell ⟨G, 0, none⟩ v).heap[W0.heap.size + 1]? = W.heap[W0.heap.size + 1]? ∧ (W3.setCell ⟨G, 0, none⟩ v).heap[W0.heap.size]? = W.heap[W0.heap.size]? := fun v =>
                ⟨(heap_setCell_other _ _ _ _ (by simp; omega)).trans hkp.2.2, (heap_setCell_other _ _ _ _ (by simp; omega)).trans hkp.2.1⟩
              have hBset : ∀ v, Blk (W3.setCell ⟨G, 0, none⟩ v) G [v] 3 := fun v => hB3.set 0 v
              have Hset4 := Lib.hid hset4
              have Hkeep := Lib.hid hkeep
              have HBset := Lib.hid hBset
              clear hset4 hkeep hBset hJ3 hB3 hkp hk1 hk2 hk3 q3 HS HOL hold
              by_cases hkn2 : k = n
              · subst hkn2
                gi_wp2
                refine ⟨⟨rfl, Hset4.out _, ?_, by omega⟩, (Hkeep.out _).1, (Hkeep.out _).2⟩
                exact HBset.out _
              · have hkb : ((k : Int) == (n : Int)) = false := by simp; omega
                gi_wp2
                refine ⟨⟨by omega, Hset4.out _, ?_⟩, (Hkeep.out _).1, (Hkeep.out _).2⟩
                exact HBset.out _
            case done =>
              rintro W ⟨hLn, hJ, hB⟩ hMark
              obtain ⟨o1, o2, o3, o4, o5, o6, o7, o8⟩ := hold W hJ
              have q1 := o1.cell 0
              have q4 := o4.cell 0
              have qB := hB.cell 0
              have q2 := o2.cell 0
              have f2 := o2.free 0
              simp only [List.getElem?_cons_zero] at q1 q2 q4 qB
              have hend : ∀ v, (((W.setCell ⟨w.heap.size + 1, 0, none⟩ v).putObj W0.heap.size (.deferred none)).cell? ⟨w.heap.size + 1, 0, none⟩ = some v ∧ Below w.heap.size w ((W.setCell ⟨w.heap.size + 1, 0, none⟩ v).putObj W0.heap.size (.deferred none)) ∧ (W.setCell ⟨w.heap.size + 1, 0, none⟩ v).heap[W0.heap.size]? = some (.deferred (some []))) := by
                intro v
                have hne : ∀ q, q ≠ W0.heap.size → ((W.setCell ⟨w.heap.size + 1, 0, none⟩ v).putObj W0.heap.size (.deferred none)).heap[q]? = (W.setCell ⟨w.heap.size + 1, 0, none⟩ v).heap[q]? := fun q hq => World.putObj_heap_other hq
                have hb1 : Below w.heap.size w (W.setCell ⟨w.heap.size + 1, 0, none⟩ v) := bset (by omega) o8
                refine ⟨?_, hb1.trans ⟨rfl, rfl, rfl, by simp, fun i hi => hne i (by omega)⟩, (heap_setCell_other _ _ _ _ (by simp; omega)).trans hMark⟩
                exact (World.cell?_of_block (w := W.setCell ⟨w.heap.size + 1, 0, none⟩ v) (a := ⟨w.heap.size + 1, 0, none⟩) (hne _ (by simp; omega))).trans ((o2.set 0 v).cell 0)
              have HE := Lib.hid hend
              clear hend o1 o2 o3 o4 o5 o6 o7 o8 hold HW0
              have hle : (L.length : Int) ≤ n + 1 := by omega
              go_wp2
              all_goals
                refine leaves_mark (v := .bool true) ?_ ?_ ⟨rfl, ?_⟩
                · exact (HE.out _).2.2
                · refine results_cell_bool rfl _ _ _ ⟨w.heap.size + 1, 0, none⟩ true rfl ?_ Try.underlying4
                  refine ((HE.out _).1).trans ?_
                  first
                    | rfl
                    | (have he : (((n : Int) + 1) == (L.length : Int)) = true := (by simp only [beq_iff_eq]; omega)
                       rw [he])
                · exact (HE.out _).2.1
            case stop =>
              rintro cc W ⟨rfl, hJ, hB, hnL⟩ hMark
              obtain ⟨o1, o2, o3, o4, o5, o6, o7, o8⟩ := hold W hJ
              have q1 := o1.cell 0
              have q4 := o4.cell 0
              have qB := hB.cell 0
              have q2 := o2.cell 0
              have f2 := o2.free 0
              simp only [List.getElem?_cons_zero] at q1 q2 q4 qB
              have hend : ∀ v, (((W.setCell ⟨w.heap.size + 1, 0, none⟩ v).putObj W0.heap.size (.deferred none)).cell? ⟨w.heap.size + 1, 0, none⟩ = some v ∧ Below w.heap.size w ((W.setCell ⟨w.heap.size + 1, 0, none⟩ v).putObj W0.heap.size (.deferred none)) ∧ (W.setCell ⟨w.heap.size + 1, 0, none⟩ v).heap[W0.heap.size]? = some (.deferred (some []))) := by
                intro v
                have hne : ∀ q, q ≠ W0.heap.size → ((W.setCell ⟨w.heap.size + 1, 0, none⟩ v).putObj W0.heap.size (.deferred none)).heap[q]? = (W.setCell ⟨w.heap.size + 1, 0, none⟩ v).heap[q]? := fun q hq => World.putObj_heap_other hq
                have hb1 : Below w.heap.size w (W.setCell ⟨w.heap.size + 1, 0, none⟩ v) := bset (by omega) o8
                refine ⟨?_, hb1.trans ⟨rfl, rfl, rfl, by simp, fun i hi => hne i (by omega)⟩, (heap_setCell_other _ _ _ _ (by simp; omega)).trans hMark⟩
                exact (World.cell?_of_block (w := W.setCell ⟨w.heap.size + 1, 0, none⟩ v) (a := ⟨w.heap.size + 1, 0, none⟩) (hne _ (by simp; omega))).trans ((o2.set 0 v).cell 0)
              have HE := Lib.hid hend
              clear hend o1 o2 o3 o4 o5 o6 o7 o8 hold HW0
              have hle : (n : Int) + 1 ≤ L.length := by omega
              gi_wp2
              go_wp2
              all_goals
                refine leaves_mark (v := .bool true) ?_ ?_ ⟨rfl, ?_⟩
                · exact (HE.out _).2.2
                · refine results_cell_bool rfl _ _ _ ⟨w.heap.size + 1, 0, none⟩ true rfl ?_ Try.underlying4
                  refine ((HE.out _).1).trans ?_
                  first
                    | rfl
                    | (have he : (((n : Int) + 1) == (L.length : Int)) = true := (by simp only [beq_iff_eq]; omega)
                       rw [he])
                · exact (HE.out _).2.1

theorem walk_DequeGoes (w : World) (A : Option Addr) (c : Nat) (l : List Int) (hr : Kd.C (Kd.int .i64) w A l.length l) (hc : l.length ≤ c) (_hb : ∀ x ∈ l, (Lit.int .i64 x).wf = true) (_hs : l.length * 8 ≤ 140737488351232) (stolen : Int) (hw1 : (Lit.int .u8 stolen).wf = true) (n : Int) (hw2 : (Lit.int .u8 n).wf = true) :
    Calls Try.prog 10 #[.slice A l.length c, .int .u8 stolen, .int .u8 n] w fun e w' => e = .returned (.bool true) ∧ Below w.heap.size w w' := by
  clear _hb _hs
  have h2 : IntKind.u8.min = 0 := rfl
  have h3 : IntKind.u8.max = 255 := rfl
  simp only [Lit.wf, decide_eq_true_eq, Bool.and_eq_true] at hw1 hw2
  rw [h2, h3] at hw1 hw2
  by_cases hl : l.length ≤ 200
  · obtain ⟨s, rfl⟩ := Int.eq_ofNat_of_zero_le hw1.1
    obtain ⟨m, rfl⟩ := Int.eq_ofNat_of_zero_le hw2.1
    exact callsIn_wide.1 (goes_in w A c l s m (Lib.hid hr) hl hc (by omega) (by omega))
  · have hgt : ((200 : Int) < l.length) := by omega
    clear hr
    go_enter Try.func10, Try.ntmps10
    have hb0 := ((Below.refl w.heap.size w).alloc (Nat.le_refl _) (.cells #[.int .u8 n] 5)).alloc (by simp) (.cells #[.bool false] 4)
    have hB : Blk ((w.alloc (.cells #[.int .u8 n] 5)).alloc (.cells #[.bool false] 4)) (w.heap.size + 1) [.bool false] 4 := blk_new2' w (.cells #[.int .u8 n] 5) [.bool false] _
    go_wp2_with fail
    refine (works07 _).mono ?_
    rintro e w2 ⟨rfl, hb2⟩
    have hb := hb0.trans (hb2.mono (by simp; omega))
    have hB2 := hB.below hb2 (by simp)
    have q2 := hB2.cell 0
    have f2 := hB2.free 0
    simp only [List.getElem?_cons_zero] at q2
    go_wp2
    refine bodyPost_ret (results_cell_bool rfl _ _ _ ⟨w.heap.size + 1, 0, none⟩ true rfl ?_ Try.underlying4) rfl ⟨rfl, bset (by omega) hb⟩
    exact (hB2.set 0 _).cell 0
end Go.Proofs.Ytndciilmnnaemaa
