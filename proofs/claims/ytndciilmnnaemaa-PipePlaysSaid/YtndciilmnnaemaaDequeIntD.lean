/- The contracts of deque, at rows of int: Push, Pop, Steal. -/
import Derived.Test.YtndciilmnnaemaaDequeIntC
set_option linter.unusedVariables false
set_option linter.unusedSimpArgs false
namespace Go.Proofs.Ytndciilmnnaemaa.DqI
open Go.RowKit Go.Shelf Go.Proofs.YtndciilmnnaemaaW.PrintWords

theorem Step.trans {w w1 w2 : World} {base b o t : Nat} {cs cs1 cs2 : List Value} (h : Step w w1 base b o t cs cs1) (k : Step w1 w2 base b o t cs1 cs2) : Step w w2 base b o t cs cs2 :=
  ⟨k.1.trans h.1, fun j a b c => (k.2.1 j a b c).trans (h.2.1 j a b c), h.2.2.1.then k.2.2.1 h.2.2.2, fun q hq => by
    rcases k.2.2.2 q hq with h1 | h1
    · exact h.2.2.2 q h1
    · exact .inr (Nat.le_trans h.2.2.1.size h1)⟩
theorem Step.drewN {w w1 : World} {base b o t : Nat} {cs cs1 : List Value} (h : Step w w1 base b o t cs cs1) (n : Nat) : Step w (w1.drewN n) base b o t cs cs1 := ⟨h.1, h.2.1, h.2.2.1.drewN n, h.2.2.2⟩
theorem Raw.drewN {w : World} {base b o t : Nat} {cs : List Value} {l : List Int} {rv : Value} {top : Nat} {ring : List Int} (h : Raw w base b o t cs l rv top ring) (n : Nat) : Raw (w.drewN n) base b o t cs l rv top ring := h
theorem lt_of_get {α : Type} {l : List α} {i : Nat} {v : α} (h : l[i]? = some v) : i < l.length := by
  rcases Nat.lt_or_ge i l.length with h' | h'
  · exact h'
  · rw [List.getElem?_eq_none h'] at h; cases h

/-- A store into the ring's place i, and the new number of things. -/
theorem put_step {w : World} {base b o t g i : Nat} {cs : List Value} {L L' : List Int} {top : Nat} {ring : List Int} (x : Int) (h : Raw w base b o t cs L (.slice (some ⟨g, 0, none⟩) ring.length ring.length) top ring) (h0 : 0 < ring.length)
    (hr : RingOk (ring.set i x) top L') :
    Raw ((w.setCell ⟨g, i, none⟩ (enc x)).setCell ⟨b, o + 2, none⟩ (.int .i64 L'.length)) base b o t (cs.set (o + 2) (.int .i64 L'.length)) L' (.slice (some ⟨g, 0, none⟩) ring.length ring.length) top (ring.set i x) ∧
      Step w ((w.setCell ⟨g, i, none⟩ (enc x)).setCell ⟨b, o + 2, none⟩ (.int .i64 L'.length)) base b o t cs (cs.set (o + 2) (.int .i64 L'.length)) := by
  obtain ⟨hb, hbb, c0, c1, c2, _, hm, hring⟩ := h
  rcases hring with ⟨_, h⟩ | ⟨g', he, h1, h2, hg⟩
  · rw [h] at h0; simp at h0
  · injection he with he; injection he with he; injection he with he; subst he
    have hB := (hb.other (a := ⟨g, i, none⟩) (Ne.symm h2) (enc x)).set (o + 2) (.int .i64 L'.length)
    have hG := (hg.set i (enc x)).other (a := ⟨b, o + 2, none⟩) h2 (.int .i64 L'.length)
    rw [← List.map_set] at hG
    refine ⟨⟨hB, hbb, ?_, ?_, ?_, hr, by simpa using hm, .inr ⟨g, by simp, h1, h2, hG⟩⟩, by simp, ?_, ?_, ?_⟩
    · rw [List.getElem?_set_ne (by omega)]; exact c0
    · rw [List.getElem?_set_ne (by omega)]; exact c1
    · rw [List.getElem?_set_self (lt_of_get c2)]
    · intro j _ _ hj
      rw [List.getElem?_set_ne (by omega)]
    · refine ((Chg.refl _ w).set _ (.inl (.inr ?_)) _).set _ (.inl (.inl rfl)) _
      rw [List.getD_eq_getElem?_getD, c0]; rfl
    · rintro k (rfl | hk)
      · exact .inl (.inl rfl)
      · rw [List.getD_eq_getElem?_getD, List.getElem?_set_ne (by omega), ← List.getD_eq_getElem?_getD] at hk
        exact .inl (.inr hk)

set_option maxRecDepth 100000 in
set_option maxHeartbeats 1000000 in
theorem push_calls (b o t base : Nat) (w : World) (cs : List Value) (L : List Int) (x : Int) (h : Is w base b o t cs L) (hL : L.length ≤ 1000000000) (hbase : base ≤ w.heap.size) :
    Calls Try.prog 34 #[.pointer (some ⟨b, o, none⟩), enc x] w fun e w' => e = .returned (.tuple #[]) ∧ ∃ cs', Is w' base b o t cs' (L ++ [x]) ∧ Step w w' base b o t cs cs' := by
  have HI := Lib.hid h; clear h
  unfold enc
  go_enter Try.func34, Try.ntmps34
  go_wp2_with fail
  obtain ⟨rv, top, ring, hraw⟩ := HI.out.raw
  refine (grow_calls b o t base w cs L rv top ring hraw hL hbase).mono ?_
  clear hraw rv top ring
  rintro e w1 ⟨rfl, cs1, rv, top, ring, hR, hlt, hS⟩
  have HR := Lib.hid hR
  have HS := Lib.hid hS
  obtain ⟨hb, hbb, c0, c1, c2, hr, hm, hring⟩ := hR
  have hm0 : 0 < ring.length := by omega
  have htop := hr.top_lt hm0
  rcases hring with ⟨_, h⟩ | ⟨g, rfl, hgb, hne, hbg⟩
  · rw [h] at hm0; simp at hm0
  · have q0 := hb.cell o
    have q1 := hb.cell (o + 1)
    have q2 := hb.cell (o + 2)
    have f2 := hb.free (o + 2)
    rw [c0] at q0
    rw [c1] at q1
    rw [c2] at q2
    have hpush := Lib.hid (ring_push hr hlt x)
    have him : (top + L.length) % ring.length < ring.length := ring_lt hm0
    have hi : Hid ((top + (L.length : Int).toNat) % ring.length = (top + L.length) % ring.length) := by rw [Int.toNat_natCast]; rfl
    generalize (top + L.length) % ring.length = i at *
    have him' : (i : Int) < (ring.length : Int) := by omega
    have hx := hbg.cell i
    have hf := hbg.free i
    rw [List.getElem?_map, List.getElem?_eq_getElem him, Option.map_some] at hx
    have Hm0 := Lib.hid hm0
    unfold enc at hx
    generalize ring[i] = old at hx
    clear hr hS c0 c1 c2 hb hbg
    go_wp2_with fail
    go_region_with (go_at_call 80; refine (at_calls b o _ _ ring.length ring.length top L.length i (by exact q0) (by exact q1) htop hm (by omega) (by omega) hi).mono ?_; rintro e w' ⟨rfl, q, rfl⟩)
    all_goals
      go_wp2
      go_end0
      have hp := put_step (i := i) x HR.out Hm0.out hpush.out
      simp only [List.length_append, List.length_cons, List.length_nil] at hp
      exact ⟨rfl, _, (hp.1.is).drewN _, HS.out.trans (hp.2.drewN _)⟩

set_option maxRecDepth 100000 in
set_option maxHeartbeats 1000000 in
theorem take_eq (b o t base g i n : Nat) (w : World) (cs : List Value) (L : List Int) (top : Nat) (ring : List Int) (k : Int) (x : Int) (h : Raw w base b o t cs L (.slice (some ⟨g, 0, none⟩) ring.length ring.length) top ring) (hm0 : 0 < ring.length)
    (hk : 0 ≤ k) (hk2 : k ≤ 4294967296) (hi : Hid ((top + k.toNat) % ring.length = i)) (hil : i < ring.length) (hx : ring[i]? = some x) (hl : L.length = n + 1) :
    Calls Try.prog 79 #[.pointer (some ⟨b, o, none⟩), .int .i64 k] w fun e w' => e = .returned (enc x) ∧ ∃ q, w' = ((w.setCell ⟨g, i, none⟩ (Value.int .i64 0)).setCell ⟨b, o + 2, none⟩ (.int .i64 n)).drewN q := by
  obtain ⟨hb, hbb, c0, c1, c2, hr, hm, hring⟩ := h
  have htop := hr.top_lt hm0
  rcases hring with ⟨_, h⟩ | ⟨g', he, hgb, hne, hbg⟩
  · rw [h] at hm0; simp at hm0
  · injection he with he; injection he with he; injection he with he; subst he
    have q0 := hb.cell o
    have q1 := hb.cell (o + 1)
    have q2 := hb.cell (o + 2)
    have f2 := hb.free (o + 2)
    rw [c0] at q0
    rw [c1] at q1
    rw [c2, hl] at q2
    have him' : (i : Int) < (ring.length : Int) := by omega
    have hc := hbg.cell i
    have hf := hbg.free i
    rw [List.getElem?_map, hx, Option.map_some] at hc
    have hl2 : (n : Int) ≤ 4294967296 := by have := hr.1; omega
    clear hr c0 c1 c2 hb hbg hx hl
    unfold enc at hc ⊢
    go_enter Try.func79, Try.ntmps79
    go_wp2_with fail
    refine (at_calls b o w _ ring.length ring.length top k i q0 q1 htop hm hk hk2 hi).mono ?_
    rintro e w' ⟨rfl, q, rfl⟩
    go_wp2
    go_ret
    exact ⟨rfl, q, rfl⟩
theorem take_raw (b o t base g i : Nat) (w : World) (cs : List Value) (L L' : List Int) (top : Nat) (ring : List Int) (k : Int) (x : Int) (h : Raw w base b o t cs L (.slice (some ⟨g, 0, none⟩) ring.length ring.length) top ring) (hm0 : 0 < ring.length)
    (hk : 0 ≤ k) (hk2 : k ≤ 4294967296) (hi : Hid ((top + k.toNat) % ring.length = i)) (hil : i < ring.length) (hx : ring[i]? = some x) (hr' : RingOk (ring.set i 0) top L') (hl : L.length = L'.length + 1) :
    Calls Try.prog 79 #[.pointer (some ⟨b, o, none⟩), .int .i64 k] w fun e w' => e = .returned (enc x) ∧ ∃ cs', Is w' base b o t cs' L' ∧ Step w w' base b o t cs cs' :=
  (take_eq b o t base g i L'.length w cs L top ring k x h hm0 hk hk2 hi hil hx hl).mono fun e w' ⟨h1, q, h2⟩ => by
    have hp := put_step (i := i) 0 h hm0 hr'
    subst h2
    exact ⟨h1, _, hp.1.is.drewN q, hp.2.drewN q⟩

set_option maxHeartbeats 400000 in
theorem pop_empty (b o t base : Nat) (w : World) (cs : List Value) (h : Is w base b o t cs ([] : List Int)) :
    Calls Try.prog 30 #[.pointer (some ⟨b, o, none⟩)] w fun e w' => e = .returned (.tuple #[Value.int .i64 0, .bool false]) ∧ w = w' := by
  have hlen := len_calls b o t w base cs [] h
  have HL := Lib.hid hlen; clear hlen
  go_enter Try.func30, Try.ntmps30
  go_wp2_with fail
  refine HL.out.mono ?_
  rintro e w' ⟨rfl, rfl⟩
  go_wp2
  go_ret2
  exact ⟨rfl, rfl⟩
set_option maxHeartbeats 400000 in
theorem steal_empty (b o t base : Nat) (w : World) (cs : List Value) (h : Is w base b o t cs ([] : List Int)) :
    Calls Try.prog 32 #[.pointer (some ⟨b, o, none⟩)] w fun e w' => e = .returned (.tuple #[Value.int .i64 0, .bool false]) ∧ w = w' := by
  have hlen := len_calls b o t w base cs [] h
  have HL := Lib.hid hlen; clear hlen
  go_enter Try.func32, Try.ntmps32
  go_wp2_with fail
  refine HL.out.mono ?_
  rintro e w' ⟨rfl, rfl⟩
  go_wp2
  go_ret2
  exact ⟨rfl, rfl⟩
theorem raw_ring {w : World} {base b o t : Nat} {cs : List Value} {L : List Int} {rv : Value} {top : Nat} {ring : List Int} (h : Raw w base b o t cs L rv top ring) (h0 : 0 < ring.length) : ∃ g, rv = .slice (some ⟨g, 0, none⟩) ring.length ring.length := by
  obtain ⟨_, _, _, _, _, _, _, h | ⟨g, h, _⟩⟩ := h
  · rw [h.2] at h0; simp at h0
  · exact ⟨g, h⟩

set_option maxHeartbeats 1000000 in
theorem pop_calls (b o t base : Nat) (w : World) (cs : List Value) (L : List Int) (x : Int) (h : Is w base b o t cs (L ++ [x])) (hL : L.length ≤ 1000000000) :
    Calls Try.prog 30 #[.pointer (some ⟨b, o, none⟩)] w fun e w' => e = .returned (.tuple #[enc x, .bool true]) ∧ ∃ cs', Is w' base b o t cs' L ∧ Step w w' base b o t cs cs' := by
  have hlen := len_calls b o t w base cs _ h
  have HL := Lib.hid hlen
  obtain ⟨rv, top, ring, hraw⟩ := h.raw
  have hr := hraw.2.2.2.2.2.1
  have hm0 := hr.pos (by simp)
  obtain ⟨g, rfl⟩ := raw_ring hraw hm0
  have hx := ring_pop_at x hr
  have ht := take_raw b o t base g ((top + L.length) % ring.length) w cs _ L top ring (L.length : Int) x hraw hm0 (by omega) (by omega) (by rw [Int.toNat_natCast]; rfl) (ring_lt hm0) hx (ring_pop x 0 hr) (by simp)
  have HT := Lib.hid ht
  have q2 := hraw.1.cell (o + 2)
  rw [hraw.2.2.2.2.1] at q2
  simp only [List.length_append, List.length_cons, List.length_nil, Nat.zero_add] at q2 HL
  clear hlen ht hx hm0 hr hraw h
  unfold enc at HT ⊢
  go_enter Try.func30, Try.ntmps30
  go_wp2_with fail
  refine HL.out.mono ?_
  rintro e w' ⟨rfl, rfl⟩
  go_wp2_with fail
  refine HT.out.mono ?_
  rintro e w' ⟨rfl, cs', hR, hS⟩
  go_wp2
  go_ret2
  exact ⟨rfl, cs', hR, hS⟩

theorem steal_step {w : World} {base b o t g i top' : Nat} {cs : List Value} {L L' : List Int} {top : Nat} {ring : List Int} (x : Int) (h : Raw w base b o t cs L (.slice (some ⟨g, 0, none⟩) ring.length ring.length) top ring) (h0 : 0 < ring.length)
    (hr : RingOk (ring.set i x) top' L') :
    Is (((w.setCell ⟨g, i, none⟩ (enc x)).setCell ⟨b, o + 2, none⟩ (.int .i64 L'.length)).setCell ⟨b, o + 1, none⟩ (.int .i64 top')) base b o t ((cs.set (o + 2) (.int .i64 L'.length)).set (o + 1) (.int .i64 top')) L' ∧
      Step w (((w.setCell ⟨g, i, none⟩ (enc x)).setCell ⟨b, o + 2, none⟩ (.int .i64 L'.length)).setCell ⟨b, o + 1, none⟩ (.int .i64 top')) base b o t cs ((cs.set (o + 2) (.int .i64 L'.length)).set (o + 1) (.int .i64 top')) := by
  obtain ⟨hb, hbb, c0, c1, c2, _, hm, hring⟩ := h
  rcases hring with ⟨_, h⟩ | ⟨g', he, h1, h2, hg⟩
  · rw [h] at h0; simp at h0
  · injection he with he; injection he with he; injection he with he; subst he
    have hB := ((hb.other (a := ⟨g, i, none⟩) (Ne.symm h2) (enc x)).set (o + 2) (.int .i64 L'.length)).set (o + 1) (.int .i64 top')
    have hG := ((hg.set i (enc x)).other (a := ⟨b, o + 2, none⟩) h2 (.int .i64 L'.length)).other (a := ⟨b, o + 1, none⟩) h2 (.int .i64 top')
    rw [← List.map_set] at hG
    refine ⟨⟨hB, hbb, .slice (some ⟨g, 0, none⟩) ring.length ring.length, top', ring.set i x, ?_, ?_, ?_, hr, by simpa using hm, .inr ⟨g, by simp, h1, h2, hG⟩⟩, by simp, ?_, ?_, ?_⟩
    · rw [List.getElem?_set_ne (by omega), List.getElem?_set_ne (by omega)]; exact c0
    · rw [List.getElem?_set_self (by simpa using lt_of_get c1)]
    · rw [List.getElem?_set_ne (by omega), List.getElem?_set_self (lt_of_get c2)]
    · intro j _ hj1 hj
      rw [List.getElem?_set_ne (by omega), List.getElem?_set_ne (by omega)]
    · refine (((Chg.refl _ w).set _ (.inl (.inr ?_)) _).set _ (.inl (.inl rfl)) _).set _ (.inl (.inl rfl)) _
      rw [List.getD_eq_getElem?_getD, c0]; rfl
    · rintro k (rfl | hk)
      · exact .inl (.inl rfl)
      · rw [List.getD_eq_getElem?_getD, List.getElem?_set_ne (by omega), List.getElem?_set_ne (by omega), ← List.getD_eq_getElem?_getD] at hk
        exact .inl (.inr hk)

set_option maxHeartbeats 1000000 in
theorem steal_calls (b o t base : Nat) (w : World) (cs : List Value) (L : List Int) (x : Int) (h : Is w base b o t cs (x :: L)) (hL : L.length ≤ 1000000000) :
    Calls Try.prog 32 #[.pointer (some ⟨b, o, none⟩)] w fun e w' => e = .returned (.tuple #[enc x, .bool true]) ∧ ∃ cs', Is w' base b o t cs' L ∧ Step w w' base b o t cs cs' := by
  have hlen := len_calls b o t w base cs _ h
  have HL := Lib.hid hlen
  obtain ⟨rv, top, ring, hraw⟩ := h.raw
  have hr := hraw.2.2.2.2.2.1
  have hm := hraw.2.2.2.2.2.2.1
  have hm0 := hr.pos (by simp)
  obtain ⟨g, rfl⟩ := raw_ring hraw hm0
  have hx := ring_steal_at x hr
  have htop := hr.top_lt hm0
  have ht := take_eq b o t base g ((top + 0) % ring.length) L.length w cs _ top ring 0 x hraw hm0 (by omega) (by omega) rfl (ring_lt hm0) hx (by simp)
  have HT := Lib.hid ht
  have hs := steal_step (i := (top + 0) % ring.length) (top' := (top + 1) % ring.length) 0 hraw hm0 (ring_steal x 0 hr)
  have HS := Lib.hid hs
  have q0 := hraw.1.cell o
  have q1 := hraw.1.cell (o + 1)
  have f1 := hraw.1.free (o + 1)
  have hgb : g ≠ b := by
    rcases hraw.2.2.2.2.2.2.2 with ⟨_, h⟩ | ⟨g', he, _, h2, _⟩
    · rw [h] at hm0; simp at hm0
    · injection he with he; injection he with he; injection he with he; subst he; exact h2
  rw [hraw.2.2.1] at q0
  rw [hraw.2.2.2.1] at q1
  simp only [List.length_cons] at HL
  have hi : Hid ((top + (1 : Int).toNat) % ring.length = (top + 1) % ring.length) := rfl
  generalize (top + 0) % ring.length = i at *
  generalize (top + 1) % ring.length = top' at *
  have E : enc (0) = Value.int .i64 0 := rfl
  clear hlen ht hx hm0 hr hraw h hs
  unfold enc at HT ⊢
  go_enter Try.func32, Try.ntmps32
  go_wp2_with fail
  refine HL.out.mono ?_
  rintro e w' ⟨rfl, rfl⟩
  go_wp2_with fail
  refine HT.out.mono ?_
  rintro e w' ⟨rfl, q, rfl⟩
  go_wp2_with fail
  refine (at_calls b o _ (some ⟨g, 0, none⟩) ring.length ring.length top 1 top' ?_ ?_ htop hm (by omega) (by omega) hi).mono ?_
  · exact (World.cell?_setCell_other _ _ _ _ (by simp)).trans ((World.cell?_setCell_other _ _ _ _ (by simp [Ne.symm hgb])).trans q0)
  · exact (World.cell?_setCell_other _ _ _ _ (by simp)).trans ((World.cell?_setCell_other _ _ _ _ (by simp [Ne.symm hgb])).trans q1)
  · rintro e w' ⟨rfl, q2, rfl⟩
    go_wp2
    go_ret2
    rw [E] at HS
    exact ⟨rfl, _, HS.out.1.drewN (q + q2), HS.out.2.drewN (q + q2)⟩
end Go.Proofs.Ytndciilmnnaemaa.DqI
