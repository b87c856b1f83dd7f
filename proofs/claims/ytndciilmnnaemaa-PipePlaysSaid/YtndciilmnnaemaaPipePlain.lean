/- A pipe and its reference, side by side: what stays as steps are taken. -/
import Derived.Test.YtndciilmnnaemaaPipeNil
set_option linter.unusedVariables false
set_option linter.unusedSimpArgs false
namespace Go.Proofs.Ytndciilmnnaemaa.DqI
open Go.RowKit Go.Shelf Go.Proofs.YtndciilmnnaemaaW.PrintWords Go.Proofs.Ytndciilmnnaemaa.Fr

/-- The pipe and what was sent and received agree. -/
structure Agree (p : Pp) (room : Nat) (S : List Int) (recv : Nat) (cl : Bool) : Prop where
  h_room : p.room = room
  h_sent : p.sent = S.length
  h_l : p.l = S.drop recv
  h_recv : p.recv = recv
  h_cl : p.cl = cl
  h_le : recv ≤ S.length
theorem Agree.len {p : Pp} {room : Nat} {S : List Int} {recv : Nat} {cl : Bool} (h : Agree p room S recv cl) : p.l.length = S.length - recv := by rw [h.h_l, List.length_drop]
def recvN (S : List Int) (recv : Nat) : Nat := if recv < S.length then recv + 1 else recv
def recvV (S : List Int) (recv : Nat) : Int := if recv < S.length then S.getD recv 0 else 0
def recvC (S : List Int) (recv : Nat) (cl : Bool) : Int := if recv < S.length then 0 else if cl = true then 11 else 10
theorem Agree.recv_ {p : Pp} {room : Nat} {S : List Int} {recv : Nat} {cl : Bool} (h : Agree p room S recv cl) : recvX p = recvV S recv ∧ recvE p = recvC S recv cl ∧ Agree (recvP p) room S (recvN S recv) cl := by
  unfold recvX recvE recvP recvV recvC recvN
  by_cases hlt : recv < S.length
  · have hne : p.l ≠ [] := by rw [h.h_l]; simp; omega
    rw [if_pos hlt, if_pos hlt, if_pos hlt, if_neg hne, if_neg hne]
    refine ⟨?_, rfl, h.h_room, h.h_sent, ?_, ?_, h.h_cl, by omega⟩
    · rw [h.h_l, List.getD_eq_getElem?_getD, List.getElem?_drop, Nat.add_zero, List.getD_eq_getElem?_getD]
    · simp only [h.h_l, List.drop_drop]
    · simp only [h.h_recv]
  · have he : p.l = [] := by rw [h.h_l]; simp; omega
    rw [if_neg hlt, if_neg hlt, if_neg hlt, if_pos he, if_pos he, h.h_cl]
    exact ⟨by rw [he]; rfl, rfl, h⟩
theorem Agree.close {p : Pp} {room : Nat} {S : List Int} {recv : Nat} {cl : Bool} (h : Agree p room S recv cl) : Agree ⟨p.room, p.l, true, p.sent, p.recv⟩ room S recv true := ⟨h.h_room, h.h_sent, h.h_l, h.h_recv, rfl, h.h_le⟩
def sendS (room : Nat) (S : List Int) (recv : Nat) (cl : Bool) (x : Int) : List Int := if cl = true then S else if (room : Int) ≤ (S.length : Int) - recv then S else S ++ [x]
def sendC (room : Nat) (S : List Int) (recv : Nat) (cl : Bool) : Int := if cl = true then 11 else if (room : Int) ≤ (S.length : Int) - recv then 9 else 0
theorem Agree.send {p : Pp} {room : Nat} {S : List Int} {recv : Nat} {cl : Bool} (h : Agree p room S recv cl) (x : Int) : sendE p = sendC room S recv cl ∧ Agree (sendP p x) room (sendS room S recv cl x) recv cl := by
  unfold sendE sendP sendC sendS
  rw [h.h_cl]
  by_cases hc : cl = true
  · rw [if_pos hc, if_pos hc, if_pos hc, if_pos hc]; exact ⟨rfl, h⟩
  · rw [if_neg hc, if_neg hc, if_neg hc, if_neg hc]
    have hl := h.len
    have hle := h.h_le
    have hr := h.h_room
    by_cases hf : (room : Int) ≤ (S.length : Int) - recv
    · rw [if_pos (show p.room ≤ p.l.length by omega), if_pos (show p.room ≤ p.l.length by omega), if_pos hf, if_pos hf]; exact ⟨rfl, h⟩
    · rw [if_neg (show ¬ p.room ≤ p.l.length by omega), if_neg (show ¬ p.room ≤ p.l.length by omega), if_neg hf, if_neg hf]
      refine ⟨rfl, h.h_room, by simp [h.h_sent], ?_, h.h_recv, by simp_all, by simp; omega⟩
      rw [List.drop_append_of_le_length hle, h.h_l]
theorem sendS_len (room : Nat) (S : List Int) (recv : Nat) (cl : Bool) (x : Int) : (sendS room S recv cl x).length ≤ S.length + 1 := by
  unfold sendS
  split
  · omega
  · split
    · omega
    · simp

/-- The pipe at w.heap.size, the reference's at D, which holds what was sent. -/
structure PQ (w W : World) (D : Nat) (room : Nat) (cs : List Value) (p : Pp) (A : Option Addr) (c : Nat) (S : List Int) (recv : Nat) (cl : Bool) : Prop where
  pi : PI W w.heap.size w.heap.size cs p
  q : Blk W D (rqs A S.length c room recv cl) 102
  own : W.ownsRow w.heap.size 3 1 (.slice A S.length c) S.length (nums .i64 S)
  dset : ¬ set cs w.heap.size 1 D
  apart : ∀ q, (Value.slice A S.length c).ownBlock = some q → ¬ set cs w.heap.size 1 q ∧ q ≠ D
  below : Below w.heap.size w W
  low : w.heap.size ≤ D
theorem PQ.grow {w W W' : World} {D room : Nat} {cs : List Value} {p : Pp} {A : Option Addr} {c : Nat} {S : List Int} {recv : Nat} {cl : Bool} (h : PQ w W D room cs p A c S recv cl) (hb : Below W.heap.size W W') : PQ w W' D room cs p A c S recv cl :=
  ⟨h.pi.below hb, h.q.below hb h.q.lt, own_move h.own fun q hq => hb.block q (own_lt h.own q hq), h.dset, h.apart, h.below.trans (hb.mono h.below.size), h.low⟩
theorem PQ.pipe {w W W1 : World} {D room : Nat} {cs cs1 : List Value} {p p1 : Pp} {A : Option Addr} {c : Nat} {S : List Int} {recv : Nat} {cl : Bool} (h : PQ w W D room cs p A c S recv cl) (hP : PI W1 w.heap.size w.heap.size cs1 p1) (hS : PStep W W1 w.heap.size cs cs1) : PQ w W1 D room cs1 p1 A c S recv cl := by
  have keep : ∀ k, k < W.heap.size → ¬ set cs w.heap.size 1 k → ¬ set cs1 w.heap.size 1 k := fun k hk hn hs => by
    rcases hS.2 k hs with h1 | h1
    · exact hn h1
    · omega
  exact ⟨hP, h.q.chg hS.1 h.dset, own_move h.own fun q hq => hS.1.block q (own_lt h.own q hq) (h.apart q hq).1, keep D h.q.lt h.dset, fun q hq => ⟨keep q (own_lt h.own q hq) (h.apart q hq).1, (h.apart q hq).2⟩, h.below.trans (hS.below h.pi h.below.size), h.low⟩
theorem PQ.reads {w W : World} {D room : Nat} {cs : List Value} {p : Pp} {A : Option Addr} {c : Nat} {S : List Int} {recv : Nat} {cl : Bool} (h : PQ w W D room cs p A c S recv cl) : ReadsInt W .i64 A S.length S := own_reads' h.own
/-- The reference's next lies at G. -/
structure PU (w W : World) (D G : Nat) (room : Nat) (cs : List Value) (p : Pp) (A' : Option Addr) (c' : Nat) (S' : List Int) (recv' : Nat) (cl' : Bool) : Prop where
  pi : PI W w.heap.size w.heap.size cs p
  q : ∃ A c n recv cl, Blk W D (rqs A n c room recv cl) 102
  u : Blk W G (rqs A' S'.length c' room recv' cl') 102
  ne : G ≠ D
  own : W.ownsRow w.heap.size 3 1 (.slice A' S'.length c') S'.length (nums .i64 S')
  dset : ¬ set cs w.heap.size 1 D
  apart : ∀ q, (Value.slice A' S'.length c').ownBlock = some q → ¬ set cs w.heap.size 1 q ∧ q ≠ D
  below : Below w.heap.size w W
  low : w.heap.size ≤ D
theorem PI.other {w : World} {base b : Nat} {cs : List Value} {p : Pp} {D j : Nat} {v : Value} (h : PI w base b cs p) (hD : ¬ set cs b 1 D) : PI (w.setCell ⟨D, j, none⟩ v) base b cs p :=
  ⟨h.is_.keeps fun k hk => Below.heap_setCell _ _ _ _ (by intro e; simp at e; subst e; exact hD hk), h.len, h.pos, h.small, h.r, h.c, h.s, h.v⟩
theorem own_put {W : World} {base n size : Nat} {e : TypeId} {v : Value} {xs : List Value} {b : Nat} (h : W.ownsRow base e size v n xs) (hb : ∀ q, v.ownBlock = some q → q ≠ b) (j : Nat) (u : Value) : (W.setCell ⟨b, j, none⟩ u).ownsRow base e size v n xs :=
  own_move h (fun q hq => Below.heap_setCell _ _ _ _ (by have := hb q hq; simpa using this))
theorem PU.put {w W : World} {D G room : Nat} {cs : List Value} {p : Pp} {A : Option Addr} {c : Nat} {S : List Int} {recv : Nat} {cl : Bool} (h : PU w W D G room cs p A c S recv cl) :
    PQ w ((((W.setCell ⟨D, 0, none⟩ (.int .i64 room)).setCell ⟨D, 1, none⟩ (.slice A S.length c)).setCell ⟨D, 2, none⟩ (.int .i64 recv)).setCell ⟨D, 3, none⟩ (.bool cl)) D room cs p A c S recv cl := by
  obtain ⟨A0, c0, n0, r0, cl0, hq⟩ := h.q
  exact ⟨(((h.pi.other h.dset).other h.dset).other h.dset).other h.dset, set4 hq _ _ _ _, own_put (own_put (own_put (own_put h.own (fun q hq => (h.apart q hq).2) _ _) (fun q hq => (h.apart q hq).2) _ _) (fun q hq => (h.apart q hq).2) _ _) (fun q hq => (h.apart q hq).2) _ _, h.dset, h.apart,
    below4 h.below h.low _ _ _ _, h.low⟩
theorem PU.facts {w W : World} {D G room : Nat} {cs : List Value} {p : Pp} {A : Option Addr} {c : Nat} {S : List Int} {recv : Nat} {cl : Bool} (h : PU w W D G room cs p A c S recv cl) :
    (W.frozen? ⟨D, 0, none⟩ = false ∧ W.frozen? ⟨D, 1, none⟩ = false ∧ W.frozen? ⟨D, 2, none⟩ = false ∧ W.frozen? ⟨D, 3, none⟩ = false) ∧ ∃ v0 v1 v2 v3, W.cell? ⟨D, 0, none⟩ = some v0 ∧ W.cell? ⟨D, 1, none⟩ = some v1 ∧ W.cell? ⟨D, 2, none⟩ = some v2 ∧ W.cell? ⟨D, 3, none⟩ = some v3 := by
  obtain ⟨A0, c0, n0, r0, cl0, hq⟩ := h.q
  exact ⟨(facts4 hq).2, _, _, _, _, (facts4 hq).1⟩
/-- A new struct for the reference's next, all at once. -/
theorem PQ.to_new {w W : World} {D room : Nat} {cs : List Value} {p : Pp} {A A' : Option Addr} {c c' : Nat} {S S' : List Int} {recv recv' : Nat} {cl cl' : Bool} (h : PQ w W D room cs p A c S recv cl) (ho : W.ownsRow w.heap.size 3 1 (.slice A' S'.length c') S'.length (nums .i64 S'))
    (ha : ∀ q, (Value.slice A' S'.length c').ownBlock = some q → ¬ set cs w.heap.size 1 q ∧ q ≠ D) :
    PU w (W.alloc (.cells #[.int .i64 room, .slice A' S'.length c', .int .i64 recv', .bool cl'] 102)) D W.heap.size room cs p A' c' S' recv' cl' :=
  have hb : Below W.heap.size W (W.alloc (.cells #[.int .i64 room, .slice A' S'.length c', .int .i64 recv', .bool cl'] 102)) := (Below.refl _ _).alloc (Nat.le_refl _) _
  ⟨h.pi.below hb, ⟨_, _, _, _, _, h.q.alloc _⟩, Blk.new W (rqs A' S'.length c' room recv' cl') _, fun e => by have := h.q.lt; omega, ho.alloc _, h.dset, ha, h.below.trans (hb.mono h.below.size), h.low⟩
theorem PQ.to_old {w W : World} {D G room : Nat} {cs : List Value} {p : Pp} {A A' : Option Addr} {c c' : Nat} {S S' : List Int} {recv recv' : Nat} {cl cl' : Bool} (h : PQ w W D room cs p A c S recv cl) (hG : Blk W G zq 102) (hGD : G ≠ D) (hGs : ¬ set cs w.heap.size 1 G) (hGl : w.heap.size ≤ G)
    (ho : W.ownsRow w.heap.size 3 1 (.slice A' S'.length c') S'.length (nums .i64 S')) (ha : ∀ q, (Value.slice A' S'.length c').ownBlock = some q → ¬ set cs w.heap.size 1 q ∧ q ≠ D ∧ q ≠ G) :
    PU w ((((W.setCell ⟨G, 0, none⟩ (.int .i64 room)).setCell ⟨G, 1, none⟩ (.slice A' S'.length c')).setCell ⟨G, 2, none⟩ (.int .i64 recv')).setCell ⟨G, 3, none⟩ (.bool cl')) D G room cs p A' c' S' recv' cl' :=
  ⟨(((h.pi.other hGs).other hGs).other hGs).other hGs, ⟨_, _, _, _, _, Blk.other (Blk.other (Blk.other (Blk.other h.q (by simpa using hGD.symm) _) (by simpa using hGD.symm) _) (by simpa using hGD.symm) _) (by simpa using hGD.symm) _⟩, set4 hG _ _ _ _, hGD,
    own_put (own_put (own_put (own_put ho (fun q hq => (ha q hq).2.2) _ _) (fun q hq => (ha q hq).2.2) _ _) (fun q hq => (ha q hq).2.2) _ _) (fun q hq => (ha q hq).2.2) _ _, h.dset, fun q hq => ⟨(ha q hq).1, (ha q hq).2.1⟩, below4 h.below hGl _ _ _ _, h.low⟩
/-- The reference's Recv, Close and Send, over what lies. -/
theorem rrecv_of {w W : World} {D room : Nat} {cs : List Value} {p : Pp} {A : Option Addr} {c : Nat} {S : List Int} {recv : Nat} {cl : Bool} (h : PQ w W D room cs p A c S recv cl) (hS : S.length ≤ 1000000) (hr : recv ≤ S.length) :
    Calls Try.prog 64 #[.agg #[.int .i64 room, .slice A S.length c, .int .i64 recv, .bool cl]] W fun r w' => r = .returned (.tuple #[.agg #[.int .i64 room, .slice A S.length c, .int .i64 (recvN S recv), .bool cl], .int .i64 (recvV S recv), .int .i64 (recvC S recv cl)]) ∧ Below W.heap.size W w' := by
  refine (rrecv_calls W A S c room recv cl h.reads (by omega) (by omega)).mono fun e w' ⟨he, hb⟩ => ⟨he.trans ?_, hb⟩
  unfold rq recvN recvV recvC
  split <;> simp
theorem rclose_of (W : World) (A : Option Addr) (n c : Nat) (room : Nat) (recv : Nat) (cl : Bool) :
    Calls Try.prog 66 #[.agg #[.int .i64 room, .slice A n c, .int .i64 recv, .bool cl]] W fun r w' => r = .returned (.tuple #[.agg #[.int .i64 room, .slice A n c, .int .i64 recv, .bool true], .int .i64 (if cl = true then 11 else 0)]) ∧ Below W.heap.size W w' :=
  rclose_calls W A n c room recv cl
/-- The row that is behind a Send: the old one, or a new one. -/
def RowOf (W w' : World) (A A' : Option Addr) (c c' : Nat) (S S' : List Int) : Prop := (A' = A ∧ c' = c ∧ S' = S) ∨ w'.ownsRow W.heap.size 3 1 (.slice A' S'.length c') S'.length (nums .i64 S')
def SentR (W w' : World) (r : Ending) (A : Option Addr) (c room : Nat) (S : List Int) (recv : Nat) (cl : Bool) (x : Int) : Prop :=
  ∃ A' c', r = .returned (.tuple #[.agg #[.int .i64 room, .slice A' (sendS room S recv cl x).length c', .int .i64 recv, .bool cl], .int .i64 (sendC room S recv cl)]) ∧ RowOf W w' A A' c c' S (sendS room S recv cl x)
theorem rsend_of {w W : World} {D room : Nat} {cs : List Value} {p : Pp} {A : Option Addr} {c : Nat} {S : List Int} {recv : Nat} {cl : Bool} (h : PQ w W D room cs p A c S recv cl) (hS : S.length ≤ 1000000) (hr : recv ≤ S.length) (x : Int) :
    Calls Try.prog 68 #[.agg #[.int .i64 room, .slice A S.length c, .int .i64 recv, .bool cl], .int .i64 x] W fun r w' => SentR W w' r A c room S recv cl x ∧ Below W.heap.size W w' := by
  refine (rsend_calls W A S c room recv cl x h.reads hr (by omega)).mono fun e w' ⟨he, hb⟩ => ⟨?_, hb⟩
  unfold SendR at he
  unfold SentR sendS sendC
  by_cases hc : cl = true
  · rw [if_pos hc] at he ⊢
    rw [if_pos hc]
    exact ⟨A, c, he, .inl ⟨rfl, rfl, rfl⟩⟩
  · rw [if_neg hc] at he ⊢
    rw [if_neg hc]
    by_cases hf : (room : Int) ≤ (S.length : Int) - recv
    · rw [if_pos hf] at he ⊢
      rw [if_pos hf]
      exact ⟨A, c, he, .inl ⟨rfl, rfl, rfl⟩⟩
    · rw [if_neg hf] at he ⊢
      rw [if_neg hf]
      obtain ⟨A', c', he, ho⟩ := he
      have e : (S ++ [x]).length = S.length + 1 := by simp
      exact ⟨A', c', by rw [e]; exact he, .inr (by rw [e]; exact ho)⟩
/-- That row is the reference's own, apart from the pipe and from the blocks ahead. -/
theorem PQ.row {w W w' : World} {D room : Nat} {cs : List Value} {p : Pp} {A A' : Option Addr} {c c' : Nat} {S S' : List Int} {recv : Nat} {cl : Bool} (h : PQ w W D room cs p A c S recv cl) (hb : Below W.heap.size W w') (hr : RowOf W w' A A' c c' S S') :
    w'.ownsRow w.heap.size 3 1 (.slice A' S'.length c') S'.length (nums .i64 S') ∧ ∀ q, (Value.slice A' S'.length c').ownBlock = some q → (¬ set cs w.heap.size 1 q ∧ q ≠ D) ∧ ((Value.slice A S.length c).ownBlock = some q ∨ W.heap.size ≤ q) := by
  rcases hr with ⟨rfl, rfl, rfl⟩ | ho
  · exact ⟨(h.grow hb).own, fun q hq => ⟨h.apart q hq, .inl hq⟩⟩
  · refine ⟨own_weaken ho h.below.size, fun q hq => ?_⟩
    have h1 := own_base ho q hq
    refine ⟨⟨fun hs => ?_, fun e => ?_⟩, .inr h1⟩
    · have := h.pi.is_.lt_ring q hs; omega
    · have := h.q.lt; omega
end Go.Proofs.Ytndciilmnnaemaa.DqI
