/- PipeOrder: what stays, round by round. -/
import Derived.Test.YtndciilmnnaemaaPipeStr
import Derived.Test.YtndciilmnnaemaaPipeNil
import Derived.Test.YtndciilmnnaemaaOpenB
import Derived.Test.YtndciilmnnaemaaStepsB
set_option linter.unusedVariables false
set_option linter.unusedSimpArgs false
namespace Go.Proofs.Ytndciilmnnaemaa
open Go.RowKit Go.Shelf Go.Proofs.YtndciilmnnaemaaW.PrintWords

/-- A text in a cell. -/
def StK (x : ByteArray) (cs : List Value) : Prop := cs = [.string x]
theorem st_at {w : World} {A : Option Addr} {l : List ByteArray} {k : Nat} (h : ReadsRow StK 1 w A l.length l) (hk : k < l.length) : ∃ ad, A = some ad ∧ w.cell? (ad.add k) = some (.string l[k]) := by
  obtain ⟨ad, c, e, _, hR, hc⟩ := ReadsRow.get_ h ByteArray.empty (k : Int) (by omega) (by omega)
  rw [Int.toNat_natCast, List.getD_eq_getElem?_getD, List.getElem?_eq_getElem hk, Option.getD_some] at hR
  rw [Int.toNat_natCast] at hc
  unfold StK at hR
  subst hR
  have := hc 0 _ rfl
  rw [Nat.mul_one] at this
  exact ⟨ad, e, this⟩
/-- Within a round: s texts were sent, g received, m gathered. -/
structure OrP (w W : World) (room : Nat) (l : List ByteArray) (cs : List Value) (s g : Nat) (cl : Bool) (A : Option Addr) (c m : Nat) : Prop where
  pi : DqS.PI W w.heap.size w.heap.size cs ⟨room, (l.take s).drop g, cl, s, g⟩
  own : W.ownsRow w.heap.size 9 1 (.slice A m c) m ((l.take m).map DqS.enc)
  apart : ∀ q, (Value.slice A m c).ownBlock = some q → ¬ DqS.set cs w.heap.size 1 q
  gs : g ≤ s
  sn : s ≤ l.length
  rm : s - g ≤ room
  cl_ : cl = true → s = l.length
  below : Below w.heap.size w W
def OrJ (w W : World) (room : Nat) (l : List ByteArray) (k : Nat) (v9 v10 : Value) : Prop :=
  ∃ (cs : List Value) (s g : Nat) (cl : Bool) (A : Option Addr) (c : Nat), v9 = .slice A g c ∧ v10 = .int .i64 s ∧ OrP w W room l cs s g cl A c g ∧ (k ≤ s + g + (if cl = true then 1 else 0) ∨ (s = l.length ∧ g = l.length ∧ cl = true))
theorem OrP.ql {w W : World} {room : Nat} {l : List ByteArray} {cs : List Value} {s g : Nat} {cl : Bool} {A : Option Addr} {c m : Nat} (h : OrP w W room l cs s g cl A c m) : ((l.take s).drop g).length = s - g := by
  have := h.sn
  rw [List.length_drop, List.length_take]; omega
theorem OrP.step {w W W1 : World} {room : Nat} {l : List ByteArray} {cs cs1 : List Value} {s g s1 g1 : Nat} {cl cl1 : Bool} {A : Option Addr} {c m : Nat} (h : OrP w W room l cs s g cl A c m) (hP : DqS.PI W1 w.heap.size w.heap.size cs1 ⟨room, (l.take s1).drop g1, cl1, s1, g1⟩) (hS : DqS.PStep W W1 w.heap.size cs cs1)
    (a1 : g1 ≤ s1) (a2 : s1 ≤ l.length) (a3 : s1 - g1 ≤ room) (a4 : cl1 = true → s1 = l.length) : OrP w W1 room l cs1 s1 g1 cl1 A c m :=
  ⟨hP, own_move h.own fun q hq => hS.1.block q (own_lt h.own q hq) (h.apart q hq), fun q hq hs => by
    rcases hS.2 q hs with h1 | h1
    · exact h.apart q hq h1
    · have := own_lt h.own q hq; omega, a1, a2, a3, a4, h.below.trans (hS.below h.pi h.below.size)⟩
theorem OrP.send {w W : World} {room : Nat} {l : List ByteArray} {cs : List Value} {s g : Nat} {A : Option Addr} {c m : Nat} (h : OrP w W room l cs s g false A c m) (hs : s < l.length) (hr : s - g < room) :
    DqS.sendE ⟨room, (l.take s).drop g, false, s, g⟩ = 0 ∧ ∀ W1 cs1, DqS.PI W1 w.heap.size w.heap.size cs1 (DqS.sendP ⟨room, (l.take s).drop g, false, s, g⟩ l[s]) → DqS.PStep W W1 w.heap.size cs cs1 → OrP w W1 room l cs1 (s + 1) g false A c m := by
  have hq := h.ql
  have hgs := h.gs
  unfold DqS.sendE DqS.sendP
  simp only [hq]
  rw [if_neg (by simp), if_neg (by omega)]
  refine ⟨rfl, fun W1 cs1 hP hS => ?_⟩
  rw [if_neg (by simp), if_neg (by omega), ← List.drop_append_of_le_length (by rw [List.length_take]; omega), ← List.take_succ_eq_append_getElem hs] at hP
  exact h.step hP hS (by omega) (by omega) (by omega) (by simp)
theorem OrP.full {w W : World} {room : Nat} {l : List ByteArray} {cs : List Value} {s g : Nat} {A : Option Addr} {c m : Nat} (h : OrP w W room l cs s g false A c m) (hr : ¬ s - g < room) (x : ByteArray) :
    DqS.sendE ⟨room, (l.take s).drop g, false, s, g⟩ = 9 ∧ ∀ W1 cs1, DqS.PI W1 w.heap.size w.heap.size cs1 (DqS.sendP ⟨room, (l.take s).drop g, false, s, g⟩ x) → DqS.PStep W W1 w.heap.size cs cs1 → OrP w W1 room l cs1 s g false A c m := by
  have hq := h.ql
  unfold DqS.sendE DqS.sendP
  simp only [hq]
  rw [if_neg (by simp), if_pos (by omega)]
  refine ⟨rfl, fun W1 cs1 hP hS => ?_⟩
  rw [if_neg (by simp), if_pos (by omega)] at hP
  exact h.step hP hS h.gs h.sn h.rm h.cl_
theorem OrP.close {w W W1 : World} {room : Nat} {l : List ByteArray} {cs cs1 : List Value} {s g : Nat} {cl : Bool} {A : Option Addr} {c m : Nat} (h : OrP w W room l cs s g cl A c m) (hs : s = l.length) (hP : DqS.PI W1 w.heap.size w.heap.size cs1 ⟨room, (l.take s).drop g, true, s, g⟩) (hS : DqS.PStep W W1 w.heap.size cs cs1) : OrP w W1 room l cs1 s g true A c m :=
  h.step hP hS h.gs h.sn h.rm (fun _ => hs)
theorem OrP.recv {w W : World} {room : Nat} {l : List ByteArray} {cs : List Value} {s g : Nat} {cl : Bool} {A : Option Addr} {c m : Nat} (h : OrP w W room l cs s g cl A c m) (hg : g < s) :
    DqS.recvX ⟨room, (l.take s).drop g, cl, s, g⟩ = l[g]'(by have := h.sn; omega) ∧ DqS.recvE ⟨room, (l.take s).drop g, cl, s, g⟩ = 0 ∧
      ∀ W1 cs1, DqS.PI W1 w.heap.size w.heap.size cs1 (DqS.recvP ⟨room, (l.take s).drop g, cl, s, g⟩) → DqS.PStep W W1 w.heap.size cs cs1 → OrP w W1 room l cs1 s (g + 1) cl A c m := by
  have hq := h.ql
  have hsn := h.sn
  have hrm := h.rm
  have hne : (l.take s).drop g ≠ [] := fun e => by rw [e] at hq; simp at hq; omega
  unfold DqS.recvX DqS.recvE DqS.recvP
  simp only
  rw [if_neg hne]
  refine ⟨?_, rfl, fun W1 cs1 hP hS => ?_⟩
  · rw [List.getD_eq_getElem?_getD, List.getElem?_drop, List.getElem?_take_of_lt (by omega), Nat.add_zero, List.getElem?_eq_getElem (by omega)]
    rfl
  · rw [if_neg hne, List.drop_drop] at hP
    exact h.step hP hS (by omega) hsn (by omega) h.cl_
theorem OrP.empty {w W : World} {room : Nat} {l : List ByteArray} {cs : List Value} {s g : Nat} {cl : Bool} {A : Option Addr} {c m : Nat} (h : OrP w W room l cs s g cl A c m) (hg : g = s) :
    DqS.recvX ⟨room, (l.take s).drop g, cl, s, g⟩ = ByteArray.empty ∧ DqS.recvE ⟨room, (l.take s).drop g, cl, s, g⟩ = (if cl = true then 11 else 10) ∧
      ∀ W1 cs1, DqS.PI W1 w.heap.size w.heap.size cs1 (DqS.recvP ⟨room, (l.take s).drop g, cl, s, g⟩) → DqS.PStep W W1 w.heap.size cs cs1 → OrP w W1 room l cs1 s g cl A c m := by
  have hq := h.ql
  have he : (l.take s).drop g = [] := List.eq_nil_of_length_eq_zero (by omega)
  unfold DqS.recvX DqS.recvE DqS.recvP
  simp only
  rw [if_pos he]
  refine ⟨by rw [he]; rfl, rfl, fun W1 cs1 hP hS => ?_⟩
  rw [if_pos he] at hP
  exact h.step hP hS h.gs h.sn h.rm h.cl_
/-- One more is gathered. -/
theorem OrP.got {w W W1 : World} {room : Nat} {l : List ByteArray} {cs : List Value} {s g : Nat} {cl : Bool} {A A1 : Option Addr} {c c1 m : Nat} (h : OrP w W room l cs s g cl A c m) (hm : m < l.length) {v : Value} (hv : v = .slice A m c)
    (ho : W1.ownsRow w.heap.size 9 1 (.slice A1 (m + 1) c1) (m + 1) ((l.take m).map DqS.enc ++ [.string l[m]])) (hb : Below w.heap.size w W1) (hg : (W.alloc (.cells #[.string l[m]] 9)).grownBy W1 v.ownBlock)
    (ha : (Value.slice A1 (m + 1) c1).ownBlock = v.ownBlock ∨ ∃ b, (Value.slice A1 (m + 1) c1).ownBlock = some b ∧ (W.alloc (.cells #[.string l[m]] 9)).heap.size ≤ b) : OrP w W1 room l cs s g cl A1 c1 (m + 1) := by
  subst hv
  have hset : ∀ k, DqS.set cs w.heap.size 1 k → W1.heap[k]? = W.heap[k]? := fun k hk => by
    have hlt := h.pi.is_.lt_ring k hk
    have h1 := hg.block k (by simp; omega) (fun e => h.apart k e.symm hk)
    rw [h1]
    exact Below.heap_alloc _ _ _ hlt
  refine ⟨⟨h.pi.is_.keeps hset, h.pi.len, h.pi.pos, h.pi.small, h.pi.r, h.pi.c, h.pi.s, h.pi.v⟩, ?_, fun q hq hs => ?_, h.gs, h.sn, h.rm, h.cl_, hb⟩
  · rw [List.take_succ_eq_append_getElem hm, List.map_append]
    exact ho
  · rcases ha with ha | ⟨b, hb2, hb3⟩
    · rw [ha] at hq
      exact h.apart q hq hs
    · rw [hb2] at hq
      injection hq with hq
      subst hq
      have := h.pi.is_.lt_ring _ hs
      simp at hb3
      omega
end Go.Proofs.Ytndciilmnnaemaa
