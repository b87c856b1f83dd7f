/- encode.parts: numbers once each, values once each to a key. -/
import Derived.Test.YtlcioegdmopppaaEnB
import Derived.Test.YtlcioegdmopppaaMapS
import Derived.DeepKeys4
set_option linter.unusedSimpArgs false
namespace Go.Proofs.Ytlcioegdmopppaa.En
open Go.RowKit Go.Maps Go.Proofs.Ytlcioegdmopppaa.PEncodeBack Go.Proofs.YtlcioegdmopppaaW.PrintWords
set_option linter.unusedVariables false

def opsP : List S39 → List (Int × Int) → Int × List (Int × Int)
  | [], met => (0, met)
  | o :: l, met => if okOp o = false then (2, met) else if o.f0 = true then opsP l met else if (o.f1, o.f2) ∈ met then (6, met) else opsP l ((o.f1, o.f2) :: met)
def txnsP : List S42 → List Int → List (Int × Int) → Int
  | [], _, _ => 0
  | t :: h, ids, met => if okN t.f0 = false then 2 else if t.f0 ∈ ids then 5 else if (opsP t.f2 met).1 ≠ 0 then (opsP t.f2 met).1 else txnsP h (t.f0 :: ids) (opsP t.f2 met).2
def partsP (h : List S42) : Int := txnsP h [] []

theorem laidOut : laidOutB Try.prog = true := by kernel_rfl
theorem lawI : Keyed Try.prog 3 := int_keyed Try.underlying3
theorem lawP : Keyed Try.prog 80 := Keyed.of_law (deep_law_laid laidOut (m := 3) (by omega) (of_decide_eq_true (by kernel_rfl)) (by kernel_rfl) (by rw [Try.underlying80]))
theorem zeroI (w : World) : (zeroValue 3).run Try.prog w = .ok (.int .i64 0) w := Try.zeroValue3 w
theorem wf_ok {n : Int} (h : okN n = true) : (Lit.int .i64 n).wf = true := by
  have := okN_iff.1 h
  exact WalkArith.wf_i64 (by omega)
theorem keyI {n : Int} (h : okN n = true) : keyOf Try.prog 3 (.int .i64 n) = some (.int .i64 n) := keyOf_int_mk Try.underlying3 (wf_ok h)
theorem keyTy : Try.prog.keyType 80 = true := by kernel_rfl
theorem cellsP : Try.prog.cellsOf 80 = 2 := by kernel_rfl
theorem cellsI : Try.prog.cellsOf 3 = 1 := by kernel_rfl
theorem keyP {a b : Int} (ha : okN a = true) (hb : okN b = true) : ∃ kl, keyOf Try.prog 80 (.agg #[.int .i64 a, .int .i64 b]) = some kl := by
  have wa := wf_ok ha
  have wb := wf_ok hb
  obtain ⟨m, hm⟩ : ∃ m, Try.prog.types.size = m + 1 := ⟨Try.prog.types.size - 1, by have : 0 < Try.prog.types.size := of_decide_eq_true (by kernel_rfl); omega⟩
  unfold keyOf
  simp only [Try.underlying80]
  rw [if_pos (by simp [keyTy, Value.formed, Try.underlying80, cellsP]), hm]
  unfold Program.keyLits
  simp only [Try.underlying80, Value.cells]
  rw [if_pos (by rw [cellsP]; exact ⟨rfl, by decide +kernel⟩)]
  simp [Program.keyLits, Try.underlying3, cellsI, wa, wb]

def POut (w : World) (r : Int) (e : Ending) (w' : World) : Prop := e = .returned (.int .i64 r) ∧ Below w.heap.size w w'
def IdS (ids : List Int) (v : Value) : Prop := ∃ i ∈ ids, v = .int .i64 i
def MetS (met : List (Int × Int)) (v : Value) : Prop := ∃ p ∈ met, v = .agg #[.int .i64 p.1, .int .i64 p.2]
theorem idS_iff (ids : List Int) (n : Int) : decide (n ∈ ids) = true ↔ IdS ids (.int .i64 n) := by
  unfold IdS
  simp
theorem metS_iff (met : List (Int × Int)) (a b : Int) : decide ((a, b) ∈ met) = true ↔ MetS met (.agg #[.int .i64 a, .int .i64 b]) := by
  unfold MetS
  rw [decide_eq_true_iff]
  constructor
  · exact fun h => ⟨_, h, rfl⟩
  · rintro ⟨⟨x, y⟩, h, e⟩
    simp at e
    obtain ⟨rfl, rfl⟩ := e
    exact h
theorem idS_cons (ids : List Int) (n : Int) (v : Value) : (v = .int .i64 n ∨ IdS ids v) ↔ IdS (n :: ids) v := by unfold IdS; simp
theorem metS_cons (met : List (Int × Int)) (a b : Int) (v : Value) : (v = .agg #[.int .i64 a, .int .i64 b] ∨ MetS met v) ↔ MetS ((a, b) :: met) v := by unfold MetS; simp
structure PJ (h : List S42) (w wr : World) (k : Nat) (ids : List Int) (met : List (Int × Int)) (nm : Nat) : Prop where
  ids_ : MapI Try.prog 3 3 wr (w.heap.size + 1) k (IdS ids)
  met_ : MapI Try.prog 80 3 wr (w.heap.size + 2) nm (MetS met)
  nm_ : nm ≤ k * 1000000
  bel : Below w.heap.size w wr
  val : partsP h = txnsP (h.drop k) ids met
/-- Between two operations of one transaction. -/
structure PO (ops : List S39) (w wr : World) (k j : Nat) (ids : List Int) (met0 met : List (Int × Int)) (nm : Nat) : Prop where
  ids_ : MapI Try.prog 3 3 wr (w.heap.size + 1) (k + 1) (IdS ids)
  met_ : MapI Try.prog 80 3 wr (w.heap.size + 2) nm (MetS met)
  nm_ : nm ≤ k * 1000000 + j
  bel : Below w.heap.size w wr
  val : opsP ops met0 = opsP (ops.drop j) met
theorem PO.below {ops : List S39} {w wr w1 : World} {k j : Nat} {ids : List Int} {met0 met : List (Int × Int)} {nm : Nat} (h : PO ops w wr k j ids met0 met nm) (hb : Below wr.heap.size wr w1) : PO ops w w1 k j ids met0 met nm :=
  ⟨h.ids_.below hb, h.met_.below hb, h.nm_, link h.bel hb, h.val⟩
theorem PJ.below {h : List S42} {w wr w1 : World} {k : Nat} {ids : List Int} {met : List (Int × Int)} {nm : Nat} (hj : PJ h w wr k ids met nm) (hb : Below wr.heap.size wr w1) : PJ h w w1 k ids met nm :=
  ⟨hj.ids_.below hb, hj.met_.below hb, hj.nm_, link hj.bel hb, hj.val⟩
theorem _root_.Go.Proofs.Ytlcioegdmopppaa.Blk.block_ {w w' : World} {b : Nat} {cs : List Value} {t : TypeId} {row : Option Nat} (h : Blk w b cs t) (hg : w.grownBy w' row) (hne : some b ≠ row) : Blk w' b cs t := by
  have hl := h.lt
  unfold Blk at *
  rw [hg.block b hl hne]; exact h
theorem below_map {w wr w1 : World} {b : Nat} (hb : w.heap.size ≤ b) (h : Below w.heap.size w wr) (hg : wr.grownBy w1 (some b)) : Below w.heap.size w w1 := h.grown hg h.size fun g hg' => by have := Option.some.inj hg'; omega
end Go.Proofs.Ytlcioegdmopppaa.En
