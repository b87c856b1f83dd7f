/- level.Sort's closures and the facts that the slices' laws want, at a finding. -/
import Derived.Test.YtkjddfmhledckaaStabFFd
import Derived.Test.YtkjddfmhledckaaStabHFd
import Derived.Test.YtkjddfmhledckaaPLevelOfx0
set_option linter.unusedSimpArgs false
namespace Go.Proofs.Ytkjddfmhledckaa.Lv
open Go.Shelf Go.RowKit Go.Lib Go.Sort Go.Proofs.Ytkjddfmhledckaa.RowAt Go.Proofs.Ytkjddfmhledckaa.Stab
set_option linter.unusedSectionVars false
set_option linter.unusedVariables false

/-- A finding's cells, and the place it came from. -/
structure Cel where
  f0 : Int
  f1 : Int
  f2 : Int
  f3 : Int
  f4 : Int
  f5 : Int
  A : Option Addr
  n : Nat
  c : Nat
  tag : Nat
  deriving Inhabited
def enc (x : Cel) : List Value := [.int .i64 x.f0, .int .i64 x.f1, .int .i64 x.f2, .int .i64 x.f3, .int .i64 x.f4, .int .i64 x.f5, .slice x.A x.n x.c]
theorem enc_len (x : Cel) : (enc x).length = 7 := rfl
theorem enc_one (x : Cel) : ∀ v ∈ enc x, v.oneCell' = true := by
  intro v hv
  simp only [enc, List.mem_cons, List.mem_nil_iff, or_false] at hv
  rcases hv with rfl | rfl | rfl | rfl | rfl | rfl | rfl <;> rfl
def zc : Array Value := #[.int .i64 0, .int .i64 0, .int .i64 0, .int .i64 0, .int .i64 0, .int .i64 0, .slice none 0 0]

theorem lt : LT Try.prog 7 where
  mixed := by kernel_rfl
  t0 := Try.underlying0
  a0 := Try.isAgg0
  z0 := Try.sizeOf0
  v0 := Try.zeroValue0
  t3 := Try.underlying3
  a3 := Try.isAgg3
  z3 := Try.sizeOf3
  v3 := Try.zeroValue3
  t4 := Try.underlying4
  a4 := Try.isAgg4
  z4 := Try.sizeOf4
  v4 := Try.zeroValue4
  t22 := Try.underlying25
  a22 := Try.isAgg25
  z22 := Try.sizeOf25
  v22 := Try.zeroValue25
  t25 := Try.underlying45
  a25 := Try.isAgg45
  z25 := Try.sizeOf45
  v25 := Try.zeroValue45
  t57 := Try.underlying57
  a57 := Try.isAgg57
  z57 := Try.sizeOf57
  v57 := Try.zeroValue57
  aE := Try.isAgg32
  zE := Try.sizeOf32

theorem lu : ∃ i0, LU Try.prog 7 zc 72 i0 := by
  obtain ⟨i0, hi, h0⟩ := Option.map_eq_some_iff.1 PLevelOf.info32
  simp only [Prod.mk.injEq] at h0
  refine ⟨i0, ?_⟩
  exact {
    t42 := Try.underlying42
    a42 := Try.isAgg42
    z42 := Try.sizeOf42
    v42 := Try.zeroValue42
    t47 := Try.underlying47
    a47 := Try.isAgg47
    z47 := Try.sizeOf47
    v47 := Try.zeroValue47
    vE := Try.zeroValue32
    hz := rfl
    hz1 := by
      intro v hv
      simp only [zc, Array.mem_toList_iff, List.mem_toArray, List.mem_cons, List.mem_nil_iff, or_false] at hv
      rcases hv with rfl | rfl | rfl | rfl | rfl | rfl | rfl <;> rfl
    hk := by decide
    hi := hi
    hi0 := h0.1
    hi1 := h0.2.1
    hi2 := h0.2.2 }

def cf (x y : Cel) : Int := if x.f0 < y.f0 then -1 else if x.f0 > y.f0 then 1 else 0
def eqk (x y : Cel) : Bool := decide (x.f0 = y.f0)
def bad (x : Cel) : Bool := decide (x.f0 < 1 ∨ 11 < x.f0)

theorem ltof (x y : Cel) : ltOf cf x y = decide (x.f0 < y.f0) := by
  unfold ltOf cf
  by_cases h1 : x.f0 < y.f0
  · rw [if_pos h1]; simp [h1]
  · rw [if_neg h1]
    by_cases h2 : x.f0 > y.f0
    · rw [if_pos h2]; simp [h1]
    · rw [if_neg h2]; simp [h1]
theorem swo : SWO (ltOf cf) where
  irrefl x := by rw [ltof]; simp
  trans x y z h1 h2 := by rw [ltof] at *; simp at *; omega
  ntrans x y z h1 h2 := by rw [ltof] at *; simp at *; omega

theorem grow2 (W : World) (o1 o2 : Obj) : (W.alloc o1).alloc o2 = grow (W.drewN 0) #[o1, o2] := by
  rw [alloc_eq_grow, alloc_eq_grow, grow_grow]; rfl

set_option maxHeartbeats 1000000 in
set_option maxRecDepth 1000000 in
theorem sort3 : EqG Try.prog 30 #[] enc eqk := by
  intro W x y
  go_enter Try.func30, Try.ntmps30
  unfold enc
  go_wp2
  go_ret
  exact ⟨by unfold eqk; first | rfl | (simp; done) | skip, 0, _, grow2 _ _ _⟩

set_option maxHeartbeats 1000000 in
set_option maxRecDepth 1000000 in
theorem isNaN (a : Int) (W : World) : Calls Try.prog 35 #[.int .i64 a] W fun e w' => e = .returned (.bool false) ∧ w' = W := by
  go_enter Try.func35, Try.ntmps35
  go_wp2
  go_ret
  exact ⟨by first | rfl | (simp; done), rfl⟩

set_option maxHeartbeats 1000000 in
set_option maxRecDepth 1000000 in
theorem compare (a b : Int) (W : World) : Calls Try.prog 28 #[.int .i64 a, .int .i64 b] W fun e w' => e = .returned (.int .i64 (if a < b then -1 else if a > b then 1 else 0)) ∧ w' = W := by
  have e35 : ∀ args w, (callFunc 35 args).run Try.prog w = .ok (.enter 35 args) w := enters_of Try.func35 (by kernel_rfl) rfl
  have hn := isNaN
  by_cases h1 : a < b
  · rw [if_pos h1]
    go_enter Try.func28, Try.ntmps28
    go_wp2_with (go_at_fn 35; refine (hn _ _).mono ?_; rintro e w' ⟨rfl, rfl⟩)
    go_ret
    exact ⟨rfl, rfl⟩
  · rw [if_neg h1]
    by_cases h2 : a > b
    · rw [if_pos h2]
      go_enter Try.func28, Try.ntmps28
      go_wp2_with (go_at_fn 35; refine (hn _ _).mono ?_; rintro e w' ⟨rfl, rfl⟩)
      go_ret
      exact ⟨rfl, rfl⟩
    · rw [if_neg h2]
      go_enter Try.func28, Try.ntmps28
      go_wp2_with (go_at_fn 35; refine (hn _ _).mono ?_; rintro e w' ⟨rfl, rfl⟩)
      go_ret
      exact ⟨rfl, rfl⟩

set_option maxHeartbeats 1000000 in
set_option maxRecDepth 1000000 in
theorem sort2 (W : World) (x y : Cel) : Calls Try.prog 27 #[.agg (enc x).toArray, .agg (enc y).toArray] W fun e w' => e = .returned (.int .i64 (cf x y)) ∧ ∃ q os', w' = grow (W.drewN q) os' := by
  have e28 : ∀ args w, (callFunc 28 args).run Try.prog w = .ok (.enter 28 args) w := enters_of Try.func28 (by kernel_rfl) rfl
  have hc := compare x.f0 y.f0
  have HE : Aside (∀ c, c = (if x.f0 < y.f0 then (-1 : Int) else if x.f0 > y.f0 then 1 else 0) → c = cf x y) := fun c h => h
  generalize (if x.f0 < y.f0 then (-1 : Int) else if x.f0 > y.f0 then 1 else 0) = c at hc HE
  go_enter Try.func27, Try.ntmps27
  unfold enc
  go_wp2_with (go_at_fn 28; refine (hc _).mono ?_; rintro e w' ⟨rfl, rfl⟩)
  go_ret
  exact ⟨by rw [HE.out _ rfl]; rfl, 0, _, grow2 _ _ _⟩
end Go.Proofs.Ytkjddfmhledckaa.Lv
