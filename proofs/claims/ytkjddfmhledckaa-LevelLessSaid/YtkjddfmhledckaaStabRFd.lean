/- slices.symMergeCmpFunc at api.Finding: what is behind its search: the turn, and the two merges. -/
import Derived.Test.YtkjddfmhledckaaStabDFd
set_option linter.unusedVariables false
set_option linter.unusedSimpArgs false
namespace Go.Proofs.Ytkjddfmhledckaa.Stab
open Go.Shelf Go.RowKit Go.Lib Go.Sort
set_option linter.unusedSectionVars false

variable {α : Type} [Inhabited α]
/-- What a merge is asked for. -/
def Merges (P : Program) (enc : α → List Value) (k : Nat) (g : Nat) (cb : Array Value) (cf : α → α → Int) (tag : α → Nat) (blk off cap N : Nat) (w0 : World) (n : Nat) : Prop :=
  ∀ (A X Y C : List α) (a m b : Nat) (w : World), X.length + Y.length ≤ n → A.length = a → a + X.length = m → m + Y.length = b → b + C.length = N → X ≠ [] → Y ≠ [] → Sd (ltOf cf) tag X → Sd (ltOf cf) tag Y → Tl tag X Y → SWL enc k w0 blk off (A ++ (X ++ (Y ++ C))) w →
    Calls P 38 #[.slice (some ⟨blk, off, none⟩) N cap, .int .i64 a, .int .i64 m, .int .i64 b, .func (.func g) #[] cb] w fun e w' => e = .returned (.tuple #[]) ∧ ∃ M, M.Perm (X ++ Y) ∧ Sd (ltOf cf) tag M ∧ SWL enc k w0 blk off (A ++ (M ++ C)) w'
/-- What a turn is asked for. -/
def Turns (P : Program) (enc : α → List Value) (k : Nat) (g : Nat) (cb : Array Value) (blk off cap N : Nat) (w0 : World) : Prop :=
  ∀ (A X Y C : List α) (a m b : Nat) (w : World), A.length = a → a + X.length = m → m + Y.length = b → b + C.length = N → X ≠ [] → Y ≠ [] → SWL enc k w0 blk off (A ++ (X ++ (Y ++ C))) w →
    Calls P 39 #[.slice (some ⟨blk, off, none⟩) N cap, .int .i64 a, .int .i64 m, .int .i64 b, .func (.func g) #[] cb] w fun e w' => e = .returned (.tuple #[]) ∧ SWL enc k w0 blk off (A ++ (Y ++ (X ++ C))) w'
/-- The code behind n pieces. -/
def rightN : Nat → Code → Code
  | 0, c => c
  | n + 1, .seq _ b => rightN n b
  | _ + 1, c => c
noncomputable def mergeRest (n : Nat) : Code := rightN n (Try.f38.body.getD .skip)

set_option maxHeartbeats 1000000 in
set_option maxRecDepth 1000000 in
theorem merge_rest3 {P : Program} {k : Nat} (T : LT P k) (enc : α → List Value) (g : Nat) (cb : Array Value) (cf : α → α → Int) (tag : α → Nat) (blk off cap N nI : Nat) (w0 w : World)
    (e38 : ∀ args w, (callFunc 38 args).run P w = .ok (.enter 38 args) w)
    (HIH : Hid (Merges P enc k g cb cf tag blk off cap N w0 nI)) (A L1 L2 R1 R2 C : List α) (a s mid m e b : Nat) (ha : A.length = a) (hL1 : a + L1.length = s) (hL2 : s + L2.length = m) (hR1 : m + R1.length = e) (hR2 : e + R2.length = b) (hN : b + C.length = N)
    (hmid : s + R1.length = mid) (hn2 : L2.length + R2.length ≤ nI) (dL1 : Aside (Sd (ltOf cf) tag L1 ∧ Sd (ltOf cf) tag L2 ∧ Sd (ltOf cf) tag R1 ∧ Sd (ltOf cf) tag R2)) (dT : Aside (Tl tag L1 R1 ∧ Tl tag L2 R2))
    (S4 : Aside (∃ M1, M1.Perm (L1 ++ R1) ∧ Sd (ltOf cf) tag M1 ∧ SWL enc k w0 blk off (A ++ (M1 ++ (L2 ++ (R2 ++ C)))) w)) (Fin : World → Prop) (hfin : Aside (∀ M1 M2 W, M1.Perm (L1 ++ R1) → M2.Perm (L2 ++ R2) → Sd (ltOf cf) tag M1 → Sd (ltOf cf) tag M2 → SWL enc k w0 blk off (A ++ (M1 ++ (M2 ++ C))) W → Fin W))
    (Q : Exit → Act → World → Prop) (hQ : Hid (∀ (tmps : Array Value) W, Fin W → Q .normal ⟨tmps, []⟩ W)) (hbN : N < 4611686018427387904) (x5 x6 x7 x8 x9 x10 x11 x12 x13 x14 x15 x16 x17 x19 x21 x22 x23 x25 x26 x27 x28 x29 x30 x31 x32 x33 x34 x35 x36 x37 x38 x39 x40 x41 x42 x43 x44 x45 x46 x47 x48 x49 x50 x51 x52 x53 x54 x55 x56 x57 x58 x59 x60 x61 x62 x63 x64 x65 x66 x67 x68 x69 x70 x71 x72 x73 x74 x75 x76 x77 x78 x79 x80 x81 x82 x83 x84 x85 x86 x87 x88 x89 x90 x91 x92 x93 x94 x95 x96 x97 x98 x99 x100 x101 x102 x103 x104 x105 x106 x107 x108 x109 x110 x111 x112 x113 x114 x115 x116 x117 x118 x119 x120 x121 x122 x123 x124 x125 x126 x127 x128 x129 x130 x131 x132 x133 x134 x135 x136 x137 x138 x139 x140 x141 x142 x143 x144 x145 x146 x147 x148 x149 x150 x151 x152 x153 x154 x155 x156 x157 x158 x159 x160 x161 x162 x163 x164 x165 x166 x167 x168 x169 x170 x171 x172 x173 x174 x175 x176 x177 x178 x179 x180 x181 x182 x183 x184 x185 x186 x187 x188 x189 x190 x191 x192 x193 x194 x195 x196 x197 x198 x199 x200 x201 x202 x203 x204 x205 x206 x207 x208 x209 x210 x211 x212 x213 x214 x215 x216 x217 x218 x219 : Value) :
    Code.wp P (mergeRest 11) Q ⟨#[.slice (some ⟨blk, off, none⟩) N cap, .int .i64 a, .int .i64 m, .int .i64 b, .func (.func g) #[] cb, x5, x6, x7, x8, x9, x10, x11, x12, x13, x14, x15, x16, x17, .int .i64 mid, x19, .int .i64 s, x21, x22, x23, .int .i64 e, x25, x26, x27, x28, x29, x30, x31, x32, x33, x34, x35, x36, x37, x38, x39, x40, x41, x42, x43, x44, x45, x46, x47, x48, x49, x50, x51, x52, x53, x54, x55, x56, x57, x58, x59, x60, x61, x62, x63, x64, x65, x66, x67, x68, x69, x70, x71, x72, x73, x74, x75, x76, x77, x78, x79, x80, x81, x82, x83, x84, x85, x86, x87, x88, x89, x90, x91, x92, x93, x94, x95, x96, x97, x98, x99, x100, x101, x102, x103, x104, x105, x106, x107, x108, x109, x110, x111, x112, x113, x114, x115, x116, x117, x118, x119, x120, x121, x122, x123, x124, x125, x126, x127, x128, x129, x130, x131, x132, x133, x134, x135, x136, x137, x138, x139, x140, x141, x142, x143, x144, x145, x146, x147, x148, x149, x150, x151, x152, x153, x154, x155, x156, x157, x158, x159, x160, x161, x162, x163, x164, x165, x166, x167, x168, x169, x170, x171, x172, x173, x174, x175, x176, x177, x178, x179, x180, x181, x182, x183, x184, x185, x186, x187, x188, x189, x190, x191, x192, x193, x194, x195, x196, x197, x198, x199, x200, x201, x202, x203, x204, x205, x206, x207, x208, x209, x210, x211, x212, x213, x214, x215, x216, x217, x218, x219], []⟩ w := by
  have mixed := T.mixed; have t0 := T.t0; have a0 := T.a0; have z0 := T.z0; have v0 := T.v0; have t3 := T.t3; have a3 := T.a3; have z3 := T.z3; have v3 := T.v3; have t4 := T.t4; have a4 := T.a4; have z4 := T.z4; have v4 := T.v4; have t22 := T.t22; have a22 := T.a22; have z22 := T.z22; have v22 := T.v22; have t25 := T.t25; have a25 := T.a25; have z25 := T.z25; have v25 := T.v25; have t57 := T.t57; have a57 := T.a57; have z57 := T.z57; have v57 := T.v57; have aE := T.aE; have zE := T.zE
  have u3 := run_underlying T.t3; have u57 := run_underlying T.t57
  have hsz : s ≤ N := by omega
  have hez : e ≤ N := by omega
  have hmz : mid ≤ N := by omega
  conv => arg 2; whnf
  go_upto_region 43 with (fail)
  by_cases g1 : mid < e
  · have g1z : (mid : Int) < (e : Int) := by omega
    by_cases g2 : e < b
    · have g2z : (e : Int) < (b : Int) := by omega
      obtain ⟨M1, p1, d1, hS⟩ := S4.out
      have hM1 : a + M1.length = mid := by rw [p1.length_eq, List.length_append]; omega
      have hc := HIH.out (A ++ M1) L2 R2 C mid e b w hn2 (by simp; omega) (by omega) (by omega) hN (by intro h; rw [h] at hL2; simp at hL2; omega) (by intro h; rw [h] at hR2; simp at hR2; omega) dL1.out.2.1 dL1.out.2.2.2 dT.out.2 (by simpa using hS)
      have HCC := Lib.hid hc
      have P1 := Lib.hid p1
      have D1 : Aside _ := d1
      clear hc hS S4 p1 d1
      go_wp2_with (go_at_fn 38; refine HCC.out.mono ?_; rintro e2 w2 ⟨rfl, M2, p2, d2, hS2⟩; have S5 : Aside _ := hfin.out M1 M2 w2 P1.out p2 D1.out d2 (by simpa using hS2); clear p2 d2 hS2)
      exact hQ.out _ _ S5.out
    · have g2z : ¬ (e : Int) < (b : Int) := by omega
      have hz : R2 = [] := List.eq_nil_of_length_eq_zero (by omega)
      obtain ⟨M1, p1, d1, hS⟩ := S4.out
      have S5 : Aside _ := hfin.out M1 (L2 ++ R2) w p1 (List.Perm.refl _) d1 (by rw [hz, List.append_nil]; exact dL1.out.2.1) (by simpa using hS)
      clear hS S4 p1 d1 hz
      go_wp2
      exact hQ.out _ _ S5.out
  · have g1z : ¬ (mid : Int) < (e : Int) := by omega
    have hz : L2 = [] := List.eq_nil_of_length_eq_zero (by omega)
    obtain ⟨M1, p1, d1, hS⟩ := S4.out
    have S5 : Aside _ := hfin.out M1 (L2 ++ R2) w p1 (List.Perm.refl _) d1 (by rw [hz, List.nil_append]; exact dL1.out.2.2.2) (by simpa using hS)
    clear hS S4 p1 d1 hz
    go_wp2
    exact hQ.out _ _ S5.out

set_option maxHeartbeats 1000000 in
set_option maxRecDepth 1000000 in
theorem merge_rest2 {P : Program} {k : Nat} (T : LT P k) (enc : α → List Value) (g : Nat) (cb : Array Value) (cf : α → α → Int) (tag : α → Nat) (blk off cap N nI : Nat) (w0 w : World)
    (e38 : ∀ args w, (callFunc 38 args).run P w = .ok (.enter 38 args) w)
    (HIH : Hid (Merges P enc k g cb cf tag blk off cap N w0 nI)) (A L1 L2 R1 R2 C : List α) (a s mid m e b : Nat) (ha : A.length = a) (hL1 : a + L1.length = s) (hL2 : s + L2.length = m) (hR1 : m + R1.length = e) (hR2 : e + R2.length = b) (hN : b + C.length = N)
    (hmid : s + R1.length = mid) (hn1 : L1.length + R1.length ≤ nI) (hn2 : L2.length + R2.length ≤ nI) (dL1 : Aside (Sd (ltOf cf) tag L1 ∧ Sd (ltOf cf) tag L2 ∧ Sd (ltOf cf) tag R1 ∧ Sd (ltOf cf) tag R2)) (dT : Aside (Tl tag L1 R1 ∧ Tl tag L2 R2))
    (S3 : Aside (SWL enc k w0 blk off (A ++ (L1 ++ (R1 ++ (L2 ++ (R2 ++ C))))) w)) (Fin : World → Prop) (hfin : Aside (∀ M1 M2 W, M1.Perm (L1 ++ R1) → M2.Perm (L2 ++ R2) → Sd (ltOf cf) tag M1 → Sd (ltOf cf) tag M2 → SWL enc k w0 blk off (A ++ (M1 ++ (M2 ++ C))) W → Fin W))
    (Q : Exit → Act → World → Prop) (hQ : Hid (∀ (tmps : Array Value) W, Fin W → Q .normal ⟨tmps, []⟩ W)) (hbN : N < 4611686018427387904) (x5 x6 x7 x8 x9 x10 x11 x12 x13 x14 x15 x16 x17 x19 x21 x22 x23 x25 x26 x27 x28 x29 x30 x31 x32 x33 x34 x35 x36 x37 x38 x39 x40 x41 x42 x43 x44 x45 x46 x47 x48 x49 x50 x51 x52 x53 x54 x55 x56 x57 x58 x59 x60 x61 x62 x63 x64 x65 x66 x67 x68 x69 x70 x71 x72 x73 x74 x75 x76 x77 x78 x79 x80 x81 x82 x83 x84 x85 x86 x87 x88 x89 x90 x91 x92 x93 x94 x95 x96 x97 x98 x99 x100 x101 x102 x103 x104 x105 x106 x107 x108 x109 x110 x111 x112 x113 x114 x115 x116 x117 x118 x119 x120 x121 x122 x123 x124 x125 x126 x127 x128 x129 x130 x131 x132 x133 x134 x135 x136 x137 x138 x139 x140 x141 x142 x143 x144 x145 x146 x147 x148 x149 x150 x151 x152 x153 x154 x155 x156 x157 x158 x159 x160 x161 x162 x163 x164 x165 x166 x167 x168 x169 x170 x171 x172 x173 x174 x175 x176 x177 x178 x179 x180 x181 x182 x183 x184 x185 x186 x187 x188 x189 x190 x191 x192 x193 x194 x195 x196 x197 x198 x199 x200 x201 x202 x203 x204 x205 x206 x207 x208 x209 x210 x211 x212 x213 x214 x215 x216 x217 x218 x219 : Value) :
    Code.wp P (mergeRest 10) Q ⟨#[.slice (some ⟨blk, off, none⟩) N cap, .int .i64 a, .int .i64 m, .int .i64 b, .func (.func g) #[] cb, x5, x6, x7, x8, x9, x10, x11, x12, x13, x14, x15, x16, x17, .int .i64 mid, x19, .int .i64 s, x21, x22, x23, .int .i64 e, x25, x26, x27, x28, x29, x30, x31, x32, x33, x34, x35, x36, x37, x38, x39, x40, x41, x42, x43, x44, x45, x46, x47, x48, x49, x50, x51, x52, x53, x54, x55, x56, x57, x58, x59, x60, x61, x62, x63, x64, x65, x66, x67, x68, x69, x70, x71, x72, x73, x74, x75, x76, x77, x78, x79, x80, x81, x82, x83, x84, x85, x86, x87, x88, x89, x90, x91, x92, x93, x94, x95, x96, x97, x98, x99, x100, x101, x102, x103, x104, x105, x106, x107, x108, x109, x110, x111, x112, x113, x114, x115, x116, x117, x118, x119, x120, x121, x122, x123, x124, x125, x126, x127, x128, x129, x130, x131, x132, x133, x134, x135, x136, x137, x138, x139, x140, x141, x142, x143, x144, x145, x146, x147, x148, x149, x150, x151, x152, x153, x154, x155, x156, x157, x158, x159, x160, x161, x162, x163, x164, x165, x166, x167, x168, x169, x170, x171, x172, x173, x174, x175, x176, x177, x178, x179, x180, x181, x182, x183, x184, x185, x186, x187, x188, x189, x190, x191, x192, x193, x194, x195, x196, x197, x198, x199, x200, x201, x202, x203, x204, x205, x206, x207, x208, x209, x210, x211, x212, x213, x214, x215, x216, x217, x218, x219], []⟩ w := by
  have mixed := T.mixed; have t0 := T.t0; have a0 := T.a0; have z0 := T.z0; have v0 := T.v0; have t3 := T.t3; have a3 := T.a3; have z3 := T.z3; have v3 := T.v3; have t4 := T.t4; have a4 := T.a4; have z4 := T.z4; have v4 := T.v4; have t22 := T.t22; have a22 := T.a22; have z22 := T.z22; have v22 := T.v22; have t25 := T.t25; have a25 := T.a25; have z25 := T.z25; have v25 := T.v25; have t57 := T.t57; have a57 := T.a57; have z57 := T.z57; have v57 := T.v57; have aE := T.aE; have zE := T.zE
  have u3 := run_underlying T.t3; have u57 := run_underlying T.t57
  have hsz : s ≤ N := by omega
  have hez : e ≤ N := by omega
  have hmz : mid ≤ N := by omega
  conv => arg 2; whnf
  go_upto_region 41 with (fail)
  rename_i K aK K1 aK1
  have HK := Lib.hid aK
  clear aK
  by_cases g1 : a < s
  · have g1z : (a : Int) < (s : Int) := by omega
    by_cases g2 : s < mid
    · have g2z : (s : Int) < (mid : Int) := by omega
      have hc := HIH.out A L1 R1 (L2 ++ (R2 ++ C)) a s mid w hn1 ha hL1 hmid (by simp; omega) (by intro h; rw [h] at hL1; simp at hL1; omega) (by intro h; rw [h] at hmid; simp at hmid; omega) dL1.out.1 dL1.out.2.2.1 dT.out.1 S3.out
      have HCC := Lib.hid hc
      clear hc S3
      go_wp2_with (go_at_fn 38; refine HCC.out.mono ?_; rintro e2 w2 ⟨rfl, hS2⟩; have S4 : Aside _ := hS2; clear hS2)
      refine HK.out _ _ ?_
      exact merge_rest3 T enc g cb cf tag blk off cap N nI w0 _ e38 HIH A L1 L2 R1 R2 C a s mid m e b ha hL1 hL2 hR1 hR2 hN hmid hn2 dL1 dT S4 Fin hfin Q hQ hbN _ _ _ _ _ _ _ _ _ _ _ _ _ _ _ _ _ _ _ _ _ _ _ _ _ _ _ _ _ _ _ _ _ _ _ _ _ _ _ _ _ _ _ _ _ _ _ _ _ _ _ _ _ _ _ _ _ _ _ _ _ _ _ _ _ _ _ _ _ _ _ _ _ _ _ _ _ _ _ _ _ _ _ _ _ _ _ _ _ _ _ _ _ _ _ _ _ _ _ _ _ _ _ _ _ _ _ _ _ _ _ _ _ _ _ _ _ _ _ _ _ _ _ _ _ _ _ _ _ _ _ _ _ _ _ _ _ _ _ _ _ _ _ _ _ _ _ _ _ _ _ _ _ _ _ _ _ _ _ _ _ _ _ _ _ _ _ _ _ _ _ _ _ _ _ _ _ _ _ _ _ _ _ _ _ _ _ _ _ _ _ _ _ _ _ _ _ _ _ _ _ _ _ _ _ _ _ _ _ _ _ _
    · have g2z : ¬ (s : Int) < (mid : Int) := by omega
      have hz : R1 = [] := List.eq_nil_of_length_eq_zero (by omega)
      have S4 : Aside (∃ M1, M1.Perm (L1 ++ R1) ∧ Sd (ltOf cf) tag M1 ∧ SWL enc k w0 blk off (A ++ (M1 ++ (L2 ++ (R2 ++ C)))) w) := ⟨L1 ++ R1, List.Perm.refl _, by rw [hz, List.append_nil]; exact dL1.out.1, by have := S3.out; simpa [SWL] using this⟩
      clear S3 hz
      go_wp2
      refine HK.out _ _ ?_
      exact merge_rest3 T enc g cb cf tag blk off cap N nI w0 _ e38 HIH A L1 L2 R1 R2 C a s mid m e b ha hL1 hL2 hR1 hR2 hN hmid hn2 dL1 dT S4 Fin hfin Q hQ hbN _ _ _ _ _ _ _ _ _ _ _ _ _ _ _ _ _ _ _ _ _ _ _ _ _ _ _ _ _ _ _ _ _ _ _ _ _ _ _ _ _ _ _ _ _ _ _ _ _ _ _ _ _ _ _ _ _ _ _ _ _ _ _ _ _ _ _ _ _ _ _ _ _ _ _ _ _ _ _ _ _ _ _ _ _ _ _ _ _ _ _ _ _ _ _ _ _ _ _ _ _ _ _ _ _ _ _ _ _ _ _ _ _ _ _ _ _ _ _ _ _ _ _ _ _ _ _ _ _ _ _ _ _ _ _ _ _ _ _ _ _ _ _ _ _ _ _ _ _ _ _ _ _ _ _ _ _ _ _ _ _ _ _ _ _ _ _ _ _ _ _ _ _ _ _ _ _ _ _ _ _ _ _ _ _ _ _ _ _ _ _ _ _ _ _ _ _ _ _ _ _ _ _ _ _ _ _ _ _ _ _ _
  · have g1z : ¬ (a : Int) < (s : Int) := by omega
    have hz : L1 = [] := List.eq_nil_of_length_eq_zero (by omega)
    have S4 : Aside (∃ M1, M1.Perm (L1 ++ R1) ∧ Sd (ltOf cf) tag M1 ∧ SWL enc k w0 blk off (A ++ (M1 ++ (L2 ++ (R2 ++ C)))) w) := ⟨L1 ++ R1, List.Perm.refl _, by rw [hz, List.nil_append]; exact dL1.out.2.2.1, by have := S3.out; simpa [SWL] using this⟩
    clear S3 hz
    go_wp2
    refine HK.out _ _ ?_
    exact merge_rest3 T enc g cb cf tag blk off cap N nI w0 _ e38 HIH A L1 L2 R1 R2 C a s mid m e b ha hL1 hL2 hR1 hR2 hN hmid hn2 dL1 dT S4 Fin hfin Q hQ hbN _ _ _ _ _ _ _ _ _ _ _ _ _ _ _ _ _ _ _ _ _ _ _ _ _ _ _ _ _ _ _ _ _ _ _ _ _ _ _ _ _ _ _ _ _ _ _ _ _ _ _ _ _ _ _ _ _ _ _ _ _ _ _ _ _ _ _ _ _ _ _ _ _ _ _ _ _ _ _ _ _ _ _ _ _ _ _ _ _ _ _ _ _ _ _ _ _ _ _ _ _ _ _ _ _ _ _ _ _ _ _ _ _ _ _ _ _ _ _ _ _ _ _ _ _ _ _ _ _ _ _ _ _ _ _ _ _ _ _ _ _ _ _ _ _ _ _ _ _ _ _ _ _ _ _ _ _ _ _ _ _ _ _ _ _ _ _ _ _ _ _ _ _ _ _ _ _ _ _ _ _ _ _ _ _ _ _ _ _ _ _ _ _ _ _ _ _ _ _ _ _ _ _ _ _ _ _ _ _ _ _ _

set_option maxHeartbeats 1000000 in
set_option maxRecDepth 1000000 in
theorem merge_rest1 {P : Program} {k : Nat} (T : LT P k) (enc : α → List Value) (g : Nat) (cb : Array Value) (cf : α → α → Int) (tag : α → Nat) (blk off cap N nI : Nat) (w0 w : World)
    (e38 : ∀ args w, (callFunc 38 args).run P w = .ok (.enter 38 args) w)
    (e39 : ∀ args w, (callFunc 39 args).run P w = .ok (.enter 39 args) w) (HROT : Hid (Turns P enc k g cb blk off cap N w0)) (HIH : Hid (Merges P enc k g cb cf tag blk off cap N w0 nI)) (A L1 L2 R1 R2 C : List α) (a s mid m e b : Nat) (ha : A.length = a) (hL1 : a + L1.length = s) (hL2 : s + L2.length = m) (hR1 : m + R1.length = e) (hR2 : e + R2.length = b) (hN : b + C.length = N)
    (hmid : s + R1.length = mid) (hn1 : L1.length + R1.length ≤ nI) (hn2 : L2.length + R2.length ≤ nI) (dL1 : Aside (Sd (ltOf cf) tag L1 ∧ Sd (ltOf cf) tag L2 ∧ Sd (ltOf cf) tag R1 ∧ Sd (ltOf cf) tag R2)) (dT : Aside (Tl tag L1 R1 ∧ Tl tag L2 R2))
    (S2 : Aside (SWL enc k w0 blk off (A ++ (L1 ++ (L2 ++ (R1 ++ (R2 ++ C))))) w)) (Fin : World → Prop) (hfin : Aside (∀ M1 M2 W, M1.Perm (L1 ++ R1) → M2.Perm (L2 ++ R2) → Sd (ltOf cf) tag M1 → Sd (ltOf cf) tag M2 → SWL enc k w0 blk off (A ++ (M1 ++ (M2 ++ C))) W → Fin W))
    (Q : Exit → Act → World → Prop) (hQ : Hid (∀ (tmps : Array Value) W, Fin W → Q .normal ⟨tmps, []⟩ W)) (hbN : N < 4611686018427387904) (x5 x6 x7 x8 x9 x10 x11 x12 x13 x14 x15 x16 x17 x19 x21 x22 x23 x25 x26 x27 x28 x29 x30 x31 x32 x33 x34 x35 x36 x37 x38 x39 x40 x41 x42 x43 x44 x45 x46 x47 x48 x49 x50 x51 x52 x53 x54 x55 x56 x57 x58 x59 x60 x61 x62 x63 x64 x65 x66 x67 x68 x69 x70 x71 x72 x73 x74 x75 x76 x77 x78 x79 x80 x81 x82 x83 x84 x85 x86 x87 x88 x89 x90 x91 x92 x93 x94 x95 x96 x97 x98 x99 x100 x101 x102 x103 x104 x105 x106 x107 x108 x109 x110 x111 x112 x113 x114 x115 x116 x117 x118 x119 x120 x121 x122 x123 x124 x125 x126 x127 x128 x129 x130 x131 x132 x133 x134 x135 x136 x137 x138 x139 x140 x141 x142 x143 x144 x145 x146 x147 x148 x149 x150 x151 x152 x153 x154 x155 x156 x157 x158 x159 x160 x161 x162 x163 x164 x165 x166 x167 x168 x169 x170 x171 x172 x173 x174 x175 x176 x177 x178 x179 x180 x181 x182 x183 x184 x185 x186 x187 x188 x189 x190 x191 x192 x193 x194 x195 x196 x197 x198 x199 x200 x201 x202 x203 x204 x205 x206 x207 x208 x209 x210 x211 x212 x213 x214 x215 x216 x217 x218 x219 : Value) :
    Code.wp P (mergeRest 9) Q ⟨#[.slice (some ⟨blk, off, none⟩) N cap, .int .i64 a, .int .i64 m, .int .i64 b, .func (.func g) #[] cb, x5, x6, x7, x8, x9, x10, x11, x12, x13, x14, x15, x16, x17, .int .i64 mid, x19, .int .i64 s, x21, x22, x23, .int .i64 e, x25, x26, x27, x28, x29, x30, x31, x32, x33, x34, x35, x36, x37, x38, x39, x40, x41, x42, x43, x44, x45, x46, x47, x48, x49, x50, x51, x52, x53, x54, x55, x56, x57, x58, x59, x60, x61, x62, x63, x64, x65, x66, x67, x68, x69, x70, x71, x72, x73, x74, x75, x76, x77, x78, x79, x80, x81, x82, x83, x84, x85, x86, x87, x88, x89, x90, x91, x92, x93, x94, x95, x96, x97, x98, x99, x100, x101, x102, x103, x104, x105, x106, x107, x108, x109, x110, x111, x112, x113, x114, x115, x116, x117, x118, x119, x120, x121, x122, x123, x124, x125, x126, x127, x128, x129, x130, x131, x132, x133, x134, x135, x136, x137, x138, x139, x140, x141, x142, x143, x144, x145, x146, x147, x148, x149, x150, x151, x152, x153, x154, x155, x156, x157, x158, x159, x160, x161, x162, x163, x164, x165, x166, x167, x168, x169, x170, x171, x172, x173, x174, x175, x176, x177, x178, x179, x180, x181, x182, x183, x184, x185, x186, x187, x188, x189, x190, x191, x192, x193, x194, x195, x196, x197, x198, x199, x200, x201, x202, x203, x204, x205, x206, x207, x208, x209, x210, x211, x212, x213, x214, x215, x216, x217, x218, x219], []⟩ w := by
  have mixed := T.mixed; have t0 := T.t0; have a0 := T.a0; have z0 := T.z0; have v0 := T.v0; have t3 := T.t3; have a3 := T.a3; have z3 := T.z3; have v3 := T.v3; have t4 := T.t4; have a4 := T.a4; have z4 := T.z4; have v4 := T.v4; have t22 := T.t22; have a22 := T.a22; have z22 := T.z22; have v22 := T.v22; have t25 := T.t25; have a25 := T.a25; have z25 := T.z25; have v25 := T.v25; have t57 := T.t57; have a57 := T.a57; have z57 := T.z57; have v57 := T.v57; have aE := T.aE; have zE := T.zE
  have u3 := run_underlying T.t3; have u57 := run_underlying T.t57
  have hsz : s ≤ N := by omega
  have hez : e ≤ N := by omega
  have hmz : mid ≤ N := by omega
  conv => arg 2; whnf
  go_upto_region 39 with (fail)
  rename_i K aK K1 aK1
  have HK := Lib.hid aK
  clear aK
  by_cases g1 : s < m
  · have g1z : (s : Int) < (m : Int) := by omega
    by_cases g2 : m < e
    · have g2z : (m : Int) < (e : Int) := by omega
      have hc := HROT.out (A ++ L1) L2 R1 (R2 ++ C) s m e w (by simp; omega) hL2 hR1 (by simp; omega) (by intro h; rw [h] at hL2; simp at hL2; omega) (by intro h; rw [h] at hR1; simp at hR1; omega) (by have := S2.out; simpa [SWL] using this)
      have HCC := Lib.hid hc
      clear hc S2
      go_wp2_with (go_at_fn 39; refine HCC.out.mono ?_; rintro e2 w2 ⟨rfl, hS2⟩; have hS3 : SWL enc k w0 blk off (A ++ (L1 ++ (R1 ++ (L2 ++ (R2 ++ C))))) w2 := (by simpa [SWL] using hS2); have S3 : Aside _ := hS3; clear hS2 hS3)
      refine HK.out _ _ ?_
      exact merge_rest2 T enc g cb cf tag blk off cap N nI w0 _ e38 HIH A L1 L2 R1 R2 C a s mid m e b ha hL1 hL2 hR1 hR2 hN hmid hn1 hn2 dL1 dT S3 Fin hfin Q hQ hbN _ _ _ _ _ _ _ _ _ _ _ _ _ _ _ _ _ _ _ _ _ _ _ _ _ _ _ _ _ _ _ _ _ _ _ _ _ _ _ _ _ _ _ _ _ _ _ _ _ _ _ _ _ _ _ _ _ _ _ _ _ _ _ _ _ _ _ _ _ _ _ _ _ _ _ _ _ _ _ _ _ _ _ _ _ _ _ _ _ _ _ _ _ _ _ _ _ _ _ _ _ _ _ _ _ _ _ _ _ _ _ _ _ _ _ _ _ _ _ _ _ _ _ _ _ _ _ _ _ _ _ _ _ _ _ _ _ _ _ _ _ _ _ _ _ _ _ _ _ _ _ _ _ _ _ _ _ _ _ _ _ _ _ _ _ _ _ _ _ _ _ _ _ _ _ _ _ _ _ _ _ _ _ _ _ _ _ _ _ _ _ _ _ _ _ _ _ _ _ _ _ _ _ _ _ _ _ _ _ _ _ _
    · have g2z : ¬ (m : Int) < (e : Int) := by omega
      have hz : R1 = [] := List.eq_nil_of_length_eq_zero (by omega)
      have S3 : Aside (SWL enc k w0 blk off (A ++ (L1 ++ (R1 ++ (L2 ++ (R2 ++ C))))) w) := by
        have hS := S2.out
        rw [hz] at hS ⊢
        exact hS
      clear S2 hz
      go_wp2
      refine HK.out _ _ ?_
      exact merge_rest2 T enc g cb cf tag blk off cap N nI w0 _ e38 HIH A L1 L2 R1 R2 C a s mid m e b ha hL1 hL2 hR1 hR2 hN hmid hn1 hn2 dL1 dT S3 Fin hfin Q hQ hbN _ _ _ _ _ _ _ _ _ _ _ _ _ _ _ _ _ _ _ _ _ _ _ _ _ _ _ _ _ _ _ _ _ _ _ _ _ _ _ _ _ _ _ _ _ _ _ _ _ _ _ _ _ _ _ _ _ _ _ _ _ _ _ _ _ _ _ _ _ _ _ _ _ _ _ _ _ _ _ _ _ _ _ _ _ _ _ _ _ _ _ _ _ _ _ _ _ _ _ _ _ _ _ _ _ _ _ _ _ _ _ _ _ _ _ _ _ _ _ _ _ _ _ _ _ _ _ _ _ _ _ _ _ _ _ _ _ _ _ _ _ _ _ _ _ _ _ _ _ _ _ _ _ _ _ _ _ _ _ _ _ _ _ _ _ _ _ _ _ _ _ _ _ _ _ _ _ _ _ _ _ _ _ _ _ _ _ _ _ _ _ _ _ _ _ _ _ _ _ _ _ _ _ _ _ _ _ _ _ _ _ _
  · have g1z : ¬ (s : Int) < (m : Int) := by omega
    have hz : L2 = [] := List.eq_nil_of_length_eq_zero (by omega)
    have S3 : Aside (SWL enc k w0 blk off (A ++ (L1 ++ (R1 ++ (L2 ++ (R2 ++ C))))) w) := by
      have hS := S2.out
      rw [hz] at hS ⊢
      exact hS
    clear S2 hz
    go_wp2
    refine HK.out _ _ ?_
    exact merge_rest2 T enc g cb cf tag blk off cap N nI w0 _ e38 HIH A L1 L2 R1 R2 C a s mid m e b ha hL1 hL2 hR1 hR2 hN hmid hn1 hn2 dL1 dT S3 Fin hfin Q hQ hbN _ _ _ _ _ _ _ _ _ _ _ _ _ _ _ _ _ _ _ _ _ _ _ _ _ _ _ _ _ _ _ _ _ _ _ _ _ _ _ _ _ _ _ _ _ _ _ _ _ _ _ _ _ _ _ _ _ _ _ _ _ _ _ _ _ _ _ _ _ _ _ _ _ _ _ _ _ _ _ _ _ _ _ _ _ _ _ _ _ _ _ _ _ _ _ _ _ _ _ _ _ _ _ _ _ _ _ _ _ _ _ _ _ _ _ _ _ _ _ _ _ _ _ _ _ _ _ _ _ _ _ _ _ _ _ _ _ _ _ _ _ _ _ _ _ _ _ _ _ _ _ _ _ _ _ _ _ _ _ _ _ _ _ _ _ _ _ _ _ _ _ _ _ _ _ _ _ _ _ _ _ _ _ _ _ _ _ _ _ _ _ _ _ _ _ _ _ _ _ _ _ _ _ _ _ _ _ _ _ _ _ _
end Go.Proofs.Ytkjddfmhledckaa.Stab
