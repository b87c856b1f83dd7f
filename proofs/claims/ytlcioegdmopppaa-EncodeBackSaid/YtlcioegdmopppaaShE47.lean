/- Printed by shake.py. -/
import Derived.Test.YtlcioegdmopppaaShE43
import Derived.Test.YtlcioegdmopppaaShE46
set_option linter.unusedSimpArgs false
namespace Go.Proofs.Ytlcioegdmopppaa.En
open Go.RowKit Go.Proofs.Ytlcioegdmopppaa.PEncodeBack Go.Proofs.YtlcioegdmopppaaW.PrintWords
set_option linter.unusedVariables false
theorem flat_bound {α β:Type} (f:α→List β) (B:Nat):∀ l:List α,(∀ x ∈ l,(f x).length≤B)→(l.flatMap f).length≤l.length * B
 | [],_=>by simp
 | x :: l,h=>by
  rw [List.flatMap_cons,List.length_append,List.length_cons,Nat.add_mul,Nat.one_mul]
  have:=flat_bound f B l fun y hy=>h y (by simp [hy])
  have:=h x (by simp)
  omega
theorem opT_len {o:S39} (hok:okOp o=true) (n:Nat) (hn:o.f3.length≤n):(opT o).length≤11 * n+24:=by
 unfold okOp at hok
 simp only [Bool.and_eq_true] at hok
 have h1:=(numS_len hok.1).2
 unfold opT
 by_cases h0:o.f0=true
 ·rw [if_pos h0] at hok ⊢
  simp only [Bool.and_eq_true] at hok
  have:=texts_ok_len o.f3 hok.2.2
  rw [texts_cons]
  simp only [List.length_append,List.length_cons,List.length_nil]
  omega
 ·rw [if_neg h0] at hok ⊢
  simp only [Bool.and_eq_true] at hok
  have h2:=(numS_len hok.2.1).2
  rw [texts_cons,texts_one]
  simp only [List.length_append,List.length_cons,List.length_nil]
  omega
theorem txnT_len {t:S42} (hok:okT t=true) (m n:Nat) (hm:t.f2.length≤m) (hn:∀ o ∈ t.f2,o.f3.length≤n):(txnT t).length≤15+m * (11 * n+24):=by
 unfold okT at hok
 simp only [Bool.and_eq_true] at hok
 have h1:=(numS_len hok.1).2
 have h2:=flat_bound opT (11 * n+24) t.f2 fun o ho=>opT_len (List.all_eq_true.1 hok.2 o ho) n (hn o ho)
 have h3:t.f2.length * (11 * n+24)≤m * (11 * n+24):=Nat.mul_le_mul_right _ hm
 unfold txnT headT
 rw [texts_one]
 simp only [List.length_append,List.length_cons,List.length_nil]
 omega
end Go.Proofs.Ytlcioegdmopppaa.En
namespace Go.Proofs.Ytlcioegdmopppaa
open Go.RowKit Go.Proofs.Ytlcioegdmopppaa.PEncodeBack Go.Proofs.YtlcioegdmopppaaW.PrintWords Hs
open En (okN okOp okT opT headT txnT histT opsP txnsP partsP okN_iff checkP encP Fits EOut POut numS)
set_option linter.unusedVariables false
theorem br_C {w:World} {base:Nat} {A:Option Addr} {n c:Nat} {xs:List Int} (h:BR w base (.slice A n c) xs) (hl:xs.length≤1000000):n=xs.length∧xs.length≤c∧Kd.C (Kd.int .u8) w A xs.length xs:=by
 obtain ⟨h1,h2,h3⟩:=h.cells
 refine ⟨h1,h2,rfl,by omega,fun h0=>?_⟩
 obtain ⟨ad,h4,h5⟩:=h3 (by rw [nums_len];exact h0)
 refine ⟨ad,h4,fun j q hq=>⟨[.int .u8 q],rfl,rfl,fun i u hu=>?_⟩⟩
 have hi:i=0:=by have:=(List.getElem?_eq_some_iff.1 hu).1;simp at this;omega
 subst hi
 simp at hu
 subst hu
 have h6:=h5 j (.int .u8 q) (by simp [nums,hq])
 show w.cell? (ad.add (j * 1+0))=_
 rw [Nat.mul_one,Nat.add_zero]
 exact h6
theorem hist_bytes (h:List S42):Bytes (histT h):=fun x hx=>by
 unfold histT at hx
 obtain ⟨t,-,ht⟩:=List.mem_flatMap.1 hx
 unfold txnT at ht
 rcases List.mem_append.1 ht with ht|ht
 ·unfold headT at ht
  rcases List.mem_append.1 ht with ht|ht
  ·rcases List.mem_cons.1 ht with rfl|ht
   ·omega
   ·exact texts_bytes _ x ht
  ·simp only [List.mem_cons,List.not_mem_nil,or_false] at ht
   rcases ht with rfl|rfl|rfl
   ·omega
   ·split <;> omega
   ·omega
 ·obtain ⟨o,-,ho⟩:=List.mem_flatMap.1 ht
  unfold opT at ho
  rcases List.mem_append.1 ho with ho|ho
  ·split at ho
   ·rcases List.mem_cons.1 ho with rfl|ho
    ·omega
    ·exact texts_bytes _ x ho
   ·rcases List.mem_cons.1 ho with rfl|ho
    ·omega
    ·exact texts_bytes _ x ho
  ·simp only [List.mem_cons,List.not_mem_nil,or_false] at ho
   subst ho
   omega
theorem few_sb {h:List S42} (hf:fewP 40 100 h=true):SB h:=by
 unfold fewP at hf
 simp only [Bool.and_eq_true,decide_eq_true_eq] at hf
 have hl:=fewG_le 100 h 0 hf.2
 unfold SB big
 exact ⟨by omega,fun t ht=>⟨by have:=(hl t ht).1;omega,fun o ho=>by have:=(hl t ht).2 o ho;omega⟩⟩
theorem few_fits {h:List S42} (hf:fewP 40 100 h=true):Fits h:=by
 unfold fewP at hf
 simp only [Bool.and_eq_true,decide_eq_true_eq] at hf
 have hl:=fewG_le 100 h 0 hf.2
 refine ⟨⟨by omega,fun t ht=>by have:=(hl t ht).1;omega,fun t ht o ho=>by have:=(hl t ht).2 o ho;omega⟩,fun hok=>?_⟩
 have h1:=En.flat_bound txnT (15+100 * (11 * 100+24)) h fun t ht=>En.txnT_len (List.all_eq_true.1 hok t ht) 100 100 (hl t ht).1 (hl t ht).2
 have h2:h.length * (15+100 * (11 * 100+24))≤40 * (15+100 * (11 * 100+24)):=Nat.mul_le_mul_right _ hf.1
 unfold histT
 omega
theorem check_len {h:List S42} (hc:checkP h=0):(histT h).length≤262144:=by
 unfold checkP at hc
 by_cases h1:1024 < h.length ∨ 4096 < En.opsN h
 ·rw [if_pos h1] at hc;exact absurd hc (by decide)
 rw [if_neg h1] at hc
 by_cases h2:partsP h ≠ 0
 ·rw [if_pos h2] at hc;exact absurd hc h2
 rw [if_neg h2] at hc
 by_cases h3:262144 < (histT h).length
 ·rw [if_pos h3] at hc;exact absurd hc (by decide)
 omega
section
variable (w:World) (h:List S42) (A:Option Addr) (c:Nat) (hr:Kd.C k42 w A h.length h) (hc:h.length≤c)
include hr hc
set_option maxHeartbeats 4000000 in
set_option maxRecDepth 100000 in
theorem back_bad (hf:fewP 40 100 h=true) (h0:checkP h ≠ 0) :
 Calls Try.prog 9 #[.agg #[.slice A h.length c]] w fun e w'=>e=.returned (.bool true)∧Below w.heap.size w w':=by
 have hfit:=few_fits hf
 have HR:=Lib.hid hr
 have HF:=Lib.hid (fun (W:World) (hC:Kd.C k42 W A h.length h)=>few_c W h A c hC hc)
 rw [hf] at HF
 have HB0:Hid (Below w.heap.size w (w.alloc (.cells #[.slice A h.length c] 24))):=Lib.hid ((Below.refl _ _).alloc (Nat.le_refl _) _)
 have HZ:Hid (Blk (w.alloc (.cells #[.slice A h.length c] 24)) w.heap.size [.slice A h.length c] 24):=Lib.hid (Blk.new w [.slice A h.length c] 24)
 have HE:=Lib.hid (fun (W:World) (hC:Kd.C k42 W A h.length h)=>En.encode_c W h A c hC hc hfit)
 unfold EOut at HE
 rw [show encP h=[] from if_neg h0] at HE
 have HRC:=Lib.hid (fun (W:World) (hC:Kd.C k42 W A h.length h)=>En.rcheck_c W h A c hC hc hfit)
 unfold POut at HRC
 have hne:(checkP h != 0)=true:=by simp [h0]
 clear hr hc hf hfit h0
 generalize checkP h=cp at *
 go_enter Try.func9,Try.ntmps9
 go_wp2_with fail
 refine (HF.out _ (Kd.C_below HR.out HB0.out)).mono ?_
 rintro e w1 ⟨rfl,hb1⟩
 have HB1:=Lib.hid (link HB0.out hb1)
 have HZ1:=Lib.hid (HZ.out.below hb1 HZ.out.lt)
 have hz1:=HZ1.out.cell 0
 simp only [List.getElem?_cons_zero] at hz1
 clear hb1
 go_wp2_with fail
 refine (HE.out _ (Kd.C_below HR.out HB1.out)).mono ?_
 rintro e w2 ⟨A2,n2,c2,rfl,hB2,hb2⟩
 have HB2:=Lib.hid (link HB1.out hb2)
 have HZ2:=Lib.hid (HZ1.out.below hb2 HZ1.out.lt)
 have hz2:=HZ2.out.cell 0
 simp only [List.getElem?_cons_zero] at hz2
 obtain ⟨rfl,-,-⟩:=br_C hB2 (by simp)
 clear hb2 hB2 hz1
 simp only [List.length_nil]
 go_wp2_with fail
 refine (HRC.out _ (Kd.C_below HR.out HB2.out)).mono ?_
 rintro e w3 ⟨rfl,hb3⟩
 have HB3:=Lib.hid (link HB2.out hb3)
 clear hb3 hz2
 go_wp2_with fail
 refine (En.works _).mono ?_
 rintro e w4 ⟨rfl,hb4⟩
 go_wp2
 go_ret
 exact ⟨rfl,link HB3.out hb4⟩
set_option maxHeartbeats 4000000 in
set_option maxRecDepth 100000 in
theorem back_good (hf:fewP 40 100 h=true) (h0:checkP h=0) :
 Calls Try.prog 9 #[.agg #[.slice A h.length c]] w fun e w'=>e=.returned (.bool true)∧Below w.heap.size w w':=by
 have hfit:=few_fits hf
 have hsb:=few_sb hf
 have HR:=Lib.hid hr
 have HF:=Lib.hid (fun (W:World) (hC:Kd.C k42 W A h.length h)=>few_c W h A c hC hc)
 rw [hf] at HF
 have HB0:Hid (Below w.heap.size w (w.alloc (.cells #[.slice A h.length c] 24))):=Lib.hid ((Below.refl _ _).alloc (Nat.le_refl _) _)
 have HZ:Hid (Blk (w.alloc (.cells #[.slice A h.length c] 24)) w.heap.size [.slice A h.length c] 24):=Lib.hid (Blk.new w [.slice A h.length c] 24)
 have HE:=Lib.hid (fun (W:World) (hC:Kd.C k42 W A h.length h)=>En.encode_c W h A c hC hc hfit)
 unfold EOut at HE
 rw [h0,show encP h=histT h from if_pos h0] at HE
 have HD:=Lib.hid (fun (W:World) (B:Option Addr) (d:Nat) (hC:Kd.C (Kd.int .u8) W B (histT h).length (histT h)) (hd:(histT h).length≤d)=>decode_at W B (histT h) d 4096 hC hd (hist_bytes h))
 have HRD:=Lib.hid (fun (W:World) (B:Option Addr) (d:Nat) (hC:Kd.C (Kd.int .u8) W B (histT h).length (histT h)) (hd:(histT h).length≤d)=>rdecode_c W B (histT h) d 4096 hC hd)
 rw [dec_back h0] at HD HRD
 unfold DRes at HD HRD
 have HLEN:=Lib.hid (check_len h0)
 have HS:=Lib.hid (fun (W:World) (B:Option Addr) (d:Nat) (hB:Kd.C k42 W B h.length h) (hA:Kd.C k42 W A h.length h) (hd:h.length≤d)=>rsame_c W h h B A d c hB hA hd hc hsb)
 rw [eqH_refl] at HS
 clear hr hc hf hfit h0 hsb
 go_enter Try.func9,Try.ntmps9
 go_wp2_with fail
 refine (HF.out _ (Kd.C_below HR.out HB0.out)).mono ?_
 rintro e w1 ⟨rfl,hb1⟩
 have HB1:=Lib.hid (link HB0.out hb1)
 have HZ1:=Lib.hid (HZ.out.below hb1 HZ.out.lt)
 have hz1:=HZ1.out.cell 0
 simp only [List.getElem?_cons_zero] at hz1
 clear hb1
 go_wp2_with fail
 refine (HE.out _ (Kd.C_below HR.out HB1.out)).mono ?_
 rintro e w2 ⟨A2,n2,c2,rfl,hB2,hb2⟩
 have HB2:=Lib.hid (link HB1.out hb2)
 have HZ2:=Lib.hid (HZ1.out.below hb2 HZ1.out.lt)
 obtain ⟨rfl,hc2,hC2⟩:=br_C hB2 (by have:=HLEN.out;omega)
 have HC2:=Lib.hid hC2
 have HCC:=Lib.hid hc2
 clear hb2 hB2 hz1 hC2 hc2
 generalize (histT h).length=n2 at *
 go_wp2_with fail
 refine (HD.out _ _ _ HC2.out HCC.out).mono ?_
 rintro e w3 ⟨B1,d1,rfl,hd1,hC3,hb3⟩
 simp only at hd1 hC3 ⊢
 have HX3:=Lib.hid (Blk.new w3 [.slice B1 h.length d1] 24)
 have HBx3:=Lib.hid (below_alloc (Below.refl w3.heap.size w3) (.cells #[.slice B1 h.length d1] 24))
 have HB3:=Lib.hid (link (link HB2.out hb3) HBx3.out)
 have HZ3:=Lib.hid ((HZ2.out.below hb3 HZ2.out.lt).alloc (.cells #[.slice B1 h.length d1] 24))
 have HC3:=Lib.hid (Kd.C_alloc hC3 (.cells #[.slice B1 h.length d1] 24))
 have HC23:=Lib.hid (Kd.C_below (Kd.C_below HC2.out hb3) HBx3.out)
 have HD1:=Lib.hid hd1
 clear hd1 hC3 hb3
 go_wp2_with fail
 refine (HRD.out _ _ _ HC23.out HCC.out).mono ?_
 rintro e w4 ⟨B2,d2,rfl,hd2,hC4,hb4⟩
 simp only at hd2 hC4 ⊢
 have HX4:=Lib.hid (Blk.new w4 [.slice B2 h.length d2] 24)
 have HBx4:=Lib.hid (below_alloc (Below.refl w4.heap.size w4) (.cells #[.slice B2 h.length d2] 24))
 have HB4:=Lib.hid (link (link HB3.out hb4) HBx4.out)
 have HZ4:=Lib.hid ((HZ3.out.below hb4 HZ3.out.lt).alloc (.cells #[.slice B2 h.length d2] 24))
 have HX34:=Lib.hid ((HX3.out.below hb4 HX3.out.lt).alloc (.cells #[.slice B2 h.length d2] 24))
 have HC4:=Lib.hid (Kd.C_alloc hC4 (.cells #[.slice B2 h.length d2] 24))
 have HC34:=Lib.hid (Kd.C_alloc (Kd.C_below HC3.out hb4) (.cells #[.slice B2 h.length d2] 24))
 have HD2:=Lib.hid hd2
 clear hd2 hC4 hb4
 go_upto_region 8 with (fail)
 generalize w4.alloc (.cells #[.slice B2 h.length d2] 24)=w5 at *
 have z1:=HZ4.out.cell 0
 have z2:=HX34.out.cell 0
 simp only [List.getElem?_cons_zero] at z1 z2
 go_wp2_with fail
 refine (HS.out _ _ _ HC34.out (Kd.C_below HR.out HB4.out) HD1.out).mono ?_
 rintro e w6 ⟨rfl,hb6⟩
 have HB6:=Lib.hid (link HB4.out hb6)
 have z3:=(HZ4.out.below hb6 HZ4.out.lt).cell 0
 have z4:=(HX4.out.below hb6 HX4.out.lt).cell 0
 simp only [List.getElem?_cons_zero] at z3 z4
 have HC6:=Lib.hid (Kd.C_below HC4.out hb6)
 clear hb6 z1 z2
 go_wp2_with fail
 refine (HS.out _ _ _ HC6.out (Kd.C_below HR.out HB6.out) HD2.out).mono ?_
 rintro e w7 ⟨rfl,hb7⟩
 have HB7:=Lib.hid (link HB6.out hb7)
 clear hb7 z3 z4
 go_wp2_with fail
 refine (En.works _).mono ?_
 rintro e w8 ⟨rfl,hb8⟩
 go_wp2
 go_ret
 exact ⟨rfl,link HB7.out hb8⟩
end
theorem opens_EncodeBack_0 (W:World):Opens Try.prog W 24 (fun (h:List S42) cs=>∃ A c,cs=[.slice A h.length c]∧h.length≤c∧Kd.C k42 W A h.length h):=opens_history W
set_option maxHeartbeats 2000000 in
set_option maxRecDepth 100000 in
theorem walk_EncodeBack (w:World) (cs:Array Value) (h:List S42) (hh:∃ A c,cs.toList=[.slice A h.length c]∧h.length≤c∧Kd.C k42 w A h.length h) :
 Calls Try.prog 9 #[.agg cs] w fun e w'=>e=.returned (.bool true)∧Below w.heap.size w w':=by
 obtain ⟨A,c,e,hc,hr⟩:=hh
 obtain ⟨cs⟩:=cs
 cases e
 cases hf:fewP 40 100 h with
 | true =>
  by_cases h0:checkP h=0
  ·exact back_good w h A c hr hc hf h0
  ·exact back_bad w h A c hr hc hf h0
 | false =>
  have HB0:Hid (Below w.heap.size w (w.alloc (.cells #[.slice A h.length c] 24))):=Lib.hid ((Below.refl _ _).alloc (Nat.le_refl _) _)
  have HF:=Lib.hid (few_c _ h A c (Kd.C_below hr HB0.out) hc)
  rw [hf] at HF
  clear hf hr hc
  go_enter Try.func9,Try.ntmps9
  go_wp2_with fail
  refine HF.out.mono ?_
  rintro e w1 ⟨rfl,hb1⟩
  have HB1:=Lib.hid (link HB0.out hb1)
  clear hb1
  go_wp2_with fail
  refine (En.works _).mono ?_
  rintro e w2 ⟨rfl,hb2⟩
  go_wp2
  go_ret
  exact ⟨rfl,link HB1.out hb2⟩
end Go.Proofs.Ytlcioegdmopppaa
