/- Printed by shake.py. -/
import Derived.Test.YtlcioegdmopppaaShE42
import Derived.Test.YtlcioegdmopppaaShE44
import Derived.Test.YtlcioegdmopppaaShE45
set_option linter.unusedSimpArgs false
namespace Go.Proofs.Ytlcioegdmopppaa.En
open Go.RowKit Go.Proofs.Ytlcioegdmopppaa.PEncodeBack Go.Proofs.YtlcioegdmopppaaW.PrintWords
set_option linter.unusedVariables false
theorem rops_loop (h:List S42) (hl:h.length≤big):∀ (d k:Nat) (x:Nat),k+d=h.length→x+opsN (h.drop k)≤big→Ev (fun r=>coronerref03_Ops.l0 r (x:Int) (k:Int) h) ((x+opsN (h.drop k):Nat):Int)
 | 0,k,x,hk,hb=>by
  rw [List.drop_eq_nil_of_le (by omega)]
  exact Ev.step (f:=fun _=>some _) (fun r=>by simp only [coronerref03_Ops.l0];rw [if_neg (by omega)];rfl) (Ev.now _)
 | d+1,k,x,hk,hb=>by
  have hlt:k < h.length:=by omega
  have hd:=opsN_drop hlt
  have ih:=rops_loop h hl d (k+1) (x+h[k].f2.length) (by omega) (by omega)
  have e:x+opsN (h.drop k)=x+h[k].f2.length+opsN (h.drop (k+1)):=by omega
  rw [e]
  unfold big at *
  refine Ev.step (fun r=>?_) ih
  simp only [coronerref03_Ops.l0]
  have hw:wrap64 ((x:Int)+(h[k].f2.length:Int))=((x+h[k].f2.length:Nat):Int):=by unfold wrap64;omega
  rw [if_pos (by omega),if_pos (by omega),rd42 hlt,hw,wrapS hlt (by omega)]
theorem rops_ev (h:List S42) (hl:h.length≤big) (hb:opsN h≤big):Ev (fun r=>coronerref03_Ops.f r h) (opsN h:Int):=by
 have:=rops_loop h hl h.length 0 0 (by omega) (by rw [List.drop_zero];omega)
 simp only [Nat.zero_add,List.drop_zero] at this
 exact this
theorem rmay (n:Int):coronerref04_may.f n=some (okN n):=by
 unfold coronerref04_may.f okN
 by_cases h:n ≥ 0
 ·rw [if_pos h];congr 1;rw [Bool.eq_iff_iff];simp;omega
 ·rw [if_neg h];congr 1;rw [Bool.eq_iff_iff];simp;omega
theorem rmayOp_loop (o:S39) (hl:o.f3.length≤big):∀ (d i:Nat),i+d=o.f3.length→Ev (fun k=>coronerref04_mayOp.l0 k (i:Int) o.f0 o.f1 o.f2 o.f3) ((o.f3.drop i).all okN && decide (o.f2=0))
 | 0,i,hi=>by
  rw [List.drop_eq_nil_of_le (by omega),List.all_nil,Bool.true_and]
  refine Ev.step (f:=fun _=>some _) (fun k=>?_) (Ev.now _)
  simp only [coronerref04_mayOp.l0]
  rw [if_neg (by omega)]
  congr 1
 | d+1,i,hi=>by
  have hlt:i < o.f3.length:=by omega
  unfold big at *
  rw [List.drop_eq_getElem_cons hlt,List.all_cons]
  cases hk:okN o.f3[i] with
  | true =>
   rw [Bool.true_and]
   refine Ev.step (fun k=>?_) (rmayOp_loop o hl d (i+1) (by omega))
   simp only [coronerref04_mayOp.l0]
   rw [if_pos (by omega),if_pos (by omega),rdI hlt,rmay,hk,wrapS hlt (by omega)]
   rfl
  | false =>
   refine Ev.step (f:=fun _=>some false) (fun k=>?_) (Ev.now _)
   simp only [coronerref04_mayOp.l0]
   rw [if_pos (by omega),if_pos (by omega),rdI hlt,rmay,hk]
   rfl
theorem rmayOp_ev (o:S39) (hl:o.f3.length≤big):Ev (fun k=>coronerref04_mayOp.f k o.f0 o.f1 o.f2 o.f3) (okOp o):=by
 unfold okOp
 cases h1:okN o.f1 with
 | false=>exact Ev.congr (fun k=>by unfold coronerref04_mayOp.f;rw [rmay,h1];rfl) (Ev.now _)
 | true =>
  rw [Bool.true_and]
  by_cases h0:o.f0=true
  ·rw [if_pos h0]
   have:=rmayOp_loop o hl o.f3.length 0 (by omega)
   rw [List.drop_zero,Bool.and_comm] at this
   refine Ev.congr (fun k=>?_) this
   unfold coronerref04_mayOp.f
   rw [rmay,h1]
   simp only [Option.bind_some,if_true]
   rw [if_pos h0];rfl
  ·rw [if_neg h0]
   refine Ev.congr (fun k=>?_) (Ev.now _)
   unfold coronerref04_mayOp.f
   rw [rmay,h1]
   simp only [Option.bind_some,if_true]
   rw [if_neg h0,rmay]
   simp only [Option.bind_some]
   cases h2:okN o.f2 with
   | false=>rfl
   | true =>
    rw [if_pos rfl,Bool.true_and]
    congr 1
    rw [Bool.eq_iff_iff]
    simp
def hitP (a b:Int) (o:S39):Bool:=!o.f0 && (decide (o.f1=a) && decide (o.f2=b))
def appP (h:List S42) (a b:Int):Bool:=h.any fun t=>t.f2.any (hitP a b)
theorem app_l1 (h:List S42) (a b:Int) (hl:h.length≤big) (k:Nat) (hk:k < h.length) (ht:h[k].f2.length≤big) (R:Bool) (hR:Ev (fun r=>coronerref03_Appended.l0 r a b ((k+1:Nat):Int) h) R):∀ (d j:Nat),j+d=h[k].f2.length →
 Ev (fun r=>coronerref03_Appended.l1 r a b (k:Int) (j:Int) h) ((h[k].f2.drop j).any (hitP a b) || R)
 | 0,j,hj=>by
  unfold big at *
  rw [List.drop_eq_nil_of_le (by omega),List.any_nil,Bool.false_or]
  refine Ev.step (fun r=>?_) hR
  simp only [coronerref03_Appended.l1]
  rw [if_pos (by omega),if_pos (by omega),rd42 hk,if_neg (by omega),wrapS hk (by omega)]
 | d+1,j,hj=>by
  have hlt:j < h[k].f2.length:=by omega
  have ih:=app_l1 h a b hl k hk ht R hR d (j+1) (by omega)
  unfold big at *
  rw [List.drop_eq_getElem_cons hlt,List.any_cons]
  have hstep:∀ r,coronerref03_Appended.l1 (r+1) a b (k:Int) (j:Int) h=if hitP a b h[k].f2[j]=true then some true else coronerref03_Appended.l1 r a b (k:Int) ((j+1:Nat):Int) h:=fun r=>by
   simp only [coronerref03_Appended.l1]
   rw [if_pos (by omega),if_pos (by omega),rd42 hk,if_pos (by omega),if_pos (by omega),rd39 hlt,wrapS hlt (by omega)]
   unfold hitP
   by_cases h0:h[k].f2[j].f0=true
   ·rw [if_pos h0,if_neg (by simp [h0])]
   ·rw [if_neg h0]
    by_cases h1:h[k].f2[j].f1=a
    ·rw [if_pos h1]
     by_cases h2:h[k].f2[j].f2=b
     ·rw [if_pos h2,if_pos (by simp [h0,h1,h2])]
     ·rw [if_neg h2,if_neg (by simp [h2])]
    ·rw [if_neg h1,if_neg (by simp [h1])]
  cases hh:hitP a b h[k].f2[j] with
  | true =>
   rw [Bool.true_or,Bool.true_or]
   exact Ev.step (f:=fun _=>some true) (fun r=>by rw [hstep,if_pos hh]) (Ev.now _)
  | false =>
   rw [Bool.false_or]
   exact Ev.step (fun r=>by rw [hstep,if_neg (by rw [hh];decide)]) ih
theorem app_l0 (h:List S42) (a b:Int) (hl:h.length≤big) (ht:∀ t ∈ h,t.f2.length≤big):∀ (d k:Nat),k+d=h.length→Ev (fun r=>coronerref03_Appended.l0 r a b (k:Int) h) (appP (h.drop k) a b)
 | 0,k,hk=>by
  rw [List.drop_eq_nil_of_le (by omega)]
  exact Ev.step (f:=fun _=>some false) (fun r=>by simp only [coronerref03_Appended.l0];rw [if_neg (by omega)]) (Ev.now _)
 | d+1,k,hk=>by
  have hlt:k < h.length:=by omega
  have h1:=app_l1 h a b hl k hlt (ht _ (List.getElem_mem hlt)) _ (app_l0 h a b hl ht d (k+1) (by omega)) h[k].f2.length 0 (by omega)
  rw [List.drop_zero] at h1
  unfold appP at *
  rw [List.drop_eq_getElem_cons hlt,List.any_cons]
  exact Ev.step (fun r=>by simp only [coronerref03_Appended.l0];rw [if_pos (by omega)];rfl) h1
theorem app_ev (h:List S42) (a b:Int) (hl:h.length≤big) (ht:∀ t ∈ h,t.f2.length≤big):Ev (fun r=>coronerref03_Appended.f r h a b) (appP h a b):=app_l0 h a b hl ht h.length 0 (by omega)
def earlP (h:List S42) (k j:Nat) (t:S42):List S42:=h.take k ++ [⟨t.f0,t.f1,t.f2.take j⟩]
theorem earl_f (h:List S42) (hl:h.length≤1000000) (k j:Nat) (hk:k < h.length) (hj:j≤h[k].f2.length):coronerref04_earlier.f h (k:Int) (j:Int)=some (earlP h k j h[k]):=by
 unfold coronerref04_earlier.f earlP
 try simp only [Option.bind_some]
 have h1:(h.take k).length≤h.length:=List.length_take_le' ..
 rw [if_pos (by omega),if_pos (by omega),Int.toNat_natCast,if_pos (by simp;omega),List.nil_append]
 try simp only [Option.bind_some]
 rw [if_pos (by omega),if_pos (by omega),rd42 hk,if_pos (by omega),Int.toNat_natCast,if_pos (by omega)]
def InvI (h:List S42) (k:Nat) (ids:List Int):Prop:=∀ n,n ∈ ids ↔ ∃ j,∃ hj:j < h.length,j < k∧h[j].f0=n
def InvM (h:List S42) (k:Nat) (met:List (Int × Int)):Prop:=∀ a b,(a,b) ∈ met ↔ appP (h.take k) a b=true
def tailP (h:List S42):Int:=if 262144 < (histT h).length then 3 else 0
def resP (h:List S42) (k:Nat) (ids:List Int) (met:List (Int × Int)):Int:=if txnsP (h.drop k) ids met ≠ 0 then txnsP (h.drop k) ids met else tailP h
theorem appP_append (l m:List S42) (a b:Int):appP (l ++ m) a b=(appP l a b || appP m a b):=by unfold appP;rw [List.any_append]
theorem appP_earl (h:List S42) (k j:Nat) (t:S42) (a b:Int):appP (earlP h k j t) a b=(appP (h.take k) a b || (t.f2.take j).any (hitP a b)):=by
 unfold earlP
 rw [appP_append]
 unfold appP
 simp
theorem resP_step {h:List S42} {k:Nat} (hk:k < h.length) (ids:List Int) (met:List (Int × Int)):resP h k ids met=if okN h[k].f0=false then 2 else if h[k].f0 ∈ ids then 5 else if (opsP h[k].f2 met).1 ≠ 0 then (opsP h[k].f2 met).1 else resP h (k+1) (h[k].f0 :: ids) (opsP h[k].f2 met).2:=by
 unfold resP
 rw [List.drop_eq_getElem_cons hk]
 have e:txnsP (h[k] :: h.drop (k+1)) ids met=if okN h[k].f0=false then 2 else if h[k].f0 ∈ ids then 5 else if (opsP h[k].f2 met).1 ≠ 0 then (opsP h[k].f2 met).1 else txnsP (h.drop (k+1)) (h[k].f0 :: ids) (opsP h[k].f2 met).2:=rfl
 rw [e]
 split
 ·rfl
 ·split
  ·rfl
  ·by_cases h0:(opsP h[k].f2 met).1 ≠ 0
   ·rw [if_pos h0,if_pos h0,if_pos h0]
   ·rw [if_neg h0,if_neg h0]
theorem chk_l2 {h:List S42} (hf:Fits h) (k:Nat) (hk:k < h.length) (ids:List Int) (hcont:∀ met',InvM h (k+1) met'→h[k].f2.all okOp=true→Ev (fun r=>coronerref04_Check.l0 r ((k+1:Nat):Int) h) (resP h (k+1) ids met')):∀ (d j:Nat) (met:List (Int × Int)),j+d=h[k].f2.length→(h[k].f2.take j).all okOp=true→(∀ a b,(a,b) ∈ met ↔ appP (earlP h k j h[k]) a b=true) →
 Ev (fun r=>coronerref04_Check.l2 r (k:Int) (j:Int) h h[k].f0 h[k].f1 h[k].f2) (if (opsP (h[k].f2.drop j) met).1 ≠ 0 then (opsP (h[k].f2.drop j) met).1 else resP h (k+1) ids (opsP (h[k].f2.drop j) met).2)
 | 0,j,met,hj,hok,hinv=>by
  have hl0:=hf.lim.h0
  have he:h[k].f2.drop j=[]:=List.drop_eq_nil_of_le (by omega)
  have ht:h[k].f2.take j=h[k].f2:=List.take_of_length_le (by omega)
  rw [he]
  rw [ht] at hok
  have hM:InvM h (k+1) met:=fun a b=>by
   rw [hinv a b,appP_earl,ht,List.take_succ_eq_append_getElem hk,appP_append]
   unfold appP
   simp
  have e:(if (opsP [] met).1 ≠ 0 then (opsP [] met).1 else resP h (k+1) ids (opsP [] met).2)=resP h (k+1) ids met:=by
   rw [if_neg (by simp [opsP])];rfl
  rw [e]
  refine Ev.step (fun r=>?_) (hcont met hM hok)
  simp only [coronerref04_Check.l2]
  rw [if_neg (by omega),wrapS hk (by omega)]
 | d+1,j,met,hj,hok,hinv=>by
  have hl0:=hf.lim.h0
  have hlt:j < h[k].f2.length:=by omega
  have hl1:=hf.lim.h1 _ (List.getElem_mem hk)
  have hl2:=hf.lim.h2 _ (List.getElem_mem hk) _ (List.getElem_mem hlt)
  rw [List.drop_eq_getElem_cons hlt]
  have hmo:=rmayOp_ev h[k].f2[j] (by unfold big;omega)
  have hear:=earl_f h hl0 k j hk (by omega)
  have happ:=app_ev (earlP h k j h[k]) h[k].f2[j].f1 h[k].f2[j].f2 (by unfold earlP big;simp;omega) (fun t ht=>by
   unfold earlP at ht
   rcases List.mem_append.1 ht with ht|ht
   ·have:=hf.lim.h1 _ (List.mem_of_mem_take ht);unfold big;omega
   ·simp at ht;subst ht;simp;unfold big;omega)
  have hstep:∀ r,coronerref04_Check.l2 (r+1) (k:Int) (j:Int) h h[k].f0 h[k].f1 h[k].f2=(coronerref04_mayOp.f r h[k].f2[j].f0 h[k].f2[j].f1 h[k].f2[j].f2 h[k].f2[j].f3).bind fun t=>if t=true then (if (h[k].f2[j].f0=true) then coronerref04_Check.l2 r (k:Int) ((j+1:Nat):Int) h h[k].f0 h[k].f1 h[k].f2 else ((coronerref04_earlier.f h (k:Int) (j:Int)).bind fun t193=>((coronerref03_Appended.f r t193 h[k].f2[j].f1 h[k].f2[j].f2).bind fun t198=>(if t198=true then (some 6) else coronerref04_Check.l2 r (k:Int) ((j+1:Nat):Int) h h[k].f0 h[k].f1 h[k].f2)))) else some 2:=fun r=>by
   simp only [coronerref04_Check.l2]
   rw [if_pos (by omega),if_pos (by omega),rd39 hlt,wrapS hlt (by omega)]
  refine Ev.step hstep (Ev.bind hmo ?_)
  have htk:h[k].f2.take (j+1)=h[k].f2.take j ++ [h[k].f2[j]]:=List.take_succ_eq_append_getElem hlt
  have ih:=fun (met':List (Int × Int)) (hi:∀ a b,(a,b) ∈ met' ↔ appP (earlP h k (j+1) h[k]) a b=true) (ho:okOp h[k].f2[j]=true)=>chk_l2 hf k hk ids hcont d (j+1) met' (by omega) (by rw [htk,List.all_append,hok];simp [ho]) hi
  have hinv2:∀ a b,appP (earlP h k (j+1) h[k]) a b=(appP (earlP h k j h[k]) a b || hitP a b h[k].f2[j]):=fun a b=>by
   rw [appP_earl,appP_earl,htk,List.any_append,Bool.or_assoc]
   simp
  clear hok
  generalize h[k].f2[j]=o at *
  have eo:opsP (o :: h[k].f2.drop (j+1)) met=if okOp o=false then (2,met) else if o.f0=true then opsP (h[k].f2.drop (j+1)) met else if (o.f1,o.f2) ∈ met then (6,met) else opsP (h[k].f2.drop (j+1)) ((o.f1,o.f2) :: met):=rfl
  cases hoo:okOp o with
  | false =>
   have e1:opsP (o :: h[k].f2.drop (j+1)) met=(2,met):=by rw [eo,hoo];rfl
   rw [e1]
   exact Ev.congr (f:=fun _=>some 2) (fun r=>if_neg (by decide)) (Ev.now _)
  | true =>
   by_cases h0:o.f0=true
   ·have e1:opsP (o :: h[k].f2.drop (j+1)) met=opsP (h[k].f2.drop (j+1)) met:=by rw [eo,hoo,if_neg (by decide),if_pos h0]
    rw [e1]
    refine Ev.congr (fun r=>(if_pos rfl).trans (if_pos h0)) (ih met (fun a b=>?_) hoo)
    rw [hinv2,hinv a b]
    unfold hitP
    simp [h0]
   ·refine Ev.congr (f:=fun r=>(coronerref03_Appended.f r (earlP h k j h[k]) o.f1 o.f2).bind fun t198=>if t198=true then some 6 else coronerref04_Check.l2 r (k:Int) ((j+1:Nat):Int) h h[k].f0 h[k].f1 h[k].f2) (fun r=>?_) ?_
    ·rw [if_pos rfl,if_neg h0,hear];rfl
    ·refine Ev.bind happ ?_
     cases ha:appP (earlP h k j h[k]) o.f1 o.f2 with
     | true =>
      have hm:(o.f1,o.f2) ∈ met:=(hinv _ _).2 ha
      have e1:opsP (o :: h[k].f2.drop (j+1)) met=(6,met):=by rw [eo,hoo,if_neg (by decide),if_neg h0,if_pos hm]
      rw [e1]
      exact Ev.congr (f:=fun _=>some 6) (fun r=>if_pos rfl) (Ev.now _)
     | false =>
      have hm:¬ (o.f1,o.f2) ∈ met:=fun hm=>by rw [(hinv _ _).1 hm] at ha;cases ha
      have e1:opsP (o :: h[k].f2.drop (j+1)) met=opsP (h[k].f2.drop (j+1)) ((o.f1,o.f2) :: met):=by rw [eo,hoo,if_neg (by decide),if_neg h0,if_neg hm]
      rw [e1]
      refine Ev.congr (fun r=>if_neg (by decide)) (ih _ (fun a b=>?_) hoo)
      rw [hinv2,List.mem_cons,hinv a b]
      unfold hitP
      simp only [Prod.mk.injEq,Bool.or_eq_true,Bool.and_eq_true,Bool.not_eq_true',decide_eq_true_eq]
      constructor
      ·rintro (⟨rfl,rfl⟩|h)
       ·exact .inr ⟨by simpa using h0,rfl,rfl⟩
       ·exact .inl h
      ·rintro (h|⟨_,rfl,rfl⟩)
       ·exact .inr h
       ·exact .inl ⟨rfl,rfl⟩
theorem chk_l1 {h:List S42} (hf:Fits h) (k:Nat) (hk:k < h.length) (R:Int) (hR:Ev (fun r=>coronerref04_Check.l2 r (k:Int) ((0:Nat):Int) h h[k].f0 h[k].f1 h[k].f2) R):∀ (d j:Nat),j+d=k →
 Ev (fun r=>coronerref04_Check.l1 r (k:Int) (j:Int) h h[k].f0 h[k].f1 h[k].f2) (if (∃ i,∃ hi:i < h.length,j≤i∧i < k∧h[i].f0=h[k].f0) then 5 else R)
 | 0,j,hj=>by
  rw [if_neg (by rintro ⟨i,hi,h1,h2,_⟩;omega)]
  refine Ev.step (fun r=>?_) hR
  simp only [coronerref04_Check.l1]
  rw [if_neg (by omega)];rfl
 | d+1,j,hj=>by
  have hl0:=hf.lim.h0
  have hlt:j < h.length:=by omega
  have hstep:∀ r,coronerref04_Check.l1 (r+1) (k:Int) (j:Int) h h[k].f0 h[k].f1 h[k].f2=if h[j].f0=h[k].f0 then some 5 else coronerref04_Check.l1 r (k:Int) ((j+1:Nat):Int) h h[k].f0 h[k].f1 h[k].f2:=fun r=>by
   simp only [coronerref04_Check.l1]
   rw [if_pos (by omega),if_pos (by omega),if_pos (by omega),rd42 hlt,wrapS hlt (by omega)]
  by_cases he:h[j].f0=h[k].f0
  ·rw [if_pos ⟨j,hlt,by omega,by omega,he⟩]
   exact Ev.step (f:=fun _=>some 5) (fun r=>by rw [hstep,if_pos he]) (Ev.now _)
  ·have ih:=chk_l1 hf k hk R hR d (j+1) (by omega)
   have e:(∃ i,∃ hi:i < h.length,j≤i∧i < k∧h[i].f0=h[k].f0) ↔ (∃ i,∃ hi:i < h.length,j+1≤i∧i < k∧h[i].f0=h[k].f0):=by
    constructor
    ·rintro ⟨i,hi,h1,h2,h3⟩
     refine ⟨i,hi,?_,h2,h3⟩
     rcases Nat.lt_or_ge j i with h|h
     ·omega
     ·have:i=j:=by omega
      subst this;exact absurd h3 he
    ·rintro ⟨i,hi,h1,h2,h3⟩
     exact ⟨i,hi,by omega,h2,h3⟩
   simp only [e]
   exact Ev.step (fun r=>by rw [hstep,if_neg he]) ih
theorem chk_l0 {h:List S42} (hf:Fits h):∀ (d k:Nat) (ids:List Int) (met:List (Int × Int)),k+d=h.length→InvI h k ids→InvM h k met→(h.take k).all okT=true→Ev (fun r=>coronerref04_Check.l0 r (k:Int) h) (resP h k ids met)
 | 0,k,ids,met,hk,hI,hM,hok=>by
  rw [List.take_of_length_le (by omega)] at hok
  have e:resP h k ids met=tailP h:=by
   unfold resP
   rw [List.drop_eq_nil_of_le (by omega),if_neg (by simp [txnsP])]
  rw [e]
  have ht:=rtext_ev h (by have:=hf.lim.h0;unfold big;omega) hok (fun t ht=>⟨by have:=hf.lim.h1 t ht;unfold big;omega,fun o ho=>by have:=hf.lim.h2 t ht o ho;unfold big;omega⟩) (by have:=hf.txt hok;unfold big;omega)
  refine Ev.step (f:=fun r=>(coronerref04_Text.f r h).bind fun t185=>if (t185.size:Int) > 262144 then some 3 else some 0) (fun r=>?_) ?_
  ·simp only [coronerref04_Check.l0]
   rw [if_neg (by omega)]
  ·refine Ev.bind ht ?_
   unfold tailP
   rw [str_len]
   by_cases hs:262144 < (histT h).length
   ·rw [if_pos hs];exact Ev.congr (f:=fun _=>some 3) (fun r=>if_pos (by omega)) (Ev.now _)
   ·rw [if_neg hs];exact Ev.congr (f:=fun _=>some 0) (fun r=>if_neg (by omega)) (Ev.now _)
 | d+1,k,ids,met,hk,hI,hM,hok=>by
  have hl0:=hf.lim.h0
  have hlt:k < h.length:=by omega
  rw [resP_step hlt]
  have hmem:h[k].f0 ∈ ids ↔ ∃ i,∃ hi:i < h.length,0≤i∧i < k∧h[i].f0=h[k].f0:=by
   rw [hI]
   constructor
   ·rintro ⟨i,hi,h1,h2⟩;exact ⟨i,hi,by omega,h1,h2⟩
   ·rintro ⟨i,hi,_,h1,h2⟩;exact ⟨i,hi,h1,h2⟩
  have hstep:∀ r,coronerref04_Check.l0 (r+1) (k:Int) h=if okN h[k].f0=true then coronerref04_Check.l1 r (k:Int) ((0:Nat):Int) h h[k].f0 h[k].f1 h[k].f2 else some 2:=fun r=>by
   simp only [coronerref04_Check.l0]
   rw [if_pos (by omega),if_pos (by omega),rd42 hlt,rmay]
   rfl
  cases hok0:okN h[k].f0 with
  | false =>
   rw [if_pos rfl]
   exact Ev.step (f:=fun _=>some 2) (fun r=>by rw [hstep,if_neg (by rw [hok0];decide)]) (Ev.now _)
  | true =>
   rw [if_neg (by decide)]
   have h2:=chk_l2 hf k hlt (h[k].f0 :: ids) (fun met' hM' hall=>chk_l0 hf d (k+1) (h[k].f0 :: ids) met' (by omega) (fun n=>by
    rw [List.mem_cons,hI n]
    constructor
    ·rintro (rfl|⟨j,hj,h1,h2⟩)
     ·exact ⟨k,hlt,by omega,rfl⟩
     ·exact ⟨j,hj,by omega,h2⟩
    ·rintro ⟨j,hj,h1,h2⟩
     rcases Nat.lt_or_ge j k with h'|h'
     ·exact .inr ⟨j,hj,h',h2⟩
     ·have:j=k:=by omega
      subst this;exact .inl h2.symm) hM' (by
    rw [List.take_succ_eq_append_getElem hlt,List.all_append,hok]
    simp [okT,hok0,hall])) h[k].f2.length 0 met (by omega) (by simp) (fun a b=>by rw [hM a b,appP_earl];simp)
   rw [List.drop_zero] at h2
   have h1:=chk_l1 hf k hlt _ h2 k 0 (by omega)
   simp only [← hmem] at h1
   exact Ev.step (fun r=>by rw [hstep,if_pos hok0]) h1
theorem rcheck_ev {h:List S42} (hf:Fits h):Ev (fun r=>coronerref04_Check.f r h) (checkP h):=by
 have hl0:=hf.lim.h0
 have h0:=chk_l0 hf h.length 0 [] [] (by omega) (fun n=>by simp) (fun a b=>by simp [appP]) (by simp)
 unfold checkP
 by_cases h1:1024 < h.length
 ·rw [if_pos (.inl h1)]
  refine Ev.congr (f:=fun r=>coronerref04_Check.j0 r true h) (fun r=>?_) (Ev.step (f:=fun _=>some 3) (fun r=>by simp only [coronerref04_Check.j0];rfl) (Ev.now _))
  unfold coronerref04_Check.f
  rw [if_pos (by omega)]
 ·have hop:=rops_ev h (by unfold big;omega) (by have:=hf.ops;unfold big;omega)
  refine Ev.congr (f:=fun r=>(coronerref03_Ops.f r h).bind fun t184=>coronerref04_Check.j0 r (decide (t184 > 4096)) h) (fun r=>?_) (Ev.bind hop ?_)
  ·unfold coronerref04_Check.f
   rw [if_neg (by omega)]
  ·by_cases h2:4096 < opsN h
   ·rw [if_pos (.inr h2)]
    refine Ev.step (f:=fun _=>some 3) (fun r=>?_) (Ev.now _)
    simp only [coronerref04_Check.j0]
    rw [if_pos (by simp;omega)]
   ·rw [if_neg (by omega)]
    have e:resP h 0 [] []=if partsP h ≠ 0 then partsP h else if 262144 < (histT h).length then 3 else 0:=by
     unfold resP tailP partsP;rw [List.drop_zero]
    rw [← e]
    refine Ev.step (fun r=>?_) h0
    simp only [coronerref04_Check.j0]
    rw [if_neg (by simp;omega)];rfl
theorem rcheck_c (w:World) (h:List S42) (A:Option Addr) (c:Nat) (hr:Kd.C k42 w A h.length h) (hc:h.length≤c) (hf:Fits h):Calls Try.prog 16 #[.agg #[.slice A h.length c]] w (POut w (checkP h)):=by
 obtain ⟨K,hK⟩:=(rcheck_ev hf).rounds
 exact coronerref04_Check.calls K A c h _ w hr hc hK
end Go.Proofs.Ytlcioegdmopppaa.En
