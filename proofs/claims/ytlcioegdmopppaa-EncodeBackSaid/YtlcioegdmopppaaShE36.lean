/- Printed by shake.py. -/
import Derived.Test.YtlcioegdmopppaaShE35
set_option linter.unusedSimpArgs false
namespace Go.Proofs.Ytlcioegdmopppaa.Hs
open Go.RowKit Go.Maps Go.Proofs.Ytlcioegdmopppaa.PEncodeBack Go.Proofs.YtlcioegdmopppaaW.PrintWords
open Cur (Cr At peek fail byte number nums_ Ok)
set_option linter.unusedVariables false
section
variable {l:List Int}
theorem byte_s {e:Int} (he:e ≠ 0) (p x y:Int):byte l ⟨p,e,x⟩ y=⟨p,e,x⟩:=by
 unfold byte
 rw [if_neg (fun hh=>he (peek_yes hh.1).1)]
 unfold fail
 rw [if_neg (fun hh=>he hh.1)]
theorem number_s {e:Int} (he:e ≠ 0) (p x:Int):number l ⟨p,e,x⟩=(⟨p,e,x⟩,0):=by unfold number;rw [if_neg he]
theorem nums_s {e:Int} (he:e ≠ 0) (p x:Int):nums_ l ⟨p,e,x⟩=(⟨p,e,x⟩,[]):=by unfold nums_;rw [if_neg he]
theorem peek_b (a:Int) (ha:a < l.length):peek l ⟨a,0,0⟩=(rd l a,true):=by unfold peek;rw [if_pos ⟨rfl,ha⟩]
theorem byte_t {a y:Int} (h:isB l a y=true):byte l ⟨a,0,0⟩ y=⟨a+1,0,0⟩:=by
 unfold byte
 rw [peek_b a (is_lt h),if_pos ⟨rfl,(is_rd h).symm⟩]
theorem byte_f {a y:Int} (h:isB l a y=false):byte l ⟨a,0,0⟩ y=⟨a,4,a⟩:=by
 unfold byte
 rw [if_neg]
 ·unfold fail
  rw [if_pos ⟨rfl,by decide⟩]
 ·rintro ⟨h1,h2⟩
  have hp:=(peek_yes h1).2
  rw [peek_b a hp] at h2
  unfold isB at h
  simp only at h2 hp
  rw [decide_eq_true hp,Bool.true_and] at h
  rw [h2] at h
  simp at h
theorem number_t {a:Int} (h:(parse l a).2.2=true):number l ⟨a,0,0⟩=(⟨(parse l a).2.1,0,0⟩,(parse l a).1):=by unfold number;rw [if_pos rfl];simp only;rw [if_pos h]
theorem number_f {a:Int} (h:(parse l a).2.2=false):number l ⟨a,0,0⟩=(⟨a,4,(parse l a).2.1⟩,0):=by
 unfold number;rw [if_pos rfl];simp only;rw [if_neg (by rw [h];decide)]
 unfold fail;rw [if_pos ⟨rfl,by decide⟩]
theorem nums_t {a:Int} (h:(list l a).2.2=true):nums_ l ⟨a,0,0⟩=(⟨(list l a).2.1,0,0⟩,(list l a).1):=by unfold nums_;rw [if_pos rfl];simp only;rw [if_pos h]
theorem nums_f {a:Int} (h:(list l a).2.2=false):nums_ l ⟨a,0,0⟩=(⟨a,4,(list l a).2.1⟩,[]):=by
 unfold nums_;rw [if_pos rfl];simp only;rw [if_neg (by rw [h];decide)]
 unfold fail;rw [if_pos ⟨rfl,by decide⟩]
theorem fail_o (a e x:Int) (he:e ≠ 0):fail ⟨a,0,0⟩ e x=⟨a,e,x⟩:=by unfold fail;rw [if_pos ⟨rfl,he⟩]
structure Sy (s:RS) (g:List S42) (a:Int):Prop where
 c:s.c=⟨a,0,0⟩
 h:s.h=g
 ids:∀ i,i ∈ s.ids ↔ twinP g i=true
 met:∀ k v,(k,v) ∈ s.met ↔ appP g k v=true
def Goes1 (s1:RS) (q:List S42 × Int × Int × Int):Prop:=(q.2.2.1=0→Sy s1 q.1 q.2.1)∧(q.2.2.1 ≠ 0→s1.c.e=q.2.2.1∧s1.c.x=q.2.2.2)
theorem goes_bad {s1:RS} {h:List S42} {p n e x:Int} (he:e ≠ 0) (hc:s1.c=⟨p,e,x⟩):Goes1 s1 (h,n,e,x):=⟨fun h0=>absurd h0 he,fun _=>by rw [hc];exact ⟨rfl,rfl⟩⟩
theorem twin_snoc (h:List S42) (t:S42) (i:Int):twinP (h ++ [t]) i=(decide (t.f0=i) || twinP h i):=by
 unfold twinP
 rw [List.any_append]
 simp [Bool.or_comm]
theorem app_snoc (h:List S42) (id:Int) (b:Bool) (k v:Int):appP (h ++ [⟨id,b,[]⟩]) k v=appP h k v:=by
 unfold appP
 rw [List.any_append]
 simp
theorem no_x {l:List Int} {y:Int} {a:Int} (h:isB l a y=false):(peek l ⟨a,0,0⟩).1=y→a < l.length→False:=fun hx hc=>by
 rw [peek_b a hc] at hx
 simp only at hx
 unfold isB at h
 rw [decide_eq_true hc,hx] at h
 simp at h
theorem step_txn {s:RS} {h:List S42} {a:Int} (y:Sy s h a) (a0:0≤a) (ha:isB l a 116=true):Goes1 (txn l s) (rtx l h a):=by
 obtain ⟨c,h',ids,met⟩:=s
 obtain ⟨hc,hh,hi,hm⟩:=y
 simp only at hc hh hi hm
 subst hc
 subst hh
 by_cases h1:1024≤h'.length
 ·have hq:rtx l h' a=(h',0,3,a):=by unfold rtx;rw [if_pos h1]
  rw [hq]
  refine goes_bad (p:=a) (by decide) ?_
  unfold txn
  simp only [if_pos h1]
  rw [fail_o a 3 a (by decide)]
  unfold txnFrom txnNum txnEnd push
  simp only [byte_s (l:=l) (e:=3) (by decide),number_s (l:=l) (e:=3) (by decide)]
  rw [if_neg (fun hx=>absurd hx.2 (by decide))]
  simp only [byte_s (l:=l) (e:=3) (by decide)]
 have hq0:rtx l h' a=if isB l (a+1) 32=false then (h',0,4,a+1) else
  if (parse l (a+2)).2.2=false then (h',0,4,(parse l (a+2)).2.1) else if twinP h' (parse l (a+2)).1=true then (h',0,5,a+2) else
  if isB l (parse l (a+2)).2.1 32=false then (h',0,4,(parse l (a+2)).2.1) else
  if isB l ((parse l (a+2)).2.1+1) 97=false∧isB l ((parse l (a+2)).2.1+1) 99=false then (h',0,4,(parse l (a+2)).2.1+1) else
  if isB l ((parse l (a+2)).2.1+2) 10=false then (h',0,4,(parse l (a+2)).2.1+2) else
  (h' ++ [⟨(parse l (a+2)).1,isB l ((parse l (a+2)).2.1+1) 97,[]⟩],(parse l (a+2)).2.1+3,0,0):=by unfold rtx;rw [if_neg h1]
 rw [hq0]
 clear hq0
 have e0:txn l ⟨⟨a,0,0⟩,h',ids,met⟩=txnNum l ⟨⟨a,0,0⟩,h',ids,met⟩ (byte l ⟨a+1,0,0⟩ 32):=by
  unfold txn
  simp only [if_neg h1]
  unfold txnFrom
  rw [byte_t ha]
 rw [e0]
 clear e0
 by_cases b1:isB l (a+1) 32=false
 ·rw [if_pos b1,byte_f b1]
  refine goes_bad (p:=a+1) (by decide) ?_
  unfold txnNum txnEnd push
  simp only [number_s (l:=l) (e:=4) (by decide)]
  rw [if_neg (fun hx=>absurd hx.2 (by simp))]
  simp only [byte_s (l:=l) (e:=4) (by decide)]
 rw [if_neg b1,byte_t (by simpa using b1),show a+1+1=a+2 from by omega]
 have e1:∀ c d id,number l c=(d,id)→txnNum l ⟨⟨a,0,0⟩,h',ids,met⟩ c=txnEnd l ⟨⟨a,0,0⟩,h',ids,met⟩ (if id ∈ ids∧d.e=0 then fail d 5 c.p else d) id:=fun c d id hd=>by unfold txnNum;rw [hd]
 by_cases b2:(parse l (a+2)).2.2=false
 ·rw [if_pos b2,e1 _ _ _ (number_f b2),if_neg (fun hx=>absurd hx.2 (by simp))]
  refine goes_bad (p:=a+2) (by decide) ?_
  unfold txnEnd push
  simp only [byte_s (l:=l) (e:=4) (by decide)]
 rw [if_neg b2,e1 _ _ _ (number_t (by simpa using b2))]
 generalize (parse l (a+2)).1=id at *
 generalize (parse l (a+2)).2.1=tt at *
 by_cases b3:twinP h' id=true
 ·have hin:id ∈ ids:=(hi id).2 b3
  have ef:(if id ∈ ids∧(⟨tt,0,0⟩:Cr).e=0 then fail ⟨tt,0,0⟩ 5 (⟨a+2,0,0⟩:Cr).p else ⟨tt,0,0⟩)=(⟨tt,5,a+2⟩:Cr):=by rw [if_pos ⟨hin,rfl⟩,fail_o _ 5 _ (by decide)]
  rw [if_pos b3,ef]
  refine goes_bad (p:=tt) (by decide) ?_
  unfold txnEnd push
  simp only [byte_s (l:=l) (e:=5) (by decide)]
 have ef:(if id ∈ ids∧(⟨tt,0,0⟩:Cr).e=0 then fail ⟨tt,0,0⟩ 5 (⟨a+2,0,0⟩:Cr).p else ⟨tt,0,0⟩)=(⟨tt,0,0⟩:Cr):=if_neg (fun hx=>b3 ((hi id).1 hx.1))
 rw [if_neg b3,ef]
 clear ef e1
 by_cases b4:isB l tt 32=false
 ·rw [if_pos b4]
  refine goes_bad (p:=tt) (by decide) ?_
  unfold txnEnd push
  rw [byte_f b4]
  simp only [byte_s (l:=l) (e:=4) (by decide)]
 rw [if_neg b4]
 have e2:∀ x:Int,(if (peek l ⟨tt+1,0,0⟩).1=97 then (97:Int) else 99)=x→txnEnd l ⟨⟨a,0,0⟩,h',ids,met⟩ ⟨tt,0,0⟩ id=push ⟨byte l (byte l ⟨tt+1,0,0⟩ x) 10,h',ids,met⟩ id x:=fun x hx=>by
  unfold txnEnd
  rw [byte_t (by simpa using b4),hx]
 have e3:∀ x:Int,isB l (tt+1) x=true→(peek l ⟨tt+1,0,0⟩).1=x:=fun x hy=>by rw [peek_b _ (is_lt hy),is_rd hy]
 have hne:isB l (tt+1) 97=false→(if (peek l ⟨tt+1,0,0⟩).1=97 then (97:Int) else 99)=99:=fun hf=>if_neg (fun hx=>by
  by_cases hc:tt+1 < (l.length:Int)
  ·exact no_x hf hx hc
  ·unfold peek at hx
   rw [if_neg (fun hh=>hc hh.2)] at hx
   exact absurd hx (by decide))
 have last:∀ x:Int,isB l (tt+1) x=true→∀ b,decide (x=97)=b →
  Goes1 (push ⟨byte l (byte l ⟨tt+1,0,0⟩ x) 10,h',ids,met⟩ id x) (if isB l (tt+2) 10=false then (h',0,4,tt+2) else (h' ++ [⟨id,b,[]⟩],tt+3,0,0)):=by
  intro x hb b hd
  rw [byte_t hb,show tt+1+1=tt+2 from by omega]
  by_cases b7:isB l (tt+2) 10=false
  ·rw [if_pos b7,byte_f b7]
   exact goes_bad (p:=tt+2) (by decide) rfl
  ·rw [if_neg b7,byte_t (by simpa using b7),← hd,show tt+2+1=tt+3 from by omega]
   refine ⟨fun _=>⟨rfl,rfl,fun i=>?_,fun k v=>?_⟩,fun hx=>absurd rfl hx⟩
   ·show i ∈ id :: ids ↔ _
    rw [List.mem_cons,hi,twin_snoc]
    simp only [Bool.or_eq_true,decide_eq_true_eq]
    exact ⟨fun hh=>hh.imp Eq.symm _root_.id,fun hh=>hh.imp Eq.symm _root_.id⟩
   ·show (k,v) ∈ met ↔ _
    rw [hm,app_snoc]
 by_cases b5:isB l (tt+1) 97=false
 ·rw [e2 99 (hne b5)]
  by_cases b6:isB l (tt+1) 99=false
  ·rw [if_pos ⟨b5,b6⟩,byte_f b6,byte_s (by decide)]
   exact goes_bad (p:=tt+1) (by decide) rfl
  ·rw [if_neg (fun hh=>b6 hh.2),b5]
   exact last 99 (by simpa using b6) false rfl
 ·have b5':isB l (tt+1) 97=true:=by simpa using b5
  rw [e2 97 (by rw [if_pos (e3 97 b5')]),if_neg (fun hh=>b5 hh.1),b5']
  exact last 97 b5' true rfl
theorem last_splitA {h:List S42} (h0:h ≠ []):∃ hs t,h=hs ++ [t]∧∀ o,addOp h o=hs ++ [{ t with f2:=t.f2 ++ [o] }]:=by
 obtain ⟨hs,t,rfl⟩:∃ hs t,h=hs ++ [t]:=⟨h.dropLast,h.getLast h0,(List.dropLast_concat_getLast h0).symm⟩
 refine ⟨hs,t,rfl,fun o=>?_⟩
 have hl:(hs ++ [t]).length - 1=hs.length:=by simp
 have hd:(hs ++ [t]).getD hs.length z42=t:=by rw [List.getD_eq_getElem?_getD,List.getElem?_append_right (Nat.le_refl _),Nat.sub_self];rfl
 unfold addOp
 rw [hl,hd,List.set_append,if_neg (by omega),Nat.sub_self]
 rfl
theorem twin_add {h:List S42} (h0:h ≠ []) (o:S39) (i:Int):twinP (addOp h o) i=twinP h i:=by
 obtain ⟨hs,t,e,ha⟩:=last_splitA h0
 rw [ha,e]
 unfold twinP
 rw [List.any_append,List.any_append]
 simp
theorem app_add {h:List S42} (h0:h ≠ []) (o:S39) (k v:Int):appP (addOp h o) k v=(appP h k v || hitP k v o):=by
 obtain ⟨hs,t,e,ha⟩:=last_splitA h0
 rw [ha,e]
 unfold appP
 rw [List.any_append,List.any_append]
 simp [Bool.or_assoc]
theorem goes_fin {h':List S42} {ids:List Int} {met met':List (Int × Int)} {p:Int} {c0:Cr} {o:S39} (h0:h' ≠ []) (hi:∀ i,i ∈ ids ↔ twinP h' i=true) (hm:∀ k v,(k,v) ∈ met' ↔ appP (addOp h' o) k v=true) :
 Goes1 (fin ⟨c0,h',ids,met⟩ (byte l ⟨p,0,0⟩ 10) o met') (rend l h' o p):=by
 unfold rend
 by_cases b:isB l p 10=false
 ·rw [if_pos b,byte_f b]
  exact goes_bad (p:=p) (by decide) rfl
 ·rw [if_neg b,byte_t (by simpa using b)]
  unfold fin
  rw [if_pos rfl]
  exact ⟨fun _=>⟨rfl,rfl,fun i=>by rw [twin_add h0];exact hi i,hm⟩,fun hx=>absurd rfl hx⟩
theorem fin_bad {s:RS} {h:List S42} {p n e x:Int} {o:S39} {met:List (Int × Int)} (he:e ≠ 0):Goes1 (fin s (byte l ⟨p,e,x⟩ 10) o met) (h,n,e,x):=by
 rw [byte_s he]
 exact goes_bad he rfl
theorem op0_bad {most x:Int} {s:RS} {p e y:Int} (he:e ≠ 0) (h:op0 l most x s=⟨p,e,y⟩):op1 l most x s=⟨p,e,y⟩:=by unfold op1;rw [h,number_s he]
theorem step_head {h':List S42} {ids:List Int} {met:List (Int × Int)} {a most x:Int} (hx:isB l a x=true) :
 (∃ p e y,e ≠ 0∧op1 l most x ⟨⟨a,0,0⟩,h',ids,met⟩=⟨p,e,y⟩∧∀ q,(if h'=[] then (h',0,4,a) else if most≤opsN h' then (h',0,3,a) else if isB l (a+1) 32=false then (h',0,4,a+1) else
  if (parse l (a+2)).2.2=false then (h',0,4,(parse l (a+2)).2.1) else q:List S42 × Int × Int × Int)=(h',0,e,y)) ∨
 (h' ≠ []∧op1 l most x ⟨⟨a,0,0⟩,h',ids,met⟩=⟨(parse l (a+2)).2.1,0,0⟩∧opKey l most x ⟨⟨a,0,0⟩,h',ids,met⟩=(parse l (a+2)).1∧∀ q,(if h'=[] then (h',0,4,a) else if most≤opsN h' then (h',0,3,a) else if isB l (a+1) 32=false then (h',0,4,a+1) else
  if (parse l (a+2)).2.2=false then (h',0,4,(parse l (a+2)).2.1) else q:List S42 × Int × Int × Int)=q):=by
 by_cases h0:h'=[]
 ·refine .inl ⟨a,4,a,by decide,op0_bad (by decide) ?_,fun q=>by rw [if_pos h0]⟩
  unfold op0
  simp only [if_pos h0]
  rw [fail_o a 4 a (by decide),byte_s (l:=l) (e:=4) (by decide),byte_s (l:=l) (e:=4) (by decide)]
 by_cases h1:most≤opsN h'
 ·refine .inl ⟨a,3,a,by decide,op0_bad (by decide) ?_,fun q=>by rw [if_neg h0,if_pos h1]⟩
  unfold op0
  simp only [if_neg h0,if_pos h1]
  rw [fail_o a 3 a (by decide),byte_s (l:=l) (e:=3) (by decide),byte_s (l:=l) (e:=3) (by decide)]
 have e0:op0 l most x ⟨⟨a,0,0⟩,h',ids,met⟩=byte l ⟨a+1,0,0⟩ 32:=by
  unfold op0
  simp only [if_neg h0,if_neg h1]
  rw [byte_t hx]
 by_cases b1:isB l (a+1) 32=false
 ·exact .inl ⟨a+1,4,a+1,by decide,op0_bad (by decide) (by rw [e0,byte_f b1]),fun q=>by rw [if_neg h0,if_neg h1,if_pos b1]⟩
 have e1:op0 l most x ⟨⟨a,0,0⟩,h',ids,met⟩=⟨a+2,0,0⟩:=by rw [e0,byte_t (by simpa using b1)];congr 1;omega
 by_cases b2:(parse l (a+2)).2.2=false
 ·exact .inl ⟨a+2,4,(parse l (a+2)).2.1,by decide,by unfold op1;rw [e1,number_f b2],fun q=>by rw [if_neg h0,if_neg h1,if_neg b1,if_pos b2]⟩
 have b2':(parse l (a+2)).2.2=true:=by simpa using b2
 exact .inr ⟨h0,by unfold op1;rw [e1,number_t b2'],by unfold opKey;rw [e1,number_t b2'],fun q=>by rw [if_neg h0,if_neg h1,if_neg b1,if_neg b2]⟩
theorem step_reads {s:RS} {h:List S42} {a most:Int} (y:Sy s h a) (ha:isB l a 114=true):Goes1 (reads l most s) (rop l h a most):=by
 obtain ⟨c,h',ids,met⟩:=s
 obtain ⟨hc,hh,hi,hm⟩:=y
 simp only at hc hh hi hm
 subst hc
 subst hh
 unfold rop reads
 rw [if_pos (is_rd ha)]
 rcases step_head (most:=most) (h':=h') (ids:=ids) (met:=met) ha with ⟨p,e,x,he,h1,h2⟩|⟨h0,h1,h2,h3⟩
 ·rw [h1,h2,nums_s he]
  exact fin_bad he
 ·rw [h1,h2,h3]
  unfold rread
  generalize (parse l (a+2)).1=key at *
  generalize (parse l (a+2)).2.1=tt at *
  by_cases b:(list l tt).2.2=false
  ·rw [if_pos b,nums_f b]
   exact fin_bad (by decide)
  ·rw [if_neg b,nums_t (by simpa using b)]
   refine goes_fin h0 hi fun k v=>?_
   rw [hm,app_add h0]
   simp [hitP]
theorem step_apps {s:RS} {h:List S42} {a most:Int} (y:Sy s h a) (ha:isB l a 97=true):Goes1 (apps l most s) (rop l h a most):=by
 obtain ⟨c,h',ids,met⟩:=s
 obtain ⟨hc,hh,hi,hm⟩:=y
 simp only at hc hh hi hm
 subst hc
 subst hh
 unfold rop apps
 have hrd:¬ rd l a=114:=by rw [is_rd ha];decide
 rw [if_neg hrd]
 rcases step_head (most:=most) (h':=h') (ids:=ids) (met:=met) ha with ⟨p,e,x,he,h1,h2⟩|⟨h0,h1,h2,h3⟩
 ·rw [h1,h2]
  have e1:app1 l met (opKey l most 97 ⟨⟨a,0,0⟩,h',ids,met⟩) ⟨p,e,x⟩=⟨p,e,x⟩:=by
   unfold app1 app0
   simp only [byte_s (l:=l) he,number_s (l:=l) he]
   exact if_neg (fun hx=>he hx.2)
  simp only [e1]
  exact fin_bad he
 ·rw [h1,h2,h3]
  unfold rapp
  generalize (parse l (a+2)).1=key at *
  generalize (parse l (a+2)).2.1=tt at *
  by_cases b1:isB l tt 32=false
  ·rw [if_pos b1]
   have e1:app1 l met key ⟨tt,0,0⟩=⟨tt,4,tt⟩:=by
    unfold app1 app0
    rw [byte_f b1]
    simp only [number_s (l:=l) (e:=4) (by decide)]
    exact if_neg (fun hx=>absurd hx.2 (by simp))
   simp only [e1]
   exact fin_bad (by decide)
  rw [if_neg b1]
  have b1':isB l tt 32=true:=by simpa using b1
  by_cases b2:(parse l (tt+1)).2.2=false
  ·rw [if_pos b2]
   have e1:app1 l met key ⟨tt,0,0⟩=⟨tt+1,4,(parse l (tt+1)).2.1⟩:=by
    unfold app1 appV app0
    rw [byte_t b1']
    simp only [number_f b2]
    exact if_neg (fun hx=>absurd hx.2 (by simp))
   simp only [e1]
   exact fin_bad (by decide)
  rw [if_neg b2]
  have b2':(parse l (tt+1)).2.2=true:=by simpa using b2
  have ev:appV l ⟨tt,0,0⟩=(parse l (tt+1)).1:=by unfold appV app0;rw [byte_t b1',number_t b2']
  by_cases b3:appP h' key (parse l (tt+1)).1=true
  ·rw [if_pos b3]
   have e1:app1 l met key ⟨tt,0,0⟩=⟨(parse l (tt+1)).2.1,6,tt+1⟩:=by
    unfold app1
    rw [ev]
    unfold app0
    rw [byte_t b1']
    simp only [number_t b2']
    rw [if_pos ⟨(hm _ _).2 b3,trivial⟩,fail_o _ 6 _ (by decide)]
   simp only [e1]
   exact fin_bad (by decide)
  rw [if_neg b3]
  have e1:app1 l met key ⟨tt,0,0⟩=⟨(parse l (tt+1)).2.1,0,0⟩:=by
   unfold app1
   rw [ev]
   unfold app0
   rw [byte_t b1']
   simp only [number_t b2']
   exact if_neg (fun hx=>b3 ((hm _ _).1 hx.1))
  rw [e1,ev]
  refine goes_fin h0 hi fun k v=>?_
  rw [app_add h0,List.mem_cons,hm]
  simp only [Bool.or_eq_true,hitP]
  constructor
  ·rintro (hx|hx)
   ·injection hx with hx1 hx2
    subst hx1 hx2
    right;simp
   ·exact .inl hx
  ·rintro (hx|hx)
   ·exact .inr hx
   ·left
    simp at hx
    rw [hx.1,hx.2]
theorem step_line {s:RS} {h:List S42} {a most:Int} (y:Sy s h a) (a0:0≤a) (ha:a < l.length):Goes1 (line l most s) (rstep l h a most):=by
 have hp:(peek l s.c).1=rd l a:=by rw [y.c,peek_b a ha]
 have hb:∀ x,rd l a=x→isB l a x=true:=fun x hx=>by unfold isB;rw [decide_eq_true ha,hx];simp
 unfold line rstep
 rw [hp]
 by_cases h1:rd l a=97
 ·rw [if_pos h1,if_neg (by rw [h1];decide),if_pos (.inl h1)]
  exact step_apps y (hb _ h1)
 ·rw [if_neg h1]
  by_cases h2:rd l a=114
  ·rw [if_pos h2,if_neg (by rw [h2];decide),if_pos (.inr h2)]
   exact step_reads y (hb _ h2)
  ·rw [if_neg h2]
   by_cases h3:rd l a=116
   ·rw [if_pos h3,if_pos h3]
    exact step_txn y a0 (hb _ h3)
   ·rw [if_neg h3,if_neg h3,if_neg (fun hh=>hh.elim h1 h2)]
    obtain ⟨c,h',ids,met⟩:=s
    have hc:=y.c
    simp only at hc
    subst hc
    refine goes_bad (p:=a) (by decide) ?_
    rw [fail_o a 4 a (by decide)]
    unfold txn
    have e4:(if 1024≤h'.length then fail ⟨a,4,a⟩ 3 a else (⟨a,4,a⟩:Cr))=⟨a,4,a⟩:=by
     split
     ·unfold fail;rw [if_neg (fun hh=>absurd hh.1 (by simp))]
     ·rfl
    simp only [e4]
    unfold txnFrom txnNum txnEnd push
    simp only [byte_s (l:=l) (e:=4) (by decide),number_s (l:=l) (e:=4) (by decide)]
    rw [if_neg (fun hx=>absurd hx.2 (by simp))]
    simp only [byte_s (l:=l) (e:=4) (by decide)]
theorem rlines_eq {most:Int}:∀ (n:Nat) {s:RS} {h:List S42} {a:Int},Sy s h a→0≤a→Ok l s.c→left l s≤n →
 rlines l most n h a=(if (lines l most n s).c.e=0 then ((lines l most n s).h,0,0) else ([],(lines l most n s).c.e,(lines l most n s).c.x))
 | 0,s,h,a,y,a0,ok,hn=>by
  unfold left at hn
  rw [if_pos (by rw [y.c])] at hn
  omega
 | n+1,s,h,a,y,a0,ok,hn=>by
  have hok:=ok.2
  rw [y.c] at hok
  simp only at hok
  by_cases ha:a < l.length
  ·have hpk:(peek l s.c).2=true:=by rw [y.c,peek_b a ha]
   have hg:=step_line (most:=most) y a0 ha
   have tl:=To.line (l:=l) most s ok
   have hlt:=left_line (most:=most) ok (by rw [y.c]) (by rw [y.c];exact ha)
   have hs:lines l most (n+1) s=lines l most n (line l most s):=by conv=>lhs;unfold lines;rw [if_pos hpk]
   rw [hs]
   unfold rlines
   rw [if_pos ha]
   by_cases he:(rstep l h a most).2.2.1=0
   ·rw [if_pos he]
    have y1:=hg.1 he
    have h1:=tl.1.1
    rw [y1.c] at h1
    exact rlines_eq n y1 h1 tl.1 (by omega)
   ·rw [if_neg he]
    obtain ⟨e1,e2⟩:=hg.2 he
    have hne:(line l most s).c.e ≠ 0:=by rw [e1];exact he
    have hpn:(peek l (line l most s).c).2=false:=by
     unfold peek
     rw [if_neg (fun hh=>hne hh.1)]
    rw [peek_no hpn,if_neg hne,e1,e2]
  ·have hpn:(peek l s.c).2=false:=by
    rw [y.c]
    unfold peek
    rw [if_neg (fun hh=>ha hh.2)]
   rw [peek_no hpn,if_pos (by rw [y.c])]
   unfold rlines
   rw [if_neg ha,y.h]
theorem rdec_eq (l:List Int) (most:Int):rdec l most=decP l most:=by
 unfold rdec decP
 by_cases h1:most < 0 ∨ 4096 < most
 ·rw [if_pos h1,if_pos h1]
 ·rw [if_neg h1,if_neg h1]
  by_cases h2:262144 < l.length
  ·rw [if_pos h2,if_pos h2]
  ·rw [if_neg h2,if_neg h2]
   exact rlines_eq (l.length+1) (s:=start) ⟨rfl,rfl,fun i=>by simp [start,twinP],fun k v=>by simp [start,appP]⟩ (Int.le_refl 0) ⟨by simp [start],by simp [start]⟩ (by rw [left_start];exact Nat.le_refl _)
end
end Go.Proofs.Ytlcioegdmopppaa.Hs
