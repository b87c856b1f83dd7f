/- Printed by shake.py. -/
import Derived.Test.YtlcioegdmopppaaShE40
import Derived.Test.YtlcioegdmopppaaShE42
set_option linter.unusedSimpArgs false
namespace Go.Proofs.Ytlcioegdmopppaa.Hs
open Go.RowKit Go.Lib Go.Proofs.Ytlcioegdmopppaa.PEncodeBack Go.Proofs.YtlcioegdmopppaaW.PrintWords
open En (okN okOp okT opT headT txnT histT opsP txnsP partsP okN_iff checkP encP numS)
set_option linter.unusedVariables false
theorem rd_of {l pre suf:List Int} {x a:Int} (e:l=pre ++ x :: suf) (ha:a=(pre.length:Int)):rd l a=x:=by
 subst e ha
 simp [rd,List.getD_eq_getElem?_getD]
theorem isB_of {l pre suf:List Int} {x a:Int} (e:l=pre ++ x :: suf) (ha:a=(pre.length:Int)):isB l a x=true:=by
 unfold isB
 rw [rd_of e ha]
 subst e ha
 simp
 omega
theorem parse_of {l pre suf:List Int} {n a:Int} (e:l=pre ++ (numS n ++ suf)) (ha:a=(pre.length:Int)) (hn:okN n=true) (hs:Stops suf):parse l a=(n,a+(numS n).length,true):=by
 have hb:=okN_iff.1 hn
 have h:=parse_back pre suf n.toNat (by omega) hs
 subst e ha
 unfold numS
 rw [← List.append_assoc,h,low_length]
 rw [Int.toNat_of_nonneg hb.1]
theorem stops_c {x:Int} {suf:List Int} (h:x < 48):Stops (x :: suf):=.inr (by simp;omega)
theorem list_of {l pre suf m:List Int} {a:Int} (e:l=pre ++ (texts m ++ 10 :: suf)) (ha:a=(pre.length:Int)) (hm:m.all okN=true):list l a=(m,a+(texts m).length,true):=by
 have h:=list_back pre (10 :: suf) m (stops_c (by decide)) (by simp) (fun x hx=>okN_iff.1 (List.all_eq_true.1 hm x hx))
 subst e ha
 rw [← List.append_assoc,h]
theorem texts_n (n:Int) (m:List Int):texts (n :: m)=32 :: (numS n ++ texts m):=rfl
theorem back_txn {l pre suf:List Int} {H:List S42} {t:S42} (e:l=pre ++ (headT t ++ suf)) (h1:H.length < 1024) (hid:okN t.f0=true) (htw:¬ twinP H t.f0=true):rtx l H pre.length=(H ++ [⟨t.f0,t.f1,[]⟩],((pre ++ headT t).length:Int),0,0):=by
 have e0:l=pre ++ 116 :: 32 :: (numS t.f0 ++ 32 :: (if t.f1=true then 97 else 99) :: 10 :: suf):=by
  rw [e]
  unfold headT
  rw [texts_n]
  simp [texts]
 have b1:isB l (pre.length+1) 32=true:=isB_of (pre:=pre ++ [116]) (by rw [e0];simp;rfl) (by simp)
 have p1:=parse_of (l:=l) (a:=pre.length+2) (pre:=pre ++ [116,32]) (suf:=32 :: (if t.f1=true then 97 else 99) :: 10 :: suf) (by rw [e0];simp) (by simp) hid (stops_c (by decide))
 have b2:isB l (pre.length+2+(numS t.f0).length) 32=true:=isB_of (pre:=pre ++ 116 :: 32 :: numS t.f0) (by rw [e0];simp;rfl) (by simp;omega)
 have b3:isB l (pre.length+2+(numS t.f0).length+1) (if t.f1=true then 97 else 99)=true:=isB_of (pre:=pre ++ 116 :: 32 :: (numS t.f0 ++ [32])) (by rw [e0];simp;rfl) (by simp;omega)
 have b4:isB l (pre.length+2+(numS t.f0).length+2) 10=true:=isB_of (pre:=pre ++ 116 :: 32 :: (numS t.f0 ++ [32,if t.f1=true then 97 else 99])) (by rw [e0];simp;rfl) (by simp;omega)
 have b5:isB l (pre.length+2+(numS t.f0).length+1) 97=t.f1:=by
  cases hf:t.f1 with
  | true=>rw [hf] at b3;simpa using b3
  | false =>
   rw [hf] at b3
   have:=is_rd b3
   unfold isB
   rw [this]
   simp
 unfold rtx
 rw [if_neg (by omega),b1,if_neg (by decide),p1]
 simp only
 rw [if_neg (by decide),if_neg htw,b2,if_neg (by decide),b4,b5]
 rw [if_neg (by
  cases hf:t.f1 with
  | true=>simp
  | false=>rw [hf] at b3;intro hh;rw [show (if false=true then (97:Int) else 99)=99 from rfl,hh.2] at b3;cases b3)]
 rw [if_neg (by decide)]
 simp only [Prod.mk.injEq,true_and,and_true]
 unfold headT
 rw [texts_n]
 simp [texts]
 omega
theorem addOp_snoc (H:List S42) (t:S42) (o:S39):addOp (H ++ [t]) o=H ++ [{ t with f2:=t.f2 ++ [o] }]:=by
 obtain ⟨hs,t',e,ha⟩:=last_splitA (h:=H ++ [t]) (by simp)
 obtain ⟨e1,e2⟩:=List.append_inj' e rfl
 injection e2 with e2
 subst e1 e2
 exact ha o
theorem rend_of {l pre suf:List Int} {H:List S42} {o:S39} {a:Int} (e:l=pre ++ 10 :: suf) (ha:a=(pre.length:Int)):rend l H o a=(addOp H o,a+1,0,0):=by
 unfold rend
 rw [isB_of e ha,if_neg (by decide)]
theorem back_op {l pre suf:List Int} {H:List S42} {o:S39} (e:l=pre ++ (opT o ++ suf)) (hn:H ≠ []) (hop:okOp o=true) (hops:opsN H < 4096) (hap:o.f0=false→¬ appP H o.f1 o.f2=true):rstep l H pre.length 4096=(addOp H o,((pre ++ opT o).length:Int),0,0):=by
 obtain ⟨r,key,v,ls⟩:=o
 unfold okOp at hop
 simp only [Bool.and_eq_true] at hop
 obtain ⟨k1,k2⟩:=hop
 unfold rstep rop
 cases r with
 | true =>
  rw [if_pos rfl] at k2
  simp only [Bool.and_eq_true,decide_eq_true_eq] at k2
  obtain ⟨rfl,k3⟩:=k2
  have e0:l=pre ++ 114 :: 32 :: (numS key ++ (texts ls ++ 10 :: suf)):=by
   rw [e]
   unfold opT
   rw [if_pos rfl,texts_n]
   simp
  have r0:=rd_of (l:=l) (a:=pre.length) e0 rfl
  have b1:isB l (pre.length+1) 32=true:=isB_of (pre:=pre ++ [114]) (by rw [e0];simp;rfl) (by simp)
  have p1:=parse_of (l:=l) (a:=pre.length+2) (pre:=pre ++ [114,32]) (suf:=texts ls ++ 10 :: suf) (by rw [e0];simp) (by simp) k1 (texts_stop ls _ (stops_c (by decide)))
  have q1:=list_of (l:=l) (a:=pre.length+2+(numS key).length) (pre:=pre ++ 114 :: 32 :: numS key) (suf:=suf) (by rw [e0];simp) (by simp;omega) k3
  rw [if_neg (by rw [r0];decide),if_pos (.inr r0),if_neg hn,if_neg (by omega),b1,if_neg (by decide),p1]
  simp only
  rw [if_neg (by decide),if_pos r0]
  unfold rread
  rw [q1]
  simp only
  rw [if_neg (by decide),rend_of (pre:=pre ++ 114 :: 32 :: (numS key ++ texts ls)) (suf:=suf) (by rw [e0];simp) (by simp;omega)]
  simp only [Prod.mk.injEq,true_and,and_true]
  unfold opT
  rw [if_pos rfl,texts_n]
  simp
  omega
 | false =>
  rw [if_neg (by decide)] at k2
  simp only [Bool.and_eq_true,decide_eq_true_eq] at k2
  obtain ⟨k3,rfl⟩:=k2
  have e0:l=pre ++ 97 :: 32 :: (numS key ++ 32 :: (numS v ++ 10 :: suf)):=by
   rw [e]
   unfold opT
   rw [if_neg (by simp),texts_n,texts_n]
   simp [texts]
  have r0:=rd_of (l:=l) (a:=pre.length) e0 rfl
  have b1:isB l (pre.length+1) 32=true:=isB_of (pre:=pre ++ [97]) (by rw [e0];simp;rfl) (by simp)
  have p1:=parse_of (l:=l) (a:=pre.length+2) (pre:=pre ++ [97,32]) (suf:=32 :: (numS v ++ 10 :: suf)) (by rw [e0];simp) (by simp) k1 (stops_c (by decide))
  have b2:isB l (pre.length+2+(numS key).length) 32=true:=isB_of (pre:=pre ++ 97 :: 32 :: numS key) (by rw [e0];simp;rfl) (by simp;omega)
  have p2:=parse_of (l:=l) (a:=pre.length+2+(numS key).length+1) (pre:=pre ++ 97 :: 32 :: (numS key ++ [32])) (suf:=10 :: suf) (by rw [e0];simp) (by simp;omega) k3 (stops_c (by decide))
  rw [if_neg (by rw [r0];decide),if_pos (.inl r0),if_neg hn,if_neg (by omega),b1,if_neg (by decide),p1]
  simp only
  rw [if_neg (by decide),if_neg (by rw [r0];decide)]
  unfold rapp
  rw [b2,if_neg (by decide),p2]
  simp only
  rw [if_neg (by decide),if_neg (hap rfl),rend_of (pre:=pre ++ 97 :: 32 :: (numS key ++ 32 :: numS v)) (suf:=suf) (by rw [e0];simp) (by simp;omega)]
  simp only [Prod.mk.injEq,true_and,and_true]
  unfold opT
  rw [if_neg (by simp),texts_n,texts_n]
  simp [texts]
  omega
theorem rl_step {l:List Int} {H H':List S42} {a a' most:Int} {n:Nat} (ha:a < l.length) (hs:rstep l H a most=(H',a',0,0)):rlines l most (n+1) H a=rlines l most n H' a':=by
 conv=>lhs;unfold rlines
 rw [if_pos ha,hs,if_pos rfl]
theorem opT_pos (o:S39):1≤(opT o).length:=by unfold opT;simp
theorem headT_pos (t:S42):1≤(headT t).length:=by unfold headT;simp
theorem back_ops {l suf:List Int}:∀ (os:List S39) (pre:List Int) (H:List S42) (t:S42) (met:List (Int × Int)) (n:Nat),(opsP os met).1=0→(∀ k v,appP (H ++ [t]) k v=true→(k,v) ∈ met)→opsN (H ++ [t])+os.length≤4096→l=pre ++ (os.flatMap opT ++ suf) →
 rlines l 4096 (n+os.length) (H ++ [t]) pre.length=rlines l 4096 n (H ++ [{ t with f2:=t.f2 ++ os }]) ((pre ++ os.flatMap opT).length:Int)∧(∀ k v,appP (H ++ [{ t with f2:=t.f2 ++ os }]) k v=true→(k,v) ∈ (opsP os met).2)
 | [],pre,H,t,met,n,_,hm,_,_=>by
  have e0:({ t with f2:=t.f2 ++ [] }:S42)=t:=by rw [List.append_nil]
  rw [e0]
  exact ⟨by simp,hm⟩
 | o :: os,pre,H,t,met,n,hp,hm,hc,e=>by
  unfold opsP at hp
  by_cases h1:okOp o=false
  ·rw [if_pos h1] at hp;exact absurd hp (by simp)
  rw [if_neg h1] at hp
  have e1:l=pre ++ (opT o ++ (os.flatMap opT ++ suf)):=by rw [e,List.flatMap_cons,List.append_assoc]
  have hlt:(pre.length:Int) < l.length:=by
   have:=opT_pos o
   rw [e1]
   simp only [List.length_append]
   omega
  rw [List.length_cons] at hc
  have hadd:=addOp_snoc H t o
  have hn:H ++ [t] ≠ []:=by simp
  have key:∀ met':List (Int × Int),(opsP os met').1=0→(o.f0=false→¬ appP (H ++ [t]) o.f1 o.f2=true)→(∀ k v,appP (H ++ [{ t with f2:=t.f2 ++ [o] }]) k v=true→(k,v) ∈ met') →
   rlines l 4096 (n+(o :: os).length) (H ++ [t]) pre.length=rlines l 4096 n (H ++ [{ t with f2:=t.f2 ++ o :: os }]) ((pre ++ (o :: os).flatMap opT).length:Int)∧(∀ k v,appP (H ++ [{ t with f2:=t.f2 ++ o :: os }]) k v=true→(k,v) ∈ (opsP os met').2):=by
   intro met' hp' hap hm'
   have hst:=back_op e1 hn (by simpa using h1) (by omega) hap
   rw [hadd] at hst
   obtain ⟨g1,g2⟩:=back_ops (l:=l) (suf:=suf) os (pre ++ opT o) H { t with f2:=t.f2 ++ [o] } met' n hp' hm' (by rw [ops_snoc] at hc ⊢;simp only [List.length_append,List.length_singleton];omega) (by rw [e1];simp)
   simp only [List.append_assoc,List.cons_append,List.nil_append] at g1 g2
   rw [List.length_cons,← Nat.add_assoc,rl_step hlt hst,g1]
   exact ⟨by rw [List.flatMap_cons],g2⟩
  unfold opsP
  rw [if_neg h1]
  by_cases h2:o.f0=true
  ·rw [if_pos h2] at hp ⊢
   refine key met hp (fun hh=>by rw [h2] at hh;cases hh) (fun k v hk=>hm k v ?_)
   rw [← hadd,app_add hn] at hk
   simpa [hitP,h2] using hk
  ·rw [if_neg h2] at hp ⊢
   by_cases h3:(o.f1,o.f2) ∈ met
   ·rw [if_pos h3] at hp;exact absurd hp (by simp)
   rw [if_neg h3] at hp ⊢
   refine key _ hp (fun _ hh=>h3 (hm _ _ hh)) (fun k v hk=>?_)
   rw [← hadd,app_add hn] at hk
   simp only [Bool.or_eq_true] at hk
   rcases hk with hk|hk
   ·exact List.mem_cons_of_mem _ (hm k v hk)
   ·simp [hitP] at hk
    obtain ⟨-,rfl,rfl⟩:=hk
    exact List.mem_cons_self ..
theorem back_txns {l:List Int}:∀ (ts:List S42) (pre:List Int) (H:List S42) (ids:List Int) (met:List (Int × Int)) (n:Nat),txnsP ts ids met=0→(∀ i,twinP H i=true→i ∈ ids)→(∀ k v,appP H k v=true→(k,v) ∈ met)→H.length+ts.length≤1024→opsN H+opsN ts≤4096→l=pre ++ histT ts→ts.length+opsN ts≤n →
 rlines l 4096 (n+1) H pre.length=(H ++ ts,0,0)
 | [],pre,H,ids,met,n,_,_,_,_,_,e,_=>by
  have e:l=pre:=by rw [e];simp [histT]
  subst e
  unfold rlines
  rw [if_neg (by omega),List.append_nil]
 | t :: ts,pre,H,ids,met,n,hp,hi,hm,hl,ho,e,hn=>by
  unfold txnsP at hp
  by_cases h1:okN t.f0=false
  ·rw [if_pos h1] at hp;exact absurd hp (by decide)
  rw [if_neg h1] at hp
  by_cases h2:t.f0 ∈ ids
  ·rw [if_pos h2] at hp;exact absurd hp (by decide)
  rw [if_neg h2] at hp
  by_cases h3:(opsP t.f2 met).1 ≠ 0
  ·rw [if_pos h3] at hp;exact absurd hp h3
  rw [if_neg h3] at hp
  have h3':(opsP t.f2 met).1=0:=Decidable.not_not.1 h3
  have eo:opsN (t :: ts)=t.f2.length+opsN ts:=rfl
  rw [eo] at ho hn
  rw [List.length_cons] at hl hn
  have e1:l=pre ++ (headT t ++ (t.f2.flatMap opT ++ histT ts)):=by
   rw [e]
   unfold histT txnT
   rw [List.flatMap_cons,List.append_assoc]
  have hlt:(pre.length:Int) < l.length:=by
   have:=headT_pos t
   rw [e1]
   simp only [List.length_append]
   omega
  have hr:rd l pre.length=116:=rd_of (suf:=texts [t.f0] ++ [32,if t.f1=true then 97 else 99,10] ++ (t.f2.flatMap opT ++ histT ts)) (by rw [e1];unfold headT;simp) rfl
  have hst:rstep l H pre.length 4096=(H ++ [⟨t.f0,t.f1,[]⟩],((pre ++ headT t).length:Int),0,0):=by
   unfold rstep
   rw [if_pos hr]
   exact back_txn e1 (by omega) (by simpa using h1) (fun hh=>h2 (hi _ hh))
  obtain ⟨m,rfl⟩:∃ m,n=m+1+t.f2.length:=⟨n - 1 - t.f2.length,by omega⟩
  obtain ⟨g1,g2⟩:=back_ops (l:=l) (suf:=histT ts) t.f2 (pre ++ headT t) H ⟨t.f0,t.f1,[]⟩ met (m+1) h3' (fun k v hk=>hm k v (by rw [app_snoc] at hk;exact hk)) (by rw [ops_snoc];simp only [List.length_nil];omega) (by rw [e1];simp)
  simp only [List.nil_append] at g1 g2
  rw [rl_step hlt hst,g1]
  have g3:=back_txns (l:=l) ts (pre ++ headT t ++ t.f2.flatMap opT) (H ++ [t]) (t.f0 :: ids) (opsP t.f2 met).2 m hp (fun i hh=>by
   rw [twin_snoc] at hh
   simp only [Bool.or_eq_true,decide_eq_true_eq] at hh
   rcases hh with hh|hh
   ·rw [← hh];exact List.mem_cons_self ..
   ·exact List.mem_cons_of_mem _ (hi i hh)) g2 (by simp only [List.length_append,List.length_singleton];omega) (by rw [ops_snoc];omega) (by rw [e1];simp) (by omega)
  rw [g3,List.append_assoc]
  rfl
theorem hist_ge:∀ h:List S42,h.length+opsN h≤(histT h).length
 | []=>Nat.le_refl _
 | t :: h=>by
  have h1:=hist_ge h
  have h2:=headT_pos t
  have h3:∀ os:List S39,os.length≤(os.flatMap opT).length:=by
   intro os
   induction os with
   | nil=>exact Nat.le_refl _
   | cons o os ih =>
    have:=opT_pos o
    rw [List.flatMap_cons,List.length_append,List.length_cons]
    omega
  have h4:=h3 t.f2
  have eo:opsN (t :: h)=t.f2.length+opsN h:=rfl
  have et:(histT (t :: h)).length=(headT t).length+(t.f2.flatMap opT).length+(histT h).length:=by
   unfold histT txnT
   rw [List.flatMap_cons,List.length_append,List.length_append]
  rw [eo,et,List.length_cons]
  omega
theorem opsN_en:∀ h:List S42,En.opsN h=opsN h
 | []=>rfl
 | t :: h=>by
  have:=opsN_en h
  have e:opsN (t :: h)=t.f2.length+opsN h:=rfl
  rw [e,← this];rfl
theorem dec_back {h:List S42} (hc:checkP h=0):decP (histT h) 4096=(h,0,0):=by
 unfold checkP at hc
 by_cases h1:1024 < h.length ∨ 4096 < En.opsN h
 ·rw [if_pos h1] at hc;exact absurd hc (by decide)
 rw [if_neg h1] at hc
 by_cases h2:partsP h ≠ 0
 ·rw [if_pos h2] at hc;exact absurd hc h2
 rw [if_neg h2] at hc
 by_cases h3:262144 < (histT h).length
 ·rw [if_pos h3] at hc;exact absurd hc (by decide)
 rw [opsN_en] at h1
 rw [← rdec_eq]
 unfold rdec
 rw [if_neg (by omega),if_neg h3]
 have:=back_txns (l:=histT h) h [] [] [] [] (histT h).length (Decidable.not_not.1 h2) (fun i hh=>by simp [twinP] at hh) (fun k v hh=>by simp [appP] at hh) (by simp;omega) (by simp [opsN];unfold opsN at h1;omega) rfl (hist_ge h)
 simpa using this
end Go.Proofs.Ytlcioegdmopppaa.Hs
