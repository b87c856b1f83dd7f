/- Printed by shake.py. -/
import Derived.Test.YtlcioegdmopppaaShE33
import Derived.Test.YtlcioegdmopppaaShE34
set_option linter.unusedSimpArgs false
namespace Go.Proofs.Ytlcioegdmopppaa.Hs
open Go.RowKit Go.Lib Go.Proofs.Ytlcioegdmopppaa.PEncodeBack Go.Proofs.YtlcioegdmopppaaW.PrintWords
set_option linter.unusedVariables false
def Ro (w:World):List S39→List Value→Prop
 | [],cs=>cs=[]
 | t :: h,cs=>∃ c ds,cs=c ++ ds∧k39.K w t c∧Ro w h ds
theorem k39_len {w:World} {t:S39} {c:List Value} (h:k39.K w t c):c.length=4:=by
 obtain ⟨A2,c2,rfl,_⟩:=k39_open h
 rfl
theorem ro_len {w:World}:∀ {h:List S39} {cs:List Value},Ro w h cs→cs.length=h.length * 4
 | [],cs,e=>by have e:cs=[]:=e;subst e;rfl
 | t :: h,cs,⟨c,ds,e,hK,hR⟩=>by
  subst e
  rw [List.length_append,k39_len hK,ro_len hR,List.length_cons];omega
theorem ro_one {w:World}:∀ {h:List S39} {cs:List Value},Ro w h cs→∀ u ∈ cs,u.oneCell'=true
 | [],cs,e=>by have e:cs=[]:=e;subst e;simp
 | t :: h,cs,⟨c,ds,e,hK,hR⟩=>by
  subst e
  intro u hu
  rcases List.mem_append.1 hu with hu|hu
  ·obtain ⟨A2,c2,rfl,_⟩:=k39_open hK
   simp only [List.mem_cons,List.not_mem_nil,or_false] at hu
   rcases hu with rfl|rfl|rfl|rfl <;> rfl
  ·exact ro_one hR u hu
theorem k39_below {w w':World} {t:S39} {c:List Value} (h:k39.K w t c) (hb:Below w.heap.size w w'):k39.K w' t c:=by
 obtain ⟨A2,c2,rfl,h1,h2⟩:=k39_open h
 exact k39_mk w' t h1 (Kd.C_below h2 hb)
theorem ro_below {w w':World} (hb:Below w.heap.size w w'):∀ {h:List S39} {cs:List Value},Ro w h cs→Ro w' h cs
 | [],cs,e=>e
 | t :: h,cs,⟨c,ds,e,hK,hR⟩=>⟨c,ds,e,k39_below hK hb,ro_below hb hR⟩
theorem ro_snoc {w:World} {t:S39} {c:List Value} (hK:k39.K w t c):∀ {h:List S39} {cs:List Value},Ro w h cs→Ro w (h ++ [t]) (cs ++ c)
 | [],cs,e=>by
  have e:cs=[]:=e
  subst e
  exact ⟨c,[],by simp,hK,rfl⟩
 | t0 :: h,cs,⟨c0,ds,e,hK0,hR⟩=>⟨c0,ds ++ c,by rw [e,List.append_assoc],hK0,ro_snoc hK hR⟩
theorem ro_of {w:World} {A:Option Addr} {h:List S39} (hC:Kd.C k39 w A h.length h):∃ cs,Cells w A cs∧Ro w h cs:=by
 have key:∀ (d k:Nat),k+d=h.length→∃ cs,Ro w (h.drop k) cs∧(0 < d→∃ ad,A=some ad∧∀ i u,cs[i]?=some u→w.cell? (ad.add (k * 4+i))=some u):=by
  intro d
  induction d with
  | zero=>exact fun k hk=>⟨[],by rw [List.drop_eq_nil_of_le (by omega)];rfl,fun h=>by omega⟩
  | succ d ih =>
   intro k hk
   obtain ⟨cs,h1,h2⟩:=ih (k+1) (by omega)
   have hlt:k < h.length:=by omega
   obtain ⟨ad,c,e,hl,hK,hc⟩:=Kd.C_get hC z39 (k:Int) (by omega) (by omega)
   have hg:h.getD (k:Int).toNat z39=h[k]:=by rw [Int.toNat_natCast,List.getD_eq_getElem?_getD,List.getElem?_eq_getElem hlt];rfl
   rw [hg] at hK
   refine ⟨c ++ cs,by rw [List.drop_eq_getElem_cons hlt];exact ⟨c,cs,rfl,hK,h1⟩,fun _=>⟨ad,e,fun i u hu=>?_⟩⟩
   have hl4:=k39_len hK
   by_cases hi:i < 4
   ·rw [List.getElem?_append_left (by omega)] at hu
    have:=hc i u hu
    rw [Int.toNat_natCast] at this
    exact this
   ·rw [List.getElem?_append_right (by omega),hl4] at hu
    rcases Nat.eq_zero_or_pos d with h0|h0
    ·have:cs=[]:=by
      rw [List.drop_eq_nil_of_le (by omega)] at h1
      exact h1
     rw [this] at hu;simp at hu
    ·obtain ⟨ad2,e2,h3⟩:=h2 h0
     rw [e] at e2
     injection e2 with e2
     subst e2
     have:=h3 (i - 4) u hu
     rw [show (k+1) * 4+(i - 4)=k * 4+i from by omega] at this
     exact this
 obtain ⟨cs,h1,h2⟩:=key h.length 0 (by omega)
 rw [List.drop_zero] at h1
 refine ⟨cs,fun h0=>?_,h1⟩
 have:=ro_len h1
 obtain ⟨ad,e,h3⟩:=h2 (by omega)
 exact ⟨ad,e,fun j v hv=>by have:=h3 j v hv;rw [Nat.zero_mul,Nat.zero_add] at this;exact this⟩
theorem ro_get {w:World}:∀ {h:List S39} {cs:List Value},Ro w h cs→∀ j q,h[j]?=some q→∃ c,c.length=4∧k39.K w q c∧∀ i u,c[i]?=some u→cs[j * 4+i]?=some u
 | [],cs,_,j,q,hq=>by simp at hq
 | t :: h,cs,⟨c,ds,e,hK,hR⟩,0,q,hq=>by
  simp at hq
  subst hq
  subst e
  refine ⟨c,k39_len hK,hK,fun i u hu=>?_⟩
  have:=(List.getElem?_eq_some_iff.1 hu).1
  rw [Nat.zero_mul,Nat.zero_add,List.getElem?_append_left this];exact hu
 | t :: h,cs,⟨c,ds,e,hK,hR⟩,j+1,q,hq=>by
  subst e
  simp only [List.getElem?_cons_succ] at hq
  obtain ⟨c2,h1,h2,h3⟩:=ro_get hR j q hq
  have hl:=k39_len hK
  refine ⟨c2,h1,h2,fun i u hu=>?_⟩
  rw [List.getElem?_append_right (by omega),hl,show (j+1) * 4+i - 4=j * 4+i from by omega]
  exact h3 i u hu
theorem ro_C {w:World} {A:Option Addr} {h:List S39} {cs:List Value} (hc:Cells w A cs) (hR:Ro w h cs) (hl:h.length≤1000000):Kd.C k39 w A h.length h:=by
 refine ⟨rfl,by omega,fun h0=>?_⟩
 obtain ⟨ad,e,h1⟩:=hc (by rw [ro_len hR];omega)
 refine ⟨ad,e,fun j q hq=>?_⟩
 obtain ⟨c,h2,h3,h4⟩:=ro_get hR j q hq
 exact ⟨c,h2,h3,fun i u hu=>h1 _ _ (h4 i u hu)⟩
def hitP (a b:Int) (o:S39):Bool:=!o.f0 && (decide (o.f1=a) && decide (o.f2=b))
def appP (h:List S42) (a b:Int):Bool:=h.any fun t=>t.f2.any (hitP a b)
theorem app_l1 (h:List S42) (a b:Int) (hl:h.length≤big) (k:Nat) (hk:k < h.length) (ht:h[k].f2.length≤big) (R:Bool) (hR:Ev (fun r=>coronerref03_Appended.l0 r a b ((k+1:Nat):Int) h) R):∀ (d j:Nat),j+d=h[k].f2.length →
 Ev (fun r=>coronerref03_Appended.l1 r a b (k:Int) (j:Int) h) ((h[k].f2.drop j).any (hitP a b) || R)
 | 0,j,hj=>by
  unfold big at *
  rw [List.drop_eq_nil_of_le (by omega),List.any_nil,Bool.false_or]
  refine Ev.step (fun r=>?_) hR
  simp only [coronerref03_Appended.l1]
  rw [if_pos (by omega),if_pos (by omega),rd42 hk,if_neg (by omega),wrapS hk (by omega)]
 | d+1,j,hj=>by
  have hlt:j < h[k].f2.length:=by omega
  have ih:=app_l1 h a b hl k hk ht R hR d (j+1) (by omega)
  unfold big at *
  rw [List.drop_eq_getElem_cons hlt,List.any_cons]
  have hstep:∀ r,coronerref03_Appended.l1 (r+1) a b (k:Int) (j:Int) h=if hitP a b h[k].f2[j]=true then some true else coronerref03_Appended.l1 r a b (k:Int) ((j+1:Nat):Int) h:=fun r=>by
   simp only [coronerref03_Appended.l1]
   rw [if_pos (by omega),if_pos (by omega),rd42 hk,if_pos (by omega),if_pos (by omega),rd39 hlt,wrapS hlt (by omega)]
   unfold hitP
   by_cases h0:h[k].f2[j].f0=true
   ·rw [if_pos h0,if_neg (by simp [h0])]
   ·rw [if_neg h0]
    by_cases h1:h[k].f2[j].f1=a
    ·rw [if_pos h1]
     by_cases h2:h[k].f2[j].f2=b
     ·rw [if_pos h2,if_pos (by simp [h0,h1,h2])]
     ·rw [if_neg h2,if_neg (by simp [h2])]
    ·rw [if_neg h1,if_neg (by simp [h1])]
  cases hh:hitP a b h[k].f2[j] with
  | true =>
   rw [Bool.true_or,Bool.true_or]
   exact Ev.step (f:=fun _=>some true) (fun r=>by rw [hstep,if_pos hh]) (Ev.now _)
  | false =>
   rw [Bool.false_or]
   exact Ev.step (fun r=>by rw [hstep,if_neg (by rw [hh];decide)]) ih
theorem app_l0 (h:List S42) (a b:Int) (hl:h.length≤big) (ht:∀ t ∈ h,t.f2.length≤big):∀ (d k:Nat),k+d=h.length→Ev (fun r=>coronerref03_Appended.l0 r a b (k:Int) h) (appP (h.drop k) a b)
 | 0,k,hk=>by
  rw [List.drop_eq_nil_of_le (by omega)]
  exact Ev.step (f:=fun _=>some false) (fun r=>by simp only [coronerref03_Appended.l0];rw [if_neg (by omega)]) (Ev.now _)
 | d+1,k,hk=>by
  have hlt:k < h.length:=by omega
  have h1:=app_l1 h a b hl k hlt (ht _ (List.getElem_mem hlt)) _ (app_l0 h a b hl ht d (k+1) (by omega)) h[k].f2.length 0 (by omega)
  rw [List.drop_zero] at h1
  unfold appP at *
  rw [List.drop_eq_getElem_cons hlt,List.any_cons]
  exact Ev.step (fun r=>by simp only [coronerref03_Appended.l0];rw [if_pos (by omega)];rfl) h1
theorem app_ev (h:List S42) (a b:Int) (hl:h.length≤big) (ht:∀ t ∈ h,t.f2.length≤big):Ev (fun r=>coronerref03_Appended.f r h a b) (appP h a b):=app_l0 h a b hl ht h.length 0 (by omega)
theorem app_c (w:World) (h:List S42) (A:Option Addr) (c:Nat) (x y:Int) (hC:Kd.C k42 w A h.length h) (hc:h.length≤c) (hl:h.length≤big) (ht:∀ t ∈ h,t.f2.length≤big) :
 Calls Try.prog 30 #[.agg #[.slice A h.length c],.int .i64 x,.int .i64 y] w fun e w'=>e=.returned (.bool (appP h x y))∧Below w.heap.size w w':=by
 obtain ⟨K,hK⟩:=(app_ev h x y hl ht).rounds
 exact coronerref03_Appended.calls K A c h x y _ w hC hc hK
def rend (l:List Int) (h:List S42) (o:S39) (a:Int):List S42 × Int × Int × Int:=if isB l a 10=false then (h,0,4,a) else (addOp h o,a+1,0,0)
def rread (l:List Int) (h:List S42) (key a:Int):List S42 × Int × Int × Int:=if (list l a).2.2=false then (h,0,4,(list l a).2.1) else rend l h ⟨true,key,0,(list l a).1⟩ (list l a).2.1
def rapp (l:List Int) (h:List S42) (key a:Int):List S42 × Int × Int × Int :=
 if isB l a 32=false then (h,0,4,a) else if (parse l (a+1)).2.2=false then (h,0,4,(parse l (a+1)).2.1) else
 if appP h key (parse l (a+1)).1=true then (h,0,6,a+1) else rend l h ⟨false,key,(parse l (a+1)).1,[]⟩ (parse l (a+1)).2.1
def rop (l:List Int) (h:List S42) (a most:Int):List S42 × Int × Int × Int :=
 if h=[] then (h,0,4,a) else if most≤opsN h then (h,0,3,a) else if isB l (a+1) 32=false then (h,0,4,a+1) else
 if (parse l (a+2)).2.2=false then (h,0,4,(parse l (a+2)).2.1) else
 if rd l a=114 then rread l h (parse l (a+2)).1 (parse l (a+2)).2.1 else rapp l h (parse l (a+2)).1 (parse l (a+2)).2.1
def rstep (l:List Int) (h:List S42) (a most:Int):List S42 × Int × Int × Int :=
 if rd l a=116 then rtx l h a else if rd l a=97 ∨ rd l a=114 then rop l h a most else (h,0,4,a)
def rlines (l:List Int) (most:Int):Nat→List S42→Int→List S42 × Int × Int
 | 0,h,_=>(h,0,0)
 | n+1,h,a=>if a < l.length then (if (rstep l h a most).2.2.1=0 then rlines l most n (rstep l h a most).1 (rstep l h a most).2.1 else ([],(rstep l h a most).2.2.1,(rstep l h a most).2.2.2)) else (h,0,0)
def rdec (l:List Int) (most:Int):List S42 × Int × Int :=
 if most < 0 ∨ 4096 < most then ([],2,0) else if 262144 < l.length then ([],3,262144) else rlines l most (l.length+1) [] 0
end Go.Proofs.Ytlcioegdmopppaa.Hs
