/- Printed by shake.py. -/
import Derived.Test.YtlcioegdmopppaaShE30
import Derived.BigQuiet
set_option linter.unusedSimpArgs false
namespace Go.Proofs.Ytlcioegdmopppaa.Hs
open Go.RowKit Go.Lib Go.Proofs.Ytlcioegdmopppaa.PEncodeBack Go.Proofs.YtlcioegdmopppaaW.PrintWords Go.Proofs.YtlcioegdmopppaaW.PrintLast
set_option linter.unusedVariables false
def Rk (w:World):List S42→List Value→Prop
 | [],cs=>cs=[]
 | t :: h,cs=>∃ c ds,cs=c ++ ds∧k42.K w t c∧Rk w h ds
theorem k42_len {w:World} {t:S42} {c:List Value} (h:k42.K w t c):c.length=3:=by
 obtain ⟨A2,c2,rfl,_⟩:=k42_open h
 rfl
theorem rk_len {w:World}:∀ {h:List S42} {cs:List Value},Rk w h cs→cs.length=h.length * 3
 | [],cs,e=>by have e:cs=[]:=e;subst e;rfl
 | t :: h,cs,⟨c,ds,e,hK,hR⟩=>by
  subst e
  rw [List.length_append,k42_len hK,rk_len hR,List.length_cons];omega
theorem rk_one {w:World}:∀ {h:List S42} {cs:List Value},Rk w h cs→∀ u ∈ cs,u.oneCell'=true
 | [],cs,e=>by have e:cs=[]:=e;subst e;simp
 | t :: h,cs,⟨c,ds,e,hK,hR⟩=>by
  subst e
  intro u hu
  rcases List.mem_append.1 hu with hu|hu
  ·obtain ⟨A2,c2,rfl,_⟩:=k42_open hK
   simp only [List.mem_cons,List.not_mem_nil,or_false] at hu
   rcases hu with rfl|rfl|rfl <;> rfl
  ·exact rk_one hR u hu
theorem k42_below {w w':World} {t:S42} {c:List Value} (h:k42.K w t c) (hb:Below w.heap.size w w'):k42.K w' t c:=by
 obtain ⟨A2,c2,rfl,h1,h2⟩:=k42_open h
 exact k42_mk w' t h1 (Kd.C_below h2 hb)
theorem rk_below {w w':World} (hb:Below w.heap.size w w'):∀ {h:List S42} {cs:List Value},Rk w h cs→Rk w' h cs
 | [],cs,e=>e
 | t :: h,cs,⟨c,ds,e,hK,hR⟩=>⟨c,ds,e,k42_below hK hb,rk_below hb hR⟩
theorem rk_snoc {w:World} {t:S42} {c:List Value} (hK:k42.K w t c):∀ {h:List S42} {cs:List Value},Rk w h cs→Rk w (h ++ [t]) (cs ++ c)
 | [],cs,e=>by
  have e:cs=[]:=e
  subst e
  exact ⟨c,[],by simp,hK,rfl⟩
 | t0 :: h,cs,⟨c0,ds,e,hK0,hR⟩=>⟨c0,ds ++ c,by rw [e,List.append_assoc],hK0,rk_snoc hK hR⟩
theorem rk_of {w:World} {A:Option Addr} {h:List S42} (hC:Kd.C k42 w A h.length h):∃ cs,Cells w A cs∧Rk w h cs:=by
 have key:∀ (d k:Nat),k+d=h.length→∃ cs,Rk w (h.drop k) cs∧(0 < d→∃ ad,A=some ad∧∀ i u,cs[i]?=some u→w.cell? (ad.add (k * 3+i))=some u):=by
  intro d
  induction d with
  | zero=>exact fun k hk=>⟨[],by rw [List.drop_eq_nil_of_le (by omega)];rfl,fun h=>by omega⟩
  | succ d ih =>
   intro k hk
   obtain ⟨cs,h1,h2⟩:=ih (k+1) (by omega)
   have hlt:k < h.length:=by omega
   obtain ⟨ad,c,e,hl,hK,hc⟩:=Kd.C_get hC z42 (k:Int) (by omega) (by omega)
   have hg:h.getD (k:Int).toNat z42=h[k]:=by rw [Int.toNat_natCast,List.getD_eq_getElem?_getD,List.getElem?_eq_getElem hlt];rfl
   rw [hg] at hK
   refine ⟨c ++ cs,by rw [List.drop_eq_getElem_cons hlt];exact ⟨c,cs,rfl,hK,h1⟩,fun _=>⟨ad,e,fun i u hu=>?_⟩⟩
   have hl3:=k42_len hK
   by_cases hi:i < 3
   ·rw [List.getElem?_append_left (by omega)] at hu
    have:=hc i u hu
    rw [Int.toNat_natCast] at this
    exact this
   ·rw [List.getElem?_append_right (by omega),hl3] at hu
    rcases Nat.eq_zero_or_pos d with h0|h0
    ·have:cs=[]:=by
      rw [List.drop_eq_nil_of_le (by omega)] at h1
      exact h1
     rw [this] at hu;simp at hu
    ·obtain ⟨ad2,e2,h3⟩:=h2 h0
     rw [e] at e2
     injection e2 with e2
     subst e2
     have:=h3 (i - 3) u hu
     rw [show (k+1) * 3+(i - 3)=k * 3+i from by omega] at this
     exact this
 obtain ⟨cs,h1,h2⟩:=key h.length 0 (by omega)
 rw [List.drop_zero] at h1
 refine ⟨cs,fun h0=>?_,h1⟩
 have:=rk_len h1
 obtain ⟨ad,e,h3⟩:=h2 (by omega)
 exact ⟨ad,e,fun j v hv=>by have:=h3 j v hv;rw [Nat.zero_mul,Nat.zero_add] at this;exact this⟩
theorem rk_get {w:World}:∀ {h:List S42} {cs:List Value},Rk w h cs→∀ j q,h[j]?=some q→∃ c,c.length=3∧k42.K w q c∧∀ i u,c[i]?=some u→cs[j * 3+i]?=some u
 | [],cs,_,j,q,hq=>by simp at hq
 | t :: h,cs,⟨c,ds,e,hK,hR⟩,0,q,hq=>by
  simp at hq
  subst hq
  subst e
  refine ⟨c,k42_len hK,hK,fun i u hu=>?_⟩
  have:=(List.getElem?_eq_some_iff.1 hu).1
  rw [Nat.zero_mul,Nat.zero_add,List.getElem?_append_left this];exact hu
 | t :: h,cs,⟨c,ds,e,hK,hR⟩,j+1,q,hq=>by
  subst e
  simp only [List.getElem?_cons_succ] at hq
  obtain ⟨c2,h1,h2,h3⟩:=rk_get hR j q hq
  have hl:=k42_len hK
  refine ⟨c2,h1,h2,fun i u hu=>?_⟩
  rw [List.getElem?_append_right (by omega),hl,show (j+1) * 3+i - 3=j * 3+i from by omega]
  exact h3 i u hu
theorem rk_C {w:World} {A:Option Addr} {h:List S42} {cs:List Value} (hc:Cells w A cs) (hR:Rk w h cs) (hl:h.length≤1000000):Kd.C k42 w A h.length h:=by
 refine ⟨rfl,by omega,fun h0=>?_⟩
 obtain ⟨ad,e,h1⟩:=hc (by rw [rk_len hR];omega)
 refine ⟨ad,e,fun j q hq=>?_⟩
 obtain ⟨c,h2,h3,h4⟩:=rk_get hR j q hq
 exact ⟨c,h2,h3,fun i u hu=>h1 _ _ (h4 i u hu)⟩
def isB (l:List Int) (a y:Int):Bool:=decide (a < (l.length:Int)) && (rd l a == y)
def twinP (h:List S42) (id:Int):Bool:=h.any fun t=>decide (t.f0=id)
theorem is_ev (l:List Int) (a y:Int) (h0:0≤a):coronerref03_is.f l a y=some (isB l a y):=by
 unfold coronerref03_is.f isB
 by_cases h:a < (l.length:Int)
 ·rw [if_pos h,if_pos h0,decide_eq_true h,Bool.true_and]
 ·rw [if_neg h,decide_eq_false h,Bool.false_and]
theorem twin_l0 (h:List S42) (id:Int) (hl:h.length≤big):∀ (d k:Nat),k+d=h.length→Ev (fun r=>coronerref03_twin.l0 r id (k:Int) h) (twinP (h.drop k) id)
 | 0,k,hk=>by
  rw [List.drop_eq_nil_of_le (by omega)]
  exact Ev.step (f:=fun _=>some _) (fun r=>by simp only [coronerref03_twin.l0];rw [if_neg (by omega)];rfl) (Ev.now _)
 | d+1,k,hk=>by
  have hlt:k < h.length:=by omega
  have ih:=twin_l0 h id hl d (k+1) (by omega)
  unfold big at *
  rw [List.drop_eq_getElem_cons hlt]
  unfold twinP at ih ⊢
  rw [List.any_cons]
  by_cases e:h[k].f0=id
  ·rw [decide_eq_true e,Bool.true_or]
   refine Ev.step (f:=fun _=>some true) (fun r=>?_) (Ev.now _)
   simp only [coronerref03_twin.l0]
   rw [if_pos (by omega),if_pos (by omega),rd42 hlt,if_pos e]
  ·rw [decide_eq_false e,Bool.false_or]
   refine Ev.step (fun r=>?_) ih
   simp only [coronerref03_twin.l0]
   rw [if_pos (by omega),if_pos (by omega),rd42 hlt,if_neg e,wrapS hlt (by omega)]
theorem twin_c (w:World) (h:List S42) (A:Option Addr) (c:Nat) (id:Int) (hC:Kd.C k42 w A h.length h) (hc:h.length≤c) (hl:h.length≤big) :
 Calls Try.prog 57 #[.agg #[.slice A h.length c],.int .i64 id] w fun e w'=>e=.returned (.bool (twinP h id))∧Below w.heap.size w w':=by
 have:=twin_l0 h id hl h.length 0 (by omega)
 rw [List.drop_zero] at this
 obtain ⟨K,hK⟩:=this.rounds
 exact coronerref03_twin.calls K A c h id _ w hC hc hK
theorem is_c (w:World) (l:List Int) (B:Option Addr) (d:Nat) (a y:Int) (hC:Kd.C (Kd.int .u8) w B l.length l) (hd:l.length≤d) (h0:0≤a) :
 Calls Try.prog 55 #[.slice B l.length d,.int .i64 a,.int .u8 y] w fun e w'=>e=.returned (.bool (isB l a y))∧Below w.heap.size w w' :=
 (coronerref03_is.calls B d l a y _ w hC hd (is_ev l a y h0)).mono fun e w' ⟨h1,h2⟩=>⟨h1,h2.below⟩
def rtx (l:List Int) (h:List S42) (a:Int):List S42 × Int × Int × Int :=
 if 1024≤h.length then (h,0,3,a) else if isB l (a+1) 32=false then (h,0,4,a+1) else
 if (parse l (a+2)).2.2=false then (h,0,4,(parse l (a+2)).2.1) else if twinP h (parse l (a+2)).1=true then (h,0,5,a+2) else
 if isB l (parse l (a+2)).2.1 32=false then (h,0,4,(parse l (a+2)).2.1) else
 if isB l ((parse l (a+2)).2.1+1) 97=false∧isB l ((parse l (a+2)).2.1+1) 99=false then (h,0,4,(parse l (a+2)).2.1+1) else
 if isB l ((parse l (a+2)).2.1+2) 10=false then (h,0,4,(parse l (a+2)).2.1+2) else
 (h ++ [⟨(parse l (a+2)).1,isB l ((parse l (a+2)).2.1+1) 97,[]⟩],(parse l (a+2)).2.1+3,0,0)
def ROut (w:World) (q:List S42 × Int × Int × Int) (r:Ending) (w':World):Prop :=
 ∃ A c,r=.returned (.tuple #[.agg #[.slice A q.1.length c],.int .i64 q.2.1,.int .i64 q.2.2.1,.int .i64 q.2.2.2])∧q.1.length≤c∧Kd.C k42 w' A q.1.length q.1∧Below w.heap.size w w'
theorem results_row_tmp3 {fn:Func} {p u u2 u3:Tmp} {ty:TypeId} (h:fn.results=#[.cell p ty,.tmp u,.tmp u2,.tmp u3]) (tmps:Array Value) {P:Program} (w:World) (g:Nat) (t:TypeId) (cs:Array Value) (fr:Nat × Nat) (d:TypeDesc)
 (hp:tmps.getD p undef=.pointer (some ⟨g,0,none⟩)) (hg:w.heap[g]?=some (.cells cs t fr))
 (hd:(match d with|.struct _|.array _ _=>true|_=>false)=true) (hu:P.underlying ty=some d) (hi:(P.info? ty).map (·.size)=some cs.size) :
 (results fn tmps).run P w=.ok (.tuple #[.agg cs,tmps.getD u undef,tmps.getD u2 undef,tmps.getD u3 undef]) w:=by
 have ha:(asAddr (.pointer (some ⟨g,0,none⟩))).run P w=.ok ⟨g,0,none⟩ w:=rfl
 have hc:(results fn tmps).run P w=((asAddr (tmps.getD p undef)).run P w).andThen fun a w₁=>((loadVar ty a).run P w₁).andThen fun v w₂=>.ok (.tuple #[v,tmps.getD u undef,tmps.getD u2 undef,tmps.getD u3 undef]) w₂:=by
  simp only [results,h]
  simp [Sem.run_bind,Result.andThen]
 rw [hc,hp,ha,Result.andThen_ok,run_loadVar_row w g t ty cs fr d hg hu (by cases d <;> simp_all) hi,Result.andThen_ok]
end Go.Proofs.Ytlcioegdmopppaa.Hs
