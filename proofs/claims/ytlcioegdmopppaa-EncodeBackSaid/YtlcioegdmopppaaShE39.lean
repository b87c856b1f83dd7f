/- Printed by shake.py. -/
import Derived.Test.YtlcioegdmopppaaShE38
set_option linter.unusedSimpArgs false
namespace Go.Proofs.Ytlcioegdmopppaa.Hs
open Go.RowKit Go.Lib Go.Proofs.Ytlcioegdmopppaa.PEncodeBack Go.Proofs.YtlcioegdmopppaaW.PrintWords Go.Proofs.YtlcioegdmopppaaW.PrintLast
set_option linter.unusedVariables false
theorem cell_box {W:World} {b:Nat} {x v:Value} {T:TypeId} (hB:Blk W b [x] T) {ad:Addr} {k:Nat} {u:Value} (h:W.cell? (ad.add k)=some u) (hk:u=x→0 < k):(W.setCell ⟨b,0,none⟩ v).cell? (ad.add k)=some u:=by
 by_cases e:(⟨b,0,none⟩:Addr)=ad.add k
 ·have h1:=hB.cell 0
  rw [e,h] at h1
  have h1:some u=some x:=h1
  injection h1 with h1
  have h2:=hk h1
  have h3:=congrArg Addr.off e
  unfold Addr.add at h3
  rw [if_neg (by omega)] at h3
  simp only at h3
  omega
 ·rw [World.cell?_setCell_other _ _ _ _ e]
  exact h
theorem cells_box {W:World} {b:Nat} {x v:Value} {T:TypeId} (hB:Blk W b [x] T) {A:Option Addr} {cs:List Value} (h:Cells W A cs) (h0:∀ u,cs[0]?=some u→u ≠ x):Cells (W.setCell ⟨b,0,none⟩ v) A cs:=fun hl=>by
 obtain ⟨ad,e,hc⟩:=h hl
 refine ⟨ad,e,fun j u hu=>cell_box hB (hc j u hu) (fun ex=>?_)⟩
 rcases Nat.eq_zero_or_pos j with rfl|hp
 ·exact absurd ex (h0 u hu)
 ·exact hp
theorem ints_box {W:World} {b:Nat} {X:Option Addr} {m c:Nat} {v:Value} {T:TypeId} (hB:Blk W b [.slice X m c] T) {A:Option Addr} {n:Nat} {xs:List Int} (h:Kd.C (Kd.int .i64) W A n xs):Kd.C (Kd.int .i64) (W.setCell ⟨b,0,none⟩ v) A n xs:=by
 obtain ⟨h1,h2,h3⟩:=h
 refine ⟨h1,h2,fun h0=>?_⟩
 obtain ⟨ad,e,h4⟩:=h3 h0
 refine ⟨ad,e,fun j q hq=>?_⟩
 obtain ⟨c,h5,h6,h7⟩:=h4 j q hq
 refine ⟨c,h5,h6,fun i u hu=>cell_box hB (h7 i u hu) (fun ex=>?_)⟩
 have h6:c=[.int .i64 q]:=h6
 subst h6
 match i,hu with
 | 0,hu =>
  have hu:some (Value.int .i64 q)=some u:=hu
  injection hu with hu
  subst hu
  cases ex
 | i+1,hu=>simp at hu
theorem k39_box {W:World} {b:Nat} {X:Option Addr} {m c:Nat} {v:Value} {T:TypeId} (hB:Blk W b [.slice X m c] T) {t:S39} {cs:List Value} (h:k39.K W t cs):k39.K (W.setCell ⟨b,0,none⟩ v) t cs:=by
 obtain ⟨A2,c2,rfl,h1,h2⟩:=k39_open h
 exact k39_mk _ t h1 (ints_box hB h2)
theorem ro_box {W:World} {b:Nat} {X:Option Addr} {m c:Nat} {v:Value} {T:TypeId} (hB:Blk W b [.slice X m c] T):∀ {h:List S39} {cs:List Value},Ro W h cs→Ro (W.setCell ⟨b,0,none⟩ v) h cs
 | [],cs,e=>e
 | t :: h,cs,⟨c,ds,e,hK,hR⟩=>⟨c,ds,e,k39_box hB hK,ro_box hB hR⟩
theorem ro_head {W:World} {X:Option Addr} {m c:Nat}:∀ {h:List S39} {cs:List Value},Ro W h cs→∀ u,cs[0]?=some u→u ≠ .slice X m c
 | [],cs,e,u,hu=>by
  have e:cs=[]:=e
  subst e
  simp at hu
 | t :: h,cs,⟨c,ds,e,hK,hR⟩,u,hu=>by
  obtain ⟨A2,c2,rfl,_⟩:=k39_open hK
  subst e
  simp at hu
  subst hu
  simp
theorem C39_box {W:World} {b:Nat} {X:Option Addr} {m c:Nat} {v:Value} {T:TypeId} (hB:Blk W b [.slice X m c] T) {A:Option Addr} {h:List S39} (hC:Kd.C k39 W A h.length h) (hl:h.length≤1000000):Kd.C k39 (W.setCell ⟨b,0,none⟩ v) A h.length h:=by
 obtain ⟨cs,h1,h2⟩:=ro_of hC
 exact ro_C (cells_box hB h1 (ro_head h2)) (ro_box hB h2) hl
theorem rk_box {W:World} {b:Nat} {X:Option Addr} {m c:Nat} {v:Value} {T:TypeId} (hB:Blk W b [.slice X m c] T):∀ {h:List S42} {cs:List Value},(∀ t ∈ h,t.f2.length≤1000000)→Rk W h cs→Rk (W.setCell ⟨b,0,none⟩ v) h cs
 | [],cs,_,e=>e
 | t :: h,cs,hl,⟨c,ds,e,hK,hR⟩=>by
  refine ⟨c,ds,e,?_,rk_box hB (fun t ht=>hl t (List.mem_cons_of_mem _ ht)) hR⟩
  obtain ⟨A2,c2,rfl,h1,h2⟩:=k42_open hK
  exact k42_mk _ t h1 (C39_box hB h2 (hl t (List.mem_cons_self ..)))
theorem rk_head {W:World} {X:Option Addr} {m c:Nat}:∀ {h:List S42} {cs:List Value},Rk W h cs→∀ u,cs[0]?=some u→u ≠ .slice X m c
 | [],cs,e,u,hu=>by
  have e:cs=[]:=e
  subst e
  simp at hu
 | t :: h,cs,⟨c,ds,e,hK,hR⟩,u,hu=>by
  obtain ⟨A2,c2,rfl,_⟩:=k42_open hK
  subst e
  simp at hu
  subst hu
  simp
theorem mem_ops {h:List S42} {t:S42} (ht:t ∈ h):t.f2.length≤opsN h:=by
 obtain ⟨i,hi,rfl⟩:=List.getElem_of_mem ht
 have:=ops_le h i
 rw [List.getD_eq_getElem?_getD,List.getElem?_eq_getElem hi] at this
 exact this
theorem C42_box {W:World} {b:Nat} {X:Option Addr} {m c:Nat} {v:Value} {T:TypeId} (hB:Blk W b [.slice X m c] T) {A:Option Addr} {h:List S42} (hC:Kd.C k42 W A h.length h) (hl:h.length≤1000000) (ho:opsN h≤1000000):Kd.C k42 (W.setCell ⟨b,0,none⟩ v) A h.length h:=by
 obtain ⟨cs,h1,h2⟩:=rk_of hC
 exact rk_C (cells_box hB h1 (rk_head h2)) (rk_box hB (fun t ht=>by have:=mem_ops ht;omega) h2) hl
theorem ops_snoc (h:List S42) (t:S42):opsN (h ++ [t])=opsN h+t.f2.length:=by simp [opsN]
theorem ops_add {h:List S42} (hn:h ≠ []) (o:S39):opsN (addOp h o)=opsN h+1:=by
 obtain ⟨hs,t,rfl,hadd⟩:=last_splitA hn
 rw [hadd,ops_snoc,ops_snoc]
 simp only [List.length_append,List.length_singleton]
 omega
def Bd (l:List Int) (most:Int) (h:List S42) (a:Int):Prop:=h.length≤1024∧(opsN h:Int)≤most∧0≤a∧a≤l.length
theorem rtx_bd {l:List Int} {most:Int} {h:List S42} {a:Int} (b:Bd l most h a) (he:(rtx l h a).2.2.1=0):Bd l most (rtx l h a).1 (rtx l h a).2.1∧a < (rtx l h a).2.1:=by
 obtain ⟨b1,b2,b3,b4⟩:=b
 unfold rtx at he ⊢
 by_cases h1:1024≤h.length
 ·rw [if_pos h1] at he;exact absurd he (by simp)
 rw [if_neg h1] at he ⊢
 by_cases h2:isB l (a+1) 32=false
 ·rw [if_pos h2] at he;exact absurd he (by simp)
 rw [if_neg h2] at he ⊢
 have h2':=is_lt (by simpa using h2)
 by_cases h3:(parse l (a+2)).2.2=false
 ·rw [if_pos h3] at he;exact absurd he (by simp)
 rw [if_neg h3] at he ⊢
 have h3':=parse_to l (a+2) (by omega) (by omega)
 by_cases h4:twinP h (parse l (a+2)).1=true
 ·rw [if_pos h4] at he;exact absurd he (by simp)
 rw [if_neg h4] at he ⊢
 by_cases h5:isB l (parse l (a+2)).2.1 32=false
 ·rw [if_pos h5] at he;exact absurd he (by simp)
 rw [if_neg h5] at he ⊢
 by_cases h6:isB l ((parse l (a+2)).2.1+1) 97=false∧isB l ((parse l (a+2)).2.1+1) 99=false
 ·rw [if_pos h6] at he;exact absurd he (by simp)
 rw [if_neg h6] at he ⊢
 by_cases h7:isB l ((parse l (a+2)).2.1+2) 10=false
 ·rw [if_pos h7] at he;exact absurd he (by simp)
 rw [if_neg h7]
 have h7':=is_lt (by simpa using h7)
 refine ⟨⟨by simp only [List.length_append,List.length_singleton];omega,by simp only [ops_snoc,List.length_nil,Nat.add_zero];exact b2,by simp only;omega,by simp only;omega⟩,by simp only;omega⟩
theorem rend_bd {l:List Int} {most:Int} {h:List S42} {a e:Int} {o:S39} (hn:h ≠ []) (b1:h.length≤1024) (b2:¬ most≤opsN h) (b3:0≤a) (he1:a≤e) (he:(rend l h o e).2.2.1=0):Bd l most (rend l h o e).1 (rend l h o e).2.1∧a < (rend l h o e).2.1:=by
 unfold rend at he ⊢
 by_cases h1:isB l e 10=false
 ·rw [if_pos h1] at he;exact absurd he (by simp)
 rw [if_neg h1]
 have h1':=is_lt (by simpa using h1)
 refine ⟨⟨by rw [add_len];exact b1,by simp only;rw [ops_add hn];omega,by simp only;omega,by simp only;omega⟩,by simp only;omega⟩
theorem rop_bd {l:List Int} {most:Int} {h:List S42} {a:Int} (b:Bd l most h a) (he:(rop l h a most).2.2.1=0):Bd l most (rop l h a most).1 (rop l h a most).2.1∧a < (rop l h a most).2.1:=by
 obtain ⟨b1,b2,b3,b4⟩:=b
 unfold rop at he ⊢
 by_cases h0:h=[]
 ·rw [if_pos h0] at he;exact absurd he (by simp)
 rw [if_neg h0] at he ⊢
 by_cases h1:most≤opsN h
 ·rw [if_pos h1] at he;exact absurd he (by simp)
 rw [if_neg h1] at he ⊢
 by_cases h2:isB l (a+1) 32=false
 ·rw [if_pos h2] at he;exact absurd he (by simp)
 rw [if_neg h2] at he ⊢
 have h2':=is_lt (by simpa using h2)
 by_cases h3:(parse l (a+2)).2.2=false
 ·rw [if_pos h3] at he;exact absurd he (by simp)
 rw [if_neg h3] at he ⊢
 have h3':=parse_to l (a+2) (by omega) (by omega)
 by_cases h4:rd l a=114
 ·rw [if_pos h4] at he ⊢
  unfold rread at he ⊢
  by_cases h5:(list l (parse l (a+2)).2.1).2.2=false
  ·rw [if_pos h5] at he;exact absurd he (by simp)
  rw [if_neg h5] at he ⊢
  have h5':=Cur.list_to l (parse l (a+2)).2.1 (by omega) (by omega)
  exact rend_bd h0 b1 h1 b3 (by omega) he
 ·rw [if_neg h4] at he ⊢
  unfold rapp at he ⊢
  by_cases h5:isB l (parse l (a+2)).2.1 32=false
  ·rw [if_pos h5] at he;exact absurd he (by simp)
  rw [if_neg h5] at he ⊢
  have h5':=is_lt (by simpa using h5)
  by_cases h6:(parse l ((parse l (a+2)).2.1+1)).2.2=false
  ·rw [if_pos h6] at he;exact absurd he (by simp)
  rw [if_neg h6] at he ⊢
  have h6':=parse_to l ((parse l (a+2)).2.1+1) (by omega) (by omega)
  by_cases h7:appP h (parse l (a+2)).1 (parse l ((parse l (a+2)).2.1+1)).1=true
  ·rw [if_pos h7] at he;exact absurd he (by simp)
  rw [if_neg h7] at he ⊢
  exact rend_bd h0 b1 h1 b3 (by omega) he
def DRes (w:World) (R:List S42 × Int × Int) (r:Ending) (w':World):Prop :=
 ∃ A c,r=.returned (.tuple #[.agg #[.slice A R.1.length c],.int .i64 R.2.1,.int .i64 R.2.2])∧R.1.length≤c∧Kd.C k42 w' A R.1.length R.1∧Below w.heap.size w w'
def DI (w:World) (l:List Int) (most:Int) (R:List S42 × Int × Int) (g:Nat) (h:List S42) (A:Option Addr) (c:Nat) (a:Int) (wr:World):Prop :=
 Blk wr w.heap.size [.slice none 0 0] 24∧Blk wr (w.heap.size+1) [.slice A h.length c] 24∧Kd.C k42 wr A h.length h∧h.length≤c∧Bd l most h a∧Below w.heap.size w wr∧rlines l most g h a=R∧(l.length:Int) - a+1≤g
theorem dres_nil {w wr:World} (hb:Below w.heap.size w wr) (v:Value) (e x:Int):DRes w ([],e,x) (.returned (.tuple #[.agg #[.slice none 0 0],.int .i64 e,.int .i64 x])) (wr.setCell ⟨w.heap.size,0,none⟩ v) :=
 ⟨none,0,rfl,Nat.le_refl _,Kd.C_nil _ _,bset (Nat.le_refl _) hb⟩
theorem di_next {w:World} {l:List Int} {most:Int} {R:List S42 × Int × Int} {g:Nat} {h:List S42} {A:Option Addr} {c:Nat} {a:Int} {wr:World} (m1:most≤4096) (hi:DI w l most R g h A c a wr) (ha:a < l.length)
 {h2:List S42} {nx e2 x2:Int} (hq:rstep l h a most=(h2,nx,e2,x2)) (hbd:e2=0→Bd l most h2 nx∧a < nx) (hlen:h2.length≤1000000) (hops:opsN h2≤1000000) {w2:World} {A2:Option Addr} {c2:Nat} (hc2:h2.length≤c2) (hC2:Kd.C k42 w2 A2 h2.length h2) (hb2:Below wr.heap.size wr w2) :
 (e2=0→0 < g∧DI w l most R (g - 1) h2 A2 c2 nx (w2.setCell ⟨w.heap.size+1,0,none⟩ (.slice A2 h2.length c2)))∧(e2 ≠ 0→R=([],e2,x2)):=by
 obtain ⟨z0,z1,hC,hc,bd,hb,hR,hg⟩:=hi
 have z0':=(z0.below hb2 z0.lt).other (a:=⟨w.heap.size+1,0,none⟩) (by simp) (.slice A2 h2.length c2)
 have z1':=(z1.below hb2 z1.lt)
 have hsz:=hb.size
 have hbw:=bset (b:=w.heap.size+1) (j:=0) (u:=.slice A2 h2.length c2) (by omega) (hb.trans (hb2.mono hsz))
 obtain ⟨g',rfl⟩:∃ g',g=g'+1:=⟨g - 1,by omega⟩
 unfold rlines at hR
 rw [if_pos ha,hq] at hR
 simp only at hR
 refine ⟨fun he=>?_,fun he=>?_⟩
 ·rw [if_pos he] at hR
  obtain ⟨b1,b2⟩:=hbd he
  exact ⟨by omega,z0',z1'.set 0 _,C42_box z1' hC2 hlen hops,hc2,b1,hbw,hR,by simp only [Nat.add_sub_cancel];omega⟩
 ·rw [if_neg he] at hR
  exact hR.symm
theorem rtx_len (l:List Int) (h:List S42) (a:Int):(rtx l h a).1.length≤h.length+1∧opsN (rtx l h a).1=opsN h:=by
 unfold rtx
 repeat' split
 all_goals first|exact ⟨Nat.le_succ _,rfl⟩|exact ⟨by simp,by simp only [ops_snoc,List.length_nil,Nat.add_zero]⟩
theorem rend_len (l:List Int) {h:List S42} (hn:h ≠ []) (o:S39) (a:Int):(rend l h o a).1.length=h.length∧opsN (rend l h o a).1≤opsN h+1:=by
 unfold rend
 split
 ·exact ⟨rfl,Nat.le_succ _⟩
 ·exact ⟨add_len _ _,by simp only;rw [ops_add hn];exact Nat.le_refl _⟩
theorem rop_len (l:List Int) (h:List S42) (a most:Int):(rop l h a most).1.length=h.length∧opsN (rop l h a most).1≤opsN h+1:=by
 unfold rop
 split
 ·exact ⟨rfl,Nat.le_succ _⟩
 ·rename_i hn
  unfold rread rapp
  repeat' split
  all_goals first|exact ⟨rfl,Nat.le_succ _⟩|exact rend_len l hn _ _
set_option maxHeartbeats 4000000 in
set_option maxRecDepth 100000 in
theorem rdecode_main (w:World) (B:Option Addr) (l:List Int) (d:Nat) (most:Int) (hL:Kd.C (Kd.int .u8) w B l.length l) (hd:l.length≤d) (hl:l.length≤262144) (m0:0≤most) (m1:most≤4096) :
 Calls Try.prog 21 #[.slice B l.length d,.int .i64 most] w (DRes w (rlines l most (l.length+1) [] 0)):=by
 have hli:¬ (262144:Int) < l.length:=by omega
 have hm0:¬ most < 0:=by omega
 have hm1:¬ 4096 < most:=by omega
 have HTX:=Lib.hid (fun (R:List S42 × Int × Int) (g:Nat) (h:List S42) (A:Option Addr) (c:Nat) (a:Int) (wr:World) (hi:DI w l most R g h A c a wr) (ha:a < l.length)=>rtxn_c wr h A c l B d a hi.2.2.1 hi.2.2.2.1 (Kd.C_below hL hi.2.2.2.2.2.1) hd hl (by have:=hi.2.2.2.2.1.1;omega) hi.2.2.2.2.1.2.2.1 ha)
 have HOP:=Lib.hid (fun (R:List S42 × Int × Int) (g:Nat) (h:List S42) (A:Option Addr) (c:Nat) (a:Int) (wr:World) (hi:DI w l most R g h A c a wr) (ha:a < l.length) (hy:rd l a=97 ∨ rd l a=114)=>rop_c wr h A c l B d a most hi.2.2.1 hi.2.2.2.1 (Kd.C_below hL hi.2.2.2.2.2.1) hd hl (by have:=hi.2.2.2.2.1.1;omega) (by have:=hi.2.2.2.2.1.2.1;omega) hi.2.2.2.2.1.2.2.1 ha hy)
 have HBY:=Lib.hid (fun (a:Int) (a0:0≤a) (ha:a < l.length)=>Kd.at_int hL a a0 ha)
 have HM1:=Lib.hid m1
 have hI0:Aside (DI w l most (rlines l most (l.length+1) [] 0) (l.length+1) [] none 0 0 ((w.alloc (.cells #[.slice none 0 0] 24)).alloc (.cells #[.slice none 0 0] 24))):=by
  have e:(w.alloc (.cells #[.slice none 0 0] 24)).heap.size=w.heap.size+1:=World.size_alloc _ _
  have z1:=Blk.new (w.alloc (.cells #[.slice none 0 0] 24)) [.slice none 0 0] 24
  rw [e] at z1
  exact ⟨(Blk.new w [.slice none 0 0] 24).alloc _,z1,Kd.C_nil _ _,Nat.le_refl _,⟨Nat.zero_le _,by simp [opsN];exact m0,Int.le_refl _,by omega⟩,below_alloc (below_alloc (Below.refl _ _) _) _,rfl,by omega⟩
 clear hL hd m0 m1
 generalize rlines l most (l.length+1) [] 0=R at *
 go_enter Try.func21,Try.ntmps21
 go_wp2_with fail
 clear hm0 hm1 hli
 go_loopg [8] (l.length+1) (fun g v8 wr=>∃ (h:List S42) (A:Option Addr) (c:Nat) (a:Int),v8=.int .i64 a∧Aside (DI w l most R g h A c a wr))
 case atStart=>exact ⟨[],none,0,0,rfl,hI0⟩
 case round =>
  obtain ⟨h,A,c,a,rfl,HI⟩:=hrel
  have HI:=Lib.hid HI.out
  have z0:=HI.out.1
  have z1:=HI.out.2.1
  have q0:=z1.cell 0
  have q1:=z1.free 0
  have q2:=z0.cell 0
  have q3:=z0.free 0
  simp only [List.getElem?_cons_zero] at q0 q2
  have HB0:=Lib.hid z0
  clear z0 z1
  obtain ⟨-,-,a0,a1⟩:=HI.out.2.2.2.2.1
  by_cases ha:a < (l.length:Int)
  ·obtain ⟨bd,rfl,hby⟩:=HBY.out a a0 ha
   have HBW:=Lib.hid hby
   have hby1:=pw_cell_below HI.out.2.2.2.2.2.1 hby
   clear hby
   by_cases hk:rd l a=116
   ·skip
    rw [hk] at hby1
    have HK:=Lib.hid hk
    clear hk
    go_wp2_with fail
    refine (HTX.out _ _ _ _ _ _ _ HI.out ha).mono ?_
    rintro e w2 ⟨A2,c2,rfl,hc2,hC2,hb2⟩
    have hq:rstep l h a most=rtx l h a:=by unfold rstep;rw [if_pos HK.out]
    have hbd0:(rtx l h a).2.2.1=0→_:=fun he=>rtx_bd HI.out.2.2.2.2.1 he
    have hln0:=rtx_len l h a
    generalize rtx l h a=q at *
    obtain ⟨h2,nx,e2,x2⟩:=q
    simp only at hc2 hC2 hbd0 hln0 ⊢
    have hbds:=HI.out.2.2.2.2.1
    have hdn:=di_next HM1.out HI.out ha hq hbd0 (by have:=hbds.1;omega) (by have:=hbds.2.1;have:=HM1.out;omega) hc2 hC2 hb2
    have hbw3:=bset (b:=w.heap.size+1) (j:=0) (u:=.slice A2 h2.length c2) (by omega) (HI.out.2.2.2.2.2.1.trans (hb2.mono HI.out.2.2.2.2.2.1.size))
    have hz0:=(HI.out.1.below hb2 HI.out.1.lt).other (a:=⟨w.heap.size+1,0,none⟩) (by simp) (.slice A2 h2.length c2)
    have hz1:=HI.out.2.1.below hb2 HI.out.2.1.lt
    have q1:=hz1.free 0
    have q0:=hz1.cell 0
    simp only [List.getElem?_cons_zero] at q0
    have HDN:=Lib.hid hdn
    have HZ0:=Lib.hid hz0
    have HBW3:=Lib.hid hbw3
    clear hq hbd0 hln0 hbds hdn hbw3 hz0 hz1 hc2 hC2 hb2 q2 q3 hby1
    go_upto_region 12 with (fail)
    generalize w2.setCell ⟨w.heap.size+1,0,none⟩ (.slice A2 h2.length c2)=w3 at *
    have q2:=HZ0.out.cell 0
    have q3:=HZ0.out.free 0
    simp only [List.getElem?_cons_zero] at q2
    have hby3:=pw_cell_below HBW3.out HBW.out
    rw [HK.out] at hby3
    clear q0 q1
    by_cases he:e2=0
    ·have HD:=Lib.hid (HDN.out.1 he)
     subst he
     have hg:0 < gk:=HD.out.1
     go_wp2
     go_roundg (gk - 1)
     case measure=>omega
     case rel=>exact ⟨h2,A2,c2,nx,rfl,HD.out.2⟩
    ·have HE:Hid (e2 ≠ 0):=Lib.hid he
     have hne:(e2 != 0)=true:=by simp [he]
     clear he
     have HF:Hid (DRes w R (.returned (.tuple #[.agg #[.slice none 0 0],.int .i64 e2,.int .i64 x2])) (w3.setCell ⟨w.heap.size,0,none⟩ (.slice none 0 0))):=Lib.hid (by rw [HDN.out.2 HE.out];exact dres_nil HBW3.out _ e2 x2)
     have HBL:=Lib.hid (HZ0.out.set 0 (.slice none 0 0))
     go_wp2
     exact bodyPost_ret (results_row_tmps (u:=5) (u2:=6) rfl _ _ w.heap.size _ _ (0,0) _ rfl HBL.out rfl Try.underlying24 hist_info) rfl HF.out
   ·have hk1:=hk
    clear hk
    by_cases hk:rd l a=97
    ·skip
     rw [hk] at hby1
     have HK:=Lib.hid hk
     clear hk
     go_wp2_with fail
     refine (HOP.out _ _ _ _ _ _ _ HI.out ha (.inl HK.out)).mono ?_
     rintro e w2 ⟨A2,c2,rfl,hc2,hC2,hb2⟩
     have hq:rstep l h a most=rop l h a most:=by unfold rstep;rw [if_neg (by rw [HK.out];decide),if_pos (.inl HK.out)]
     have hbd0:(rop l h a most).2.2.1=0→_:=fun he=>rop_bd HI.out.2.2.2.2.1 he
     have hln0:=rop_len l h a most
     generalize rop l h a most=q at *
     obtain ⟨h2,nx,e2,x2⟩:=q
     simp only at hc2 hC2 hbd0 hln0 ⊢
     have hbds:=HI.out.2.2.2.2.1
     have hdn:=di_next HM1.out HI.out ha hq hbd0 (by have:=hbds.1;omega) (by have:=hbds.2.1;have:=HM1.out;omega) hc2 hC2 hb2
     have hbw3:=bset (b:=w.heap.size+1) (j:=0) (u:=.slice A2 h2.length c2) (by omega) (HI.out.2.2.2.2.2.1.trans (hb2.mono HI.out.2.2.2.2.2.1.size))
     have hz0:=(HI.out.1.below hb2 HI.out.1.lt).other (a:=⟨w.heap.size+1,0,none⟩) (by simp) (.slice A2 h2.length c2)
     have hz1:=HI.out.2.1.below hb2 HI.out.2.1.lt
     have q1:=hz1.free 0
     have q0:=hz1.cell 0
     simp only [List.getElem?_cons_zero] at q0
     have HDN:=Lib.hid hdn
     have HZ0:=Lib.hid hz0
     have HBW3:=Lib.hid hbw3
     clear hq hbd0 hln0 hbds hdn hbw3 hz0 hz1 hc2 hC2 hb2 q2 q3 hby1
     go_upto_region 14 with (fail)
     generalize w2.setCell ⟨w.heap.size+1,0,none⟩ (.slice A2 h2.length c2)=w3 at *
     have q2:=HZ0.out.cell 0
     have q3:=HZ0.out.free 0
     simp only [List.getElem?_cons_zero] at q2
     clear q0 q1
     by_cases he:e2=0
     ·have HD:=Lib.hid (HDN.out.1 he)
      subst he
      have hg:0 < gk:=HD.out.1
      go_wp2
      go_roundg (gk - 1)
      case measure=>omega
      case rel=>exact ⟨h2,A2,c2,nx,rfl,HD.out.2⟩
     ·have HE:Hid (e2 ≠ 0):=Lib.hid he
      have hne:(e2 != 0)=true:=by simp [he]
      clear he
      have HF:Hid (DRes w R (.returned (.tuple #[.agg #[.slice none 0 0],.int .i64 e2,.int .i64 x2])) (w3.setCell ⟨w.heap.size,0,none⟩ (.slice none 0 0))):=Lib.hid (by rw [HDN.out.2 HE.out];exact dres_nil HBW3.out _ e2 x2)
      have HBL:=Lib.hid (HZ0.out.set 0 (.slice none 0 0))
      go_wp2
      exact bodyPost_ret (results_row_tmps (u:=5) (u2:=6) rfl _ _ w.heap.size _ _ (0,0) _ rfl HBL.out rfl Try.underlying24 hist_info) rfl HF.out
    ·have hk2:=hk
     clear hk
     by_cases hk:rd l a=114
     ·skip
      rw [hk] at hby1
      have HK:=Lib.hid hk
      clear hk
      go_wp2_with fail
      refine (HOP.out _ _ _ _ _ _ _ HI.out ha (.inr HK.out)).mono ?_
      rintro e w2 ⟨A2,c2,rfl,hc2,hC2,hb2⟩
      have hq:rstep l h a most=rop l h a most:=by unfold rstep;rw [if_neg (by rw [HK.out];decide),if_pos (.inr HK.out)]
      have hbd0:(rop l h a most).2.2.1=0→_:=fun he=>rop_bd HI.out.2.2.2.2.1 he
      have hln0:=rop_len l h a most
      generalize rop l h a most=q at *
      obtain ⟨h2,nx,e2,x2⟩:=q
      simp only at hc2 hC2 hbd0 hln0 ⊢
      have hbds:=HI.out.2.2.2.2.1
      have hdn:=di_next HM1.out HI.out ha hq hbd0 (by have:=hbds.1;omega) (by have:=hbds.2.1;have:=HM1.out;omega) hc2 hC2 hb2
      have hbw3:=bset (b:=w.heap.size+1) (j:=0) (u:=.slice A2 h2.length c2) (by omega) (HI.out.2.2.2.2.2.1.trans (hb2.mono HI.out.2.2.2.2.2.1.size))
      have hz0:=(HI.out.1.below hb2 HI.out.1.lt).other (a:=⟨w.heap.size+1,0,none⟩) (by simp) (.slice A2 h2.length c2)
      have hz1:=HI.out.2.1.below hb2 HI.out.2.1.lt
      have q1:=hz1.free 0
      have q0:=hz1.cell 0
      simp only [List.getElem?_cons_zero] at q0
      have HDN:=Lib.hid hdn
      have HZ0:=Lib.hid hz0
      have HBW3:=Lib.hid hbw3
      clear hq hbd0 hln0 hbds hdn hbw3 hz0 hz1 hc2 hC2 hb2 q2 q3 hby1
      go_upto_region 14 with (fail)
      generalize w2.setCell ⟨w.heap.size+1,0,none⟩ (.slice A2 h2.length c2)=w3 at *
      have q2:=HZ0.out.cell 0
      have q3:=HZ0.out.free 0
      simp only [List.getElem?_cons_zero] at q2
      clear q0 q1
      by_cases he:e2=0
      ·have HD:=Lib.hid (HDN.out.1 he)
       subst he
       have hg:0 < gk:=HD.out.1
       go_wp2
       go_roundg (gk - 1)
       case measure=>omega
       case rel=>exact ⟨h2,A2,c2,nx,rfl,HD.out.2⟩
      ·have HE:Hid (e2 ≠ 0):=Lib.hid he
       have hne:(e2 != 0)=true:=by simp [he]
       clear he
       have HF:Hid (DRes w R (.returned (.tuple #[.agg #[.slice none 0 0],.int .i64 e2,.int .i64 x2])) (w3.setCell ⟨w.heap.size,0,none⟩ (.slice none 0 0))):=Lib.hid (by rw [HDN.out.2 HE.out];exact dres_nil HBW3.out _ e2 x2)
       have HBL:=Lib.hid (HZ0.out.set 0 (.slice none 0 0))
       go_wp2
       exact bodyPost_ret (results_row_tmps (u:=5) (u2:=6) rfl _ _ w.heap.size _ _ (0,0) _ rfl HBL.out rfl Try.underlying24 hist_info) rfl HF.out
     ·have hR:R=([],4,a):=by
       obtain ⟨-,-,-,-,-,-,hR,hg⟩:=HI.out
       obtain ⟨g',rfl⟩:∃ g',gk=g'+1:=⟨gk - 1,by omega⟩
       unfold rlines at hR
       unfold rstep at hR
       rw [if_pos ha,if_neg hk1,if_neg (show ¬ (rd l a=97 ∨ rd l a=114) from fun hh=>hh.elim hk2 hk)] at hR
       rw [if_neg (by simp)] at hR
       exact hR.symm
      have HF:Hid (DRes w R (.returned (.tuple #[.agg #[.slice none 0 0],.int .i64 4,.int .i64 a])) (wr.setCell ⟨w.heap.size,0,none⟩ (.slice none 0 0))):=Lib.hid (by rw [hR];exact dres_nil HI.out.2.2.2.2.2.1 _ 4 a)
      have HBL:=Lib.hid (HB0.out.set 0 (.slice none 0 0))
      obtain ⟨y,hy⟩:∃ y,rd l a=y:=⟨_,rfl⟩
      rw [hy] at hby1 hk hk1 hk2
      have i1:(y == 116)=false:=by simpa using hk1
      have i2:(y == 97)=false:=by simpa using hk2
      have i3:(y == 114)=false:=by simpa using hk
      clear hk hk1 hk2 hR hy
      go_wp2
      exact bodyPost_ret (results_row_tmps (u:=5) (u2:=6) rfl _ _ w.heap.size _ _ (0,0) _ rfl HBL.out rfl Try.underlying24 hist_info) rfl HF.out
  ·have hR:R=(h,0,0):=by
    obtain ⟨-,-,-,-,-,-,hR,hg⟩:=HI.out
    obtain ⟨g',rfl⟩:∃ g',gk=g'+1:=⟨gk - 1,by omega⟩
    unfold rlines at hR
    rw [if_neg ha] at hR
    exact hR.symm
   have HF:Hid (DRes w R (.returned (.tuple #[.agg #[.slice A h.length c],.int .i64 0,.int .i64 0])) (wr.setCell ⟨w.heap.size,0,none⟩ (.slice A h.length c))):=Lib.hid (by
    rw [hR]
    have hbds:=HI.out.2.2.2.2.1
    exact ⟨A,c,rfl,HI.out.2.2.2.1,C42_box (h:=h) HB0.out HI.out.2.2.1 (by have:=hbds.1;omega) (by have:=hbds.2.1;have:=HM1.out;omega),bset (Nat.le_refl _) HI.out.2.2.2.2.2.1⟩)
   have HBL:=Lib.hid (HB0.out.set 0 (.slice A h.length c))
   clear hR
   go_wp2
   exact bodyPost_ret (results_row_tmps (u:=5) (u2:=6) rfl _ _ w.heap.size _ _ (0,0) _ rfl HBL.out rfl Try.underlying24 hist_info) rfl HF.out
end Go.Proofs.Ytlcioegdmopppaa.Hs
