/- Printed by shake.py. -/
import Derived.Test.YtlcioegdmopppaaShE36
import Derived.Test.YtlcioegdmopppaaShE32
set_option linter.unusedSimpArgs false
namespace Go.Proofs.Ytlcioegdmopppaa.Hs
open Go.RowKit Go.Lib Go.Proofs.Ytlcioegdmopppaa.PEncodeBack Go.Proofs.YtlcioegdmopppaaW.PrintWords
set_option linter.unusedVariables false
theorem rk_split {w:World} {t:S42}:∀ {hs:List S42} {cs:List Value},Rk w (hs ++ [t]) cs→∃ ds A4 c4,cs=ds ++ [.int .i64 t.f0,.bool t.f1,.slice A4 t.f2.length c4]∧Rk w hs ds∧t.f2.length≤c4∧Kd.C k39 w A4 t.f2.length t.f2
 | [],cs,h=>by
  obtain ⟨c,ds,e,hK,hR⟩:=h
  have hR:ds=[]:=hR
  subst hR
  obtain ⟨A2,c2,rfl,h1,h2⟩:=k42_open hK
  exact ⟨[],A2,c2,by rw [e];simp,rfl,h1,h2⟩
 | t0 :: hs,cs,h=>by
  obtain ⟨c,ds,e,hK,hR⟩:=h
  obtain ⟨ds2,A4,c4,e2,hR2,h1,h2⟩:=rk_split hR
  exact ⟨c ++ ds2,A4,c4,by rw [e,e2,List.append_assoc],⟨c,ds2,rfl,hK,hR2⟩,h1,h2⟩
theorem cells_last {W:World} {g n c:Nat} {ds:List Value} {x y u v:Value} (h:Cells W (some ⟨g,0,none⟩) (ds ++ [x,y,u])):Cells (W.setCell ⟨g,ds.length+2,none⟩ v) (some ⟨g,0,none⟩) (ds ++ [x,y,v]):=fun _=>by
 obtain ⟨ad,e,hc⟩:=h (by simp)
 injection e with e
 subst e
 refine ⟨_,rfl,fun j q hq=>?_⟩
 rw [Addr.add_lit,Nat.zero_add]
 have hold:=fun j q hq=>by
  have:=hc j q hq
  rw [Addr.add_lit,Nat.zero_add] at this
  exact this
 by_cases hj:j=ds.length+2
 ·subst hj
  have h1:=hold (ds.length+2) u (by rw [List.getElem?_append_right (by omega),Nat.add_sub_cancel_left];rfl)
  rw [List.getElem?_append_right (by omega),Nat.add_sub_cancel_left] at hq
  simp at hq
  subst hq
  exact World.cell?_setCell_same' W _ v (by rw [h1];rfl)
 ·have hq2:(ds ++ [x,y,u])[j]?=some q:=by
   by_cases hl:j < ds.length
   ·rw [List.getElem?_append_left hl] at hq ⊢;exact hq
   ·rw [List.getElem?_append_right (by omega)] at hq ⊢
    obtain ⟨i,rfl⟩:∃ i,j=ds.length+i:=⟨j - ds.length,by omega⟩
    rw [Nat.add_sub_cancel_left] at hq ⊢
    match i,hq with
    | 0,hq=>exact hq
    | 1,hq=>exact hq
    | 2,hq=>exact absurd rfl hj
    | i+3,hq=>simp at hq
  have hne:(⟨g,ds.length+2,none⟩:Addr) ≠ ⟨g,j,none⟩:=fun e=>by injection e with _ e2 _;exact hj e2.symm
  rw [World.cell?_setCell_other _ _ _ _ hne]
  exact hold j q hq2
theorem own_emptyO (W:World) (base:Nat) (hb:base≤W.heap.size):(W.alloc (.cells #[] 39)).ownsRow base 39 4 (.slice (some ⟨W.heap.size,0,none⟩) 0 0) 0 [] :=
 World.ownsRow_made W #[] 0 hb (by decide) rfl
theorem own_formN {w:World} {base size n c:Nat} {e:TypeId} {A:Option Addr} {xs:List Value} (h:w.ownsRow base e size (.slice A n c) n xs) (hn:0 < n):∃ g cap,Value.slice A n c=.slice (some ⟨g,0,none⟩) n cap:=by
 rcases h.2 with ⟨_,h0⟩|⟨g,cap,_,hv,_⟩
 ·omega
 ·exact ⟨g,cap,hv⟩
theorem cells_far {W:World} {g:Nat} {ys:List Value} {a:Addr} {u:Value} (h:Cells W (some ⟨g,0,none⟩) ys) (hne:a.block ≠ g):Cells (W.setCell a u) (some ⟨g,0,none⟩) ys:=fun h0=>by
 obtain ⟨ad,e,hc⟩:=h h0
 injection e with e
 subst e
 refine ⟨_,rfl,fun j v hv=>?_⟩
 have:=hc j v hv
 rw [Addr.add_lit] at this ⊢
 rw [World.cell?_setCell_far _ _ _ _ (by simpa using hne)]
 exact this
theorem ints_move {W F:World} {g n:Nat} {xs:List Int} (h:Kd.C (Kd.int .i64) W (some ⟨g,0,none⟩) n xs) (hg:F.heap[g]?=W.heap[g]?):Kd.C (Kd.int .i64) F (some ⟨g,0,none⟩) n xs:=by
 obtain ⟨h1,h2,h3⟩:=h
 refine ⟨h1,h2,fun h0=>?_⟩
 obtain ⟨ad,e,h4⟩:=h3 h0
 injection e with e
 subst e
 refine ⟨_,rfl,fun j q hq=>?_⟩
 obtain ⟨c,h5,h6,h7⟩:=h4 j q hq
 refine ⟨c,h5,h6,fun i u hu=>?_⟩
 have:=h7 i u hu
 rw [Addr.add_lit] at this ⊢
 rw [World.cell?_of_block (w:=W) (w':=F) (a:=⟨g,_,none⟩) hg]
 exact this
theorem rop_fin {w w9 wa X:World} {N c2 g2 mm c4 c6 B0:Nat} {A4 A6:Option Addr} {hs:List S42} {t:S42} {o:S39} {ds co oc:List Value} {V:Value} (hb:Below w.heap.size w w9) (hsz:w.heap.size+2≤B0) (hB0:B0 < w9.heap.size) (hbx:Below w9.heap.size w9 wa)
 (hown:wa.ownsRow w9.heap.size 42 3 (.slice (some ⟨g2,0,none⟩) N c2) N (ds ++ [.int .i64 t.f0,.bool t.f1,.slice A4 mm c4])) (hX:Below wa.heap.size wa X)
 (hown3:X.ownsRow wa.heap.size 39 4 (.slice A6 (mm+1) c6) (mm+1) (co ++ oc)) (hds:Rk w hs ds) (hco:Ro w t.f2 co) (hmm:t.f2.length=mm) (hc6:mm+1≤c6) (hlim:mm≤5000) (hlim2:hs.length≤2000)
 (hok:∀ F:World,(∀ k,B0 < k→k < w9.heap.size→F.heap[k]?=w9.heap[k]?)→k39.K F o oc) :
 w9.heap.size≤g2∧g2 < wa.heap.size ∧
 Kd.C k42 (((X.setCell ⟨g2,ds.length+2,none⟩ (.slice A6 (mm+1) c6)).setCell ⟨w.heap.size,0,none⟩ V).setCell ⟨w.heap.size+1,0,none⟩ V) (some ⟨g2,0,none⟩) (hs ++ [{ t with f2:=t.f2 ++ [o] }]).length (hs ++ [{ t with f2:=t.f2 ++ [o] }]) ∧
 Below w.heap.size w (((X.setCell ⟨g2,ds.length+2,none⟩ (.slice A6 (mm+1) c6)).setCell ⟨w.heap.size,0,none⟩ V).setCell ⟨w.heap.size+1,0,none⟩ V):=by
 have g1:w9.heap.size≤g2:=own_base hown g2 rfl
 have g3:g2 < wa.heap.size:=own_lt hown g2 rfl
 have s1:=hb.size
 have s2:=hbx.size
 have s3:=hX.size
 have hbX:Below w.heap.size w X:=hb.trans ((hbx.mono (by omega)).trans (hX.mono (by omega)))
 have hF:Below w.heap.size w (((X.setCell ⟨g2,ds.length+2,none⟩ (.slice A6 (mm+1) c6)).setCell ⟨w.heap.size,0,none⟩ V).setCell ⟨w.heap.size+1,0,none⟩ V):=bset (by omega) (bset (Nat.le_refl _) (bset (by omega) hbX))
 refine ⟨g1,g3,?_,hF⟩
 have c1:=(Cells.of_ownK hown).below hX
 have c5:=cells_far (a:=⟨w.heap.size+1,0,none⟩) (u:=V) (cells_far (a:=⟨w.heap.size,0,none⟩) (u:=V) (cells_last (n:=0) (c:=0) (v:=.slice A6 (mm+1) c6) c1) (by simp only;omega)) (by simp only;omega)
 have o1:=ownsRow_setCell_below (ownsRow_setCell_below (ownsRow_setCell_below hown3 (a:=⟨g2,ds.length+2,none⟩) (by simp only;omega) (.slice A6 (mm+1) c6)) (a:=⟨w.heap.size,0,none⟩) (by simp only;omega) V) (a:=⟨w.heap.size+1,0,none⟩) (by simp only;omega) V
 have ho:=hok _ (fun k h1 h2=>by
  exact ((Below.heap_setCell _ ⟨w.heap.size+1,0,none⟩ V k (by simp only;omega)).trans ((Below.heap_setCell _ ⟨w.heap.size,0,none⟩ V k (by simp only;omega)).trans ((Below.heap_setCell X ⟨g2,ds.length+2,none⟩ (.slice A6 (mm+1) c6) k (by simp only;omega)).trans (hX.block k (by omega))))).trans (hbx.block k h2))
 have hro:=ro_snoc ho (ro_below hF hco)
 have hlo:(t.f2 ++ [o]).length=mm+1:=by rw [List.length_append,hmm];rfl
 have hC6:=ro_C (Cells.of_ownK o1) hro (by rw [hlo];omega)
 have hK:=k42_mk (((X.setCell ⟨g2,ds.length+2,none⟩ (.slice A6 (mm+1) c6)).setCell ⟨w.heap.size,0,none⟩ V).setCell ⟨w.heap.size+1,0,none⟩ V) { t with f2:=t.f2 ++ [o] } (A2:=A6) (c2:=c6) (by rw [hlo];exact hc6) hC6
 rw [hlo] at hK
 exact rk_C c5 (rk_snoc hK (rk_below hF hds)) (by rw [List.length_append,List.length_singleton];omega)
theorem read_ok {w5 w9 F:World} {b:Nat} {key:Int} {ls:List Int} {A5:Option Addr} {c5:Nat} (hC:Kd.C (Kd.int .i64) w5 A5 ls.length ls) (hc:ls.length≤c5) (hg:0 < ls.length→∃ g,A5=some ⟨g,0,none⟩∧b < g∧g < w5.heap.size)
 (hge:∀ g,b < g→g < w5.heap.size→w9.heap[g]?=w5.heap[g]?) (h59:w5.heap.size≤w9.heap.size) (hF:∀ k,b < k→k < w9.heap.size→F.heap[k]?=w9.heap[k]?) :
 k39.K F ⟨true,key,0,ls⟩ [.bool true,.int .i64 key,.int .i64 0,.slice A5 ls.length c5]:=by
 refine k39_mk F ⟨true,key,0,ls⟩ hc ?_
 by_cases h0:0 < ls.length
 ·obtain ⟨g,rfl,h1,h2⟩:=hg h0
  exact ints_move hC ((hF g h1 (by omega)).trans (hge g h1 h2))
 ·exact ⟨rfl,hC.2.1,fun h=>absurd h h0⟩
theorem app_ok (F:World) (key v:Int):k39.K F ⟨false,key,v,[]⟩ [.bool false,.int .i64 key,.int .i64 v,.slice none 0 0] :=
 k39_mk F ⟨false,key,v,[]⟩ (Nat.le_refl 0) ⟨rfl,by simp,fun h=>absurd h (by simp)⟩
theorem reflist_own (l:List Int) (a:Int) (A:Option Addr) (c:Nat) (w:World) (hr:Kd.C (Kd.int .u8) w A l.length l) (hc:l.length≤c) (hl:(l.length:Int)≤17592186044416) :
 Calls Try.prog 58 #[.slice A l.length c,.int .i64 a] w fun e w'=>∃ A' c',e=.returned (.tuple #[.slice A' (list l a).1.length c',.int .i64 (list l a).2.1,.bool (list l a).2.2])∧(list l a).1.length≤c' ∧
  Kd.C (Kd.int .i64) w' A' (list l a).1.length (list l a).1∧(0 < (list l a).1.length→∃ g,A'=some ⟨g,0,none⟩∧w.heap.size≤g∧g < w'.heap.size)∧Below w.heap.size w w' :=
 (coronerref01_List.calls _ A c l a _ _ _ w hr hc (list_ref l hl a _ (Nat.le_refl _))).mono fun e w' ⟨v,h1,h2,h3⟩=>by
  obtain ⟨A',c',rfl,hc',hC⟩:=Kd.R_reads h2
  refine ⟨A',c',h1,hc',hC,fun h0=>?_,h3⟩
  obtain ⟨g,cap,e1,e2,e3,-⟩:=Kd.R_form h2 h0
  injection e1 with e1
  exact ⟨g,e1,e2,e3⟩
theorem own_free {w W:World} {base size n c g:Nat} {e:TypeId} {xs:List Value} (h:w.ownsRow base e size (.slice (some ⟨g,0,none⟩) n c) n xs) (hb:Below w.heap.size w W) (j:Nat):W.frozen? ⟨g,j,none⟩=false:=by
 have hlt:=own_lt h g rfl
 rcases h.2 with ⟨h0,_⟩|⟨g',cap,cur,hv,_,hg,_⟩
 ·cases h0
 ·injection hv with hv
  injection hv with hv
  injection hv with hv
  subst hv
  exact frozen_of_row _ _ _ _ _ ((hb.block g hlt).trans hg)
end Go.Proofs.Ytlcioegdmopppaa.Hs
