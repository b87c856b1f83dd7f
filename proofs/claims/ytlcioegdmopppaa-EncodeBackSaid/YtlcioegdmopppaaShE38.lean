/- Printed by shake.py. -/
import Derived.Test.YtlcioegdmopppaaShE37
set_option linter.unusedSimpArgs false
namespace Go.Proofs.Ytlcioegdmopppaa.Hs
open Go.RowKit Go.Lib Go.Proofs.Ytlcioegdmopppaa.PEncodeBack Go.Proofs.YtlcioegdmopppaaW.PrintWords Go.Proofs.YtlcioegdmopppaaW.PrintLast
set_option linter.unusedVariables false
def RgOp.T:Bool × List (List Nat × List Nat):=(true,[([],[]),([],[]),([],[]),([],[]),([],[]),([3,4],[3,4]),([5],[5]),([6],[6]),([2,7],[2,7]),([],[]),([9],[9]),([8,10,8],[8,10]),([0,1,0,1,2,3,4,5,6,7,8,9,10,11],[0,1]),([12,0,1,2,3,4,5,6,7,8,9,10,11],[12]),([13,11,11,0,1,2,3,4,5,6,7,8,9,10,11],[11,13])])
def RgOp.B:List Nat:=[0,0,0,0,0,24,56,120,252,0,512,2044,4095,8191,16383]
theorem RgOp.tab:rtab .any (opsOf Try.f37 30)=RgOp.T:=by kernel_rfl
theorem RgOp.bits:waitsOk RgOp.T.2 RgOp.B=true:=by kernel_rfl
set_option maxHeartbeats 4000000 in
set_option maxRecDepth 100000 in
theorem rop_c (w:World) (h:List S42) (A:Option Addr) (c:Nat) (l:List Int) (B:Option Addr) (d:Nat) (a most:Int) (hC:Kd.C k42 w A h.length h) (hc:h.length≤c) (hL:Kd.C (Kd.int .u8) w B l.length l) (hd:l.length≤d) (hl:l.length≤262144) (hh:h.length≤2000) (hops:opsN h≤5000) (a0:0≤a) (a1:a < l.length) (hy:rd l a=97 ∨ rd l a=114) :
 Calls Try.prog 37 #[.agg #[.slice A h.length c],.slice B l.length d,.int .i64 a,.int .i64 most] w (ROut w (rop l h a most)):=by
 have hs0:(W2 w A h.length c).heap.size=w.heap.size+2:=by unfold W2;rw [World.size_alloc,World.size_alloc]
 have htl:∀ t ∈ h,t.f2.length≤5000:=fun t ht=>by
  obtain ⟨i,hi,rfl⟩:=List.getElem_of_mem ht
  have:=ops_le h i
  rw [List.getD_eq_getElem?_getD,List.getElem?_eq_getElem hi] at this
  simp only [Option.getD_some] at this
  omega
 have FX:=Lib.hid (fun (W:World) (hb:Below (w.heap.size+2) (W2 w A h.length c) W)=>w2_facts w A h c hC hc W hb)
 have HIS:=Lib.hid (fun (W:World) (hb:Below (w.heap.size+2) (W2 w A h.length c) W) (x y:Int) (hx:0≤x)=>(is_c W l B d x y (Kd.C_below hL (FX.out W hb).2.2.2.2.2.1) hd hx).mono fun e w' ⟨h1,h2⟩=>(⟨h1,hb.trans (h2.mono (by have:=hb.size;omega)),h2⟩:_∧Below (w.heap.size+2) (W2 w A h.length c) w'∧Below W.heap.size W w'))
 have HOP:=Lib.hid (fun (W:World) (hb:Below (w.heap.size+2) (W2 w A h.length c) W)=>(rops_c W h A c (FX.out W hb).2.2.2.1 hc (by unfold big;omega) (by unfold big;omega)).mono fun e w' ⟨h1,h2⟩=>(⟨h1,hb.trans (h2.mono (by have:=hb.size;omega)),h2⟩:_∧Below (w.heap.size+2) (W2 w A h.length c) w'∧Below W.heap.size W w'))
 have HAP:=Lib.hid (fun (W:World) (hb:Below (w.heap.size+2) (W2 w A h.length c) W) (x y:Int)=>(app_c W h A c x y (FX.out W hb).2.2.2.1 hc (by unfold big;omega) (fun t ht=>by have:=htl t ht;unfold big;omega)).mono fun e w' ⟨h1,h2⟩=>(⟨h1,hb.trans (h2.mono (by have:=hb.size;omega)),h2⟩:_∧Below (w.heap.size+2) (W2 w A h.length c) w'∧Below W.heap.size W w'))
 have HPA:=Lib.hid (fun (W:World) (hb:Below (w.heap.size+2) (W2 w A h.length c) W) (x:Int)=>(refparse_calls l x B d W (Kd.C_below hL (FX.out W hb).2.2.2.2.2.1) hd (by omega)).mono fun e w' ⟨h1,h2⟩=>(⟨h1,hb.trans (h2.below.mono (by have:=hb.size;omega)),h2.below⟩:_∧Below (w.heap.size+2) (W2 w A h.length c) w'∧Below W.heap.size W w'))
 have HLI:Hid (∀ (W:World),Below (w.heap.size+2) (W2 w A h.length c) W→∀ x:Int,Calls Try.prog 58 #[.slice B l.length d,.int .i64 x] W fun e w'=>∃ A' c',e=.returned (.tuple #[.slice A' (list l x).1.length c',.int .i64 (list l x).2.1,.bool (list l x).2.2])∧(list l x).1.length≤c'∧Kd.C (Kd.int .i64) w' A' (list l x).1.length (list l x).1∧(0 < (list l x).1.length→∃ g,A'=some ⟨g,0,none⟩∧W.heap.size≤g∧g < w'.heap.size)∧Below (w.heap.size+2) (W2 w A h.length c) w'∧Below W.heap.size W w'):=Lib.hid (fun W hb x=>(reflist_own l x B d W (Kd.C_below hL (FX.out W hb).2.2.2.2.2.1) hd (by omega)).mono fun e w' hh=>by
  obtain ⟨A',c',h1,h2,h3,h5,h4⟩:=hh
  exact ⟨A',c',h1,h2,h3,h5,hb.trans (h4.mono (by have:=hb.size;omega)),h4⟩)
 obtain ⟨cs,hcs1,hcs2⟩:=rk_of hC
 have HCS:=Lib.hid hcs1
 have HRK:=Lib.hid hcs2
 have FB:=Lib.hid (fun (W:World) (hb:Below (w.heap.size+2) (W2 w A h.length c) W)=>w2_blk w A h.length c W hb)
 have HLL:=Lib.hid (fun (W:World) (hb:Below w.heap.size w W)=>Kd.C_below hL hb)
 have HTL:=Lib.hid htl
 have hB0:Below (w.heap.size+2) (W2 w A h.length c) (W2 w A h.length c):=Below.refl _ _
 have HB0:=Lib.hid hB0
 have F0:=FX.out _ hB0
 have q0:=F0.1
 have q1:=F0.2.1
 have q2:=F0.2.2.1
 have G0:=Lib.hid F0
 clear hB0 F0 hC hL hs0 hcs1 hcs2 htl
 obtain ⟨q,hq⟩:∃ q,rop l h a most=q:=⟨_,rfl⟩
 have HQ:=Lib.hid hq
 rw [hq]
 clear hq
 generalize hN:h.length=N at *
 have HN:=Lib.hid hN
 clear hN
 go_enter Try.func37,Try.ntmps37
 go_upto_region 1 with (fail)
 unfold W2 at *
 generalize (w.alloc (.cells #[.slice A N c] 24)).alloc (.cells #[.slice none 0 0] 24)=W0 at *
 by_cases hN0:N=0
 ·skip
  have HNIL:Hid (h=[]):=Lib.hid (List.eq_nil_of_length_eq_zero (by rw [HN.out];exact hN0))
  have hi:((N:Int) == 0)=true:=by simp;omega
  clear hN0
  have HQ2:Hid (q=(h,0,4,a)):=Lib.hid (by rw [← HQ.out];unfold rop;rw [if_pos HNIL.out])
  go_wp2
  exact bodyPost_ret (results_row_tmp3 (u:=9) (u2:=10) (u3:=11) rfl _ _ (w.heap.size+1) _ _ (0,0) _ rfl (G0.out.2.2.2.2.1 _) rfl Try.underlying24 hist_info) rfl (by rw [HQ2.out];exact G0.out.2.2.2.2.2.2 _ _)
 have hi:((N:Int) == 0)=false:=by simp;omega
 have hnn:Hid (h ≠ []):=Lib.hid (fun e=>hN0 (by rw [← HN.out,e];rfl))
 have hNp:0 < N:=by omega
 have H1:=Lib.hid (HOP.out _ HB0.out)
 obtain ⟨on,hon⟩:∃ on,opsN h=on:=⟨_,rfl⟩
 rw [hon] at H1
 have EON:=Lib.hid hon
 clear hon
 go_wp2_with fail
 refine (H1.out).mono ?_
 rintro e w1 ⟨rfl,hb1,hd1⟩
 have HB1:=Lib.hid hb1
 have F1:=FX.out _ hb1
 clear q0 q1 q2
 have q0:=F1.1
 have q1:=F1.2.1
 have q2:=F1.2.2.1
 have G1:=Lib.hid F1
 clear hb1 F1
 clear H1
 by_cases hmo:most≤on
 ·skip
  have HQ2:Hid (q=(h,0,3,a)):=Lib.hid (by rw [← HQ.out];unfold rop;rw [if_neg hnn.out,EON.out];rw [if_pos hmo])
  go_wp2
  exact bodyPost_ret (results_row_tmp3 (u:=9) (u2:=10) (u3:=11) rfl _ _ (w.heap.size+1) _ _ (0,0) _ rfl (G1.out.2.2.2.2.1 _) rfl Try.underlying24 hist_info) rfl (by rw [HQ2.out];exact G1.out.2.2.2.2.2.2 _ _)
 have HMO:=Lib.hid hmo
 have H2:=Lib.hid (HIS.out _ HB1.out (a+1) 32 (by omega))
 obtain ⟨b2,hb2⟩:∃ b,isB l (a+1) 32=b:=⟨_,rfl⟩
 rw [hb2] at H2
 have E2:=Lib.hid hb2
 clear hb2
 go_wp2_with fail
 refine (H2.out).mono ?_
 rintro e w2 ⟨rfl,hb2,hd2⟩
 have HB2:=Lib.hid hb2
 have F2:=FX.out _ hb2
 clear q0 q1 q2
 have q0:=F2.1
 have q1:=F2.2.1
 have q2:=F2.2.2.1
 have G2:=Lib.hid F2
 clear hb2 F2
 clear H2
 cases b2 with
 | false =>
  have HQ2:Hid (q=(h,0,4,a+1)):=Lib.hid (by rw [← HQ.out];unfold rop;rw [if_neg hnn.out,EON.out];rw [if_neg (by have:=HMO.out;omega)];rw [if_pos E2.out])
  go_wp2
  exact bodyPost_ret (results_row_tmp3 (u:=9) (u2:=10) (u3:=11) rfl _ _ (w.heap.size+1) _ _ (0,0) _ rfl (G2.out.2.2.2.2.1 _) rfl Try.underlying24 hist_info) rfl (by rw [HQ2.out];exact G2.out.2.2.2.2.2.2 _ _)
 | true =>
 have hlt2:=is_lt E2.out
 have hto:=parse_to l (a+2) (by omega) (by omega)
 have H3:=Lib.hid (HPA.out _ HB2.out (a+2))
 obtain ⟨key,tt,ok,hp⟩:∃ key tt ok,parse l (a+2)=(key,tt,ok):=⟨_,_,_,rfl⟩
 rw [hp] at hto H3
 have EP:=Lib.hid hp
 clear hp
 simp only at hto H3
 go_wp2_with fail
 refine (H3.out).mono ?_
 rintro e w3 ⟨rfl,hb3,hd3⟩
 have HB3:=Lib.hid hb3
 have F3:=FX.out _ hb3
 clear q0 q1 q2
 have q0:=F3.1
 have q1:=F3.2.1
 have q2:=F3.2.2.1
 have G3:=Lib.hid F3
 clear hb3 F3
 clear H3
 cases ok with
 | false =>
  have HQ2:Hid (q=(h,0,4,tt)):=Lib.hid (by rw [← HQ.out];unfold rop;rw [if_neg hnn.out,EON.out];rw [if_neg (by have:=HMO.out;omega)];rw [if_neg (by rw [E2.out];decide),EP.out];simp only;rw [if_pos trivial])
  go_wp2
  exact bodyPost_ret (results_row_tmp3 (u:=9) (u2:=10) (u3:=11) rfl _ _ (w.heap.size+1) _ _ (0,0) _ rfl (G3.out.2.2.2.2.1 _) rfl Try.underlying24 hist_info) rfl (by rw [HQ2.out];exact G3.out.2.2.2.2.2.2 _ _)
 | true =>
 obtain ⟨bd,rfl,hby⟩:=Kd.at_int (HLL.out _ G3.out.2.2.2.2.2.1) a a0 a1
 have hsz3:w.heap.size+2≤w3.heap.size:=by have:=(FB.out _ HB3.out).2.lt;omega
 by_cases hyr:rd l a=114
 ·have hy1:rd l a=114:=hyr
  rw [hy1] at hby
  have HY1:=Lib.hid hy1
  have hb4:Below (w.heap.size+2) W0 (w3.alloc (.cells #[.bool true,.int .i64 key,.int .i64 0,.slice none 0 0] 39)):=HB3.out.alloc hsz3 _
  have HO4:=Lib.hid (Blk.new w3 [.bool true,.int .i64 key,.int .i64 0,.slice none 0 0] 39)
  have hlo:=Cur.list_to l tt (by omega) (by omega)
  have H5:=Lib.hid (HLI.out _ hb4 tt)
  obtain ⟨ls,ee,okl,hp⟩:∃ ls ee okl,list l tt=(ls,ee,okl):=⟨_,_,_,rfl⟩
  rw [hp] at hlo H5
  have EL:=Lib.hid hp
  clear hp hy1 hyr
  simp only at hlo H5
  go_wp2_with fail
  refine (H5.out).mono ?_
  rintro e w5 ⟨A5,c5,rfl,hc5,hls5,hg5,hb5,hd5⟩
  have HB5:=Lib.hid hb5
  have F5:=FX.out _ hb5
  clear q0 q1 q2
  have q0:=F5.1
  have q1:=F5.2.1
  have q2:=F5.2.2.1
  have G5:=Lib.hid F5
  clear hb5 F5
  have HO5:=Lib.hid (HO4.out.below hd5 HO4.out.lt)
  have HLS:=Lib.hid hls5
  have HC5:=Lib.hid hc5
  have HG5:=Lib.hid hg5
  clear H5 hd5 hls5 hc5 hg5 hby
  cases okl with
  | false =>
   have HQ2:Hid (q=(h,0,4,ee)):=Lib.hid (by rw [← HQ.out];unfold rop;rw [if_neg hnn.out,EON.out];rw [if_neg (by have:=HMO.out;omega)];rw [if_neg (by rw [E2.out];decide),EP.out];simp only;rw [if_neg (by decide)];rw [if_pos HY1.out];unfold rread;rw [EL.out];simp only;rw [if_pos trivial])
   go_wp2
   exact bodyPost_ret (results_row_tmp3 (u:=9) (u2:=10) (u3:=11) rfl _ _ (w.heap.size+1) _ _ (0,0) _ rfl (G5.out.2.2.2.2.1 _) rfl Try.underlying24 hist_info) rfl (by rw [HQ2.out];exact G5.out.2.2.2.2.2.2 _ _)
  | true =>
  have x3:=HO5.out.cell 3
  have y3:=HO5.out.free 3
  have x0:=HO5.out.cell 0
  have x1:=HO5.out.cell 1
  have x2:=HO5.out.cell 2
  simp only [List.getElem?_cons_zero,List.getElem?_cons_succ] at x0 x1 x2 x3
  have hbT:=bset (b:=w3.heap.size) (j:=3) (u:=.slice A5 ls.length c5) hsz3 HB5.out
  have HOT:=Lib.hid (HO5.out.set 3 (.slice A5 ls.length c5))
  have H9:=Lib.hid (HIS.out _ hbT ee 10 (by omega))
  obtain ⟨b9,hb9⟩:∃ b,isB l ee 10=b:=⟨_,rfl⟩
  rw [hb9] at H9
  have E9:=Lib.hid hb9
  clear hb9
  go_wp2_with fail
  refine (H9.out).mono ?_
  rintro e w9 ⟨rfl,hb9,hd9⟩
  have HB9:=Lib.hid hb9
  have F9:=FX.out _ hb9
  clear q0 q1 q2
  have q0:=F9.1
  have q1:=F9.2.1
  have q2:=F9.2.2.1
  have G9:=Lib.hid F9
  clear hb9 F9
  have HO9:Hid (Blk w9 w3.heap.size [.bool true,.int .i64 key,.int .i64 0,.slice A5 ls.length c5] 39):=Lib.hid (HOT.out.below hd9 HOT.out.lt)
  have HGE:Hid (∀ g,w3.heap.size < g→g < w5.heap.size→w9.heap[g]?=w5.heap[g]?):=Lib.hid (fun g h1 h2=>(hd9.block g (by simpa using h2)).trans (Below.heap_setCell w5 ⟨w3.heap.size,3,none⟩ (.slice A5 ls.length c5) g (by simp only;omega)))
  have HS59:Hid (w5.heap.size≤w9.heap.size):=Lib.hid (by have:=hd9.size;simpa using this)
  clear H9 hd9
  cases b9 with
  | false =>
   have HQ2:Hid (q=(h,0,4,ee)):=Lib.hid (by rw [← HQ.out];unfold rop;rw [if_neg hnn.out,EON.out];rw [if_neg (by have:=HMO.out;omega)];rw [if_neg (by rw [E2.out];decide),EP.out];simp only;rw [if_neg (by decide)];rw [if_pos HY1.out];unfold rread;rw [EL.out];simp only;rw [if_neg (by decide)];unfold rend;rw [if_pos E9.out])
   go_wp2
   exact bodyPost_ret (results_row_tmp3 (u:=9) (u2:=10) (u3:=11) rfl _ _ (w.heap.size+1) _ _ (0,0) _ rfl (G9.out.2.2.2.2.1 _) rfl Try.underlying24 hist_info) rfl (by rw [HQ2.out];exact G9.out.2.2.2.2.2.2 _ _)
  | true =>
  have HQ2:Hid (q=(addOp h ⟨true,key,0,ls⟩,ee+1,0,0)):=Lib.hid (by rw [← HQ.out];unfold rop;rw [if_neg hnn.out,EON.out];rw [if_neg (by have:=HMO.out;omega)];rw [if_neg (by rw [E2.out];decide),EP.out];simp only;rw [if_neg (by decide)];rw [if_pos HY1.out];unfold rread;rw [EL.out];simp only;rw [if_neg (by decide)];unfold rend;rw [if_neg (by rw [E9.out];decide)])
  have HLN:Hid (cs.length=N * 3):=Lib.hid (by rw [rk_len HRK.out,HN.out])
  have HONE:=Lib.hid (rk_one HRK.out)
  have ho:=own_emptyT w9 w9.heap.size (Nat.le_refl _)
  have hba:=below_alloc (Below.refl w9.heap.size w9) (.cells #[] 42)
  have hcl:=HCS.out.below (below_alloc G9.out.2.2.2.2.2.1 (.cells #[] 42))
  have x28:=((FB.out _ HB9.out).1.alloc (.cells #[] 42)).cell 0
  simp only [List.getElem?_cons_zero] at x28
  go_wp2_with (at_builtin;refine wpl_appK (w0:=w9) w9.heap.size rfl (.tmp 113) (.tmp 115) 22 42 (.agg #[.int .i64 0,.bool false,.slice none 0 0]) 3 40 rfl Try.underlying22 txn_info rfl (by decide) (by decide) _ [] cs A 0 N c rfl rfl HLN.out ho hcl HONE.out hba hba.size (by omega) ?_;intro A2 c2 wa hown hbx hg hat hc2;rw [Nat.zero_add];simp only [Nat.zero_add,List.nil_append] at hown hc2;clear hg hat)
  obtain ⟨hs,t,eh,hadd⟩:=last_splitA hnn.out
  have hrk:=HRK.out
  rw [eh] at hrk
  obtain ⟨ds,A4,c4,ecs,hds,hc4,hC4⟩:=rk_split hrk
  obtain ⟨co,hco1,hco2⟩:=ro_of hC4
  have hM:N=hs.length+1:=by rw [← HN.out,eh];simp
  obtain ⟨M,hMe⟩:∃ M,hs.length=M:=⟨_,rfl⟩
  rw [hMe] at hM
  have HM:=Lib.hid hM
  have HME:=Lib.hid hMe
  obtain ⟨g2,cap2,e2⟩:=own_formN hown hNp
  injection e2 with e2a e2b e2c
  subst e2a
  clear e2b e2c cap2
  have HOWN:=Lib.hid hown
  have HBX:=Lib.hid hbx
  have HDS:=Lib.hid hds
  have HCO1:=Lib.hid hco1
  have HCO2:=Lib.hid hco2
  have HEH:=Lib.hid eh
  have HADD:=Lib.hid hadd
  have HC2:=Lib.hid hc2
  have HC4:=Lib.hid hc4
  have hti:(N:Int) - 1=(M:Int):=by omega
  have hmm5:=HTL.out t (by rw [eh];simp)
  obtain ⟨mm,hmm⟩:∃ mm,t.f2.length=mm:=⟨_,rfl⟩
  have HMM:=Lib.hid hmm
  rw [hmm] at hmm5 hc4 ecs
  have HECS:=Lib.hid ecs
  have HDL:Hid (ds.length=M * 3):=Lib.hid (by rw [rk_len hds,hMe])
  have hsz9:w.heap.size+2≤w9.heap.size:=by have:=(FB.out _ HB9.out).2.lt;omega
  have hM0:(0:Int)≤(M:Int):=by omega
  have hMN:(M:Int) < (N:Int):=by omega
  have hMn:M < N:=by omega
  have hg2:=own_lt hown g2 rfl
  have FXD:Hid (∀ W:World,Below wa.heap.size wa W→(W.cell? ⟨g2,M * 3+2,none⟩=some (.slice A4 mm c4)∧W.frozen? ⟨g2,M * 3+2,none⟩=false)∧Blk W w3.heap.size [.bool true,.int .i64 key,.int .i64 0,.slice A5 ls.length c5] 39∧Blk W w.heap.size [.slice A N c] 24∧Blk W (w.heap.size+1) [.slice none 0 0] 24∧Cells W A4 co∧Below w.heap.size w W):=Lib.hid (fun W hb=>by
   have h9:=hbx.trans (hb.mono hbx.size)
   have hb2:=HB9.out.trans (h9.mono hsz9)
   have hbw:=(FX.out _ hb2).2.2.2.2.2.1
   have hcs:=(Cells.of_ownK hown).below hb
   obtain ⟨ad,e1,e2⟩:=hcs (by rw [ecs];simp)
   injection e1 with e1
   subst e1
   have e3:=e2 (M * 3+2) (.slice A4 mm c4) (by rw [ecs,List.getElem?_append_right (by rw [HDL.out];omega),HDL.out,Nat.add_sub_cancel_left];rfl)
   rw [Addr.add_lit,Nat.zero_add] at e3
   exact ⟨⟨e3,own_free hown hb _⟩,HO9.out.below h9 HO9.out.lt,(FB.out _ hb2).1,(FB.out _ hb2).2,hco1.below hbw,hbw⟩)
  have HL4:Hid (co.length=mm * 4):=Lib.hid (by rw [ro_len hco2,hmm])
  have HON4:=Lib.hid (ro_one hco2)
  have HV1:Hid (∀ u ∈ ([.bool true,.int .i64 key,.int .i64 0,.slice A5 ls.length c5]:List Value),Value.oneCell' u=true):=Lib.hid (by
   intro u hu
   simp only [List.mem_cons,List.not_mem_nil,or_false] at hu
   rcases hu with rfl|rfl|rfl|rfl <;> rfl)
  have hbD:=(Below.refl wa.heap.size wa).drew
  have HMM5:=Lib.hid hmm5
  have HC4:=Lib.hid hc4
  have HHH:=Lib.hid hh
  have HS3:=Lib.hid HO9.out.lt
  clear hrk eh hadd ecs hds hco1 hco2 hown hbx hba hcl ho x28 hMe hc2 hc4 hC4 hmm hM
  go_wp2_with fail
  simp only [hti]
  refine start_ (n:=15) (S:=fun W=>Below wa.heap.size wa W) (ds:=[14]) #[false,false,false,false,false,false,false,false,false,false,false,false,false,false,false] (by kernel_rfl) rfl rfl hbD (fun hHeld=>?_)
  refine with_tabW RgOp.tab RgOp.bits (fun HT_ HW_=>?_)
  generalize wa.drew=wba at *
  refine pure_ (i:=0) (N:=some 120) (v:=?_) (a':=?_) #[true,false,false,false,false,false,false,false,false,false,false,false,false,false,false] rfl rfl (any_of HT_.out (by kernel_rfl)) (fun _ _ _ h=>h) (Or.inl ⟨by rfl,?_⟩) ?_ ?_
  rotate_left
  ·intro w'
   go_simp
   with_reducible rfl
  rotate_left
  ·simp only [Act.put,List.setIfInBounds_toArray,List.set_cons_zero,List.set_cons_succ,i64_w,i32_w]
   rfl
  refine pure_ (i:=1) (N:=some 121) (v:=?_) (a':=?_) #[true,true,false,false,false,false,false,false,false,false,false,false,false,false,false] rfl rfl (any_of HT_.out (by kernel_rfl)) (fun _ _ _ h=>h) (Or.inl ⟨by rfl,?_⟩) ?_ ?_
  rotate_left
  ·intro w'
   go_simp
   with_reducible rfl
  rotate_left
  ·simp only [Act.put,List.setIfInBounds_toArray,List.set_cons_zero,List.set_cons_succ,i64_w,i32_w]
   rfl
  refine pure_ (i:=3) (N:=some 123) (v:=?_) (a':=?_) #[true,true,false,true,false,false,false,false,false,false,false,false,false,false,false] rfl rfl (any_of HT_.out (by kernel_rfl)) (fun _ _ _ h=>h) (Or.inl ⟨by rfl,?_⟩) ?_ ?_
  rotate_left
  ·intro w'
   go_simp
   with_reducible rfl
  rotate_left
  ·simp only [Act.put,List.setIfInBounds_toArray,List.set_cons_zero,List.set_cons_succ,i64_w,i32_w]
   rfl
  refine pure_ (i:=4) (N:=some 124) (v:=?_) (a':=?_) #[true,true,false,true,true,false,false,false,false,false,false,false,false,false,false] rfl rfl (any_of HT_.out (by kernel_rfl)) (fun _ _ _ h=>h) (Or.inl ⟨by rfl,?_⟩) ?_ ?_
  rotate_left
  ·intro w'
   go_simp
   with_reducible rfl
  rotate_left
  ·simp only [Act.put,List.setIfInBounds_toArray,List.set_cons_zero,List.set_cons_succ,i64_w,i32_w]
   rfl
  refine pure_ (i:=5) (N:=some 125) (v:=?_) (a':=?_) #[true,true,false,true,true,true,false,false,false,false,false,false,false,false,false] rfl rfl (any_of HT_.out (by kernel_rfl)) (fun _ _ _ h=>h) (Or.inl ⟨by rfl,?_⟩) ?_ ?_
  rotate_left
  ·intro w'
   go_simp
   with_reducible rfl
  rotate_left
  ·simp only [Act.put,List.setIfInBounds_toArray,List.set_cons_zero,List.set_cons_succ,i64_w,i32_w]
   rfl
  refine pure_ (i:=6) (N:=some 126) (v:=?_) (a':=?_) #[true,true,false,true,true,true,true,false,false,false,false,false,false,false,false] rfl rfl (any_of HT_.out (by kernel_rfl)) (fun _ _ _ h=>h) (Or.inl ⟨by rfl,?_⟩) ?_ ?_
  rotate_left
  ·intro w'
   go_simp
   with_reducible rfl
  rotate_left
  ·simp only [Act.put,List.setIfInBounds_toArray,List.set_cons_zero,List.set_cons_succ,i64_w,i32_w]
   rfl
  refine take_ (i:=7) (N:=some 127) (v:=?_) (a':=?_) #[true,true,false,true,true,true,true,true,false,false,false,false,false,false,false] rfl rfl (take_ofW HT_.out HW_.out (by kernel_rfl)) (fun _ _ _ h=>h) (Or.inl ⟨by rfl,?_⟩) hHeld ?_ ?_
  rotate_left
  ·intro w' hW
   obtain ⟨⟨x0_,x1_⟩,y_,-⟩:=FXD.out w' hW
   have y0_:=y_.cell 0
   have y1_:=y_.cell 1
   have y2_:=y_.cell 2
   have y3_:=y_.cell 3
   simp only [List.getElem?_cons_zero,List.getElem?_cons_succ] at y0_ y1_ y2_ y3_
   go_simp
   with_reducible rfl
  rotate_left
  ·simp only [Act.put,List.setIfInBounds_toArray,List.set_cons_zero,List.set_cons_succ,i64_w,i32_w]
   rfl
  refine take_ (i:=9) (N:=some 129) (v:=?_) (a':=?_) #[true,true,false,true,true,true,true,true,false,true,false,false,false,false,false] rfl rfl (take_ofW HT_.out HW_.out (by kernel_rfl)) (fun _ _ _ h=>h) (Or.inl ⟨by rfl,?_⟩) hHeld ?_ ?_
  rotate_left
  ·intro w' hW
   obtain ⟨⟨x0_,x1_⟩,y_,-⟩:=FXD.out w' hW
   have y0_:=y_.cell 0
   have y1_:=y_.cell 1
   have y2_:=y_.cell 2
   have y3_:=y_.cell 3
   simp only [List.getElem?_cons_zero,List.getElem?_cons_succ] at y0_ y1_ y2_ y3_
   go_simp
   with_reducible rfl
  rotate_left
  ·simp only [Act.put,List.setIfInBounds_toArray,List.set_cons_zero,List.set_cons_succ,i64_w,i32_w]
   rfl
  refine two_ (i:=2) (j:=10) (Ni:=some 122) (Nj:=some 130) #[true,true,true,true,true,true,true,true,false,true,false,false,false,false,false] #[true,true,false,true,true,true,true,true,false,true,true,false,false,false,false] rfl rfl rfl rfl (two_of HT_.out (by kernel_rfl)) (by decide) (by decide) (fun K hK=>?_) (fun K hK=>?_)
  ·refine value_ (v:=.slice (some ⟨wba.heap.size,0,none⟩) 0 0) (w1:=wba.alloc (.cells #[] 39)) (by rfl) rfl (by first|(go_simp;done)|(go_simp;rfl)) ?_
   have hn_:=below_alloc hHeld (.cells #[] 39)
   have hswbb:(wba.alloc (.cells #[] 39)).heap.size=wba.heap.size+1:=World.size_alloc _ _
   have ho:=own_emptyO wba wa.heap.size hHeld.size
   refine hK.out _ _ hn_ (fun hHeld=>?_)
   clear hK K hn_
   generalize wba.alloc (.cells #[] 39)=wbb at *
   refine norm_ (a':=?_) ?_ ?_
   rotate_left
   ·show Act.put _ (some 122) _=_
    simp only [Act.put,List.setIfInBounds_toArray,List.set_cons_zero,List.set_cons_succ,i64_w,i32_w]
    rfl
   refine two_ (i:=8) (j:=10) (Ni:=some 128) (Nj:=some 130) #[true,true,true,true,true,true,true,true,true,true,false,false,false,false,false] #[true,true,true,true,true,true,true,true,false,true,true,false,false,false,false] rfl rfl rfl rfl (two_of HT_.out (by kernel_rfl)) (by decide) (by decide) (fun K hK=>?_) (fun K hK=>?_)
   ·refine step_appK (w0:=wa) wa.heap.size (by rfl) (.tmp 122) (.tmp 127) 40 39 (.agg #[.bool false,.int .i64 0,.int .i64 0,.slice none 0 0]) 4 48 rfl Try.underlying40 opx_info rfl (by decide) (by decide) _ [] co A4 0 mm c4 rfl rfl HL4.out ho (FXD.out _ hHeld).2.2.2.2.1 HON4.out hHeld hHeld.size (by have:=HMM5.out;omega) ?_
    intro A5_ c5_ wbc hown hn_ hg hat hc5_
    rw [Nat.zero_add]
    simp only [Nat.zero_add,List.nil_append] at hown hc5_
    refine hK.out _ _ hn_ (fun hHeld=>?_)
    clear hK K hn_ hg hat ho
    refine norm_ (a':=?_) ?_ ?_
    rotate_left
    ·show Act.put _ (some 128) _=_
     simp only [Act.put,List.setIfInBounds_toArray,List.set_cons_zero,List.set_cons_succ,i64_w,i32_w]
     rfl
    refine one_ (i:=10) (N:=some 130) #[true,true,true,true,true,true,true,true,true,true,true,false,false,false,false] rfl rfl (one_of HT_.out (by kernel_rfl)) (by decide) (fun K hK=>?_)
    refine value_ (v:=.slice (some ⟨wbc.heap.size,0,none⟩) 1 1) (w1:=wbc.alloc (.cells #[.bool true,.int .i64 key,.int .i64 0,.slice A5 ls.length c5] 39)) (by rfl) rfl (by first|(go_simp;done)|(go_simp;rfl)) ?_
    have hn_:=below_alloc hHeld (.cells #[.bool true,.int .i64 key,.int .i64 0,.slice A5 ls.length c5] 39)
    have hswbd:(wbc.alloc (.cells #[.bool true,.int .i64 key,.int .i64 0,.slice A5 ls.length c5] 39)).heap.size=wbc.heap.size+1:=World.size_alloc _ _
    have hcl:=Cells.new wbc [.bool true,.int .i64 key,.int .i64 0,.slice A5 ls.length c5] 39
    have hown:=hown.alloc (.cells #[.bool true,.int .i64 key,.int .i64 0,.slice A5 ls.length c5] 39)
    refine hK.out _ _ hn_ (fun hHeld=>?_)
    clear hK K hn_
    generalize wbc.alloc (.cells #[.bool true,.int .i64 key,.int .i64 0,.slice A5 ls.length c5] 39)=wbd at *
    refine norm_ (a':=?_) ?_ ?_
    rotate_left
    ·show Act.put _ (some 130) _=_
     simp only [Act.put,List.setIfInBounds_toArray,List.set_cons_zero,List.set_cons_succ,i64_w,i32_w]
     rfl
    refine one_ (i:=11) (N:=some 131) #[true,true,true,true,true,true,true,true,true,true,true,true,false,false,false] rfl rfl (one_of HT_.out (by kernel_rfl)) (by decide) (fun K hK=>?_)
    refine step_appK (w0:=wa) wa.heap.size (by rfl) (.tmp 128) (.tmp 130) 40 39 (.agg #[.bool false,.int .i64 0,.int .i64 0,.slice none 0 0]) 4 48 rfl Try.underlying40 opx_info rfl (by decide) (by decide) _ co [.bool true,.int .i64 key,.int .i64 0,.slice A5 ls.length c5] _ mm 1 1 rfl rfl rfl hown hcl HV1.out hHeld hHeld.size (by have:=HMM5.out;omega) ?_
    intro A6 c6 wbe hown3 hn_ hg hat hc6
    refine hK.out _ _ hn_ (fun hHeld=>?_)
    clear hK K hn_ hg hat hown hcl
    refine norm_ (a':=?_) ?_ ?_
    rotate_left
    ·show Act.put _ (some 131) _=_
     simp only [Act.put,List.setIfInBounds_toArray,List.set_cons_zero,List.set_cons_succ,i64_w,i32_w]
     rfl
    refine pure_ (i:=12) (N:=some 132) (v:=?_) (a':=?_) #[true,true,true,true,true,true,true,true,true,true,true,true,true,false,false] rfl rfl (any_of HT_.out (by kernel_rfl)) (fun _ _ _ h=>h) (Or.inl ⟨by rfl,?_⟩) ?_ ?_
    rotate_left
    ·intro w'
     go_simp
     with_reducible rfl
    rotate_left
    ·simp only [Act.put,List.setIfInBounds_toArray,List.set_cons_zero,List.set_cons_succ,i64_w,i32_w]
     rfl
    refine pure_ (i:=13) (N:=some 133) (v:=?_) (a':=?_) #[true,true,true,true,true,true,true,true,true,true,true,true,true,true,false] rfl rfl (any_of HT_.out (by kernel_rfl)) (fun _ _ _ h=>h) (Or.inl ⟨by rfl,?_⟩) ?_ ?_
    rotate_left
    ·intro w'
     go_simp
     with_reducible rfl
    rotate_left
    ·simp only [Act.put,List.setIfInBounds_toArray,List.set_cons_zero,List.set_cons_succ,i64_w,i32_w]
     rfl
    refine last_ (i:=14) (N:=none) #[true,true,true,true,true,true,true,true,true,true,true,true,true,true,true] rfl rfl (one_of HT_.out (by kernel_rfl)) (by decide) (fun K hK=>?_)
    obtain ⟨⟨x0_,x1_⟩,-,z0_,z1_,-,hbw_⟩:=FXD.out _ hHeld
    refine skip_ (w1:=wbe.setCell ⟨g2,M * 3+2,none⟩ (.slice A6 (mm+1) c6)) (by rfl) rfl (by first|(go_simp;done)|(go_simp;rfl)) ?_
    refine hK.out _ _ ?_
    clear hK K
    refine done_ (done_of HT_.out (by kernel_rfl)) ?_
    have hfin:=rop_fin (V:=.slice (some ⟨g2,0,none⟩) N c2) (B0:=w3.heap.size) (G9.out.2.2.2.2.2.1) hsz3 HS3.out HBX.out (HECS.out ▸ HOWN.out) hHeld hown3 HDS.out HCO2.out HMM.out (by omega) HMM5.out (by have:=HME.out;have:=HHH.out;have:=HM.out;omega) (fun F hF=>read_ok HLS.out HC5.out (fun h0=>by obtain ⟨g,h1,h2,h3⟩:=HG5.out h0;exact ⟨g,h1,by rw [World.size_alloc] at h2;omega,h3⟩) HGE.out HS59.out hF)
    rw [HDL.out] at hfin
    obtain ⟨hg9,hga,hC,hbf⟩:=hfin
    have hz0:=z0_.other (a:=⟨g2,M * 3+2,none⟩) (by simp only [ne_eq];omega) (.slice A6 (mm+1) c6)
    have hz1:=z1_.other (a:=⟨g2,M * 3+2,none⟩) (by simp only [ne_eq];omega) (.slice A6 (mm+1) c6)
    have HFIN:Hid (ROut w q (.returned (.tuple #[.agg #[.slice (some ⟨g2,0,none⟩) N c2],.int .i64 (ee+1),.int .i64 0,.int .i64 0])) (((wbe.setCell ⟨g2,M * 3+2,none⟩ (.slice A6 (mm+1) c6)).setCell ⟨w.heap.size,0,none⟩ (.slice (some ⟨g2,0,none⟩) N c2)).setCell ⟨w.heap.size+1,0,none⟩ (.slice (some ⟨g2,0,none⟩) N c2))):=Lib.hid (by
     rw [HQ2.out,HADD.out]
     have hl1:∀ x:S42,(hs ++ [x]).length=N:=fun x=>by rw [List.length_append,HME.out,HM.out];rfl
     exact ⟨some ⟨g2,0,none⟩,c2,by simp only [hl1],by simp only [hl1];exact HC2.out,hC,hbf⟩)
    generalize wbe.setCell ⟨g2,M * 3+2,none⟩ (.slice A6 (mm+1) c6)=wc at *
    have x2_:=hz0.free 0
    have x3_:=hz1.cell 0
    have x4_:=hz1.free 0
    have x5_:=hz0.cell 0
    simp only [List.getElem?_cons_zero] at x3_ x5_
    have hblk:=(hz1.other (a:=⟨w.heap.size,0,none⟩) (by simp) (.slice (some ⟨g2,0,none⟩) N c2)).set 0 (.slice (some ⟨g2,0,none⟩) N c2)
    have HBLK:=Lib.hid hblk
    clear hblk hC hbf hz0 hz1 z0_ z1_ hown3 x0_ x1_ hbw_ hHeld
    go_wp2
    exact bodyPost_ret (results_row_tmp3 (u:=9) (u2:=10) (u3:=11) rfl _ _ (w.heap.size+1) _ _ (0,0) _ rfl HBLK.out rfl Try.underlying24 hist_info) rfl HFIN.out
   ·refine value_ (v:=.slice (some ⟨wbb.heap.size,0,none⟩) 1 1) (w1:=wbb.alloc (.cells #[.bool true,.int .i64 key,.int .i64 0,.slice A5 ls.length c5] 39)) (by rfl) rfl (by first|(go_simp;done)|(go_simp;rfl)) ?_
    have hn_:=below_alloc hHeld (.cells #[.bool true,.int .i64 key,.int .i64 0,.slice A5 ls.length c5] 39)
    have hswbc:(wbb.alloc (.cells #[.bool true,.int .i64 key,.int .i64 0,.slice A5 ls.length c5] 39)).heap.size=wbb.heap.size+1:=World.size_alloc _ _
    have hcl:=Cells.new wbb [.bool true,.int .i64 key,.int .i64 0,.slice A5 ls.length c5] 39
    have ho:=ho.alloc (.cells #[.bool true,.int .i64 key,.int .i64 0,.slice A5 ls.length c5] 39)
    refine hK.out _ _ hn_ (fun hHeld=>?_)
    clear hK K hn_
    generalize wbb.alloc (.cells #[.bool true,.int .i64 key,.int .i64 0,.slice A5 ls.length c5] 39)=wbc at *
    refine norm_ (a':=?_) ?_ ?_
    rotate_left
    ·show Act.put _ (some 130) _=_
     simp only [Act.put,List.setIfInBounds_toArray,List.set_cons_zero,List.set_cons_succ,i64_w,i32_w]
     rfl
    refine one_ (i:=8) (N:=some 128) #[true,true,true,true,true,true,true,true,true,true,true,false,false,false,false] rfl rfl (one_of HT_.out (by kernel_rfl)) (by decide) (fun K hK=>?_)
    refine step_appK (w0:=wa) wa.heap.size (by rfl) (.tmp 122) (.tmp 127) 40 39 (.agg #[.bool false,.int .i64 0,.int .i64 0,.slice none 0 0]) 4 48 rfl Try.underlying40 opx_info rfl (by decide) (by decide) _ [] co A4 0 mm c4 rfl rfl HL4.out ho (FXD.out _ hHeld).2.2.2.2.1 HON4.out hHeld hHeld.size (by have:=HMM5.out;omega) ?_
    intro A5_ c5_ wbd hown hn_ hg hat hc5_
    rw [Nat.zero_add]
    simp only [Nat.zero_add,List.nil_append] at hown hc5_
    have hcl:=hcl.grown hg (by omega) (by intro e_;have e2_:wbb.heap.size=wba.heap.size:=Option.some.inj e_;omega)
    refine hK.out _ _ hn_ (fun hHeld=>?_)
    clear hK K hn_ hg hat ho
    refine norm_ (a':=?_) ?_ ?_
    rotate_left
    ·show Act.put _ (some 128) _=_
     simp only [Act.put,List.setIfInBounds_toArray,List.set_cons_zero,List.set_cons_succ,i64_w,i32_w]
     rfl
    refine one_ (i:=11) (N:=some 131) #[true,true,true,true,true,true,true,true,true,true,true,true,false,false,false] rfl rfl (one_of HT_.out (by kernel_rfl)) (by decide) (fun K hK=>?_)
    refine step_appK (w0:=wa) wa.heap.size (by rfl) (.tmp 128) (.tmp 130) 40 39 (.agg #[.bool false,.int .i64 0,.int .i64 0,.slice none 0 0]) 4 48 rfl Try.underlying40 opx_info rfl (by decide) (by decide) _ co [.bool true,.int .i64 key,.int .i64 0,.slice A5 ls.length c5] _ mm 1 1 rfl rfl rfl hown hcl HV1.out hHeld hHeld.size (by have:=HMM5.out;omega) ?_
    intro A6 c6 wbe hown3 hn_ hg hat hc6
    refine hK.out _ _ hn_ (fun hHeld=>?_)
    clear hK K hn_ hg hat hown hcl
    refine norm_ (a':=?_) ?_ ?_
    rotate_left
    ·show Act.put _ (some 131) _=_
     simp only [Act.put,List.setIfInBounds_toArray,List.set_cons_zero,List.set_cons_succ,i64_w,i32_w]
     rfl
    refine pure_ (i:=12) (N:=some 132) (v:=?_) (a':=?_) #[true,true,true,true,true,true,true,true,true,true,true,true,true,false,false] rfl rfl (any_of HT_.out (by kernel_rfl)) (fun _ _ _ h=>h) (Or.inl ⟨by rfl,?_⟩) ?_ ?_
    rotate_left
    ·intro w'
     go_simp
     with_reducible rfl
    rotate_left
    ·simp only [Act.put,List.setIfInBounds_toArray,List.set_cons_zero,List.set_cons_succ,i64_w,i32_w]
     rfl
    refine pure_ (i:=13) (N:=some 133) (v:=?_) (a':=?_) #[true,true,true,true,true,true,true,true,true,true,true,true,true,true,false] rfl rfl (any_of HT_.out (by kernel_rfl)) (fun _ _ _ h=>h) (Or.inl ⟨by rfl,?_⟩) ?_ ?_
    rotate_left
    ·intro w'
     go_simp
     with_reducible rfl
    rotate_left
    ·simp only [Act.put,List.setIfInBounds_toArray,List.set_cons_zero,List.set_cons_succ,i64_w,i32_w]
     rfl
    refine last_ (i:=14) (N:=none) #[true,true,true,true,true,true,true,true,true,true,true,true,true,true,true] rfl rfl (one_of HT_.out (by kernel_rfl)) (by decide) (fun K hK=>?_)
    obtain ⟨⟨x0_,x1_⟩,-,z0_,z1_,-,hbw_⟩:=FXD.out _ hHeld
    refine skip_ (w1:=wbe.setCell ⟨g2,M * 3+2,none⟩ (.slice A6 (mm+1) c6)) (by rfl) rfl (by first|(go_simp;done)|(go_simp;rfl)) ?_
    refine hK.out _ _ ?_
    clear hK K
    refine done_ (done_of HT_.out (by kernel_rfl)) ?_
    have hfin:=rop_fin (V:=.slice (some ⟨g2,0,none⟩) N c2) (B0:=w3.heap.size) (G9.out.2.2.2.2.2.1) hsz3 HS3.out HBX.out (HECS.out ▸ HOWN.out) hHeld hown3 HDS.out HCO2.out HMM.out (by omega) HMM5.out (by have:=HME.out;have:=HHH.out;have:=HM.out;omega) (fun F hF=>read_ok HLS.out HC5.out (fun h0=>by obtain ⟨g,h1,h2,h3⟩:=HG5.out h0;exact ⟨g,h1,by rw [World.size_alloc] at h2;omega,h3⟩) HGE.out HS59.out hF)
    rw [HDL.out] at hfin
    obtain ⟨hg9,hga,hC,hbf⟩:=hfin
    have hz0:=z0_.other (a:=⟨g2,M * 3+2,none⟩) (by simp only [ne_eq];omega) (.slice A6 (mm+1) c6)
    have hz1:=z1_.other (a:=⟨g2,M * 3+2,none⟩) (by simp only [ne_eq];omega) (.slice A6 (mm+1) c6)
    have HFIN:Hid (ROut w q (.returned (.tuple #[.agg #[.slice (some ⟨g2,0,none⟩) N c2],.int .i64 (ee+1),.int .i64 0,.int .i64 0])) (((wbe.setCell ⟨g2,M * 3+2,none⟩ (.slice A6 (mm+1) c6)).setCell ⟨w.heap.size,0,none⟩ (.slice (some ⟨g2,0,none⟩) N c2)).setCell ⟨w.heap.size+1,0,none⟩ (.slice (some ⟨g2,0,none⟩) N c2))):=Lib.hid (by
     rw [HQ2.out,HADD.out]
     have hl1:∀ x:S42,(hs ++ [x]).length=N:=fun x=>by rw [List.length_append,HME.out,HM.out];rfl
     exact ⟨some ⟨g2,0,none⟩,c2,by simp only [hl1],by simp only [hl1];exact HC2.out,hC,hbf⟩)
    generalize wbe.setCell ⟨g2,M * 3+2,none⟩ (.slice A6 (mm+1) c6)=wc at *
    have x2_:=hz0.free 0
    have x3_:=hz1.cell 0
    have x4_:=hz1.free 0
    have x5_:=hz0.cell 0
    simp only [List.getElem?_cons_zero] at x3_ x5_
    have hblk:=(hz1.other (a:=⟨w.heap.size,0,none⟩) (by simp) (.slice (some ⟨g2,0,none⟩) N c2)).set 0 (.slice (some ⟨g2,0,none⟩) N c2)
    have HBLK:=Lib.hid hblk
    clear hblk hC hbf hz0 hz1 z0_ z1_ hown3 x0_ x1_ hbw_ hHeld
    go_wp2
    exact bodyPost_ret (results_row_tmp3 (u:=9) (u2:=10) (u3:=11) rfl _ _ (w.heap.size+1) _ _ (0,0) _ rfl HBLK.out rfl Try.underlying24 hist_info) rfl HFIN.out
  ·refine value_ (v:=.slice (some ⟨wba.heap.size,0,none⟩) 1 1) (w1:=wba.alloc (.cells #[.bool true,.int .i64 key,.int .i64 0,.slice A5 ls.length c5] 39)) (by rfl) rfl (by first|(go_simp;done)|(go_simp;rfl)) ?_
   have hn_:=below_alloc hHeld (.cells #[.bool true,.int .i64 key,.int .i64 0,.slice A5 ls.length c5] 39)
   have hswbb:(wba.alloc (.cells #[.bool true,.int .i64 key,.int .i64 0,.slice A5 ls.length c5] 39)).heap.size=wba.heap.size+1:=World.size_alloc _ _
   have hcl:=Cells.new wba [.bool true,.int .i64 key,.int .i64 0,.slice A5 ls.length c5] 39
   refine hK.out _ _ hn_ (fun hHeld=>?_)
   clear hK K hn_
   generalize wba.alloc (.cells #[.bool true,.int .i64 key,.int .i64 0,.slice A5 ls.length c5] 39)=wbb at *
   refine norm_ (a':=?_) ?_ ?_
   rotate_left
   ·show Act.put _ (some 130) _=_
    simp only [Act.put,List.setIfInBounds_toArray,List.set_cons_zero,List.set_cons_succ,i64_w,i32_w]
    rfl
   refine one_ (i:=2) (N:=some 122) #[true,true,true,true,true,true,true,true,false,true,true,false,false,false,false] rfl rfl (one_of HT_.out (by kernel_rfl)) (by decide) (fun K hK=>?_)
   refine value_ (v:=.slice (some ⟨wbb.heap.size,0,none⟩) 0 0) (w1:=wbb.alloc (.cells #[] 39)) (by rfl) rfl (by first|(go_simp;done)|(go_simp;rfl)) ?_
   have hn_:=below_alloc hHeld (.cells #[] 39)
   have hswbc:(wbb.alloc (.cells #[] 39)).heap.size=wbb.heap.size+1:=World.size_alloc _ _
   have ho:=own_emptyO wbb wa.heap.size hHeld.size
   have hcl:=hcl.below (below_alloc (Below.refl _ _) (.cells #[] 39))
   refine hK.out _ _ hn_ (fun hHeld=>?_)
   clear hK K hn_
   generalize wbb.alloc (.cells #[] 39)=wbc at *
   refine norm_ (a':=?_) ?_ ?_
   rotate_left
   ·show Act.put _ (some 122) _=_
    simp only [Act.put,List.setIfInBounds_toArray,List.set_cons_zero,List.set_cons_succ,i64_w,i32_w]
    rfl
   refine one_ (i:=8) (N:=some 128) #[true,true,true,true,true,true,true,true,true,true,true,false,false,false,false] rfl rfl (one_of HT_.out (by kernel_rfl)) (by decide) (fun K hK=>?_)
   refine step_appK (w0:=wa) wa.heap.size (by rfl) (.tmp 122) (.tmp 127) 40 39 (.agg #[.bool false,.int .i64 0,.int .i64 0,.slice none 0 0]) 4 48 rfl Try.underlying40 opx_info rfl (by decide) (by decide) _ [] co A4 0 mm c4 rfl rfl HL4.out ho (FXD.out _ hHeld).2.2.2.2.1 HON4.out hHeld hHeld.size (by have:=HMM5.out;omega) ?_
   intro A5_ c5_ wbd hown hn_ hg hat hc5_
   rw [Nat.zero_add]
   simp only [Nat.zero_add,List.nil_append] at hown hc5_
   have hcl:=hcl.grown hg (by omega) (by intro e_;have e2_:wba.heap.size=wbb.heap.size:=Option.some.inj e_;omega)
   refine hK.out _ _ hn_ (fun hHeld=>?_)
   clear hK K hn_ hg hat ho
   refine norm_ (a':=?_) ?_ ?_
   rotate_left
   ·show Act.put _ (some 128) _=_
    simp only [Act.put,List.setIfInBounds_toArray,List.set_cons_zero,List.set_cons_succ,i64_w,i32_w]
    rfl
   refine one_ (i:=11) (N:=some 131) #[true,true,true,true,true,true,true,true,true,true,true,true,false,false,false] rfl rfl (one_of HT_.out (by kernel_rfl)) (by decide) (fun K hK=>?_)
   refine step_appK (w0:=wa) wa.heap.size (by rfl) (.tmp 128) (.tmp 130) 40 39 (.agg #[.bool false,.int .i64 0,.int .i64 0,.slice none 0 0]) 4 48 rfl Try.underlying40 opx_info rfl (by decide) (by decide) _ co [.bool true,.int .i64 key,.int .i64 0,.slice A5 ls.length c5] _ mm 1 1 rfl rfl rfl hown hcl HV1.out hHeld hHeld.size (by have:=HMM5.out;omega) ?_
   intro A6 c6 wbe hown3 hn_ hg hat hc6
   refine hK.out _ _ hn_ (fun hHeld=>?_)
   clear hK K hn_ hg hat hown hcl
   refine norm_ (a':=?_) ?_ ?_
   rotate_left
   ·show Act.put _ (some 131) _=_
    simp only [Act.put,List.setIfInBounds_toArray,List.set_cons_zero,List.set_cons_succ,i64_w,i32_w]
    rfl
   refine pure_ (i:=12) (N:=some 132) (v:=?_) (a':=?_) #[true,true,true,true,true,true,true,true,true,true,true,true,true,false,false] rfl rfl (any_of HT_.out (by kernel_rfl)) (fun _ _ _ h=>h) (Or.inl ⟨by rfl,?_⟩) ?_ ?_
   rotate_left
   ·intro w'
    go_simp
    with_reducible rfl
   rotate_left
   ·simp only [Act.put,List.setIfInBounds_toArray,List.set_cons_zero,List.set_cons_succ,i64_w,i32_w]
    rfl
   refine pure_ (i:=13) (N:=some 133) (v:=?_) (a':=?_) #[true,true,true,true,true,true,true,true,true,true,true,true,true,true,false] rfl rfl (any_of HT_.out (by kernel_rfl)) (fun _ _ _ h=>h) (Or.inl ⟨by rfl,?_⟩) ?_ ?_
   rotate_left
   ·intro w'
    go_simp
    with_reducible rfl
   rotate_left
   ·simp only [Act.put,List.setIfInBounds_toArray,List.set_cons_zero,List.set_cons_succ,i64_w,i32_w]
    rfl
   refine last_ (i:=14) (N:=none) #[true,true,true,true,true,true,true,true,true,true,true,true,true,true,true] rfl rfl (one_of HT_.out (by kernel_rfl)) (by decide) (fun K hK=>?_)
   obtain ⟨⟨x0_,x1_⟩,-,z0_,z1_,-,hbw_⟩:=FXD.out _ hHeld
   refine skip_ (w1:=wbe.setCell ⟨g2,M * 3+2,none⟩ (.slice A6 (mm+1) c6)) (by rfl) rfl (by first|(go_simp;done)|(go_simp;rfl)) ?_
   refine hK.out _ _ ?_
   clear hK K
   refine done_ (done_of HT_.out (by kernel_rfl)) ?_
   have hfin:=rop_fin (V:=.slice (some ⟨g2,0,none⟩) N c2) (B0:=w3.heap.size) (G9.out.2.2.2.2.2.1) hsz3 HS3.out HBX.out (HECS.out ▸ HOWN.out) hHeld hown3 HDS.out HCO2.out HMM.out (by omega) HMM5.out (by have:=HME.out;have:=HHH.out;have:=HM.out;omega) (fun F hF=>read_ok HLS.out HC5.out (fun h0=>by obtain ⟨g,h1,h2,h3⟩:=HG5.out h0;exact ⟨g,h1,by rw [World.size_alloc] at h2;omega,h3⟩) HGE.out HS59.out hF)
   rw [HDL.out] at hfin
   obtain ⟨hg9,hga,hC,hbf⟩:=hfin
   have hz0:=z0_.other (a:=⟨g2,M * 3+2,none⟩) (by simp only [ne_eq];omega) (.slice A6 (mm+1) c6)
   have hz1:=z1_.other (a:=⟨g2,M * 3+2,none⟩) (by simp only [ne_eq];omega) (.slice A6 (mm+1) c6)
   have HFIN:Hid (ROut w q (.returned (.tuple #[.agg #[.slice (some ⟨g2,0,none⟩) N c2],.int .i64 (ee+1),.int .i64 0,.int .i64 0])) (((wbe.setCell ⟨g2,M * 3+2,none⟩ (.slice A6 (mm+1) c6)).setCell ⟨w.heap.size,0,none⟩ (.slice (some ⟨g2,0,none⟩) N c2)).setCell ⟨w.heap.size+1,0,none⟩ (.slice (some ⟨g2,0,none⟩) N c2))):=Lib.hid (by
    rw [HQ2.out,HADD.out]
    have hl1:∀ x:S42,(hs ++ [x]).length=N:=fun x=>by rw [List.length_append,HME.out,HM.out];rfl
    exact ⟨some ⟨g2,0,none⟩,c2,by simp only [hl1],by simp only [hl1];exact HC2.out,hC,hbf⟩)
   generalize wbe.setCell ⟨g2,M * 3+2,none⟩ (.slice A6 (mm+1) c6)=wc at *
   have x2_:=hz0.free 0
   have x3_:=hz1.cell 0
   have x4_:=hz1.free 0
   have x5_:=hz0.cell 0
   simp only [List.getElem?_cons_zero] at x3_ x5_
   have hblk:=(hz1.other (a:=⟨w.heap.size,0,none⟩) (by simp) (.slice (some ⟨g2,0,none⟩) N c2)).set 0 (.slice (some ⟨g2,0,none⟩) N c2)
   have HBLK:=Lib.hid hblk
   clear hblk hC hbf hz0 hz1 z0_ z1_ hown3 x0_ x1_ hbw_ hHeld
   go_wp2
   exact bodyPost_ret (results_row_tmp3 (u:=9) (u2:=10) (u3:=11) rfl _ _ (w.heap.size+1) _ _ (0,0) _ rfl HBLK.out rfl Try.underlying24 hist_info) rfl HFIN.out
 ·have hy1:rd l a=97:=hy.elim id (fun e=>absurd e hyr)
  rw [hy1] at hby
  have HY1:=Lib.hid hy1
  have hb4:Below (w.heap.size+2) W0 (w3.alloc (.cells #[.bool false,.int .i64 key,.int .i64 0,.slice none 0 0] 39)):=HB3.out.alloc hsz3 _
  have HO4:=Lib.hid (Blk.new w3 [.bool false,.int .i64 key,.int .i64 0,.slice none 0 0] 39)
  have H5:=Lib.hid (HIS.out _ hb4 tt 32 (by omega))
  clear hy1 hyr hy
  obtain ⟨b5,hb5⟩:∃ b,isB l tt 32=b:=⟨_,rfl⟩
  rw [hb5] at H5
  have E5:=Lib.hid hb5
  clear hb5
  go_wp2_with fail
  refine (H5.out).mono ?_
  rintro e w5 ⟨rfl,hb5,hd5⟩
  have HB5:=Lib.hid hb5
  have F5:=FX.out _ hb5
  clear q0 q1 q2
  have q0:=F5.1
  have q1:=F5.2.1
  have q2:=F5.2.2.1
  have G5:=Lib.hid F5
  clear hb5 F5
  have HO5:=Lib.hid (HO4.out.below hd5 HO4.out.lt)
  clear H5 hd5 hby
  cases b5 with
  | false =>
   have HQ2:Hid (q=(h,0,4,tt)):=Lib.hid (by rw [← HQ.out];unfold rop;rw [if_neg hnn.out,EON.out];rw [if_neg (by have:=HMO.out;omega)];rw [if_neg (by rw [E2.out];decide),EP.out];simp only;rw [if_neg (by decide)];rw [if_neg (by rw [HY1.out];decide)];unfold rapp;rw [if_pos E5.out])
   go_wp2
   exact bodyPost_ret (results_row_tmp3 (u:=9) (u2:=10) (u3:=11) rfl _ _ (w.heap.size+1) _ _ (0,0) _ rfl (G5.out.2.2.2.2.1 _) rfl Try.underlying24 hist_info) rfl (by rw [HQ2.out];exact G5.out.2.2.2.2.2.2 _ _)
  | true =>
  have hlt5:=is_lt E5.out
  have hto2:=parse_to l (tt+1) (by omega) (by omega)
  have H6:=Lib.hid (HPA.out _ HB5.out (tt+1))
  obtain ⟨v,ee,okv,hp⟩:∃ v ee okv,parse l (tt+1)=(v,ee,okv):=⟨_,_,_,rfl⟩
  rw [hp] at hto2 H6
  have EP2:=Lib.hid hp
  clear hp
  simp only at hto2 H6
  go_wp2_with fail
  refine (H6.out).mono ?_
  rintro e w6 ⟨rfl,hb6,hd6⟩
  have HB6:=Lib.hid hb6
  have F6:=FX.out _ hb6
  clear q0 q1 q2
  have q0:=F6.1
  have q1:=F6.2.1
  have q2:=F6.2.2.1
  have G6:=Lib.hid F6
  clear hb6 F6
  have HO6:=Lib.hid (HO5.out.below hd6 HO5.out.lt)
  clear H6 hd6
  cases okv with
  | false =>
   have HQ2:Hid (q=(h,0,4,ee)):=Lib.hid (by rw [← HQ.out];unfold rop;rw [if_neg hnn.out,EON.out];rw [if_neg (by have:=HMO.out;omega)];rw [if_neg (by rw [E2.out];decide),EP.out];simp only;rw [if_neg (by decide)];rw [if_neg (by rw [HY1.out];decide)];unfold rapp;rw [if_neg (by rw [E5.out];decide),EP2.out];simp only;rw [if_pos trivial])
   go_wp2
   exact bodyPost_ret (results_row_tmp3 (u:=9) (u2:=10) (u3:=11) rfl _ _ (w.heap.size+1) _ _ (0,0) _ rfl (G6.out.2.2.2.2.1 _) rfl Try.underlying24 hist_info) rfl (by rw [HQ2.out];exact G6.out.2.2.2.2.2.2 _ _)
  | true =>
  have H7:=Lib.hid (HAP.out _ HB6.out key v)
  obtain ⟨b7,hb7⟩:∃ b,appP h key v=b:=⟨_,rfl⟩
  rw [hb7] at H7
  have E7:=Lib.hid hb7
  clear hb7
  go_wp2_with fail
  refine (H7.out).mono ?_
  rintro e w7 ⟨rfl,hb7,hd7⟩
  have HB7:=Lib.hid hb7
  have F7:=FX.out _ hb7
  clear q0 q1 q2
  have q0:=F7.1
  have q1:=F7.2.1
  have q2:=F7.2.2.1
  have G7:=Lib.hid F7
  clear hb7 F7
  have HO7:=Lib.hid (HO6.out.below hd7 HO6.out.lt)
  clear H7 hd7
  cases b7 with
  | true =>
   have HQ2:Hid (q=(h,0,6,tt+1)):=Lib.hid (by rw [← HQ.out];unfold rop;rw [if_neg hnn.out,EON.out];rw [if_neg (by have:=HMO.out;omega)];rw [if_neg (by rw [E2.out];decide),EP.out];simp only;rw [if_neg (by decide)];rw [if_neg (by rw [HY1.out];decide)];unfold rapp;rw [if_neg (by rw [E5.out];decide),EP2.out];simp only;rw [if_neg (by decide)];rw [if_pos E7.out])
   go_wp2
   exact bodyPost_ret (results_row_tmp3 (u:=9) (u2:=10) (u3:=11) rfl _ _ (w.heap.size+1) _ _ (0,0) _ rfl (G7.out.2.2.2.2.1 _) rfl Try.underlying24 hist_info) rfl (by rw [HQ2.out];exact G7.out.2.2.2.2.2.2 _ _)
  | false =>
  have x2:=HO7.out.cell 2
  have y2:=HO7.out.free 2
  have x0:=HO7.out.cell 0
  have x1:=HO7.out.cell 1
  have x3:=HO7.out.cell 3
  simp only [List.getElem?_cons_zero,List.getElem?_cons_succ] at x0 x1 x2 x3
  have hbT:=bset (b:=w3.heap.size) (j:=2) (u:=.int .i64 v) hsz3 HB7.out
  have HOT:=Lib.hid (HO7.out.set 2 (.int .i64 v))
  have H9:=Lib.hid (HIS.out _ hbT ee 10 (by omega))
  obtain ⟨b9,hb9⟩:∃ b,isB l ee 10=b:=⟨_,rfl⟩
  rw [hb9] at H9
  have E9:=Lib.hid hb9
  clear hb9
  go_wp2_with fail
  refine (H9.out).mono ?_
  rintro e w9 ⟨rfl,hb9,hd9⟩
  have HB9:=Lib.hid hb9
  have F9:=FX.out _ hb9
  clear q0 q1 q2
  have q0:=F9.1
  have q1:=F9.2.1
  have q2:=F9.2.2.1
  have G9:=Lib.hid F9
  clear hb9 F9
  have HO9:Hid (Blk w9 w3.heap.size [.bool false,.int .i64 key,.int .i64 v,.slice none 0 0] 39):=Lib.hid (HOT.out.below hd9 HOT.out.lt)
  have HGE:Hid (∀ g,w3.heap.size < g→g < w7.heap.size→w9.heap[g]?=w7.heap[g]?):=Lib.hid (fun g h1 h2=>(hd9.block g (by simpa using h2)).trans (Below.heap_setCell w7 ⟨w3.heap.size,2,none⟩ (.int .i64 v) g (by simp only;omega)))
  have HS59:Hid (w7.heap.size≤w9.heap.size):=Lib.hid (by have:=hd9.size;simpa using this)
  clear H9 hd9
  cases b9 with
  | false =>
   have HQ2:Hid (q=(h,0,4,ee)):=Lib.hid (by rw [← HQ.out];unfold rop;rw [if_neg hnn.out,EON.out];rw [if_neg (by have:=HMO.out;omega)];rw [if_neg (by rw [E2.out];decide),EP.out];simp only;rw [if_neg (by decide)];rw [if_neg (by rw [HY1.out];decide)];unfold rapp;rw [if_neg (by rw [E5.out];decide),EP2.out];simp only;rw [if_neg (by decide)];rw [if_neg (by rw [E7.out];decide)];unfold rend;rw [if_pos E9.out])
   go_wp2
   exact bodyPost_ret (results_row_tmp3 (u:=9) (u2:=10) (u3:=11) rfl _ _ (w.heap.size+1) _ _ (0,0) _ rfl (G9.out.2.2.2.2.1 _) rfl Try.underlying24 hist_info) rfl (by rw [HQ2.out];exact G9.out.2.2.2.2.2.2 _ _)
  | true =>
  have HQ2:Hid (q=(addOp h ⟨false,key,v,[]⟩,ee+1,0,0)):=Lib.hid (by rw [← HQ.out];unfold rop;rw [if_neg hnn.out,EON.out];rw [if_neg (by have:=HMO.out;omega)];rw [if_neg (by rw [E2.out];decide),EP.out];simp only;rw [if_neg (by decide)];rw [if_neg (by rw [HY1.out];decide)];unfold rapp;rw [if_neg (by rw [E5.out];decide),EP2.out];simp only;rw [if_neg (by decide)];rw [if_neg (by rw [E7.out];decide)];unfold rend;rw [if_neg (by rw [E9.out];decide)])
  have HLN:Hid (cs.length=N * 3):=Lib.hid (by rw [rk_len HRK.out,HN.out])
  have HONE:=Lib.hid (rk_one HRK.out)
  have ho:=own_emptyT w9 w9.heap.size (Nat.le_refl _)
  have hba:=below_alloc (Below.refl w9.heap.size w9) (.cells #[] 42)
  have hcl:=HCS.out.below (below_alloc G9.out.2.2.2.2.2.1 (.cells #[] 42))
  have x28:=((FB.out _ HB9.out).1.alloc (.cells #[] 42)).cell 0
  simp only [List.getElem?_cons_zero] at x28
  go_wp2_with (at_builtin;refine wpl_appK (w0:=w9) w9.heap.size rfl (.tmp 113) (.tmp 115) 22 42 (.agg #[.int .i64 0,.bool false,.slice none 0 0]) 3 40 rfl Try.underlying22 txn_info rfl (by decide) (by decide) _ [] cs A 0 N c rfl rfl HLN.out ho hcl HONE.out hba hba.size (by omega) ?_;intro A2 c2 wa hown hbx hg hat hc2;rw [Nat.zero_add];simp only [Nat.zero_add,List.nil_append] at hown hc2;clear hg hat)
  obtain ⟨hs,t,eh,hadd⟩:=last_splitA hnn.out
  have hrk:=HRK.out
  rw [eh] at hrk
  obtain ⟨ds,A4,c4,ecs,hds,hc4,hC4⟩:=rk_split hrk
  obtain ⟨co,hco1,hco2⟩:=ro_of hC4
  have hM:N=hs.length+1:=by rw [← HN.out,eh];simp
  obtain ⟨M,hMe⟩:∃ M,hs.length=M:=⟨_,rfl⟩
  rw [hMe] at hM
  have HM:=Lib.hid hM
  have HME:=Lib.hid hMe
  obtain ⟨g2,cap2,e2⟩:=own_formN hown hNp
  injection e2 with e2a e2b e2c
  subst e2a
  clear e2b e2c cap2
  have HOWN:=Lib.hid hown
  have HBX:=Lib.hid hbx
  have HDS:=Lib.hid hds
  have HCO1:=Lib.hid hco1
  have HCO2:=Lib.hid hco2
  have HEH:=Lib.hid eh
  have HADD:=Lib.hid hadd
  have HC2:=Lib.hid hc2
  have HC4:=Lib.hid hc4
  have hti:(N:Int) - 1=(M:Int):=by omega
  have hmm5:=HTL.out t (by rw [eh];simp)
  obtain ⟨mm,hmm⟩:∃ mm,t.f2.length=mm:=⟨_,rfl⟩
  have HMM:=Lib.hid hmm
  rw [hmm] at hmm5 hc4 ecs
  have HECS:=Lib.hid ecs
  have HDL:Hid (ds.length=M * 3):=Lib.hid (by rw [rk_len hds,hMe])
  have hsz9:w.heap.size+2≤w9.heap.size:=by have:=(FB.out _ HB9.out).2.lt;omega
  have hM0:(0:Int)≤(M:Int):=by omega
  have hMN:(M:Int) < (N:Int):=by omega
  have hMn:M < N:=by omega
  have hg2:=own_lt hown g2 rfl
  have FXD:Hid (∀ W:World,Below wa.heap.size wa W→(W.cell? ⟨g2,M * 3+2,none⟩=some (.slice A4 mm c4)∧W.frozen? ⟨g2,M * 3+2,none⟩=false)∧Blk W w3.heap.size [.bool false,.int .i64 key,.int .i64 v,.slice none 0 0] 39∧Blk W w.heap.size [.slice A N c] 24∧Blk W (w.heap.size+1) [.slice none 0 0] 24∧Cells W A4 co∧Below w.heap.size w W):=Lib.hid (fun W hb=>by
   have h9:=hbx.trans (hb.mono hbx.size)
   have hb2:=HB9.out.trans (h9.mono hsz9)
   have hbw:=(FX.out _ hb2).2.2.2.2.2.1
   have hcs:=(Cells.of_ownK hown).below hb
   obtain ⟨ad,e1,e2⟩:=hcs (by rw [ecs];simp)
   injection e1 with e1
   subst e1
   have e3:=e2 (M * 3+2) (.slice A4 mm c4) (by rw [ecs,List.getElem?_append_right (by rw [HDL.out];omega),HDL.out,Nat.add_sub_cancel_left];rfl)
   rw [Addr.add_lit,Nat.zero_add] at e3
   exact ⟨⟨e3,own_free hown hb _⟩,HO9.out.below h9 HO9.out.lt,(FB.out _ hb2).1,(FB.out _ hb2).2,hco1.below hbw,hbw⟩)
  have HL4:Hid (co.length=mm * 4):=Lib.hid (by rw [ro_len hco2,hmm])
  have HON4:=Lib.hid (ro_one hco2)
  have HV1:Hid (∀ u ∈ ([.bool false,.int .i64 key,.int .i64 v,.slice none 0 0]:List Value),Value.oneCell' u=true):=Lib.hid (by
   intro u hu
   simp only [List.mem_cons,List.not_mem_nil,or_false] at hu
   rcases hu with rfl|rfl|rfl|rfl <;> rfl)
  have hbD:=(Below.refl wa.heap.size wa).drew
  have HMM5:=Lib.hid hmm5
  have HC4:=Lib.hid hc4
  have HHH:=Lib.hid hh
  have HS3:=Lib.hid HO9.out.lt
  clear hrk eh hadd ecs hds hco1 hco2 hown hbx hba hcl ho x28 hMe hc2 hc4 hC4 hmm hM
  go_wp2_with fail
  simp only [hti]
  refine start_ (n:=15) (S:=fun W=>Below wa.heap.size wa W) (ds:=[14]) #[false,false,false,false,false,false,false,false,false,false,false,false,false,false,false] (by kernel_rfl) rfl rfl hbD (fun hHeld=>?_)
  refine with_tabW RgOp.tab RgOp.bits (fun HT_ HW_=>?_)
  generalize wa.drew=wba at *
  refine pure_ (i:=0) (N:=some 120) (v:=?_) (a':=?_) #[true,false,false,false,false,false,false,false,false,false,false,false,false,false,false] rfl rfl (any_of HT_.out (by kernel_rfl)) (fun _ _ _ h=>h) (Or.inl ⟨by rfl,?_⟩) ?_ ?_
  rotate_left
  ·intro w'
   go_simp
   with_reducible rfl
  rotate_left
  ·simp only [Act.put,List.setIfInBounds_toArray,List.set_cons_zero,List.set_cons_succ,i64_w,i32_w]
   rfl
  refine pure_ (i:=1) (N:=some 121) (v:=?_) (a':=?_) #[true,true,false,false,false,false,false,false,false,false,false,false,false,false,false] rfl rfl (any_of HT_.out (by kernel_rfl)) (fun _ _ _ h=>h) (Or.inl ⟨by rfl,?_⟩) ?_ ?_
  rotate_left
  ·intro w'
   go_simp
   with_reducible rfl
  rotate_left
  ·simp only [Act.put,List.setIfInBounds_toArray,List.set_cons_zero,List.set_cons_succ,i64_w,i32_w]
   rfl
  refine pure_ (i:=3) (N:=some 123) (v:=?_) (a':=?_) #[true,true,false,true,false,false,false,false,false,false,false,false,false,false,false] rfl rfl (any_of HT_.out (by kernel_rfl)) (fun _ _ _ h=>h) (Or.inl ⟨by rfl,?_⟩) ?_ ?_
  rotate_left
  ·intro w'
   go_simp
   with_reducible rfl
  rotate_left
  ·simp only [Act.put,List.setIfInBounds_toArray,List.set_cons_zero,List.set_cons_succ,i64_w,i32_w]
   rfl
  refine pure_ (i:=4) (N:=some 124) (v:=?_) (a':=?_) #[true,true,false,true,true,false,false,false,false,false,false,false,false,false,false] rfl rfl (any_of HT_.out (by kernel_rfl)) (fun _ _ _ h=>h) (Or.inl ⟨by rfl,?_⟩) ?_ ?_
  rotate_left
  ·intro w'
   go_simp
   with_reducible rfl
  rotate_left
  ·simp only [Act.put,List.setIfInBounds_toArray,List.set_cons_zero,List.set_cons_succ,i64_w,i32_w]
   rfl
  refine pure_ (i:=5) (N:=some 125) (v:=?_) (a':=?_) #[true,true,false,true,true,true,false,false,false,false,false,false,false,false,false] rfl rfl (any_of HT_.out (by kernel_rfl)) (fun _ _ _ h=>h) (Or.inl ⟨by rfl,?_⟩) ?_ ?_
  rotate_left
  ·intro w'
   go_simp
   with_reducible rfl
  rotate_left
  ·simp only [Act.put,List.setIfInBounds_toArray,List.set_cons_zero,List.set_cons_succ,i64_w,i32_w]
   rfl
  refine pure_ (i:=6) (N:=some 126) (v:=?_) (a':=?_) #[true,true,false,true,true,true,true,false,false,false,false,false,false,false,false] rfl rfl (any_of HT_.out (by kernel_rfl)) (fun _ _ _ h=>h) (Or.inl ⟨by rfl,?_⟩) ?_ ?_
  rotate_left
  ·intro w'
   go_simp
   with_reducible rfl
  rotate_left
  ·simp only [Act.put,List.setIfInBounds_toArray,List.set_cons_zero,List.set_cons_succ,i64_w,i32_w]
   rfl
  refine take_ (i:=7) (N:=some 127) (v:=?_) (a':=?_) #[true,true,false,true,true,true,true,true,false,false,false,false,false,false,false] rfl rfl (take_ofW HT_.out HW_.out (by kernel_rfl)) (fun _ _ _ h=>h) (Or.inl ⟨by rfl,?_⟩) hHeld ?_ ?_
  rotate_left
  ·intro w' hW
   obtain ⟨⟨x0_,x1_⟩,y_,-⟩:=FXD.out w' hW
   have y0_:=y_.cell 0
   have y1_:=y_.cell 1
   have y2_:=y_.cell 2
   have y3_:=y_.cell 3
   simp only [List.getElem?_cons_zero,List.getElem?_cons_succ] at y0_ y1_ y2_ y3_
   go_simp
   with_reducible rfl
  rotate_left
  ·simp only [Act.put,List.setIfInBounds_toArray,List.set_cons_zero,List.set_cons_succ,i64_w,i32_w]
   rfl
  refine take_ (i:=9) (N:=some 129) (v:=?_) (a':=?_) #[true,true,false,true,true,true,true,true,false,true,false,false,false,false,false] rfl rfl (take_ofW HT_.out HW_.out (by kernel_rfl)) (fun _ _ _ h=>h) (Or.inl ⟨by rfl,?_⟩) hHeld ?_ ?_
  rotate_left
  ·intro w' hW
   obtain ⟨⟨x0_,x1_⟩,y_,-⟩:=FXD.out w' hW
   have y0_:=y_.cell 0
   have y1_:=y_.cell 1
   have y2_:=y_.cell 2
   have y3_:=y_.cell 3
   simp only [List.getElem?_cons_zero,List.getElem?_cons_succ] at y0_ y1_ y2_ y3_
   go_simp
   with_reducible rfl
  rotate_left
  ·simp only [Act.put,List.setIfInBounds_toArray,List.set_cons_zero,List.set_cons_succ,i64_w,i32_w]
   rfl
  refine two_ (i:=2) (j:=10) (Ni:=some 122) (Nj:=some 130) #[true,true,true,true,true,true,true,true,false,true,false,false,false,false,false] #[true,true,false,true,true,true,true,true,false,true,true,false,false,false,false] rfl rfl rfl rfl (two_of HT_.out (by kernel_rfl)) (by decide) (by decide) (fun K hK=>?_) (fun K hK=>?_)
  ·refine value_ (v:=.slice (some ⟨wba.heap.size,0,none⟩) 0 0) (w1:=wba.alloc (.cells #[] 39)) (by rfl) rfl (by first|(go_simp;done)|(go_simp;rfl)) ?_
   have hn_:=below_alloc hHeld (.cells #[] 39)
   have hswbb:(wba.alloc (.cells #[] 39)).heap.size=wba.heap.size+1:=World.size_alloc _ _
   have ho:=own_emptyO wba wa.heap.size hHeld.size
   refine hK.out _ _ hn_ (fun hHeld=>?_)
   clear hK K hn_
   generalize wba.alloc (.cells #[] 39)=wbb at *
   refine norm_ (a':=?_) ?_ ?_
   rotate_left
   ·show Act.put _ (some 122) _=_
    simp only [Act.put,List.setIfInBounds_toArray,List.set_cons_zero,List.set_cons_succ,i64_w,i32_w]
    rfl
   refine two_ (i:=8) (j:=10) (Ni:=some 128) (Nj:=some 130) #[true,true,true,true,true,true,true,true,true,true,false,false,false,false,false] #[true,true,true,true,true,true,true,true,false,true,true,false,false,false,false] rfl rfl rfl rfl (two_of HT_.out (by kernel_rfl)) (by decide) (by decide) (fun K hK=>?_) (fun K hK=>?_)
   ·refine step_appK (w0:=wa) wa.heap.size (by rfl) (.tmp 122) (.tmp 127) 40 39 (.agg #[.bool false,.int .i64 0,.int .i64 0,.slice none 0 0]) 4 48 rfl Try.underlying40 opx_info rfl (by decide) (by decide) _ [] co A4 0 mm c4 rfl rfl HL4.out ho (FXD.out _ hHeld).2.2.2.2.1 HON4.out hHeld hHeld.size (by have:=HMM5.out;omega) ?_
    intro A5_ c5_ wbc hown hn_ hg hat hc5_
    rw [Nat.zero_add]
    simp only [Nat.zero_add,List.nil_append] at hown hc5_
    refine hK.out _ _ hn_ (fun hHeld=>?_)
    clear hK K hn_ hg hat ho
    refine norm_ (a':=?_) ?_ ?_
    rotate_left
    ·show Act.put _ (some 128) _=_
     simp only [Act.put,List.setIfInBounds_toArray,List.set_cons_zero,List.set_cons_succ,i64_w,i32_w]
     rfl
    refine one_ (i:=10) (N:=some 130) #[true,true,true,true,true,true,true,true,true,true,true,false,false,false,false] rfl rfl (one_of HT_.out (by kernel_rfl)) (by decide) (fun K hK=>?_)
    refine value_ (v:=.slice (some ⟨wbc.heap.size,0,none⟩) 1 1) (w1:=wbc.alloc (.cells #[.bool false,.int .i64 key,.int .i64 v,.slice none 0 0] 39)) (by rfl) rfl (by first|(go_simp;done)|(go_simp;rfl)) ?_
    have hn_:=below_alloc hHeld (.cells #[.bool false,.int .i64 key,.int .i64 v,.slice none 0 0] 39)
    have hswbd:(wbc.alloc (.cells #[.bool false,.int .i64 key,.int .i64 v,.slice none 0 0] 39)).heap.size=wbc.heap.size+1:=World.size_alloc _ _
    have hcl:=Cells.new wbc [.bool false,.int .i64 key,.int .i64 v,.slice none 0 0] 39
    have hown:=hown.alloc (.cells #[.bool false,.int .i64 key,.int .i64 v,.slice none 0 0] 39)
    refine hK.out _ _ hn_ (fun hHeld=>?_)
    clear hK K hn_
    generalize wbc.alloc (.cells #[.bool false,.int .i64 key,.int .i64 v,.slice none 0 0] 39)=wbd at *
    refine norm_ (a':=?_) ?_ ?_
    rotate_left
    ·show Act.put _ (some 130) _=_
     simp only [Act.put,List.setIfInBounds_toArray,List.set_cons_zero,List.set_cons_succ,i64_w,i32_w]
     rfl
    refine one_ (i:=11) (N:=some 131) #[true,true,true,true,true,true,true,true,true,true,true,true,false,false,false] rfl rfl (one_of HT_.out (by kernel_rfl)) (by decide) (fun K hK=>?_)
    refine step_appK (w0:=wa) wa.heap.size (by rfl) (.tmp 128) (.tmp 130) 40 39 (.agg #[.bool false,.int .i64 0,.int .i64 0,.slice none 0 0]) 4 48 rfl Try.underlying40 opx_info rfl (by decide) (by decide) _ co [.bool false,.int .i64 key,.int .i64 v,.slice none 0 0] _ mm 1 1 rfl rfl rfl hown hcl HV1.out hHeld hHeld.size (by have:=HMM5.out;omega) ?_
    intro A6 c6 wbe hown3 hn_ hg hat hc6
    refine hK.out _ _ hn_ (fun hHeld=>?_)
    clear hK K hn_ hg hat hown hcl
    refine norm_ (a':=?_) ?_ ?_
    rotate_left
    ·show Act.put _ (some 131) _=_
     simp only [Act.put,List.setIfInBounds_toArray,List.set_cons_zero,List.set_cons_succ,i64_w,i32_w]
     rfl
    refine pure_ (i:=12) (N:=some 132) (v:=?_) (a':=?_) #[true,true,true,true,true,true,true,true,true,true,true,true,true,false,false] rfl rfl (any_of HT_.out (by kernel_rfl)) (fun _ _ _ h=>h) (Or.inl ⟨by rfl,?_⟩) ?_ ?_
    rotate_left
    ·intro w'
     go_simp
     with_reducible rfl
    rotate_left
    ·simp only [Act.put,List.setIfInBounds_toArray,List.set_cons_zero,List.set_cons_succ,i64_w,i32_w]
     rfl
    refine pure_ (i:=13) (N:=some 133) (v:=?_) (a':=?_) #[true,true,true,true,true,true,true,true,true,true,true,true,true,true,false] rfl rfl (any_of HT_.out (by kernel_rfl)) (fun _ _ _ h=>h) (Or.inl ⟨by rfl,?_⟩) ?_ ?_
    rotate_left
    ·intro w'
     go_simp
     with_reducible rfl
    rotate_left
    ·simp only [Act.put,List.setIfInBounds_toArray,List.set_cons_zero,List.set_cons_succ,i64_w,i32_w]
     rfl
    refine last_ (i:=14) (N:=none) #[true,true,true,true,true,true,true,true,true,true,true,true,true,true,true] rfl rfl (one_of HT_.out (by kernel_rfl)) (by decide) (fun K hK=>?_)
    obtain ⟨⟨x0_,x1_⟩,-,z0_,z1_,-,hbw_⟩:=FXD.out _ hHeld
    refine skip_ (w1:=wbe.setCell ⟨g2,M * 3+2,none⟩ (.slice A6 (mm+1) c6)) (by rfl) rfl (by first|(go_simp;done)|(go_simp;rfl)) ?_
    refine hK.out _ _ ?_
    clear hK K
    refine done_ (done_of HT_.out (by kernel_rfl)) ?_
    have hfin:=rop_fin (V:=.slice (some ⟨g2,0,none⟩) N c2) (B0:=w3.heap.size) (G9.out.2.2.2.2.2.1) hsz3 HS3.out HBX.out (HECS.out ▸ HOWN.out) hHeld hown3 HDS.out HCO2.out HMM.out (by omega) HMM5.out (by have:=HME.out;have:=HHH.out;have:=HM.out;omega) (fun F _=>app_ok F key v)
    rw [HDL.out] at hfin
    obtain ⟨hg9,hga,hC,hbf⟩:=hfin
    have hz0:=z0_.other (a:=⟨g2,M * 3+2,none⟩) (by simp only [ne_eq];omega) (.slice A6 (mm+1) c6)
    have hz1:=z1_.other (a:=⟨g2,M * 3+2,none⟩) (by simp only [ne_eq];omega) (.slice A6 (mm+1) c6)
    have HFIN:Hid (ROut w q (.returned (.tuple #[.agg #[.slice (some ⟨g2,0,none⟩) N c2],.int .i64 (ee+1),.int .i64 0,.int .i64 0])) (((wbe.setCell ⟨g2,M * 3+2,none⟩ (.slice A6 (mm+1) c6)).setCell ⟨w.heap.size,0,none⟩ (.slice (some ⟨g2,0,none⟩) N c2)).setCell ⟨w.heap.size+1,0,none⟩ (.slice (some ⟨g2,0,none⟩) N c2))):=Lib.hid (by
     rw [HQ2.out,HADD.out]
     have hl1:∀ x:S42,(hs ++ [x]).length=N:=fun x=>by rw [List.length_append,HME.out,HM.out];rfl
     exact ⟨some ⟨g2,0,none⟩,c2,by simp only [hl1],by simp only [hl1];exact HC2.out,hC,hbf⟩)
    generalize wbe.setCell ⟨g2,M * 3+2,none⟩ (.slice A6 (mm+1) c6)=wc at *
    have x2_:=hz0.free 0
    have x3_:=hz1.cell 0
    have x4_:=hz1.free 0
    have x5_:=hz0.cell 0
    simp only [List.getElem?_cons_zero] at x3_ x5_
    have hblk:=(hz1.other (a:=⟨w.heap.size,0,none⟩) (by simp) (.slice (some ⟨g2,0,none⟩) N c2)).set 0 (.slice (some ⟨g2,0,none⟩) N c2)
    have HBLK:=Lib.hid hblk
    clear hblk hC hbf hz0 hz1 z0_ z1_ hown3 x0_ x1_ hbw_ hHeld
    go_wp2
    exact bodyPost_ret (results_row_tmp3 (u:=9) (u2:=10) (u3:=11) rfl _ _ (w.heap.size+1) _ _ (0,0) _ rfl HBLK.out rfl Try.underlying24 hist_info) rfl HFIN.out
   ·refine value_ (v:=.slice (some ⟨wbb.heap.size,0,none⟩) 1 1) (w1:=wbb.alloc (.cells #[.bool false,.int .i64 key,.int .i64 v,.slice none 0 0] 39)) (by rfl) rfl (by first|(go_simp;done)|(go_simp;rfl)) ?_
    have hn_:=below_alloc hHeld (.cells #[.bool false,.int .i64 key,.int .i64 v,.slice none 0 0] 39)
    have hswbc:(wbb.alloc (.cells #[.bool false,.int .i64 key,.int .i64 v,.slice none 0 0] 39)).heap.size=wbb.heap.size+1:=World.size_alloc _ _
    have hcl:=Cells.new wbb [.bool false,.int .i64 key,.int .i64 v,.slice none 0 0] 39
    have ho:=ho.alloc (.cells #[.bool false,.int .i64 key,.int .i64 v,.slice none 0 0] 39)
    refine hK.out _ _ hn_ (fun hHeld=>?_)
    clear hK K hn_
    generalize wbb.alloc (.cells #[.bool false,.int .i64 key,.int .i64 v,.slice none 0 0] 39)=wbc at *
    refine norm_ (a':=?_) ?_ ?_
    rotate_left
    ·show Act.put _ (some 130) _=_
     simp only [Act.put,List.setIfInBounds_toArray,List.set_cons_zero,List.set_cons_succ,i64_w,i32_w]
     rfl
    refine one_ (i:=8) (N:=some 128) #[true,true,true,true,true,true,true,true,true,true,true,false,false,false,false] rfl rfl (one_of HT_.out (by kernel_rfl)) (by decide) (fun K hK=>?_)
    refine step_appK (w0:=wa) wa.heap.size (by rfl) (.tmp 122) (.tmp 127) 40 39 (.agg #[.bool false,.int .i64 0,.int .i64 0,.slice none 0 0]) 4 48 rfl Try.underlying40 opx_info rfl (by decide) (by decide) _ [] co A4 0 mm c4 rfl rfl HL4.out ho (FXD.out _ hHeld).2.2.2.2.1 HON4.out hHeld hHeld.size (by have:=HMM5.out;omega) ?_
    intro A5_ c5_ wbd hown hn_ hg hat hc5_
    rw [Nat.zero_add]
    simp only [Nat.zero_add,List.nil_append] at hown hc5_
    have hcl:=hcl.grown hg (by omega) (by intro e_;have e2_:wbb.heap.size=wba.heap.size:=Option.some.inj e_;omega)
    refine hK.out _ _ hn_ (fun hHeld=>?_)
    clear hK K hn_ hg hat ho
    refine norm_ (a':=?_) ?_ ?_
    rotate_left
    ·show Act.put _ (some 128) _=_
     simp only [Act.put,List.setIfInBounds_toArray,List.set_cons_zero,List.set_cons_succ,i64_w,i32_w]
     rfl
    refine one_ (i:=11) (N:=some 131) #[true,true,true,true,true,true,true,true,true,true,true,true,false,false,false] rfl rfl (one_of HT_.out (by kernel_rfl)) (by decide) (fun K hK=>?_)
    refine step_appK (w0:=wa) wa.heap.size (by rfl) (.tmp 128) (.tmp 130) 40 39 (.agg #[.bool false,.int .i64 0,.int .i64 0,.slice none 0 0]) 4 48 rfl Try.underlying40 opx_info rfl (by decide) (by decide) _ co [.bool false,.int .i64 key,.int .i64 v,.slice none 0 0] _ mm 1 1 rfl rfl rfl hown hcl HV1.out hHeld hHeld.size (by have:=HMM5.out;omega) ?_
    intro A6 c6 wbe hown3 hn_ hg hat hc6
    refine hK.out _ _ hn_ (fun hHeld=>?_)
    clear hK K hn_ hg hat hown hcl
    refine norm_ (a':=?_) ?_ ?_
    rotate_left
    ·show Act.put _ (some 131) _=_
     simp only [Act.put,List.setIfInBounds_toArray,List.set_cons_zero,List.set_cons_succ,i64_w,i32_w]
     rfl
    refine pure_ (i:=12) (N:=some 132) (v:=?_) (a':=?_) #[true,true,true,true,true,true,true,true,true,true,true,true,true,false,false] rfl rfl (any_of HT_.out (by kernel_rfl)) (fun _ _ _ h=>h) (Or.inl ⟨by rfl,?_⟩) ?_ ?_
    rotate_left
    ·intro w'
     go_simp
     with_reducible rfl
    rotate_left
    ·simp only [Act.put,List.setIfInBounds_toArray,List.set_cons_zero,List.set_cons_succ,i64_w,i32_w]
     rfl
    refine pure_ (i:=13) (N:=some 133) (v:=?_) (a':=?_) #[true,true,true,true,true,true,true,true,true,true,true,true,true,true,false] rfl rfl (any_of HT_.out (by kernel_rfl)) (fun _ _ _ h=>h) (Or.inl ⟨by rfl,?_⟩) ?_ ?_
    rotate_left
    ·intro w'
     go_simp
     with_reducible rfl
    rotate_left
    ·simp only [Act.put,List.setIfInBounds_toArray,List.set_cons_zero,List.set_cons_succ,i64_w,i32_w]
     rfl
    refine last_ (i:=14) (N:=none) #[true,true,true,true,true,true,true,true,true,true,true,true,true,true,true] rfl rfl (one_of HT_.out (by kernel_rfl)) (by decide) (fun K hK=>?_)
    obtain ⟨⟨x0_,x1_⟩,-,z0_,z1_,-,hbw_⟩:=FXD.out _ hHeld
    refine skip_ (w1:=wbe.setCell ⟨g2,M * 3+2,none⟩ (.slice A6 (mm+1) c6)) (by rfl) rfl (by first|(go_simp;done)|(go_simp;rfl)) ?_
    refine hK.out _ _ ?_
    clear hK K
    refine done_ (done_of HT_.out (by kernel_rfl)) ?_
    have hfin:=rop_fin (V:=.slice (some ⟨g2,0,none⟩) N c2) (B0:=w3.heap.size) (G9.out.2.2.2.2.2.1) hsz3 HS3.out HBX.out (HECS.out ▸ HOWN.out) hHeld hown3 HDS.out HCO2.out HMM.out (by omega) HMM5.out (by have:=HME.out;have:=HHH.out;have:=HM.out;omega) (fun F _=>app_ok F key v)
    rw [HDL.out] at hfin
    obtain ⟨hg9,hga,hC,hbf⟩:=hfin
    have hz0:=z0_.other (a:=⟨g2,M * 3+2,none⟩) (by simp only [ne_eq];omega) (.slice A6 (mm+1) c6)
    have hz1:=z1_.other (a:=⟨g2,M * 3+2,none⟩) (by simp only [ne_eq];omega) (.slice A6 (mm+1) c6)
    have HFIN:Hid (ROut w q (.returned (.tuple #[.agg #[.slice (some ⟨g2,0,none⟩) N c2],.int .i64 (ee+1),.int .i64 0,.int .i64 0])) (((wbe.setCell ⟨g2,M * 3+2,none⟩ (.slice A6 (mm+1) c6)).setCell ⟨w.heap.size,0,none⟩ (.slice (some ⟨g2,0,none⟩) N c2)).setCell ⟨w.heap.size+1,0,none⟩ (.slice (some ⟨g2,0,none⟩) N c2))):=Lib.hid (by
     rw [HQ2.out,HADD.out]
     have hl1:∀ x:S42,(hs ++ [x]).length=N:=fun x=>by rw [List.length_append,HME.out,HM.out];rfl
     exact ⟨some ⟨g2,0,none⟩,c2,by simp only [hl1],by simp only [hl1];exact HC2.out,hC,hbf⟩)
    generalize wbe.setCell ⟨g2,M * 3+2,none⟩ (.slice A6 (mm+1) c6)=wc at *
    have x2_:=hz0.free 0
    have x3_:=hz1.cell 0
    have x4_:=hz1.free 0
    have x5_:=hz0.cell 0
    simp only [List.getElem?_cons_zero] at x3_ x5_
    have hblk:=(hz1.other (a:=⟨w.heap.size,0,none⟩) (by simp) (.slice (some ⟨g2,0,none⟩) N c2)).set 0 (.slice (some ⟨g2,0,none⟩) N c2)
    have HBLK:=Lib.hid hblk
    clear hblk hC hbf hz0 hz1 z0_ z1_ hown3 x0_ x1_ hbw_ hHeld
    go_wp2
    exact bodyPost_ret (results_row_tmp3 (u:=9) (u2:=10) (u3:=11) rfl _ _ (w.heap.size+1) _ _ (0,0) _ rfl HBLK.out rfl Try.underlying24 hist_info) rfl HFIN.out
  ·refine value_ (v:=.slice (some ⟨wba.heap.size,0,none⟩) 1 1) (w1:=wba.alloc (.cells #[.bool false,.int .i64 key,.int .i64 v,.slice none 0 0] 39)) (by rfl) rfl (by first|(go_simp;done)|(go_simp;rfl)) ?_
   have hn_:=below_alloc hHeld (.cells #[.bool false,.int .i64 key,.int .i64 v,.slice none 0 0] 39)
   have hswbb:(wba.alloc (.cells #[.bool false,.int .i64 key,.int .i64 v,.slice none 0 0] 39)).heap.size=wba.heap.size+1:=World.size_alloc _ _
   have hcl:=Cells.new wba [.bool false,.int .i64 key,.int .i64 v,.slice none 0 0] 39
   refine hK.out _ _ hn_ (fun hHeld=>?_)
   clear hK K hn_
   generalize wba.alloc (.cells #[.bool false,.int .i64 key,.int .i64 v,.slice none 0 0] 39)=wbb at *
   refine norm_ (a':=?_) ?_ ?_
   rotate_left
   ·show Act.put _ (some 130) _=_
    simp only [Act.put,List.setIfInBounds_toArray,List.set_cons_zero,List.set_cons_succ,i64_w,i32_w]
    rfl
   refine one_ (i:=2) (N:=some 122) #[true,true,true,true,true,true,true,true,false,true,true,false,false,false,false] rfl rfl (one_of HT_.out (by kernel_rfl)) (by decide) (fun K hK=>?_)
   refine value_ (v:=.slice (some ⟨wbb.heap.size,0,none⟩) 0 0) (w1:=wbb.alloc (.cells #[] 39)) (by rfl) rfl (by first|(go_simp;done)|(go_simp;rfl)) ?_
   have hn_:=below_alloc hHeld (.cells #[] 39)
   have hswbc:(wbb.alloc (.cells #[] 39)).heap.size=wbb.heap.size+1:=World.size_alloc _ _
   have ho:=own_emptyO wbb wa.heap.size hHeld.size
   have hcl:=hcl.below (below_alloc (Below.refl _ _) (.cells #[] 39))
   refine hK.out _ _ hn_ (fun hHeld=>?_)
   clear hK K hn_
   generalize wbb.alloc (.cells #[] 39)=wbc at *
   refine norm_ (a':=?_) ?_ ?_
   rotate_left
   ·show Act.put _ (some 122) _=_
    simp only [Act.put,List.setIfInBounds_toArray,List.set_cons_zero,List.set_cons_succ,i64_w,i32_w]
    rfl
   refine one_ (i:=8) (N:=some 128) #[true,true,true,true,true,true,true,true,true,true,true,false,false,false,false] rfl rfl (one_of HT_.out (by kernel_rfl)) (by decide) (fun K hK=>?_)
   refine step_appK (w0:=wa) wa.heap.size (by rfl) (.tmp 122) (.tmp 127) 40 39 (.agg #[.bool false,.int .i64 0,.int .i64 0,.slice none 0 0]) 4 48 rfl Try.underlying40 opx_info rfl (by decide) (by decide) _ [] co A4 0 mm c4 rfl rfl HL4.out ho (FXD.out _ hHeld).2.2.2.2.1 HON4.out hHeld hHeld.size (by have:=HMM5.out;omega) ?_
   intro A5_ c5_ wbd hown hn_ hg hat hc5_
   rw [Nat.zero_add]
   simp only [Nat.zero_add,List.nil_append] at hown hc5_
   have hcl:=hcl.grown hg (by omega) (by intro e_;have e2_:wba.heap.size=wbb.heap.size:=Option.some.inj e_;omega)
   refine hK.out _ _ hn_ (fun hHeld=>?_)
   clear hK K hn_ hg hat ho
   refine norm_ (a':=?_) ?_ ?_
   rotate_left
   ·show Act.put _ (some 128) _=_
    simp only [Act.put,List.setIfInBounds_toArray,List.set_cons_zero,List.set_cons_succ,i64_w,i32_w]
    rfl
   refine one_ (i:=11) (N:=some 131) #[true,true,true,true,true,true,true,true,true,true,true,true,false,false,false] rfl rfl (one_of HT_.out (by kernel_rfl)) (by decide) (fun K hK=>?_)
   refine step_appK (w0:=wa) wa.heap.size (by rfl) (.tmp 128) (.tmp 130) 40 39 (.agg #[.bool false,.int .i64 0,.int .i64 0,.slice none 0 0]) 4 48 rfl Try.underlying40 opx_info rfl (by decide) (by decide) _ co [.bool false,.int .i64 key,.int .i64 v,.slice none 0 0] _ mm 1 1 rfl rfl rfl hown hcl HV1.out hHeld hHeld.size (by have:=HMM5.out;omega) ?_
   intro A6 c6 wbe hown3 hn_ hg hat hc6
   refine hK.out _ _ hn_ (fun hHeld=>?_)
   clear hK K hn_ hg hat hown hcl
   refine norm_ (a':=?_) ?_ ?_
   rotate_left
   ·show Act.put _ (some 131) _=_
    simp only [Act.put,List.setIfInBounds_toArray,List.set_cons_zero,List.set_cons_succ,i64_w,i32_w]
    rfl
   refine pure_ (i:=12) (N:=some 132) (v:=?_) (a':=?_) #[true,true,true,true,true,true,true,true,true,true,true,true,true,false,false] rfl rfl (any_of HT_.out (by kernel_rfl)) (fun _ _ _ h=>h) (Or.inl ⟨by rfl,?_⟩) ?_ ?_
   rotate_left
   ·intro w'
    go_simp
    with_reducible rfl
   rotate_left
   ·simp only [Act.put,List.setIfInBounds_toArray,List.set_cons_zero,List.set_cons_succ,i64_w,i32_w]
    rfl
   refine pure_ (i:=13) (N:=some 133) (v:=?_) (a':=?_) #[true,true,true,true,true,true,true,true,true,true,true,true,true,true,false] rfl rfl (any_of HT_.out (by kernel_rfl)) (fun _ _ _ h=>h) (Or.inl ⟨by rfl,?_⟩) ?_ ?_
   rotate_left
   ·intro w'
    go_simp
    with_reducible rfl
   rotate_left
   ·simp only [Act.put,List.setIfInBounds_toArray,List.set_cons_zero,List.set_cons_succ,i64_w,i32_w]
    rfl
   refine last_ (i:=14) (N:=none) #[true,true,true,true,true,true,true,true,true,true,true,true,true,true,true] rfl rfl (one_of HT_.out (by kernel_rfl)) (by decide) (fun K hK=>?_)
   obtain ⟨⟨x0_,x1_⟩,-,z0_,z1_,-,hbw_⟩:=FXD.out _ hHeld
   refine skip_ (w1:=wbe.setCell ⟨g2,M * 3+2,none⟩ (.slice A6 (mm+1) c6)) (by rfl) rfl (by first|(go_simp;done)|(go_simp;rfl)) ?_
   refine hK.out _ _ ?_
   clear hK K
   refine done_ (done_of HT_.out (by kernel_rfl)) ?_
   have hfin:=rop_fin (V:=.slice (some ⟨g2,0,none⟩) N c2) (B0:=w3.heap.size) (G9.out.2.2.2.2.2.1) hsz3 HS3.out HBX.out (HECS.out ▸ HOWN.out) hHeld hown3 HDS.out HCO2.out HMM.out (by omega) HMM5.out (by have:=HME.out;have:=HHH.out;have:=HM.out;omega) (fun F _=>app_ok F key v)
   rw [HDL.out] at hfin
   obtain ⟨hg9,hga,hC,hbf⟩:=hfin
   have hz0:=z0_.other (a:=⟨g2,M * 3+2,none⟩) (by simp only [ne_eq];omega) (.slice A6 (mm+1) c6)
   have hz1:=z1_.other (a:=⟨g2,M * 3+2,none⟩) (by simp only [ne_eq];omega) (.slice A6 (mm+1) c6)
   have HFIN:Hid (ROut w q (.returned (.tuple #[.agg #[.slice (some ⟨g2,0,none⟩) N c2],.int .i64 (ee+1),.int .i64 0,.int .i64 0])) (((wbe.setCell ⟨g2,M * 3+2,none⟩ (.slice A6 (mm+1) c6)).setCell ⟨w.heap.size,0,none⟩ (.slice (some ⟨g2,0,none⟩) N c2)).setCell ⟨w.heap.size+1,0,none⟩ (.slice (some ⟨g2,0,none⟩) N c2))):=Lib.hid (by
    rw [HQ2.out,HADD.out]
    have hl1:∀ x:S42,(hs ++ [x]).length=N:=fun x=>by rw [List.length_append,HME.out,HM.out];rfl
    exact ⟨some ⟨g2,0,none⟩,c2,by simp only [hl1],by simp only [hl1];exact HC2.out,hC,hbf⟩)
   generalize wbe.setCell ⟨g2,M * 3+2,none⟩ (.slice A6 (mm+1) c6)=wc at *
   have x2_:=hz0.free 0
   have x3_:=hz1.cell 0
   have x4_:=hz1.free 0
   have x5_:=hz0.cell 0
   simp only [List.getElem?_cons_zero] at x3_ x5_
   have hblk:=(hz1.other (a:=⟨w.heap.size,0,none⟩) (by simp) (.slice (some ⟨g2,0,none⟩) N c2)).set 0 (.slice (some ⟨g2,0,none⟩) N c2)
   have HBLK:=Lib.hid hblk
   clear hblk hC hbf hz0 hz1 z0_ z1_ hown3 x0_ x1_ hbw_ hHeld
   go_wp2
   exact bodyPost_ret (results_row_tmp3 (u:=9) (u2:=10) (u3:=11) rfl _ _ (w.heap.size+1) _ _ (0,0) _ rfl HBLK.out rfl Try.underlying24 hist_info) rfl HFIN.out
end Go.Proofs.Ytlcioegdmopppaa.Hs
