/- Printed by shake.py. -/
import Derived.Test.YtlcioegdmopppaaShE21
namespace Go.Proofs.Ytlcioegdmopppaa.PEncodeBack
open Go.RowKit Go.Proofs.YtlcioegdmopppaaW.PrintWords Go.Proofs.YtlcioegdmopppaaW.PrintLast Go.Proofs.YtlcioegdmopppaaW.PrintMore
attribute [local go_sem] max2_int min2_int max_two min_two max_three min_three max_four min_four
set_option linter.unusedVariables false
set_option linter.unusedSimpArgs false
mutual
def coronerref03_Appended.l0:Nat→Int→Int→Int→List (S42)→Option (Bool)
 | 0,_,_,_,_=>none
 | k+1,x1,x2,x7,x156000=>if x7 < (x156000.length:Int) then (coronerref03_Appended.l1 k x1 x2 x7 0 x156000) else (some false)
def coronerref03_Appended.l1:Nat→Int→Int→Int→Int→List (S42)→Option (Bool)
 | 0,_,_,_,_,_=>none
 | k+1,x1,x2,x7,x8,x156000=>if 0≤x7 then (if x7 < (x156000.length:Int) then (if x8 < (((rd_T42 x156000 x7).f2).length:Int) then (if 0≤x8 then (if ((rd_T39 ((rd_T42 x156000 x7).f2) x8).f0=true) then (coronerref03_Appended.l1 k x1 x2 x7 (wrap64 (x8+1)) x156000) else (if ((rd_T39 ((rd_T42 x156000 x7).f2) x8).f1)=x1 then (if ((rd_T39 ((rd_T42 x156000 x7).f2) x8).f2)=x2 then (some true) else (coronerref03_Appended.l1 k x1 x2 x7 (wrap64 (x8+1)) x156000)) else (coronerref03_Appended.l1 k x1 x2 x7 (wrap64 (x8+1)) x156000))) else (none)) else (coronerref03_Appended.l0 k x1 x2 (wrap64 (x7+1)) x156000)) else (none)) else (none)
end
def coronerref03_Appended.f (k:Nat) (l0_0:List (S42)) (a1:Int) (a2:Int):Option (Bool):=coronerref03_Appended.l0 k a1 a2 0 l0_0
set_option maxHeartbeats 8000000 in
set_option maxRecDepth 100000 in
theorem coronerref03_Appended.calls (k:Nat) (A0_0:Option Addr) (c0_0:Nat) (l0_0:List (S42)) (a1:Int) (a2:Int) (r:Bool) (w:World) (hr0_0:Kd.C k42 w A0_0 l0_0.length l0_0) (hc0_0:l0_0.length≤c0_0) (h:coronerref03_Appended.f k l0_0 a1 a2=some r) :
 Calls Try.prog 30 #[.agg #[.slice A0_0 l0_0.length c0_0],.int .i64 a1,.int .i64 a2] w fun e w'=>e=.returned (.bool r)∧Below w.heap.size w w':=by
 have hu24:=Try.underlying24
 have hu39:=Try.underlying39
 have HR0_0:=Aside0.mk hr0_0
 have HC0_0:=Aside0.mk hc0_0
 clear hr0_0 hc0_0
 have HB:=Aside0.mk (Below.refl w.heap.size w)
 have H:(coronerref03_Appended.l0 k a1 a2 0 l0_0)=some r:=h
 clear h
 have H':=Aside0.mk H
 clear H
 go_enter Try.func30,Try.ntmps30
 go_wp2_with (first|((with_reducible refine gate_dst (N:=3) rfl ?_);refine box_event ?hg (N:=3) ?hd (cs:=#[.slice A0_0 l0_0.length c0_0]) (t:=24) ?hr ?_;(case hd=>rfl);(case hg=>rfl);(case hr=>first|(go_simp;done)|(go_simp;rfl));intro gb155 hg w4 hbox hb;have n0_:=Aside0.mk (below_step (by repeat (first|(with_reducible first|exact HB.out|apply below_alloc|apply pw_below_drewN|apply below_drew1)|exact HB.out)) hb);have n1_:=Aside0.mk (hbox);have n2_:=Aside0.mk ((by rw [hg];exact (below_size (by repeat (first|(with_reducible first|exact HB.out|apply below_alloc|apply pw_below_drewN|apply below_drew1)|exact HB.out))):w.heap.size≤gb155));have n3_:=Aside0.mk ((by rw [hg];exact (below_size (by repeat (first|(with_reducible first|exact HB.out|apply below_alloc|apply pw_below_drewN|apply below_drew1)|exact HB.out))):w.heap.size≤gb155));clear HB;have HB:=n0_;have BK155:=n1_;have GW155:=n2_;have GE155:=n3_;clear n0_ n1_ n2_ n3_;clear hb hbox hg))
 go_loopg [7] k (fun kq v7 w'=>∃ (x7_1:Int),v7=.int .i64 x7_1∧Aside0 (coronerref03_Appended.l0 kq a1 a2 x7_1 l0_0=some r)∧Aside0 (kq≤k)∧Aside0 (w'.heap[gb155]?=some (.cells #[(.slice A0_0 l0_0.length c0_0)] 24 (0,0)))∧Aside0 (Below w.heap.size w w'))
 case atStart=>exact ⟨(0),(by first|rfl|(simp;done)|(simp [*];done)),H',⟨Nat.le_refl _⟩,⟨by (with_reducible repeat (first|refine blk_drewN ?_ _|refine blk_drew ?_|refine blk_alloc ?_ _));exact BK155.out⟩,⟨by repeat (first|(with_reducible first|exact HB.out|apply below_alloc|apply pw_below_drewN|apply below_drew1|refine below_set ?_ GE155.out)|exact HB.out)⟩⟩
 case round =>
  clear H'
  try clear p2
  try clear c3
  obtain ⟨x7_1,rfl,HA,HK1,BK155,HB⟩:=hrel
  cases gk with
  | zero=>exact absurd HA.out (by simp [coronerref03_Appended.l0])
  | succ k1 =>
   have H:=HA.out
   clear HA
   simp only [coronerref03_Appended.l0] at H
   by_cases c5:x7_1 < (l0_0.length:Int)
   ·rw [if_pos c5] at H
    have c5b0:decide (x7_1 < (l0_0.length:Int))=true:=decide_eq_true c5
    clear c5
    have H':=Aside0.mk H
    clear H
    have hcz6_0:wr.cell? ⟨gb155,0,none⟩=some (.slice A0_0 l0_0.length c0_0):=(blk_cell BK155.out 0).trans rfl
    have hfz6_0:=blk_frozen BK155.out 0
    go_wp2
    go_loopg [8] k1 (fun kq v8 w'=>∃ (x8_2:Int),v8=.int .i64 x8_2∧Aside0 (coronerref03_Appended.l1 kq a1 a2 x7_1 x8_2 l0_0=some r)∧Aside0 (kq≤k1)∧Aside0 (w'.heap[gb155]?=some (.cells #[(.slice A0_0 l0_0.length c0_0)] 24 (0,0)))∧Aside0 (Below w.heap.size w w'))
    case atStart=>exact ⟨(0),(by first|rfl|(simp;done)|(simp [*];done)),H',⟨Nat.le_refl _⟩,⟨by (with_reducible repeat (first|refine blk_drewN ?_ _|refine blk_drew ?_|refine blk_alloc ?_ _));exact BK155.out⟩,⟨by repeat (first|(with_reducible first|exact HB.out|apply below_alloc|apply pw_below_drewN|apply below_drew1|refine below_set ?_ GE155.out)|exact HB.out)⟩⟩
    case round =>
     clear H'
     try clear p2
     try clear c3
     try clear c5
     try clear c5b0
     try clear hcz6_0
     try clear hfz6_0
     try clear p2
     obtain ⟨x8_2,rfl,HA,HK2,BK155,HB⟩:=hrel
     cases gk with
     | zero=>exact absurd HA.out (by simp [coronerref03_Appended.l1])
     | succ k2 =>
      have H:=HA.out
      clear HA
      simp only [coronerref03_Appended.l1] at H
      by_cases c7:0≤x7_1
      ·rw [if_pos c7] at H
       have c7b0:decide (0≤x7_1)=true:=decide_eq_true c7
       clear c7
       by_cases c8:x7_1 < (l0_0.length:Int)
       ·rw [if_pos c8] at H
        have c8b0:decide (x7_1 < (l0_0.length:Int))=true:=decide_eq_true c8
        clear c8
        by_cases c9:x8_2 < (((rd_T42 l0_0 x7_1).f2).length:Int)
        ·rw [if_pos c9] at H
         have c9b0:decide (x8_2 < (((rd_T42 l0_0 x7_1).f2).length:Int))=true:=decide_eq_true c9
         clear c9
         by_cases c10:0≤x8_2
         ·rw [if_pos c10] at H
          have c10b0:decide (0≤x8_2)=true:=decide_eq_true c10
          clear c10
          obtain ⟨bq11,hbq11⟩:∃ b_:Bool,b_=((rd_T39 ((rd_T42 l0_0 x7_1).f2) x8_2).f0):=⟨_,rfl⟩
          replace H:(if (bq11=true) then (coronerref03_Appended.l1 k2 a1 a2 x7_1 (wrap64 (x8_2+1)) l0_0) else (if ((rd_T39 ((rd_T42 l0_0 x7_1).f2) x8_2).f1)=a1 then (if ((rd_T39 ((rd_T42 l0_0 x7_1).f2) x8_2).f2)=a2 then (some true) else (coronerref03_Appended.l1 k2 a1 a2 x7_1 (wrap64 (x8_2+1)) l0_0)) else (coronerref03_Appended.l1 k2 a1 a2 x7_1 (wrap64 (x8_2+1)) l0_0)))=some r:=by rw [← hbq11] at H;exact H
          have Nbq11:=Aside0.mk hbq11
          clear hbq11
          by_cases c12:(bq11=true)
          ·subst c12
           have H1:(coronerref03_Appended.l1 k2 a1 a2 x7_1 (wrap64 (x8_2+1)) l0_0)=some r:=by rw [if_pos rfl] at H;exact H
           clear H
           have H:=H1
           clear H1
           have H':=Aside0.mk H
           clear H
           have hcz13_0:wr.cell? ⟨gb155,0,none⟩=some (.slice A0_0 l0_0.length c0_0):=(blk_cell BK155.out 0).trans rfl
           have hfz13_0:=blk_frozen BK155.out 0
           have p156:0≤(x7_1:Int):=of_decide_eq_true (by first|(with_reducible assumption)|assumption)
           have q156:x7_1 < (l0_0.length:Int):=of_decide_eq_true (by first|(with_reducible assumption)|assumption)
           obtain ⟨ad156,A156_2,c156_2,e156,hx156_0,hx156_1,hx156_2,hl156_2,hi156_2⟩:=at_T42 HR0_0.out x7_1 p156 q156
           (try rw [← Nbq11.out] at hx156_1)
           cases e156
           replace hx156_0:=(HB.out.cell (World.block_lt_of_cell? w _ hx156_0)).trans hx156_0
           replace hx156_1:=(HB.out.cell (World.block_lt_of_cell? w _ hx156_1)).trans hx156_1
           replace hx156_2:=(HB.out.cell (World.block_lt_of_cell? w _ hx156_2)).trans hx156_2
           have HR156_2:=Aside0.mk hi156_2
           have HC156_2:=Aside0.mk hl156_2
           clear hi156_2 hl156_2
           replace p156:=eq_true p156
           replace q156:=eq_true q156
           have p157:0≤(x7_1:Int):=of_decide_eq_true (by first|(with_reducible assumption)|assumption)
           have q157:x7_1 < (l0_0.length:Int):=of_decide_eq_true (by first|(with_reducible assumption)|assumption)
           obtain ⟨ad157,A157_2,c157_2,e157,hx157_0,hx157_1,hx157_2,hl157_2,hi157_2⟩:=at_T42 HR0_0.out x7_1 p157 q157
           (try rw [← Nbq11.out] at hx157_1)
           obtain rfl:ad156=ad157:=(by injection e157)
           replace hx157_0:=(HB.out.cell (World.block_lt_of_cell? w _ hx157_0)).trans hx157_0
           replace hx157_1:=(HB.out.cell (World.block_lt_of_cell? w _ hx157_1)).trans hx157_1
           replace hx157_2:=(HB.out.cell (World.block_lt_of_cell? w _ hx157_2)).trans hx157_2
           have HR157_2:=Aside0.mk hi157_2
           have HC157_2:=Aside0.mk hl157_2
           clear hi157_2 hl157_2
           replace p157:=eq_true p157
           replace q157:=eq_true q157
           have ea_:=Option.some.inj (hx156_2.symm.trans hx157_2)
           injection ea_ with ea_ en_ ec_
           subst ea_
           subst ec_
           clear en_
           have p158:0≤(x8_2:Int):=of_decide_eq_true (by first|(with_reducible assumption)|assumption)
           have q158:x8_2 < (((rd_T42 l0_0 x7_1).f2).length:Int):=of_decide_eq_true (by first|(with_reducible assumption)|assumption)
           obtain ⟨ad158,A158_3,c158_3,e158,hx158_0,hx158_1,hx158_2,hx158_3,hl158_3,hi158_3⟩:=at_T39 HR157_2.out x8_2 p158 q158
           (try rw [← Nbq11.out] at hx158_0)
           cases e158
           replace hx158_0:=(HB.out.cell (World.block_lt_of_cell? w _ hx158_0)).trans hx158_0
           replace hx158_1:=(HB.out.cell (World.block_lt_of_cell? w _ hx158_1)).trans hx158_1
           replace hx158_2:=(HB.out.cell (World.block_lt_of_cell? w _ hx158_2)).trans hx158_2
           replace hx158_3:=(HB.out.cell (World.block_lt_of_cell? w _ hx158_3)).trans hx158_3
           have HR158_3:=Aside0.mk hi158_3
           have HC158_3:=Aside0.mk hl158_3
           clear hi158_3 hl158_3
           replace p158:=eq_true p158
           replace q158:=eq_true q158
           go_wp2_with (first|((with_reducible refine gate_dst (N:=9) rfl ?_);refine box_event ?hg (N:=9) ?hd (cs:=#[.bool false,.int .i64 0,.int .i64 0,.slice none 0 0]) (t:=39) ?hr ?_;(case hd=>rfl);(case hg=>rfl);(case hr=>first|(go_simp;done)|(go_simp;rfl));intro gb159 hg w14 hbox hb;have n0_:=Aside0.mk (blk_below (g:=gb155) (o:=.cells #[.slice (some ad156) l0_0.length c0_0] 24 (0,0)) (by (with_reducible repeat (first|refine blk_drewN ?_ _|refine blk_drew ?_|refine blk_alloc ?_ _));exact BK155.out) hb);have n1_:=Aside0.mk (below_step (by repeat (first|(with_reducible first|exact HB.out|apply below_alloc|apply pw_below_drewN|apply below_drew1|refine below_set ?_ GE155.out)|exact HB.out)) hb);have n2_:=Aside0.mk (hbox);have n3_:=Aside0.mk ((by rw [hg];exact (below_size (by repeat (first|(with_reducible first|exact HB.out|apply below_alloc|apply pw_below_drewN|apply below_drew1|refine below_set ?_ GE155.out)|exact HB.out))):w.heap.size≤gb159));have n4_:=Aside0.mk ((by rw [hg];exact (below_size (by repeat (first|(with_reducible first|exact HB.out|apply below_alloc|apply pw_below_drewN|apply below_drew1|refine below_set ?_ GE155.out)|exact HB.out))):w.heap.size≤gb159));have n5_:=Aside0.mk ((by rw [hg];exact Nat.ne_of_lt (blk_lt (g:=gb155) (o:=.cells #[.slice (some ad156) l0_0.length c0_0] 24 (0,0)) (by (with_reducible repeat (first|refine blk_drewN ?_ _|refine blk_drew ?_|refine blk_alloc ?_ _));exact BK155.out)):gb155 ≠ gb159));have n6_:=Aside0.mk ((by rw [hg];exact Nat.ne_of_gt (blk_lt (g:=gb155) (o:=.cells #[.slice (some ad156) l0_0.length c0_0] 24 (0,0)) (by (with_reducible repeat (first|refine blk_drewN ?_ _|refine blk_drew ?_|refine blk_alloc ?_ _));exact BK155.out)):gb159 ≠ gb155));clear BK155;clear HB;have BK155:=n0_;have HB:=n1_;have BK159:=n2_;have GW159:=n3_;have GE159:=n4_;have NB155_159:=n5_;have NB159_155:=n6_;clear n0_ n1_ n2_ n3_ n4_ n5_ n6_;clear hb hbox hg;have hnb15:=NB159_155.out;have hnc15:=NB155_159.out;have hcz16_0:w14.cell? ⟨gb159,0,none⟩=some (.bool false):=(blk_cell BK159.out 0).trans rfl;have hcz16_1:w14.cell? ⟨gb159,1,none⟩=some (.int .i64 0):=(blk_cell BK159.out 1).trans rfl;have hcz16_2:w14.cell? ⟨gb159,2,none⟩=some (.int .i64 0):=(blk_cell BK159.out 2).trans rfl;have hcz16_3:w14.cell? ⟨gb159,3,none⟩=some (.slice none 0 0):=(blk_cell BK159.out 3).trans rfl;have hfz16_0:=blk_frozen BK159.out 0;have hfz16_1:=blk_frozen BK159.out 1;have hfz16_2:=blk_frozen BK159.out 2;have hfz16_3:=blk_frozen BK159.out 3))
           go_roundg k2
           case measure=>have:=HK1.out;have:=HK2.out;omega
           case rel=>exact ⟨(wrap64 (x8_2+1)),(by first|rfl|(simp;done)|(simp [*];done)),H',⟨by have:=HK1.out;have:=HK2.out;omega⟩,⟨by (with_reducible repeat (first|refine blk_drewN ?_ _|refine blk_drew ?_|refine blk_alloc ?_ _));refine blk_far ?_ NB155_159.out _;(with_reducible repeat (first|refine blk_drewN ?_ _|refine blk_drew ?_|refine blk_alloc ?_ _));refine blk_far ?_ NB155_159.out _;(with_reducible repeat (first|refine blk_drewN ?_ _|refine blk_drew ?_|refine blk_alloc ?_ _));refine blk_far ?_ NB155_159.out _;(with_reducible repeat (first|refine blk_drewN ?_ _|refine blk_drew ?_|refine blk_alloc ?_ _));refine blk_far ?_ NB155_159.out _;(with_reducible repeat (first|refine blk_drewN ?_ _|refine blk_drew ?_|refine blk_alloc ?_ _));exact BK155.out⟩,⟨by repeat (first|(with_reducible first|exact HB.out|apply below_alloc|apply pw_below_drewN|apply below_drew1|refine below_set ?_ GE155.out|refine below_set ?_ GE159.out)|exact HB.out)⟩⟩
          ·replace c12:=Bool.eq_false_iff.mpr c12
           subst c12
           have H1:(if ((rd_T39 ((rd_T42 l0_0 x7_1).f2) x8_2).f1)=a1 then (if ((rd_T39 ((rd_T42 l0_0 x7_1).f2) x8_2).f2)=a2 then (some true) else (coronerref03_Appended.l1 k2 a1 a2 x7_1 (wrap64 (x8_2+1)) l0_0)) else (coronerref03_Appended.l1 k2 a1 a2 x7_1 (wrap64 (x8_2+1)) l0_0))=some r:=by rw [if_neg (show ¬ (false=true) by decide)] at H;exact H
           clear H
           have H:=H1
           clear H1
           by_cases c17:((rd_T39 ((rd_T42 l0_0 x7_1).f2) x8_2).f1)=a1
           ·rw [if_pos c17] at H
            have c17b0:(((rd_T39 ((rd_T42 l0_0 x7_1).f2) x8_2).f1) == a1)=true:=beq_iff_eq.mpr c17
            have c17b1:(((rd_T39 ((rd_T42 l0_0 x7_1).f2) x8_2).f1) != a1)=false:=bne_eq_false_iff_eq.mpr c17
            clear c17
            by_cases c18:((rd_T39 ((rd_T42 l0_0 x7_1).f2) x8_2).f2)=a2
            ·rw [if_pos c18] at H
             have c18b0:(((rd_T39 ((rd_T42 l0_0 x7_1).f2) x8_2).f2) == a2)=true:=beq_iff_eq.mpr c18
             have c18b1:(((rd_T39 ((rd_T42 l0_0 x7_1).f2) x8_2).f2) != a2)=false:=bne_eq_false_iff_eq.mpr c18
             clear c18
             obtain rfl:=Option.some.inj H
             have hcz19_0:wr.cell? ⟨gb155,0,none⟩=some (.slice A0_0 l0_0.length c0_0):=(blk_cell BK155.out 0).trans rfl
             have hfz19_0:=blk_frozen BK155.out 0
             have p156:0≤(x7_1:Int):=of_decide_eq_true (by first|(with_reducible assumption)|assumption)
             have q156:x7_1 < (l0_0.length:Int):=of_decide_eq_true (by first|(with_reducible assumption)|assumption)
             obtain ⟨ad156,A156_2,c156_2,e156,hx156_0,hx156_1,hx156_2,hl156_2,hi156_2⟩:=at_T42 HR0_0.out x7_1 p156 q156
             (try rw [← Nbq11.out] at hx156_1)
             cases e156
             replace hx156_0:=(HB.out.cell (World.block_lt_of_cell? w _ hx156_0)).trans hx156_0
             replace hx156_1:=(HB.out.cell (World.block_lt_of_cell? w _ hx156_1)).trans hx156_1
             replace hx156_2:=(HB.out.cell (World.block_lt_of_cell? w _ hx156_2)).trans hx156_2
             have HR156_2:=Aside0.mk hi156_2
             have HC156_2:=Aside0.mk hl156_2
             clear hi156_2 hl156_2
             replace p156:=eq_true p156
             replace q156:=eq_true q156
             have p157:0≤(x7_1:Int):=of_decide_eq_true (by first|(with_reducible assumption)|assumption)
             have q157:x7_1 < (l0_0.length:Int):=of_decide_eq_true (by first|(with_reducible assumption)|assumption)
             obtain ⟨ad157,A157_2,c157_2,e157,hx157_0,hx157_1,hx157_2,hl157_2,hi157_2⟩:=at_T42 HR0_0.out x7_1 p157 q157
             (try rw [← Nbq11.out] at hx157_1)
             obtain rfl:ad156=ad157:=(by injection e157)
             replace hx157_0:=(HB.out.cell (World.block_lt_of_cell? w _ hx157_0)).trans hx157_0
             replace hx157_1:=(HB.out.cell (World.block_lt_of_cell? w _ hx157_1)).trans hx157_1
             replace hx157_2:=(HB.out.cell (World.block_lt_of_cell? w _ hx157_2)).trans hx157_2
             have HR157_2:=Aside0.mk hi157_2
             have HC157_2:=Aside0.mk hl157_2
             clear hi157_2 hl157_2
             replace p157:=eq_true p157
             replace q157:=eq_true q157
             have ea_:=Option.some.inj (hx156_2.symm.trans hx157_2)
             injection ea_ with ea_ en_ ec_
             subst ea_
             subst ec_
             clear en_
             have p158:0≤(x8_2:Int):=of_decide_eq_true (by first|(with_reducible assumption)|assumption)
             have q158:x8_2 < (((rd_T42 l0_0 x7_1).f2).length:Int):=of_decide_eq_true (by first|(with_reducible assumption)|assumption)
             obtain ⟨ad158,A158_3,c158_3,e158,hx158_0,hx158_1,hx158_2,hx158_3,hl158_3,hi158_3⟩:=at_T39 HR157_2.out x8_2 p158 q158
             (try rw [← Nbq11.out] at hx158_0)
             cases e158
             replace hx158_0:=(HB.out.cell (World.block_lt_of_cell? w _ hx158_0)).trans hx158_0
             replace hx158_1:=(HB.out.cell (World.block_lt_of_cell? w _ hx158_1)).trans hx158_1
             replace hx158_2:=(HB.out.cell (World.block_lt_of_cell? w _ hx158_2)).trans hx158_2
             replace hx158_3:=(HB.out.cell (World.block_lt_of_cell? w _ hx158_3)).trans hx158_3
             have HR158_3:=Aside0.mk hi158_3
             have HC158_3:=Aside0.mk hl158_3
             clear hi158_3 hl158_3
             replace p158:=eq_true p158
             replace q158:=eq_true q158
             go_wp2_with (first|((with_reducible refine gate_dst (N:=9) rfl ?_);refine box_event ?hg (N:=9) ?hd (cs:=#[.bool false,.int .i64 0,.int .i64 0,.slice none 0 0]) (t:=39) ?hr ?_;(case hd=>rfl);(case hg=>rfl);(case hr=>first|(go_simp;done)|(go_simp;rfl));intro gb159 hg w20 hbox hb;have n0_:=Aside0.mk (blk_below (g:=gb155) (o:=.cells #[.slice (some ad156) l0_0.length c0_0] 24 (0,0)) (by (with_reducible repeat (first|refine blk_drewN ?_ _|refine blk_drew ?_|refine blk_alloc ?_ _));exact BK155.out) hb);have n1_:=Aside0.mk (below_step (by repeat (first|(with_reducible first|exact HB.out|apply below_alloc|apply pw_below_drewN|apply below_drew1|refine below_set ?_ GE155.out)|exact HB.out)) hb);have n2_:=Aside0.mk (hbox);have n3_:=Aside0.mk ((by rw [hg];exact (below_size (by repeat (first|(with_reducible first|exact HB.out|apply below_alloc|apply pw_below_drewN|apply below_drew1|refine below_set ?_ GE155.out)|exact HB.out))):w.heap.size≤gb159));have n4_:=Aside0.mk ((by rw [hg];exact (below_size (by repeat (first|(with_reducible first|exact HB.out|apply below_alloc|apply pw_below_drewN|apply below_drew1|refine below_set ?_ GE155.out)|exact HB.out))):w.heap.size≤gb159));have n5_:=Aside0.mk ((by rw [hg];exact Nat.ne_of_lt (blk_lt (g:=gb155) (o:=.cells #[.slice (some ad156) l0_0.length c0_0] 24 (0,0)) (by (with_reducible repeat (first|refine blk_drewN ?_ _|refine blk_drew ?_|refine blk_alloc ?_ _));exact BK155.out)):gb155 ≠ gb159));have n6_:=Aside0.mk ((by rw [hg];exact Nat.ne_of_gt (blk_lt (g:=gb155) (o:=.cells #[.slice (some ad156) l0_0.length c0_0] 24 (0,0)) (by (with_reducible repeat (first|refine blk_drewN ?_ _|refine blk_drew ?_|refine blk_alloc ?_ _));exact BK155.out)):gb159 ≠ gb155));clear BK155;clear HB;have BK155:=n0_;have HB:=n1_;have BK159:=n2_;have GW159:=n3_;have GE159:=n4_;have NB155_159:=n5_;have NB159_155:=n6_;clear n0_ n1_ n2_ n3_ n4_ n5_ n6_;clear hb hbox hg;have hnb21:=NB159_155.out;have hnc21:=NB155_159.out;have hcz22_0:w20.cell? ⟨gb159,0,none⟩=some (.bool false):=(blk_cell BK159.out 0).trans rfl;have hcz22_1:w20.cell? ⟨gb159,1,none⟩=some (.int .i64 0):=(blk_cell BK159.out 1).trans rfl;have hcz22_2:w20.cell? ⟨gb159,2,none⟩=some (.int .i64 0):=(blk_cell BK159.out 2).trans rfl;have hcz22_3:w20.cell? ⟨gb159,3,none⟩=some (.slice none 0 0):=(blk_cell BK159.out 3).trans rfl;have hfz22_0:=blk_frozen BK159.out 0;have hfz22_1:=blk_frozen BK159.out 1;have hfz22_2:=blk_frozen BK159.out 2;have hfz22_3:=blk_frozen BK159.out 3))
             go_ret
             exact ⟨by first|rfl|(simp [errW_none,errW_some] <;> rfl)|(simp [*,errW_none,errW_some] <;> rfl),by repeat (first|(with_reducible first|exact HB.out|apply below_alloc|apply pw_below_drewN|apply below_drew1|refine below_set ?_ GE155.out|refine below_set ?_ GE159.out)|exact HB.out)⟩
            ·rw [if_neg c18] at H
             have c18b0:(((rd_T39 ((rd_T42 l0_0 x7_1).f2) x8_2).f2) == a2)=false:=beq_eq_false_iff_ne.mpr c18
             have c18b1:(((rd_T39 ((rd_T42 l0_0 x7_1).f2) x8_2).f2) != a2)=true:=bne_iff_ne.mpr c18
             have H':=Aside0.mk H
             clear H
             have hcz23_0:wr.cell? ⟨gb155,0,none⟩=some (.slice A0_0 l0_0.length c0_0):=(blk_cell BK155.out 0).trans rfl
             have hfz23_0:=blk_frozen BK155.out 0
             have p156:0≤(x7_1:Int):=of_decide_eq_true (by first|(with_reducible assumption)|assumption)
             have q156:x7_1 < (l0_0.length:Int):=of_decide_eq_true (by first|(with_reducible assumption)|assumption)
             obtain ⟨ad156,A156_2,c156_2,e156,hx156_0,hx156_1,hx156_2,hl156_2,hi156_2⟩:=at_T42 HR0_0.out x7_1 p156 q156
             (try rw [← Nbq11.out] at hx156_1)
             cases e156
             replace hx156_0:=(HB.out.cell (World.block_lt_of_cell? w _ hx156_0)).trans hx156_0
             replace hx156_1:=(HB.out.cell (World.block_lt_of_cell? w _ hx156_1)).trans hx156_1
             replace hx156_2:=(HB.out.cell (World.block_lt_of_cell? w _ hx156_2)).trans hx156_2
             have HR156_2:=Aside0.mk hi156_2
             have HC156_2:=Aside0.mk hl156_2
             clear hi156_2 hl156_2
             replace p156:=eq_true p156
             replace q156:=eq_true q156
             have p157:0≤(x7_1:Int):=of_decide_eq_true (by first|(with_reducible assumption)|assumption)
             have q157:x7_1 < (l0_0.length:Int):=of_decide_eq_true (by first|(with_reducible assumption)|assumption)
             obtain ⟨ad157,A157_2,c157_2,e157,hx157_0,hx157_1,hx157_2,hl157_2,hi157_2⟩:=at_T42 HR0_0.out x7_1 p157 q157
             (try rw [← Nbq11.out] at hx157_1)
             obtain rfl:ad156=ad157:=(by injection e157)
             replace hx157_0:=(HB.out.cell (World.block_lt_of_cell? w _ hx157_0)).trans hx157_0
             replace hx157_1:=(HB.out.cell (World.block_lt_of_cell? w _ hx157_1)).trans hx157_1
             replace hx157_2:=(HB.out.cell (World.block_lt_of_cell? w _ hx157_2)).trans hx157_2
             have HR157_2:=Aside0.mk hi157_2
             have HC157_2:=Aside0.mk hl157_2
             clear hi157_2 hl157_2
             replace p157:=eq_true p157
             replace q157:=eq_true q157
             have ea_:=Option.some.inj (hx156_2.symm.trans hx157_2)
             injection ea_ with ea_ en_ ec_
             subst ea_
             subst ec_
             clear en_
             have p158:0≤(x8_2:Int):=of_decide_eq_true (by first|(with_reducible assumption)|assumption)
             have q158:x8_2 < (((rd_T42 l0_0 x7_1).f2).length:Int):=of_decide_eq_true (by first|(with_reducible assumption)|assumption)
             obtain ⟨ad158,A158_3,c158_3,e158,hx158_0,hx158_1,hx158_2,hx158_3,hl158_3,hi158_3⟩:=at_T39 HR157_2.out x8_2 p158 q158
             (try rw [← Nbq11.out] at hx158_0)
             cases e158
             replace hx158_0:=(HB.out.cell (World.block_lt_of_cell? w _ hx158_0)).trans hx158_0
             replace hx158_1:=(HB.out.cell (World.block_lt_of_cell? w _ hx158_1)).trans hx158_1
             replace hx158_2:=(HB.out.cell (World.block_lt_of_cell? w _ hx158_2)).trans hx158_2
             replace hx158_3:=(HB.out.cell (World.block_lt_of_cell? w _ hx158_3)).trans hx158_3
             have HR158_3:=Aside0.mk hi158_3
             have HC158_3:=Aside0.mk hl158_3
             clear hi158_3 hl158_3
             replace p158:=eq_true p158
             replace q158:=eq_true q158
             go_wp2_with (first|((with_reducible refine gate_dst (N:=9) rfl ?_);refine box_event ?hg (N:=9) ?hd (cs:=#[.bool false,.int .i64 0,.int .i64 0,.slice none 0 0]) (t:=39) ?hr ?_;(case hd=>rfl);(case hg=>rfl);(case hr=>first|(go_simp;done)|(go_simp;rfl));intro gb159 hg w24 hbox hb;have n0_:=Aside0.mk (blk_below (g:=gb155) (o:=.cells #[.slice (some ad156) l0_0.length c0_0] 24 (0,0)) (by (with_reducible repeat (first|refine blk_drewN ?_ _|refine blk_drew ?_|refine blk_alloc ?_ _));exact BK155.out) hb);have n1_:=Aside0.mk (below_step (by repeat (first|(with_reducible first|exact HB.out|apply below_alloc|apply pw_below_drewN|apply below_drew1|refine below_set ?_ GE155.out)|exact HB.out)) hb);have n2_:=Aside0.mk (hbox);have n3_:=Aside0.mk ((by rw [hg];exact (below_size (by repeat (first|(with_reducible first|exact HB.out|apply below_alloc|apply pw_below_drewN|apply below_drew1|refine below_set ?_ GE155.out)|exact HB.out))):w.heap.size≤gb159));have n4_:=Aside0.mk ((by rw [hg];exact (below_size (by repeat (first|(with_reducible first|exact HB.out|apply below_alloc|apply pw_below_drewN|apply below_drew1|refine below_set ?_ GE155.out)|exact HB.out))):w.heap.size≤gb159));have n5_:=Aside0.mk ((by rw [hg];exact Nat.ne_of_lt (blk_lt (g:=gb155) (o:=.cells #[.slice (some ad156) l0_0.length c0_0] 24 (0,0)) (by (with_reducible repeat (first|refine blk_drewN ?_ _|refine blk_drew ?_|refine blk_alloc ?_ _));exact BK155.out)):gb155 ≠ gb159));have n6_:=Aside0.mk ((by rw [hg];exact Nat.ne_of_gt (blk_lt (g:=gb155) (o:=.cells #[.slice (some ad156) l0_0.length c0_0] 24 (0,0)) (by (with_reducible repeat (first|refine blk_drewN ?_ _|refine blk_drew ?_|refine blk_alloc ?_ _));exact BK155.out)):gb159 ≠ gb155));clear BK155;clear HB;have BK155:=n0_;have HB:=n1_;have BK159:=n2_;have GW159:=n3_;have GE159:=n4_;have NB155_159:=n5_;have NB159_155:=n6_;clear n0_ n1_ n2_ n3_ n4_ n5_ n6_;clear hb hbox hg;have hnb25:=NB159_155.out;have hnc25:=NB155_159.out;have hcz26_0:w24.cell? ⟨gb159,0,none⟩=some (.bool false):=(blk_cell BK159.out 0).trans rfl;have hcz26_1:w24.cell? ⟨gb159,1,none⟩=some (.int .i64 0):=(blk_cell BK159.out 1).trans rfl;have hcz26_2:w24.cell? ⟨gb159,2,none⟩=some (.int .i64 0):=(blk_cell BK159.out 2).trans rfl;have hcz26_3:w24.cell? ⟨gb159,3,none⟩=some (.slice none 0 0):=(blk_cell BK159.out 3).trans rfl;have hfz26_0:=blk_frozen BK159.out 0;have hfz26_1:=blk_frozen BK159.out 1;have hfz26_2:=blk_frozen BK159.out 2;have hfz26_3:=blk_frozen BK159.out 3))
             go_roundg k2
             case measure=>have:=HK1.out;have:=HK2.out;omega
             case rel=>exact ⟨(wrap64 (x8_2+1)),(by first|rfl|(simp;done)|(simp [*];done)),H',⟨by have:=HK1.out;have:=HK2.out;omega⟩,⟨by (with_reducible repeat (first|refine blk_drewN ?_ _|refine blk_drew ?_|refine blk_alloc ?_ _));refine blk_far ?_ NB155_159.out _;(with_reducible repeat (first|refine blk_drewN ?_ _|refine blk_drew ?_|refine blk_alloc ?_ _));refine blk_far ?_ NB155_159.out _;(with_reducible repeat (first|refine blk_drewN ?_ _|refine blk_drew ?_|refine blk_alloc ?_ _));refine blk_far ?_ NB155_159.out _;(with_reducible repeat (first|refine blk_drewN ?_ _|refine blk_drew ?_|refine blk_alloc ?_ _));refine blk_far ?_ NB155_159.out _;(with_reducible repeat (first|refine blk_drewN ?_ _|refine blk_drew ?_|refine blk_alloc ?_ _));exact BK155.out⟩,⟨by repeat (first|(with_reducible first|exact HB.out|apply below_alloc|apply pw_below_drewN|apply below_drew1|refine below_set ?_ GE155.out|refine below_set ?_ GE159.out)|exact HB.out)⟩⟩
           ·rw [if_neg c17] at H
            have c17b0:(((rd_T39 ((rd_T42 l0_0 x7_1).f2) x8_2).f1) == a1)=false:=beq_eq_false_iff_ne.mpr c17
            have c17b1:(((rd_T39 ((rd_T42 l0_0 x7_1).f2) x8_2).f1) != a1)=true:=bne_iff_ne.mpr c17
            have H':=Aside0.mk H
            clear H
            have hcz27_0:wr.cell? ⟨gb155,0,none⟩=some (.slice A0_0 l0_0.length c0_0):=(blk_cell BK155.out 0).trans rfl
            have hfz27_0:=blk_frozen BK155.out 0
            have p156:0≤(x7_1:Int):=of_decide_eq_true (by first|(with_reducible assumption)|assumption)
            have q156:x7_1 < (l0_0.length:Int):=of_decide_eq_true (by first|(with_reducible assumption)|assumption)
            obtain ⟨ad156,A156_2,c156_2,e156,hx156_0,hx156_1,hx156_2,hl156_2,hi156_2⟩:=at_T42 HR0_0.out x7_1 p156 q156
            (try rw [← Nbq11.out] at hx156_1)
            cases e156
            replace hx156_0:=(HB.out.cell (World.block_lt_of_cell? w _ hx156_0)).trans hx156_0
            replace hx156_1:=(HB.out.cell (World.block_lt_of_cell? w _ hx156_1)).trans hx156_1
            replace hx156_2:=(HB.out.cell (World.block_lt_of_cell? w _ hx156_2)).trans hx156_2
            have HR156_2:=Aside0.mk hi156_2
            have HC156_2:=Aside0.mk hl156_2
            clear hi156_2 hl156_2
            replace p156:=eq_true p156
            replace q156:=eq_true q156
            have p157:0≤(x7_1:Int):=of_decide_eq_true (by first|(with_reducible assumption)|assumption)
            have q157:x7_1 < (l0_0.length:Int):=of_decide_eq_true (by first|(with_reducible assumption)|assumption)
            obtain ⟨ad157,A157_2,c157_2,e157,hx157_0,hx157_1,hx157_2,hl157_2,hi157_2⟩:=at_T42 HR0_0.out x7_1 p157 q157
            (try rw [← Nbq11.out] at hx157_1)
            obtain rfl:ad156=ad157:=(by injection e157)
            replace hx157_0:=(HB.out.cell (World.block_lt_of_cell? w _ hx157_0)).trans hx157_0
            replace hx157_1:=(HB.out.cell (World.block_lt_of_cell? w _ hx157_1)).trans hx157_1
            replace hx157_2:=(HB.out.cell (World.block_lt_of_cell? w _ hx157_2)).trans hx157_2
            have HR157_2:=Aside0.mk hi157_2
            have HC157_2:=Aside0.mk hl157_2
            clear hi157_2 hl157_2
            replace p157:=eq_true p157
            replace q157:=eq_true q157
            have ea_:=Option.some.inj (hx156_2.symm.trans hx157_2)
            injection ea_ with ea_ en_ ec_
            subst ea_
            subst ec_
            clear en_
            have p158:0≤(x8_2:Int):=of_decide_eq_true (by first|(with_reducible assumption)|assumption)
            have q158:x8_2 < (((rd_T42 l0_0 x7_1).f2).length:Int):=of_decide_eq_true (by first|(with_reducible assumption)|assumption)
            obtain ⟨ad158,A158_3,c158_3,e158,hx158_0,hx158_1,hx158_2,hx158_3,hl158_3,hi158_3⟩:=at_T39 HR157_2.out x8_2 p158 q158
            (try rw [← Nbq11.out] at hx158_0)
            cases e158
            replace hx158_0:=(HB.out.cell (World.block_lt_of_cell? w _ hx158_0)).trans hx158_0
            replace hx158_1:=(HB.out.cell (World.block_lt_of_cell? w _ hx158_1)).trans hx158_1
            replace hx158_2:=(HB.out.cell (World.block_lt_of_cell? w _ hx158_2)).trans hx158_2
            replace hx158_3:=(HB.out.cell (World.block_lt_of_cell? w _ hx158_3)).trans hx158_3
            have HR158_3:=Aside0.mk hi158_3
            have HC158_3:=Aside0.mk hl158_3
            clear hi158_3 hl158_3
            replace p158:=eq_true p158
            replace q158:=eq_true q158
            go_wp2_with (first|((with_reducible refine gate_dst (N:=9) rfl ?_);refine box_event ?hg (N:=9) ?hd (cs:=#[.bool false,.int .i64 0,.int .i64 0,.slice none 0 0]) (t:=39) ?hr ?_;(case hd=>rfl);(case hg=>rfl);(case hr=>first|(go_simp;done)|(go_simp;rfl));intro gb159 hg w28 hbox hb;have n0_:=Aside0.mk (blk_below (g:=gb155) (o:=.cells #[.slice (some ad156) l0_0.length c0_0] 24 (0,0)) (by (with_reducible repeat (first|refine blk_drewN ?_ _|refine blk_drew ?_|refine blk_alloc ?_ _));exact BK155.out) hb);have n1_:=Aside0.mk (below_step (by repeat (first|(with_reducible first|exact HB.out|apply below_alloc|apply pw_below_drewN|apply below_drew1|refine below_set ?_ GE155.out)|exact HB.out)) hb);have n2_:=Aside0.mk (hbox);have n3_:=Aside0.mk ((by rw [hg];exact (below_size (by repeat (first|(with_reducible first|exact HB.out|apply below_alloc|apply pw_below_drewN|apply below_drew1|refine below_set ?_ GE155.out)|exact HB.out))):w.heap.size≤gb159));have n4_:=Aside0.mk ((by rw [hg];exact (below_size (by repeat (first|(with_reducible first|exact HB.out|apply below_alloc|apply pw_below_drewN|apply below_drew1|refine below_set ?_ GE155.out)|exact HB.out))):w.heap.size≤gb159));have n5_:=Aside0.mk ((by rw [hg];exact Nat.ne_of_lt (blk_lt (g:=gb155) (o:=.cells #[.slice (some ad156) l0_0.length c0_0] 24 (0,0)) (by (with_reducible repeat (first|refine blk_drewN ?_ _|refine blk_drew ?_|refine blk_alloc ?_ _));exact BK155.out)):gb155 ≠ gb159));have n6_:=Aside0.mk ((by rw [hg];exact Nat.ne_of_gt (blk_lt (g:=gb155) (o:=.cells #[.slice (some ad156) l0_0.length c0_0] 24 (0,0)) (by (with_reducible repeat (first|refine blk_drewN ?_ _|refine blk_drew ?_|refine blk_alloc ?_ _));exact BK155.out)):gb159 ≠ gb155));clear BK155;clear HB;have BK155:=n0_;have HB:=n1_;have BK159:=n2_;have GW159:=n3_;have GE159:=n4_;have NB155_159:=n5_;have NB159_155:=n6_;clear n0_ n1_ n2_ n3_ n4_ n5_ n6_;clear hb hbox hg;have hnb29:=NB159_155.out;have hnc29:=NB155_159.out;have hcz30_0:w28.cell? ⟨gb159,0,none⟩=some (.bool false):=(blk_cell BK159.out 0).trans rfl;have hcz30_1:w28.cell? ⟨gb159,1,none⟩=some (.int .i64 0):=(blk_cell BK159.out 1).trans rfl;have hcz30_2:w28.cell? ⟨gb159,2,none⟩=some (.int .i64 0):=(blk_cell BK159.out 2).trans rfl;have hcz30_3:w28.cell? ⟨gb159,3,none⟩=some (.slice none 0 0):=(blk_cell BK159.out 3).trans rfl;have hfz30_0:=blk_frozen BK159.out 0;have hfz30_1:=blk_frozen BK159.out 1;have hfz30_2:=blk_frozen BK159.out 2;have hfz30_3:=blk_frozen BK159.out 3))
            go_roundg k2
            case measure=>have:=HK1.out;have:=HK2.out;omega
            case rel=>exact ⟨(wrap64 (x8_2+1)),(by first|rfl|(simp;done)|(simp [*];done)),H',⟨by have:=HK1.out;have:=HK2.out;omega⟩,⟨by (with_reducible repeat (first|refine blk_drewN ?_ _|refine blk_drew ?_|refine blk_alloc ?_ _));refine blk_far ?_ NB155_159.out _;(with_reducible repeat (first|refine blk_drewN ?_ _|refine blk_drew ?_|refine blk_alloc ?_ _));refine blk_far ?_ NB155_159.out _;(with_reducible repeat (first|refine blk_drewN ?_ _|refine blk_drew ?_|refine blk_alloc ?_ _));refine blk_far ?_ NB155_159.out _;(with_reducible repeat (first|refine blk_drewN ?_ _|refine blk_drew ?_|refine blk_alloc ?_ _));refine blk_far ?_ NB155_159.out _;(with_reducible repeat (first|refine blk_drewN ?_ _|refine blk_drew ?_|refine blk_alloc ?_ _));exact BK155.out⟩,⟨by repeat (first|(with_reducible first|exact HB.out|apply below_alloc|apply pw_below_drewN|apply below_drew1|refine below_set ?_ GE155.out|refine below_set ?_ GE159.out)|exact HB.out)⟩⟩
         ·rw [if_neg c10] at H
          exact absurd H (by simp)
        ·rw [if_neg c9] at H
         have c9b0:decide (x8_2 < (((rd_T42 l0_0 x7_1).f2).length:Int))=false:=decide_eq_false c9
         clear c9
         have H':=Aside0.mk H
         clear H
         have hcz31_0:wr.cell? ⟨gb155,0,none⟩=some (.slice A0_0 l0_0.length c0_0):=(blk_cell BK155.out 0).trans rfl
         have hfz31_0:=blk_frozen BK155.out 0
         have p156:0≤(x7_1:Int):=of_decide_eq_true (by first|(with_reducible assumption)|assumption)
         have q156:x7_1 < (l0_0.length:Int):=of_decide_eq_true (by first|(with_reducible assumption)|assumption)
         obtain ⟨ad156,A156_2,c156_2,e156,hx156_0,hx156_1,hx156_2,hl156_2,hi156_2⟩:=at_T42 HR0_0.out x7_1 p156 q156
         cases e156
         replace hx156_0:=(HB.out.cell (World.block_lt_of_cell? w _ hx156_0)).trans hx156_0
         replace hx156_1:=(HB.out.cell (World.block_lt_of_cell? w _ hx156_1)).trans hx156_1
         replace hx156_2:=(HB.out.cell (World.block_lt_of_cell? w _ hx156_2)).trans hx156_2
         have HR156_2:=Aside0.mk hi156_2
         have HC156_2:=Aside0.mk hl156_2
         clear hi156_2 hl156_2
         replace p156:=eq_true p156
         replace q156:=eq_true q156
         go_wp2
         go_roundg k2
         case measure=>have:=HK1.out;have:=HK2.out;omega
         case rel=>exact ⟨(wrap64 (x7_1+1)),(by first|rfl|(simp;done)|(simp [*];done)),H',⟨by have:=HK1.out;have:=HK2.out;omega⟩,⟨by (with_reducible repeat (first|refine blk_drewN ?_ _|refine blk_drew ?_|refine blk_alloc ?_ _));exact BK155.out⟩,⟨by repeat (first|(with_reducible first|exact HB.out|apply below_alloc|apply pw_below_drewN|apply below_drew1|refine below_set ?_ GE155.out)|exact HB.out)⟩⟩
       ·rw [if_neg c8] at H
        exact absurd H (by simp)
      ·rw [if_neg c7] at H
       exact absurd H (by simp)
   ·rw [if_neg c5] at H
    have c5b0:decide (x7_1 < (l0_0.length:Int))=false:=decide_eq_false c5
    clear c5
    obtain rfl:=Option.some.inj H
    have hcz32_0:wr.cell? ⟨gb155,0,none⟩=some (.slice A0_0 l0_0.length c0_0):=(blk_cell BK155.out 0).trans rfl
    have hfz32_0:=blk_frozen BK155.out 0
    go_wp2
    go_ret
    exact ⟨by first|rfl|(simp [errW_none,errW_some] <;> rfl)|(simp [*,errW_none,errW_some] <;> rfl),by repeat (first|(with_reducible first|exact HB.out|apply below_alloc|apply pw_below_drewN|apply below_drew1|refine below_set ?_ GE155.out)|exact HB.out)⟩
end Go.Proofs.Ytlcioegdmopppaa.PEncodeBack
