/- Printed by shake.py. -/
import Derived.Test.YtlcioegdmopppaaShE21
namespace Go.Proofs.Ytlcioegdmopppaa.PEncodeBack
open Go.RowKit Go.Proofs.YtlcioegdmopppaaW.PrintWords Go.Proofs.YtlcioegdmopppaaW.PrintLast Go.Proofs.YtlcioegdmopppaaW.PrintMore
attribute [local go_sem] max2_int min2_int max_two min_two max_three min_three max_four min_four
set_option linter.unusedVariables false
set_option linter.unusedSimpArgs false
mutual
def coronerref03_Few.l0:Nat→Int→Int→Int→List (S42)→Option (Bool)
 | 0,_,_,_,_=>none
 | k+1,x2,x7,x8,x102000=>if x8 < (x102000.length:Int) then (if 0≤x8 then (if (((rd_T42 x102000 x8).f2).length:Int) > (wrap64 (x2 - x7)) then (some false) else (coronerref03_Few.l1 k x2 (wrap64 (x7+(((rd_T42 x102000 x8).f2).length:Int))) x8 0 x102000)) else (none)) else (some true)
def coronerref03_Few.l1:Nat→Int→Int→Int→Int→List (S42)→Option (Bool)
 | 0,_,_,_,_,_=>none
 | k+1,x2,x7,x8,x9,x102000=>if 0≤x8 then (if x8 < (x102000.length:Int) then (if x9 < (((rd_T42 x102000 x8).f2).length:Int) then (if 0≤x9 then (if (((rd_T39 ((rd_T42 x102000 x8).f2) x9).f3).length:Int) > 100 then (some false) else (coronerref03_Few.l1 k x2 x7 x8 (wrap64 (x9+1)) x102000)) else (none)) else (coronerref03_Few.l0 k x2 x7 (wrap64 (x8+1)) x102000)) else (none)) else (none)
end
def coronerref03_Few.f (k:Nat) (l0_0:List (S42)) (a1:Int) (a2:Int):Option (Bool):=if (l0_0.length:Int) > a1 then (some false) else (coronerref03_Few.l0 k a2 0 0 l0_0)
set_option maxHeartbeats 8000000 in
set_option maxRecDepth 100000 in
theorem coronerref03_Few.calls (k:Nat) (A0_0:Option Addr) (c0_0:Nat) (l0_0:List (S42)) (a1:Int) (a2:Int) (r:Bool) (w:World) (hr0_0:Kd.C k42 w A0_0 l0_0.length l0_0) (hc0_0:l0_0.length≤c0_0) (h:coronerref03_Few.f k l0_0 a1 a2=some r) :
 Calls Try.prog 11 #[.agg #[.slice A0_0 l0_0.length c0_0],.int .i64 a1,.int .i64 a2] w fun e w'=>e=.returned (.bool r)∧Below w.heap.size w w':=by
 have hu24:=Try.underlying24
 have HR0_0:=Aside0.mk hr0_0
 have HC0_0:=Aside0.mk hc0_0
 clear hr0_0 hc0_0
 have HB:=Aside0.mk (Below.refl w.heap.size w)
 have H:(if (l0_0.length:Int) > a1 then (some false) else (coronerref03_Few.l0 k a2 0 0 l0_0))=some r:=h
 clear h
 by_cases c4:(l0_0.length:Int) > a1
 ·rw [if_pos c4] at H
  have c4b0:decide (a1 < (l0_0.length:Int))=true:=decide_eq_true c4
  clear c4
  obtain rfl:=Option.some.inj H
  go_enter Try.func11,Try.ntmps11
  go_wp2_with (first|((with_reducible refine gate_dst (N:=3) rfl ?_);refine box_event ?hg (N:=3) ?hd (cs:=#[.slice A0_0 l0_0.length c0_0]) (t:=24) ?hr ?_;(case hd=>rfl);(case hg=>rfl);(case hr=>first|(go_simp;done)|(go_simp;rfl));intro gb101 hg w5 hbox hb;have n0_:=Aside0.mk (below_step (by repeat (first|(with_reducible first|exact HB.out|apply below_alloc|apply pw_below_drewN|apply below_drew1)|exact HB.out)) hb);have n1_:=Aside0.mk (hbox);have n2_:=Aside0.mk ((by rw [hg];exact (below_size (by repeat (first|(with_reducible first|exact HB.out|apply below_alloc|apply pw_below_drewN|apply below_drew1)|exact HB.out))):w.heap.size≤gb101));have n3_:=Aside0.mk ((by rw [hg];exact (below_size (by repeat (first|(with_reducible first|exact HB.out|apply below_alloc|apply pw_below_drewN|apply below_drew1)|exact HB.out))):w.heap.size≤gb101));clear HB;have HB:=n0_;have BK101:=n1_;have GW101:=n2_;have GE101:=n3_;clear n0_ n1_ n2_ n3_;clear hb hbox hg;have hcz6_0:w5.cell? ⟨gb101,0,none⟩=some (.slice A0_0 l0_0.length c0_0):=(blk_cell BK101.out 0).trans rfl;have hfz6_0:=blk_frozen BK101.out 0))
  go_ret
  exact ⟨by first|rfl|(simp [errW_none,errW_some] <;> rfl)|(simp [*,errW_none,errW_some] <;> rfl),by repeat (first|(with_reducible first|exact HB.out|apply below_alloc|apply pw_below_drewN|apply below_drew1|refine below_set ?_ GE101.out)|exact HB.out)⟩
 ·rw [if_neg c4] at H
  have c4b0:decide (a1 < (l0_0.length:Int))=false:=decide_eq_false c4
  clear c4
  have H':=Aside0.mk H
  clear H
  go_enter Try.func11,Try.ntmps11
  go_wp2_with (first|((with_reducible refine gate_dst (N:=3) rfl ?_);refine box_event ?hg (N:=3) ?hd (cs:=#[.slice A0_0 l0_0.length c0_0]) (t:=24) ?hr ?_;(case hd=>rfl);(case hg=>rfl);(case hr=>first|(go_simp;done)|(go_simp;rfl));intro gb101 hg w7 hbox hb;have n0_:=Aside0.mk (below_step (by repeat (first|(with_reducible first|exact HB.out|apply below_alloc|apply pw_below_drewN|apply below_drew1)|exact HB.out)) hb);have n1_:=Aside0.mk (hbox);have n2_:=Aside0.mk ((by rw [hg];exact (below_size (by repeat (first|(with_reducible first|exact HB.out|apply below_alloc|apply pw_below_drewN|apply below_drew1)|exact HB.out))):w.heap.size≤gb101));have n3_:=Aside0.mk ((by rw [hg];exact (below_size (by repeat (first|(with_reducible first|exact HB.out|apply below_alloc|apply pw_below_drewN|apply below_drew1)|exact HB.out))):w.heap.size≤gb101));clear HB;have HB:=n0_;have BK101:=n1_;have GW101:=n2_;have GE101:=n3_;clear n0_ n1_ n2_ n3_;clear hb hbox hg;have hcz8_0:w7.cell? ⟨gb101,0,none⟩=some (.slice A0_0 l0_0.length c0_0):=(blk_cell BK101.out 0).trans rfl;have hfz8_0:=blk_frozen BK101.out 0))
  go_loopg [7,8] k (fun kq v7 v8 w'=>∃ (x7_1:Int) (x8_1:Int),v7=.int .i64 x7_1∧v8=.int .i64 x8_1∧Aside0 (coronerref03_Few.l0 kq a2 x7_1 x8_1 l0_0=some r)∧Aside0 (kq≤k)∧Aside0 (w'.heap[gb101]?=some (.cells #[(.slice A0_0 l0_0.length c0_0)] 24 (0,0)))∧Aside0 (Below w.heap.size w w'))
  case atStart=>exact ⟨(0),(0),(by first|rfl|(simp;done)|(simp [*];done)),(by first|rfl|(simp;done)|(simp [*];done)),H',⟨Nat.le_refl _⟩,⟨by (with_reducible repeat (first|refine blk_drewN ?_ _|refine blk_drew ?_|refine blk_alloc ?_ _));exact BK101.out⟩,⟨by repeat (first|(with_reducible first|exact HB.out|apply below_alloc|apply pw_below_drewN|apply below_drew1|refine below_set ?_ GE101.out)|exact HB.out)⟩⟩
  case round =>
   clear H'
   try clear c1
   try clear p2
   try clear c4
   try clear c4b0
   try clear hcz6_0
   try clear hcz8_0
   try clear hfz6_0
   try clear hfz8_0
   obtain ⟨x7_1,x8_1,rfl,rfl,HA,HK1,BK101,HB⟩:=hrel
   cases gk with
   | zero=>exact absurd HA.out (by simp [coronerref03_Few.l0])
   | succ k1 =>
    have H:=HA.out
    clear HA
    simp only [coronerref03_Few.l0] at H
    by_cases c9:x8_1 < (l0_0.length:Int)
    ·rw [if_pos c9] at H
     have c9b0:decide (x8_1 < (l0_0.length:Int))=true:=decide_eq_true c9
     clear c9
     by_cases c10:0≤x8_1
     ·rw [if_pos c10] at H
      have c10b0:decide (0≤x8_1)=true:=decide_eq_true c10
      clear c10
      by_cases c11:(((rd_T42 l0_0 x8_1).f2).length:Int) > (wrap64 (a2 - x7_1))
      ·rw [if_pos c11] at H
       have c11b0:decide ((wrap64 (a2 - x7_1)) < (((rd_T42 l0_0 x8_1).f2).length:Int))=true:=decide_eq_true c11
       clear c11
       obtain rfl:=Option.some.inj H
       have hcz12_0:wr.cell? ⟨gb101,0,none⟩=some (.slice A0_0 l0_0.length c0_0):=(blk_cell BK101.out 0).trans rfl
       have hfz12_0:=blk_frozen BK101.out 0
       have p102:0≤(x8_1:Int):=of_decide_eq_true (by first|(with_reducible assumption)|assumption)
       have q102:x8_1 < (l0_0.length:Int):=of_decide_eq_true (by first|(with_reducible assumption)|assumption)
       obtain ⟨ad102,A102_2,c102_2,e102,hx102_0,hx102_1,hx102_2,hl102_2,hi102_2⟩:=at_T42 HR0_0.out x8_1 p102 q102
       cases e102
       replace hx102_0:=(HB.out.cell (World.block_lt_of_cell? w _ hx102_0)).trans hx102_0
       replace hx102_1:=(HB.out.cell (World.block_lt_of_cell? w _ hx102_1)).trans hx102_1
       replace hx102_2:=(HB.out.cell (World.block_lt_of_cell? w _ hx102_2)).trans hx102_2
       have HR102_2:=Aside0.mk hi102_2
       have HC102_2:=Aside0.mk hl102_2
       clear hi102_2 hl102_2
       replace p102:=eq_true p102
       replace q102:=eq_true q102
       go_wp2
       go_ret
       exact ⟨by first|rfl|(simp [errW_none,errW_some] <;> rfl)|(simp [*,errW_none,errW_some] <;> rfl),by repeat (first|(with_reducible first|exact HB.out|apply below_alloc|apply pw_below_drewN|apply below_drew1|refine below_set ?_ GE101.out)|exact HB.out)⟩
      ·rw [if_neg c11] at H
       have c11b0:decide ((wrap64 (a2 - x7_1)) < (((rd_T42 l0_0 x8_1).f2).length:Int))=false:=decide_eq_false c11
       clear c11
       have H':=Aside0.mk H
       clear H
       have hcz13_0:wr.cell? ⟨gb101,0,none⟩=some (.slice A0_0 l0_0.length c0_0):=(blk_cell BK101.out 0).trans rfl
       have hfz13_0:=blk_frozen BK101.out 0
       have p102:0≤(x8_1:Int):=of_decide_eq_true (by first|(with_reducible assumption)|assumption)
       have q102:x8_1 < (l0_0.length:Int):=of_decide_eq_true (by first|(with_reducible assumption)|assumption)
       obtain ⟨ad102,A102_2,c102_2,e102,hx102_0,hx102_1,hx102_2,hl102_2,hi102_2⟩:=at_T42 HR0_0.out x8_1 p102 q102
       cases e102
       replace hx102_0:=(HB.out.cell (World.block_lt_of_cell? w _ hx102_0)).trans hx102_0
       replace hx102_1:=(HB.out.cell (World.block_lt_of_cell? w _ hx102_1)).trans hx102_1
       replace hx102_2:=(HB.out.cell (World.block_lt_of_cell? w _ hx102_2)).trans hx102_2
       have HR102_2:=Aside0.mk hi102_2
       have HC102_2:=Aside0.mk hl102_2
       clear hi102_2 hl102_2
       replace p102:=eq_true p102
       replace q102:=eq_true q102
       have p103:0≤(x8_1:Int):=of_decide_eq_true (by first|(with_reducible assumption)|assumption)
       have q103:x8_1 < (l0_0.length:Int):=of_decide_eq_true (by first|(with_reducible assumption)|assumption)
       obtain ⟨ad103,A103_2,c103_2,e103,hx103_0,hx103_1,hx103_2,hl103_2,hi103_2⟩:=at_T42 HR0_0.out x8_1 p103 q103
       obtain rfl:ad102=ad103:=(by injection e103)
       replace hx103_0:=(HB.out.cell (World.block_lt_of_cell? w _ hx103_0)).trans hx103_0
       replace hx103_1:=(HB.out.cell (World.block_lt_of_cell? w _ hx103_1)).trans hx103_1
       replace hx103_2:=(HB.out.cell (World.block_lt_of_cell? w _ hx103_2)).trans hx103_2
       have HR103_2:=Aside0.mk hi103_2
       have HC103_2:=Aside0.mk hl103_2
       clear hi103_2 hl103_2
       replace p103:=eq_true p103
       replace q103:=eq_true q103
       have ea_:=Option.some.inj (hx102_2.symm.trans hx103_2)
       injection ea_ with ea_ en_ ec_
       subst ea_
       subst ec_
       clear en_
       go_wp2
       go_loopg [9] k1 (fun kq v9 w'=>∃ (x9_2:Int),v9=.int .i64 x9_2∧Aside0 (coronerref03_Few.l1 kq a2 (wrap64 (x7_1+(((rd_T42 l0_0 x8_1).f2).length:Int))) x8_1 x9_2 l0_0=some r)∧Aside0 (kq≤k1)∧Aside0 (w'.heap[gb101]?=some (.cells #[(.slice (some ad102) l0_0.length c0_0)] 24 (0,0)))∧Aside0 (Below w.heap.size w w'))
       case atStart=>exact ⟨(0),(by first|rfl|(simp;done)|(simp [*];done)),H',⟨Nat.le_refl _⟩,⟨by (with_reducible repeat (first|refine blk_drewN ?_ _|refine blk_drew ?_|refine blk_alloc ?_ _));exact BK101.out⟩,⟨by repeat (first|(with_reducible first|exact HB.out|apply below_alloc|apply pw_below_drewN|apply below_drew1|refine below_set ?_ GE101.out)|exact HB.out)⟩⟩
       case round =>
        clear H'
        try clear c1
        try clear p1
        try clear q1
        try clear hx1
        try clear p2
        try clear c4
        try clear c4b0
        try clear p6
        try clear c9
        try clear c9b0
        try clear c10
        try clear c10b0
        try clear p10
        try clear q10
        try clear hx10
        try clear c11
        try clear c11b0
        try clear hcz12_0
        try clear hcz13_0
        try clear hcz6_0
        try clear hcz8_0
        try clear hfz12_0
        try clear hfz13_0
        try clear hfz6_0
        try clear hfz8_0
        try clear hx102_0
        try clear hx102_1
        try clear hx102_2
        try clear hx103_0
        try clear hx103_1
        try clear hx103_2
        try clear p102
        try clear p103
        try clear p2
        try clear q102
        try clear q103
        obtain ⟨x9_2,rfl,HA,HK2,BK101,HB⟩:=hrel
        cases gk with
        | zero=>exact absurd HA.out (by simp [coronerref03_Few.l1])
        | succ k2 =>
         have H:=HA.out
         clear HA
         simp only [coronerref03_Few.l1] at H
         by_cases c14:0≤x8_1
         ·rw [if_pos c14] at H
          have c14b0:decide (0≤x8_1)=true:=decide_eq_true c14
          clear c14
          by_cases c15:x8_1 < (l0_0.length:Int)
          ·rw [if_pos c15] at H
           have c15b0:decide (x8_1 < (l0_0.length:Int))=true:=decide_eq_true c15
           clear c15
           by_cases c16:x9_2 < (((rd_T42 l0_0 x8_1).f2).length:Int)
           ·rw [if_pos c16] at H
            have c16b0:decide (x9_2 < (((rd_T42 l0_0 x8_1).f2).length:Int))=true:=decide_eq_true c16
            clear c16
            by_cases c17:0≤x9_2
            ·rw [if_pos c17] at H
             have c17b0:decide (0≤x9_2)=true:=decide_eq_true c17
             clear c17
             by_cases c18:(((rd_T39 ((rd_T42 l0_0 x8_1).f2) x9_2).f3).length:Int) > 100
             ·rw [if_pos c18] at H
              have c18b0:decide (100 < (((rd_T39 ((rd_T42 l0_0 x8_1).f2) x9_2).f3).length:Int))=true:=decide_eq_true c18
              have c18b1:decide (100 < ((rd_T39 ((rd_T42 l0_0 x8_1).f2) x9_2).f3).length)=true:=decide_eq_true (by omega)
              clear c18
              obtain rfl:=Option.some.inj H
              have hcz19_0:wr.cell? ⟨gb101,0,none⟩=some (.slice (some ad102) l0_0.length c0_0):=(blk_cell BK101.out 0).trans rfl
              have hfz19_0:=blk_frozen BK101.out 0
              have p104:0≤(x8_1:Int):=of_decide_eq_true (by first|(with_reducible assumption)|assumption)
              have q104:x8_1 < (l0_0.length:Int):=of_decide_eq_true (by first|(with_reducible assumption)|assumption)
              obtain ⟨ad104,A104_2,c104_2,e104,hx104_0,hx104_1,hx104_2,hl104_2,hi104_2⟩:=at_T42 HR0_0.out x8_1 p104 q104
              obtain rfl:ad102=ad104:=(by injection e104)
              replace hx104_0:=(HB.out.cell (World.block_lt_of_cell? w _ hx104_0)).trans hx104_0
              replace hx104_1:=(HB.out.cell (World.block_lt_of_cell? w _ hx104_1)).trans hx104_1
              replace hx104_2:=(HB.out.cell (World.block_lt_of_cell? w _ hx104_2)).trans hx104_2
              have HR104_2:=Aside0.mk hi104_2
              have HC104_2:=Aside0.mk hl104_2
              clear hi104_2 hl104_2
              replace p104:=eq_true p104
              replace q104:=eq_true q104
              have p105:0≤(x8_1:Int):=of_decide_eq_true (by first|(with_reducible assumption)|assumption)
              have q105:x8_1 < (l0_0.length:Int):=of_decide_eq_true (by first|(with_reducible assumption)|assumption)
              obtain ⟨ad105,A105_2,c105_2,e105,hx105_0,hx105_1,hx105_2,hl105_2,hi105_2⟩:=at_T42 HR0_0.out x8_1 p105 q105
              obtain rfl:ad102=ad105:=(by injection e105)
              replace hx105_0:=(HB.out.cell (World.block_lt_of_cell? w _ hx105_0)).trans hx105_0
              replace hx105_1:=(HB.out.cell (World.block_lt_of_cell? w _ hx105_1)).trans hx105_1
              replace hx105_2:=(HB.out.cell (World.block_lt_of_cell? w _ hx105_2)).trans hx105_2
              have HR105_2:=Aside0.mk hi105_2
              have HC105_2:=Aside0.mk hl105_2
              clear hi105_2 hl105_2
              replace p105:=eq_true p105
              replace q105:=eq_true q105
              have ea_:=Option.some.inj (hx104_2.symm.trans hx105_2)
              injection ea_ with ea_ en_ ec_
              subst ea_
              subst ec_
              clear en_
              have p106:0≤(x9_2:Int):=of_decide_eq_true (by first|(with_reducible assumption)|assumption)
              have q106:x9_2 < (((rd_T42 l0_0 x8_1).f2).length:Int):=of_decide_eq_true (by first|(with_reducible assumption)|assumption)
              obtain ⟨ad106,A106_3,c106_3,e106,hx106_0,hx106_1,hx106_2,hx106_3,hl106_3,hi106_3⟩:=at_T39 HR105_2.out x9_2 p106 q106
              cases e106
              replace hx106_0:=(HB.out.cell (World.block_lt_of_cell? w _ hx106_0)).trans hx106_0
              replace hx106_1:=(HB.out.cell (World.block_lt_of_cell? w _ hx106_1)).trans hx106_1
              replace hx106_2:=(HB.out.cell (World.block_lt_of_cell? w _ hx106_2)).trans hx106_2
              replace hx106_3:=(HB.out.cell (World.block_lt_of_cell? w _ hx106_3)).trans hx106_3
              have HR106_3:=Aside0.mk hi106_3
              have HC106_3:=Aside0.mk hl106_3
              clear hi106_3 hl106_3
              replace p106:=eq_true p106
              replace q106:=eq_true q106
              go_wp2
              go_ret
              exact ⟨by first|rfl|(simp [errW_none,errW_some] <;> rfl)|(simp [*,errW_none,errW_some] <;> rfl),by repeat (first|(with_reducible first|exact HB.out|apply below_alloc|apply pw_below_drewN|apply below_drew1|refine below_set ?_ GE101.out)|exact HB.out)⟩
             ·rw [if_neg c18] at H
              have c18b0:decide (100 < (((rd_T39 ((rd_T42 l0_0 x8_1).f2) x9_2).f3).length:Int))=false:=decide_eq_false c18
              have c18b1:decide (100 < ((rd_T39 ((rd_T42 l0_0 x8_1).f2) x9_2).f3).length)=false:=decide_eq_false (by omega)
              clear c18
              have H':=Aside0.mk H
              clear H
              have hcz20_0:wr.cell? ⟨gb101,0,none⟩=some (.slice (some ad102) l0_0.length c0_0):=(blk_cell BK101.out 0).trans rfl
              have hfz20_0:=blk_frozen BK101.out 0
              have p104:0≤(x8_1:Int):=of_decide_eq_true (by first|(with_reducible assumption)|assumption)
              have q104:x8_1 < (l0_0.length:Int):=of_decide_eq_true (by first|(with_reducible assumption)|assumption)
              obtain ⟨ad104,A104_2,c104_2,e104,hx104_0,hx104_1,hx104_2,hl104_2,hi104_2⟩:=at_T42 HR0_0.out x8_1 p104 q104
              obtain rfl:ad102=ad104:=(by injection e104)
              replace hx104_0:=(HB.out.cell (World.block_lt_of_cell? w _ hx104_0)).trans hx104_0
              replace hx104_1:=(HB.out.cell (World.block_lt_of_cell? w _ hx104_1)).trans hx104_1
              replace hx104_2:=(HB.out.cell (World.block_lt_of_cell? w _ hx104_2)).trans hx104_2
              have HR104_2:=Aside0.mk hi104_2
              have HC104_2:=Aside0.mk hl104_2
              clear hi104_2 hl104_2
              replace p104:=eq_true p104
              replace q104:=eq_true q104
              have p105:0≤(x8_1:Int):=of_decide_eq_true (by first|(with_reducible assumption)|assumption)
              have q105:x8_1 < (l0_0.length:Int):=of_decide_eq_true (by first|(with_reducible assumption)|assumption)
              obtain ⟨ad105,A105_2,c105_2,e105,hx105_0,hx105_1,hx105_2,hl105_2,hi105_2⟩:=at_T42 HR0_0.out x8_1 p105 q105
              obtain rfl:ad102=ad105:=(by injection e105)
              replace hx105_0:=(HB.out.cell (World.block_lt_of_cell? w _ hx105_0)).trans hx105_0
              replace hx105_1:=(HB.out.cell (World.block_lt_of_cell? w _ hx105_1)).trans hx105_1
              replace hx105_2:=(HB.out.cell (World.block_lt_of_cell? w _ hx105_2)).trans hx105_2
              have HR105_2:=Aside0.mk hi105_2
              have HC105_2:=Aside0.mk hl105_2
              clear hi105_2 hl105_2
              replace p105:=eq_true p105
              replace q105:=eq_true q105
              have ea_:=Option.some.inj (hx104_2.symm.trans hx105_2)
              injection ea_ with ea_ en_ ec_
              subst ea_
              subst ec_
              clear en_
              have p106:0≤(x9_2:Int):=of_decide_eq_true (by first|(with_reducible assumption)|assumption)
              have q106:x9_2 < (((rd_T42 l0_0 x8_1).f2).length:Int):=of_decide_eq_true (by first|(with_reducible assumption)|assumption)
              obtain ⟨ad106,A106_3,c106_3,e106,hx106_0,hx106_1,hx106_2,hx106_3,hl106_3,hi106_3⟩:=at_T39 HR105_2.out x9_2 p106 q106
              cases e106
              replace hx106_0:=(HB.out.cell (World.block_lt_of_cell? w _ hx106_0)).trans hx106_0
              replace hx106_1:=(HB.out.cell (World.block_lt_of_cell? w _ hx106_1)).trans hx106_1
              replace hx106_2:=(HB.out.cell (World.block_lt_of_cell? w _ hx106_2)).trans hx106_2
              replace hx106_3:=(HB.out.cell (World.block_lt_of_cell? w _ hx106_3)).trans hx106_3
              have HR106_3:=Aside0.mk hi106_3
              have HC106_3:=Aside0.mk hl106_3
              clear hi106_3 hl106_3
              replace p106:=eq_true p106
              replace q106:=eq_true q106
              go_wp2
              go_roundg k2
              case measure=>have:=HK1.out;have:=HK2.out;omega
              case rel=>exact ⟨(wrap64 (x9_2+1)),(by first|rfl|(simp;done)|(simp [*];done)),H',⟨by have:=HK1.out;have:=HK2.out;omega⟩,⟨by (with_reducible repeat (first|refine blk_drewN ?_ _|refine blk_drew ?_|refine blk_alloc ?_ _));exact BK101.out⟩,⟨by repeat (first|(with_reducible first|exact HB.out|apply below_alloc|apply pw_below_drewN|apply below_drew1|refine below_set ?_ GE101.out)|exact HB.out)⟩⟩
            ·rw [if_neg c17] at H
             exact absurd H (by simp)
           ·rw [if_neg c16] at H
            have c16b0:decide (x9_2 < (((rd_T42 l0_0 x8_1).f2).length:Int))=false:=decide_eq_false c16
            clear c16
            have H':=Aside0.mk H
            clear H
            have hcz21_0:wr.cell? ⟨gb101,0,none⟩=some (.slice (some ad102) l0_0.length c0_0):=(blk_cell BK101.out 0).trans rfl
            have hfz21_0:=blk_frozen BK101.out 0
            have p104:0≤(x8_1:Int):=of_decide_eq_true (by first|(with_reducible assumption)|assumption)
            have q104:x8_1 < (l0_0.length:Int):=of_decide_eq_true (by first|(with_reducible assumption)|assumption)
            obtain ⟨ad104,A104_2,c104_2,e104,hx104_0,hx104_1,hx104_2,hl104_2,hi104_2⟩:=at_T42 HR0_0.out x8_1 p104 q104
            obtain rfl:ad102=ad104:=(by injection e104)
            replace hx104_0:=(HB.out.cell (World.block_lt_of_cell? w _ hx104_0)).trans hx104_0
            replace hx104_1:=(HB.out.cell (World.block_lt_of_cell? w _ hx104_1)).trans hx104_1
            replace hx104_2:=(HB.out.cell (World.block_lt_of_cell? w _ hx104_2)).trans hx104_2
            have HR104_2:=Aside0.mk hi104_2
            have HC104_2:=Aside0.mk hl104_2
            clear hi104_2 hl104_2
            replace p104:=eq_true p104
            replace q104:=eq_true q104
            go_wp2
            go_roundg k2
            case measure=>have:=HK1.out;have:=HK2.out;omega
            case rel=>exact ⟨((wrap64 (x7_1+(((rd_T42 l0_0 x8_1).f2).length:Int)))),(wrap64 (x8_1+1)),(by first|rfl|(simp;done)|(simp [*];done)),(by first|rfl|(simp;done)|(simp [*];done)),H',⟨by have:=HK1.out;have:=HK2.out;omega⟩,⟨by (with_reducible repeat (first|refine blk_drewN ?_ _|refine blk_drew ?_|refine blk_alloc ?_ _));exact BK101.out⟩,⟨by repeat (first|(with_reducible first|exact HB.out|apply below_alloc|apply pw_below_drewN|apply below_drew1|refine below_set ?_ GE101.out)|exact HB.out)⟩⟩
          ·rw [if_neg c15] at H
           exact absurd H (by simp)
         ·rw [if_neg c14] at H
          exact absurd H (by simp)
     ·rw [if_neg c10] at H
      exact absurd H (by simp)
    ·rw [if_neg c9] at H
     have c9b0:decide (x8_1 < (l0_0.length:Int))=false:=decide_eq_false c9
     clear c9
     obtain rfl:=Option.some.inj H
     have hcz22_0:wr.cell? ⟨gb101,0,none⟩=some (.slice A0_0 l0_0.length c0_0):=(blk_cell BK101.out 0).trans rfl
     have hfz22_0:=blk_frozen BK101.out 0
     go_wp2
     go_ret
     exact ⟨by first|rfl|(simp [errW_none,errW_some] <;> rfl)|(simp [*,errW_none,errW_some] <;> rfl),by repeat (first|(with_reducible first|exact HB.out|apply below_alloc|apply pw_below_drewN|apply below_drew1|refine below_set ?_ GE101.out)|exact HB.out)⟩
def history_Ops.l0:Nat→Int→List (S42)→Int→Int→Option (Int)
 | 0,_,_,_,_=>none
 | k+1,x3,x7,x8,x9=>if x9 < x8 then (if 0≤x9 then (if x9 < (x7.length:Int) then (history_Ops.l0 k (wrap64 (x3+(((rd_T42 x7 x9).f2).length:Int))) x7 x8 (wrap64 (x9+1))) else (none)) else (none)) else (some x3)
def history_Ops.f (k:Nat) (l0_0:List (S42)):Option (Int):=history_Ops.l0 k 0 l0_0 (l0_0.length:Int) 0
set_option maxHeartbeats 8000000 in
set_option maxRecDepth 100000 in
theorem history_Ops.calls (k:Nat) (A0_0:Option Addr) (c0_0:Nat) (l0_0:List (S42)) (r:Int) (w:World) (hr0_0:Kd.C k42 w A0_0 l0_0.length l0_0) (hc0_0:l0_0.length≤c0_0) (h:history_Ops.f k l0_0=some r) :
 Calls Try.prog 23 #[.agg #[.slice A0_0 l0_0.length c0_0]] w fun e w'=>e=.returned (.int .i64 r)∧Below w.heap.size w w':=by
 have hu24:=Try.underlying24
 have hu42:=Try.underlying42
 have HR0_0:=Aside0.mk hr0_0
 have HC0_0:=Aside0.mk hc0_0
 clear hr0_0 hc0_0
 have HB:=Aside0.mk (Below.refl w.heap.size w)
 have H:(history_Ops.l0 k 0 l0_0 (l0_0.length:Int) 0)=some r:=h
 clear h
 have H':=Aside0.mk H
 clear H
 go_enter Try.func23,Try.ntmps23
 go_wp2_with (first|((with_reducible refine gate_dst (N:=1) rfl ?_);refine box_event ?hg (N:=1) ?hd (cs:=#[.slice A0_0 l0_0.length c0_0]) (t:=24) ?hr ?_;(case hd=>rfl);(case hg=>rfl);(case hr=>first|(go_simp;done)|(go_simp;rfl));intro gb107 hg w2 hbox hb;have n0_:=Aside0.mk (below_step (by repeat (first|(with_reducible first|exact HB.out|apply below_alloc|apply pw_below_drewN|apply below_drew1)|exact HB.out)) hb);have n1_:=Aside0.mk (hbox);have n2_:=Aside0.mk ((by rw [hg];exact (below_size (by repeat (first|(with_reducible first|exact HB.out|apply below_alloc|apply pw_below_drewN|apply below_drew1)|exact HB.out))):w.heap.size≤gb107));have n3_:=Aside0.mk ((by rw [hg];exact (below_size (by repeat (first|(with_reducible first|exact HB.out|apply below_alloc|apply pw_below_drewN|apply below_drew1)|exact HB.out))):w.heap.size≤gb107));clear HB;have HB:=n0_;have BK107:=n1_;have GW107:=n2_;have GE107:=n3_;clear n0_ n1_ n2_ n3_;clear hb hbox hg;have hcz3_0:w2.cell? ⟨gb107,0,none⟩=some (.slice A0_0 l0_0.length c0_0):=(blk_cell BK107.out 0).trans rfl;have hfz3_0:=blk_frozen BK107.out 0))
 go_loopg [3,9] k (fun kq v3 v9 w'=>∃ (x3_1:Int) (x9_1:Int),v3=.int .i64 x3_1∧v9=.int .i64 x9_1∧Aside0 (history_Ops.l0 kq x3_1 l0_0 (l0_0.length:Int) x9_1=some r)∧Aside0 (kq≤k)∧Aside0 (w'.heap[gb107]?=some (.cells #[(.slice A0_0 l0_0.length c0_0)] 24 (0,0)))∧Aside0 (Below w.heap.size w w'))
 case atStart=>exact ⟨(0),(0),(by first|rfl|(simp;done)|(simp [*];done)),(by first|rfl|(simp;done)|(simp [*];done)),H',⟨Nat.le_refl _⟩,⟨by (with_reducible repeat (first|refine blk_drewN ?_ _|refine blk_drew ?_|refine blk_alloc ?_ _));exact BK107.out⟩,⟨by repeat (first|(with_reducible first|exact HB.out|apply below_alloc|apply pw_below_drewN|apply below_drew1|refine below_set ?_ GE107.out)|exact HB.out)⟩⟩
 case round =>
  clear H'
  try clear c2
  try clear p2
  try clear hcz3_0
  try clear hfz3_0
  obtain ⟨x3_1,x9_1,rfl,rfl,HA,HK1,BK107,HB⟩:=hrel
  cases gk with
  | zero=>exact absurd HA.out (by simp [history_Ops.l0])
  | succ k1 =>
   have H:=HA.out
   clear HA
   simp only [history_Ops.l0] at H
   by_cases c4:x9_1 < (l0_0.length:Int)
   ·rw [if_pos c4] at H
    have c4b0:decide (x9_1 < (l0_0.length:Int))=true:=decide_eq_true c4
    clear c4
    by_cases c5:0≤x9_1
    ·rw [if_pos c5] at H
     have c5b0:decide (0≤x9_1)=true:=decide_eq_true c5
     clear c5
     by_cases c6:x9_1 < (l0_0.length:Int)
     ·rw [if_pos c6] at H
      have c6b0:decide (x9_1 < (l0_0.length:Int))=true:=decide_eq_true c6
      clear c6
      have H':=Aside0.mk H
      clear H
      have p108:0≤(x9_1:Int):=of_decide_eq_true (by first|(with_reducible assumption)|assumption)
      have q108:x9_1 < (l0_0.length:Int):=of_decide_eq_true (by first|(with_reducible assumption)|assumption)
      obtain ⟨ad108,A108_2,c108_2,e108,hx108_0,hx108_1,hx108_2,hl108_2,hi108_2⟩:=at_T42 HR0_0.out x9_1 p108 q108
      cases e108
      replace hx108_0:=(HB.out.cell (World.block_lt_of_cell? w _ hx108_0)).trans hx108_0
      replace hx108_1:=(HB.out.cell (World.block_lt_of_cell? w _ hx108_1)).trans hx108_1
      replace hx108_2:=(HB.out.cell (World.block_lt_of_cell? w _ hx108_2)).trans hx108_2
      have HR108_2:=Aside0.mk hi108_2
      have HC108_2:=Aside0.mk hl108_2
      clear hi108_2 hl108_2
      replace p108:=eq_true p108
      replace q108:=eq_true q108
      go_wp2_with (first|((with_reducible refine gate_dst (N:=5) rfl ?_);refine box_event ?hg (N:=5) ?hd (cs:=#[.int .i64 0,.bool false,.slice none 0 0]) (t:=42) ?hr ?_;(case hd=>rfl);(case hg=>rfl);(case hr=>first|(go_simp;done)|(go_simp;rfl));intro gb109 hg w7 hbox hb;have n0_:=Aside0.mk (blk_below (g:=gb107) (o:=.cells #[.slice (some ad108) l0_0.length c0_0] 24 (0,0)) (by (with_reducible repeat (first|refine blk_drewN ?_ _|refine blk_drew ?_|refine blk_alloc ?_ _));exact BK107.out) hb);have n1_:=Aside0.mk (below_step (by repeat (first|(with_reducible first|exact HB.out|apply below_alloc|apply pw_below_drewN|apply below_drew1|refine below_set ?_ GE107.out)|exact HB.out)) hb);have n2_:=Aside0.mk (hbox);have n3_:=Aside0.mk ((by rw [hg];exact (below_size (by repeat (first|(with_reducible first|exact HB.out|apply below_alloc|apply pw_below_drewN|apply below_drew1|refine below_set ?_ GE107.out)|exact HB.out))):w.heap.size≤gb109));have n4_:=Aside0.mk ((by rw [hg];exact (below_size (by repeat (first|(with_reducible first|exact HB.out|apply below_alloc|apply pw_below_drewN|apply below_drew1|refine below_set ?_ GE107.out)|exact HB.out))):w.heap.size≤gb109));have n5_:=Aside0.mk ((by rw [hg];exact Nat.ne_of_lt (blk_lt (g:=gb107) (o:=.cells #[.slice (some ad108) l0_0.length c0_0] 24 (0,0)) (by (with_reducible repeat (first|refine blk_drewN ?_ _|refine blk_drew ?_|refine blk_alloc ?_ _));exact BK107.out)):gb107 ≠ gb109));have n6_:=Aside0.mk ((by rw [hg];exact Nat.ne_of_gt (blk_lt (g:=gb107) (o:=.cells #[.slice (some ad108) l0_0.length c0_0] 24 (0,0)) (by (with_reducible repeat (first|refine blk_drewN ?_ _|refine blk_drew ?_|refine blk_alloc ?_ _));exact BK107.out)):gb109 ≠ gb107));clear BK107;clear HB;have BK107:=n0_;have HB:=n1_;have BK109:=n2_;have GW109:=n3_;have GE109:=n4_;have NB107_109:=n5_;have NB109_107:=n6_;clear n0_ n1_ n2_ n3_ n4_ n5_ n6_;clear hb hbox hg;have hnb8:=NB109_107.out;have hnc8:=NB107_109.out;have hcz9_0:w7.cell? ⟨gb109,0,none⟩=some (.int .i64 0):=(blk_cell BK109.out 0).trans rfl;have hcz9_1:w7.cell? ⟨gb109,1,none⟩=some (.bool false):=(blk_cell BK109.out 1).trans rfl;have hcz9_2:w7.cell? ⟨gb109,2,none⟩=some (.slice none 0 0):=(blk_cell BK109.out 2).trans rfl;have hfz9_0:=blk_frozen BK109.out 0;have hfz9_1:=blk_frozen BK109.out 1;have hfz9_2:=blk_frozen BK109.out 2))
      go_roundg k1
      case measure=>have:=HK1.out;omega
      case rel=>exact ⟨(wrap64 (x3_1+(((rd_T42 l0_0 x9_1).f2).length:Int))),(wrap64 (x9_1+1)),(by first|rfl|(simp;done)|(simp [*];done)),(by first|rfl|(simp;done)|(simp [*];done)),H',⟨by have:=HK1.out;omega⟩,⟨by (with_reducible repeat (first|refine blk_drewN ?_ _|refine blk_drew ?_|refine blk_alloc ?_ _));refine blk_far ?_ NB107_109.out _;(with_reducible repeat (first|refine blk_drewN ?_ _|refine blk_drew ?_|refine blk_alloc ?_ _));refine blk_far ?_ NB107_109.out _;(with_reducible repeat (first|refine blk_drewN ?_ _|refine blk_drew ?_|refine blk_alloc ?_ _));refine blk_far ?_ NB107_109.out _;(with_reducible repeat (first|refine blk_drewN ?_ _|refine blk_drew ?_|refine blk_alloc ?_ _));exact BK107.out⟩,⟨by repeat (first|(with_reducible first|exact HB.out|apply below_alloc|apply pw_below_drewN|apply below_drew1|refine below_set ?_ GE107.out|refine below_set ?_ GE109.out)|exact HB.out)⟩⟩
     ·rw [if_neg c6] at H
      exact absurd H (by simp)
    ·rw [if_neg c5] at H
     exact absurd H (by simp)
   ·rw [if_neg c4] at H
    have c4b0:decide (x9_1 < (l0_0.length:Int))=false:=decide_eq_false c4
    clear c4
    obtain rfl:=Option.some.inj H
    go_wp2
    go_ret
    exact ⟨by first|rfl|(simp [errW_none,errW_some] <;> rfl)|(simp [*,errW_none,errW_some] <;> rfl),by repeat (first|(with_reducible first|exact HB.out|apply below_alloc|apply pw_below_drewN|apply below_drew1|refine below_set ?_ GE107.out)|exact HB.out)⟩
def digits_may.f (a0:Int):Option (Bool):=if a0 ≥ 0 then (some (decide (a0≤2147483647))) else (some false)
mutual
def coronerref01_Print.j0:Nat→Int→Bool→Option (ByteArray × Int)
 | 0,_,_=>none
 | k+1,x0,x10=>if x10=true then (some ((⟨#[]⟩:ByteArray),2)) else (coronerref01_Print.l0 k x0 (⟨#[]⟩:ByteArray))
def coronerref01_Print.l0:Nat→Int→ByteArray→Option (ByteArray × Int)
 | 0,_,_=>none
 | k+1,x0,x4=>if x0 > 9 then (if 0≤(Int.tmod x0 10) then (if (Int.tmod x0 10)≤(wrap64 ((Int.tmod x0 10)+1)) then (if (wrap64 ((Int.tmod x0 10)+1))≤10 then (if ((⟨#[48,49,50,51,52,53,54,55,56,57]⟩:ByteArray).extract ((Int.tmod x0 10):Int).toNat ((wrap64 ((Int.tmod x0 10)+1)):Int).toNat).size+x4.size≤9223372036854775807 then (coronerref01_Print.l0 k (wrap64 (Int.tdiv x0 10)) (((⟨#[48,49,50,51,52,53,54,55,56,57]⟩:ByteArray).extract ((Int.tmod x0 10):Int).toNat ((wrap64 ((Int.tmod x0 10)+1)):Int).toNat) ++ x4)) else (none)) else (none)) else (none)) else (none)) else (if 0≤x0 then (if x0≤(wrap64 (x0+1)) then (if (wrap64 (x0+1))≤10 then (if ((⟨#[48,49,50,51,52,53,54,55,56,57]⟩:ByteArray).extract (x0:Int).toNat ((wrap64 (x0+1)):Int).toNat).size+x4.size≤9223372036854775807 then (some (((⟨#[48,49,50,51,52,53,54,55,56,57]⟩:ByteArray).extract (x0:Int).toNat ((wrap64 (x0+1)):Int).toNat) ++ x4,0)) else (none)) else (none)) else (none)) else (none))
end
def coronerref01_Print.f (k:Nat) (a0:Int):Option (ByteArray × Int):=if a0 < 0 then (coronerref01_Print.j0 k a0 true) else (coronerref01_Print.j0 k a0 (decide (a0 > 2147483647)))
set_option maxHeartbeats 8000000 in
set_option maxRecDepth 100000 in
theorem coronerref01_Print.calls (k:Nat) (a0:Int) (r1:ByteArray) (r2:Int) (w:World) (h:coronerref01_Print.f k a0=some (r1,r2)) :
 Calls Try.prog 46 #[.int .i64 a0] w fun e w'=>e=.returned (.tuple #[.string r1,.int .i64 r2])∧Drawn0 w w':=by
 have H:(if a0 < 0 then (coronerref01_Print.j0 k a0 true) else (coronerref01_Print.j0 k a0 (decide (a0 > 2147483647))))=some (r1,r2):=h
 clear h
 have HC2:=Aside0.mk H
 clear H
 go_enter Try.func46,Try.ntmps46
 go_upto_region 1 with (fail)
 go_cut [10] (fun v10 wc=>∃ (kq:Nat) (x10_1:Bool),v10=.bool x10_1∧Aside0 (coronerref01_Print.j0 kq a0 x10_1=some (r1,r2))∧Aside0 (kq≤k)∧Drawn0 w wc)
 case first =>
  have H:=HC2.out
  clear HC2
  by_cases c3:a0 < 0
  ·rw [if_pos c3] at H
   have c3b0:decide (a0 < 0)=true:=decide_eq_true c3
   clear c3
   (first|rw [c3b0]|(simp only [i64_w,i32_w];rw [c3b0])|skip)
   have H':=Aside0.mk H
   clear H
   go_wp2
   go_meet
   case rel=>exact ⟨_,(true),(by first|rfl|(simp;done)|(simp [*];done)),H',⟨by first|omega|exact Nat.le_refl _⟩,by repeat (first|exact Drawn0.refl _|apply Drawn0.step)⟩
  ·rw [if_neg c3] at H
   have c3b0:decide (a0 < 0)=false:=decide_eq_false c3
   clear c3
   (first|rw [c3b0]|(simp only [i64_w,i32_w];rw [c3b0])|skip)
   have H':=Aside0.mk H
   clear H
   go_wp2
   go_meet
   case rel=>exact ⟨_,(decide (a0 > 2147483647)),(by first|rfl|(simp;done)|(simp [*];done)),H',⟨by first|omega|exact Nat.le_refl _⟩,by repeat (first|exact Drawn0.refl _|apply Drawn0.step)⟩
 case rest =>
  clear HC2
  try clear p2
  try clear c3
  try clear c3b0
  obtain ⟨kq,x10_1,rfl,HA,HJ1,⟨mc1,rfl⟩⟩:=hcut
  cases kq with
  | zero=>exact absurd HA.out (by simp [coronerref01_Print.j0])
  | succ kj1 =>
   have H:=HA.out
   clear HA
   simp only [coronerref01_Print.j0] at H
   by_cases c4:x10_1=true
   ·subst c4
    have H1:(some ((⟨#[]⟩:ByteArray),2))=some (r1,r2):=by rw [if_pos rfl] at H;exact H
    clear H
    have H:=H1
    clear H1
    simp only [Option.some.injEq,Prod.mk.injEq] at H
    obtain ⟨rfl,rfl⟩:=H
    go_wp2
    go_ret2
    exact ⟨by first|rfl|(simp;done)|(simp [*];done),by repeat (first|exact Drawn0.refl _|apply Drawn0.step)⟩
   ·replace c4:=Bool.eq_false_iff.mpr c4
    subst c4
    have H1:(coronerref01_Print.l0 kj1 a0 (⟨#[]⟩:ByteArray))=some (r1,r2):=by rw [if_neg (show ¬ (false=true) by decide)] at H;exact H
    clear H
    have H:=H1
    clear H1
    have H':=Aside0.mk H
    clear H
    go_wp2
    go_loopg [0,4] kj1 (fun kq v0 v4 w'=>∃ (x0_2:Int) (x4_2:ByteArray),v0=.int .i64 x0_2∧v4=.string x4_2∧Aside0 (coronerref01_Print.l0 kq x0_2 x4_2=some (r1,r2))∧Aside0 (kq≤kj1)∧Drawn0 w w')
    case atStart=>exact ⟨(a0),((⟨#[]⟩:ByteArray)),(by first|rfl|(simp;done)|(simp [*];done)),(by first|rfl|(simp;done)|(simp [*];done)),H',⟨Nat.le_refl _⟩,by repeat (first|exact Drawn0.refl _|apply Drawn0.step)⟩
    case round =>
     clear H'
     try clear c1
     try clear p2
     try clear c3
     try clear c3b0
     try clear c4
     try clear p2
     obtain ⟨x0_2,x4_2,rfl,rfl,HA,HK2,⟨m2,rfl⟩⟩:=hrel
     cases gk with
     | zero=>exact absurd HA.out (by simp [coronerref01_Print.l0])
     | succ k2 =>
      have H:=HA.out
      clear HA
      simp only [coronerref01_Print.l0] at H
      by_cases c5:x0_2 > 9
      ·rw [if_pos c5] at H
       have c5b0:decide (9 < x0_2)=true:=decide_eq_true c5
       clear c5
       obtain ⟨ji6,hji6⟩:∃ j_:Int,(Int.tmod x0_2 10)=j_:=⟨_,rfl⟩
       replace H:(if 0≤(ji6) then (if (ji6)≤(wrap64 ((ji6)+1)) then (if (wrap64 ((ji6)+1))≤10 then (if ((⟨#[48,49,50,51,52,53,54,55,56,57]⟩:ByteArray).extract ((ji6):Int).toNat ((wrap64 ((ji6)+1)):Int).toNat).size+x4_2.size≤9223372036854775807 then (coronerref01_Print.l0 k2 (wrap64 (Int.tdiv x0_2 10)) (((⟨#[48,49,50,51,52,53,54,55,56,57]⟩:ByteArray).extract ((ji6):Int).toNat ((wrap64 ((ji6)+1)):Int).toNat) ++ x4_2)) else (none)) else (none)) else (none)) else (none))=some (r1,r2):=by first|(rw [hji6] at H;exact H)|(simp only [hji6] at H ⊢;exact H)
       by_cases c7:0≤(ji6)
       ·rw [if_pos c7] at H
        have c7b0:=eq_true c7
        have c7b1:decide (0≤(ji6))=true:=decide_eq_true c7
        clear c7
        by_cases c8:(ji6)≤(wrap64 ((ji6)+1))
        ·rw [if_pos c8] at H
         have c8b0:=eq_true c8
         have c8b1:decide ((ji6)≤(wrap64 ((ji6)+1)))=true:=decide_eq_true c8
         by_cases c9:(wrap64 ((ji6)+1))≤10
         ·rw [if_pos c9] at H
          have c9b0:=eq_true c9
          have c9b1:decide ((wrap64 ((ji6)+1))≤10)=true:=decide_eq_true c9
          by_cases c10:((⟨#[48,49,50,51,52,53,54,55,56,57]⟩:ByteArray).extract ((ji6):Int).toNat ((wrap64 ((ji6)+1)):Int).toNat).size+x4_2.size≤9223372036854775807
          ·rw [if_pos c10] at H
           have c10b0:=eq_true c10
           have c10b1:decide (((⟨#[48,49,50,51,52,53,54,55,56,57]⟩:ByteArray).extract ((ji6):Int).toNat ((wrap64 ((ji6)+1)):Int).toNat).size+x4_2.size≤9223372036854775807)=true:=decide_eq_true c10
           try have c10b2:(9223372036854775807 < ((⟨#[48,49,50,51,52,53,54,55,56,57]⟩:ByteArray).extract ((ji6):Int).toNat ((wrap64 ((ji6)+1)):Int).toNat).size+x4_2.size)=False:=eq_false (Nat.not_lt.2 c10)
           have H':=Aside0.mk H
           clear H
           go_wp2
           go_roundg k2
           case measure=>have:=HJ1.out;have:=HK2.out;omega
           case rel=>exact ⟨(wrap64 (Int.tdiv x0_2 10)),(((⟨#[48,49,50,51,52,53,54,55,56,57]⟩:ByteArray).extract ((ji6):Int).toNat ((wrap64 ((ji6)+1)):Int).toNat) ++ x4_2),(by first|rfl|(simp;done)|(simp [*];done)),(by first|rfl|(simp;done)|(simp only [← hji6] <;> (first|rfl|simp))|(simp [*];done)),H',⟨by have:=HJ1.out;have:=HK2.out;omega⟩,by repeat (first|exact Drawn0.refl _|apply Drawn0.step)⟩
          ·rw [if_neg c10] at H
           exact absurd H (by simp)
         ·rw [if_neg c9] at H
          exact absurd H (by simp)
        ·rw [if_neg c8] at H
         exact absurd H (by simp)
       ·rw [if_neg c7] at H
        exact absurd H (by simp)
      ·rw [if_neg c5] at H
       have c5b0:decide (9 < x0_2)=false:=decide_eq_false c5
       clear c5
       by_cases c11:0≤x0_2
       ·rw [if_pos c11] at H
        have c11b0:=eq_true c11
        have c11b1:decide (0≤x0_2)=true:=decide_eq_true c11
        clear c11
        by_cases c12:x0_2≤(wrap64 (x0_2+1))
        ·rw [if_pos c12] at H
         have c12b0:=eq_true c12
         have c12b1:decide (x0_2≤(wrap64 (x0_2+1)))=true:=decide_eq_true c12
         by_cases c13:(wrap64 (x0_2+1))≤10
         ·rw [if_pos c13] at H
          have c13b0:=eq_true c13
          have c13b1:decide ((wrap64 (x0_2+1))≤10)=true:=decide_eq_true c13
          by_cases c14:((⟨#[48,49,50,51,52,53,54,55,56,57]⟩:ByteArray).extract (x0_2:Int).toNat ((wrap64 (x0_2+1)):Int).toNat).size+x4_2.size≤9223372036854775807
          ·rw [if_pos c14] at H
           have c14b0:=eq_true c14
           have c14b1:decide (((⟨#[48,49,50,51,52,53,54,55,56,57]⟩:ByteArray).extract (x0_2:Int).toNat ((wrap64 (x0_2+1)):Int).toNat).size+x4_2.size≤9223372036854775807)=true:=decide_eq_true c14
           try have c14b2:(9223372036854775807 < ((⟨#[48,49,50,51,52,53,54,55,56,57]⟩:ByteArray).extract (x0_2:Int).toNat ((wrap64 (x0_2+1)):Int).toNat).size+x4_2.size)=False:=eq_false (Nat.not_lt.2 c14)
           simp only [Option.some.injEq,Prod.mk.injEq] at H
           obtain ⟨rfl,rfl⟩:=H
           go_wp2
           go_ret2
           exact ⟨by first|rfl|(simp;done)|(simp [*];done),by repeat (first|exact Drawn0.refl _|apply Drawn0.step)⟩
          ·rw [if_neg c14] at H
           exact absurd H (by simp)
         ·rw [if_neg c13] at H
          exact absurd H (by simp)
        ·rw [if_neg c12] at H
         exact absurd H (by simp)
       ·rw [if_neg c11] at H
        exact absurd H (by simp)
def coronerref04_number.f (k:Nat) (a0:Int):Option (ByteArray):=(coronerref01_Print.f k a0).bind fun bt135=>(some bt135.1)
set_option maxHeartbeats 8000000 in
set_option maxRecDepth 100000 in
theorem coronerref04_number.calls (k:Nat) (a0:Int) (r:ByteArray) (w:World) (h:coronerref04_number.f k a0=some r) :
 Calls Try.prog 32 #[.int .i64 a0] w fun e w'=>e=.returned (.string r)∧Drawn0 w w':=by
 have H:((coronerref01_Print.f k a0).bind fun bt135=>(some bt135.1))=some r:=h
 clear h
 replace H:=Option.bind_eq_some_iff.mp H
 obtain ⟨⟨t135,t136⟩,A20,H⟩:=H
 replace H:(some t135)=some r:=H
 have A2:=Aside0.mk A20
 clear A20
 obtain rfl:=Option.some.inj H
 go_enter Try.func32,Try.ntmps32
 go_wp2_with (first|((with_reducible refine gate_callee (f:=46) rfl ?_);refine goesL_ (some 7) rfl rfl Try.func46 (by kernel_rfl) rfl #[.int .i64 a0] rfl (by (try simp only [List.map_toArray,List.map_cons,List.map_nil]);first|done|rfl|(simp only [List.length_drop,List.length_take];rfl)) ?_;(with_reducible refine (coronerref01_Print.calls k a0 t135 t136 _ A2.out).mono ?_);rintro e w' ⟨rfl,⟨nd,rfl⟩⟩;refine ⟨_,rfl,?_⟩))
 go_ret
 exact ⟨by first|rfl|(simp;done)|(simp [*];done),by repeat (first|exact Drawn0.refl _|apply Drawn0.step)⟩
end Go.Proofs.Ytlcioegdmopppaa.PEncodeBack
