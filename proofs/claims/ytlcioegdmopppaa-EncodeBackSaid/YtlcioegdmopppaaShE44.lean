/- Printed by shake.py. -/
import Derived.Test.YtlcioegdmopppaaShE21
import Derived.Test.YtlcioegdmopppaaShE28
import Derived.Test.YtlcioegdmopppaaShE30
import Derived.Test.YtlcioegdmopppaaShE42
namespace Go.Proofs.Ytlcioegdmopppaa.PEncodeBack
open Go.RowKit Go.Proofs.YtlcioegdmopppaaW.PrintWords Go.Proofs.YtlcioegdmopppaaW.PrintLast Go.Proofs.YtlcioegdmopppaaW.PrintMore
attribute [local go_sem] max2_int min2_int max_two min_two max_three min_three max_four min_four
set_option linter.unusedVariables false
set_option linter.unusedSimpArgs false
theorem sz_lit (a:Array UInt8):(⟨a⟩:ByteArray).size=a.size:=rfl
mutual
def coronerref04_Text.l0:Nat→ByteArray→Int→List (S42)→Option (ByteArray)
 | 0,_,_,_=>none
 | k+1,x3,x4,x138000=>if x4 < (x138000.length:Int) then (if 0≤x4 then ((coronerref04_number.f k ((rd_T42 x138000 x4).f0)).bind fun t140=>(if 2+t140.size≤9223372036854775807 then (if (rd_T42 x138000 x4).f1=true then (if ((⟨#[116,32]⟩:ByteArray) ++ t140).size+3≤9223372036854775807 then (coronerref04_Text.j1 k x3 x4 (((⟨#[116,32]⟩:ByteArray) ++ t140) ++ (⟨#[32,97,10]⟩:ByteArray)) x138000 ((rd_T42 x138000 x4).f0) ((rd_T42 x138000 x4).f1) ((rd_T42 x138000 x4).f2)) else (none)) else (if ((⟨#[116,32]⟩:ByteArray) ++ t140).size+3≤9223372036854775807 then (coronerref04_Text.j1 k x3 x4 (((⟨#[116,32]⟩:ByteArray) ++ t140) ++ (⟨#[32,99,10]⟩:ByteArray)) x138000 ((rd_T42 x138000 x4).f0) ((rd_T42 x138000 x4).f1) ((rd_T42 x138000 x4).f2)) else (none))) else (none))) else (none)) else (some x3)
def coronerref04_Text.j1:Nat→ByteArray→Int→ByteArray→List (S42)→Int→Bool→List (S39)→Option (ByteArray)
 | 0,_,_,_,_,_,_,_=>none
 | k+1,x3,x4,x6,x138000,x140000,x140001,x140002=>coronerref04_Text.l1 k x3 x4 x6 0 x138000 x140000 x140001 x140002
def coronerref04_Text.l1:Nat→ByteArray→Int→ByteArray→Int→List (S42)→Int→Bool→List (S39)→Option (ByteArray)
 | 0,_,_,_,_,_,_,_,_=>none
 | k+1,x3,x4,x6,x7,x138000,x140000,x140001,x140002=>if x7 < (x140002.length:Int) then (if 0≤x7 then (if (rd_T39 x140002 x7).f0=true then (if x6.size+2≤9223372036854775807 then ((coronerref04_number.f k ((rd_T39 x140002 x7).f1)).bind fun t143=>(if (x6 ++ (⟨#[114,32]⟩:ByteArray)).size+t143.size≤9223372036854775807 then (coronerref04_Text.l2 k x3 x4 ((x6 ++ (⟨#[114,32]⟩:ByteArray)) ++ t143) x7 0 x138000 x140000 x140001 x140002 ((rd_T39 x140002 x7).f0) ((rd_T39 x140002 x7).f1) ((rd_T39 x140002 x7).f2) ((rd_T39 x140002 x7).f3)) else (none))) else (none)) else (if x6.size+2≤9223372036854775807 then ((coronerref04_number.f k ((rd_T39 x140002 x7).f1)).bind fun t146=>(if (x6 ++ (⟨#[97,32]⟩:ByteArray)).size+t146.size≤9223372036854775807 then (if ((x6 ++ (⟨#[97,32]⟩:ByteArray)) ++ t146).size+1≤9223372036854775807 then ((coronerref04_number.f k ((rd_T39 x140002 x7).f2)).bind fun t147=>(if (((x6 ++ (⟨#[97,32]⟩:ByteArray)) ++ t146) ++ (⟨#[32]⟩:ByteArray)).size+t147.size≤9223372036854775807 then (if ((((x6 ++ (⟨#[97,32]⟩:ByteArray)) ++ t146) ++ (⟨#[32]⟩:ByteArray)) ++ t147).size+1≤9223372036854775807 then (coronerref04_Text.l1 k x3 x4 (((((x6 ++ (⟨#[97,32]⟩:ByteArray)) ++ t146) ++ (⟨#[32]⟩:ByteArray)) ++ t147) ++ (⟨#[10]⟩:ByteArray)) (wrap64 (x7+1)) x138000 x140000 x140001 x140002) else (none)) else (none))) else (none)) else (none))) else (none))) else (none)) else (if x3.size+x6.size≤9223372036854775807 then (coronerref04_Text.l0 k (x3 ++ x6) (wrap64 (x4+1)) x138000) else (none))
def coronerref04_Text.l2:Nat→ByteArray→Int→ByteArray→Int→Int→List (S42)→Int→Bool→List (S39)→Bool→Int→Int→List Int→Option (ByteArray)
 | 0,_,_,_,_,_,_,_,_,_,_,_,_,_=>none
 | k+1,x3,x4,x6,x7,x9,x138000,x140000,x140001,x140002,x143000,x143001,x143002,x143003=>if x9 < (x143003.length:Int) then (if x6.size+1≤9223372036854775807 then (if 0≤x9 then ((coronerref04_number.f k (rd x143003 x9)).bind fun t145=>(if (x6 ++ (⟨#[32]⟩:ByteArray)).size+t145.size≤9223372036854775807 then (coronerref04_Text.l2 k x3 x4 ((x6 ++ (⟨#[32]⟩:ByteArray)) ++ t145) x7 (wrap64 (x9+1)) x138000 x140000 x140001 x140002 x143000 x143001 x143002 x143003) else (none))) else (none)) else (none)) else (if x6.size+1≤9223372036854775807 then (coronerref04_Text.l1 k x3 x4 (x6 ++ (⟨#[10]⟩:ByteArray)) (wrap64 (x7+1)) x138000 x140000 x140001 x140002) else (none))
end
def coronerref04_Text.f (k:Nat) (l0_0:List (S42)):Option (ByteArray):=coronerref04_Text.l0 k (⟨#[]⟩:ByteArray) 0 l0_0
set_option maxHeartbeats 8000000 in
set_option maxRecDepth 100000 in
theorem coronerref04_Text.calls (k:Nat) (A0_0:Option Addr) (c0_0:Nat) (l0_0:List (S42)) (r:ByteArray) (w:World) (hr0_0:Kd.C k42 w A0_0 l0_0.length l0_0) (hc0_0:l0_0.length≤c0_0) (h:coronerref04_Text.f k l0_0=some r) :
 Calls Try.prog 18 #[.agg #[.slice A0_0 l0_0.length c0_0]] w fun e w'=>e=.returned (.string r)∧Below w.heap.size w w':=by
 have hu24:=Try.underlying24
 have hu42:=Try.underlying42
 have hu39:=Try.underlying39
 have HR0_0:=Aside0.mk hr0_0
 have HC0_0:=Aside0.mk hc0_0
 clear hr0_0 hc0_0
 have HB:=Aside0.mk (Below.refl w.heap.size w)
 have H:(coronerref04_Text.l0 k (⟨#[]⟩:ByteArray) 0 l0_0)=some r:=h
 clear h
 have H':=Aside0.mk H
 clear H
 go_enter Try.func18,Try.ntmps18
 go_wp2_with (first|((with_reducible refine gate_dst (N:=1) rfl ?_);refine box_event ?hg (N:=1) ?hd (cs:=#[.slice A0_0 l0_0.length c0_0]) (t:=24) ?hr ?_;(case hd=>rfl);(case hg=>rfl);(case hr=>first|(go_simp;done)|(go_simp;rfl));intro gb137 hg w2 hbox hb;have n0_:=Aside0.mk (below_step (by repeat (first|(with_reducible first|exact HB.out|apply below_alloc|apply pw_below_drewN|apply below_drew1)|exact HB.out)) hb);have n1_:=Aside0.mk (hbox);have n2_:=Aside0.mk ((by rw [hg];exact (below_size (by repeat (first|(with_reducible first|exact HB.out|apply below_alloc|apply pw_below_drewN|apply below_drew1)|exact HB.out))):w.heap.size≤gb137));have n3_:=Aside0.mk ((by rw [hg];exact (below_size (by repeat (first|(with_reducible first|exact HB.out|apply below_alloc|apply pw_below_drewN|apply below_drew1)|exact HB.out))):w.heap.size≤gb137));clear HB;have HB:=n0_;have BK137:=n1_;have GW137:=n2_;have GE137:=n3_;clear n0_ n1_ n2_ n3_;clear hb hbox hg))
 repeat (go_quiet (first|((with_reducible refine gate_dst (N:=1) rfl ?_);refine box_event ?hg (N:=1) ?hd (cs:=#[.slice A0_0 l0_0.length c0_0]) (t:=24) ?hr ?_;(case hd=>rfl);(case hg=>rfl);(case hr=>first|(go_simp;done)|(go_simp;rfl));intro gb137 hg w2 hbox hb;have n0_:=Aside0.mk (below_step (by repeat (first|(with_reducible first|exact HB.out|apply below_alloc|apply pw_below_drewN|apply below_drew1)|exact HB.out)) hb);have n1_:=Aside0.mk (hbox);have n2_:=Aside0.mk ((by rw [hg];exact (below_size (by repeat (first|(with_reducible first|exact HB.out|apply below_alloc|apply pw_below_drewN|apply below_drew1)|exact HB.out))):w.heap.size≤gb137));have n3_:=Aside0.mk ((by rw [hg];exact (below_size (by repeat (first|(with_reducible first|exact HB.out|apply below_alloc|apply pw_below_drewN|apply below_drew1)|exact HB.out))):w.heap.size≤gb137));clear HB;have HB:=n0_;have BK137:=n1_;have GW137:=n2_;have GE137:=n3_;clear n0_ n1_ n2_ n3_;clear hb hbox hg));try go_wp2_with (first|((with_reducible refine gate_dst (N:=1) rfl ?_);refine box_event ?hg (N:=1) ?hd (cs:=#[.slice A0_0 l0_0.length c0_0]) (t:=24) ?hr ?_;(case hd=>rfl);(case hg=>rfl);(case hr=>first|(go_simp;done)|(go_simp;rfl));intro gb137 hg w2 hbox hb;have n0_:=Aside0.mk (below_step (by repeat (first|(with_reducible first|exact HB.out|apply below_alloc|apply pw_below_drewN|apply below_drew1)|exact HB.out)) hb);have n1_:=Aside0.mk (hbox);have n2_:=Aside0.mk ((by rw [hg];exact (below_size (by repeat (first|(with_reducible first|exact HB.out|apply below_alloc|apply pw_below_drewN|apply below_drew1)|exact HB.out))):w.heap.size≤gb137));have n3_:=Aside0.mk ((by rw [hg];exact (below_size (by repeat (first|(with_reducible first|exact HB.out|apply below_alloc|apply pw_below_drewN|apply below_drew1)|exact HB.out))):w.heap.size≤gb137));clear HB;have HB:=n0_;have BK137:=n1_;have GW137:=n2_;have GE137:=n3_;clear n0_ n1_ n2_ n3_;clear hb hbox hg)))
 go_loopg [3,4] k (fun kq v3 v4 w'=>∃ (x3_1:ByteArray) (x4_1:Int),v3=.string x3_1∧v4=.int .i64 x4_1∧Aside0 (coronerref04_Text.l0 kq x3_1 x4_1 l0_0=some r)∧Aside0 (kq≤k)∧Aside0 (w'.heap[gb137]?=some (.cells #[(.slice A0_0 l0_0.length c0_0)] 24 (0,0)))∧Aside0 (Below w.heap.size w w'))
 case atStart=>exact ⟨((⟨#[]⟩:ByteArray)),(0),(by first|rfl|(simp;done)|(simp [*];done)),(by first|rfl|(simp;done)|(simp [*];done)),H',⟨Nat.le_refl _⟩,⟨by (with_reducible repeat (first|refine blk_drewN ?_ _|refine blk_drew ?_|refine blk_alloc ?_ _));exact BK137.out⟩,⟨by repeat (first|(with_reducible first|exact HB.out|apply below_alloc|apply pw_below_drewN|apply below_drew1|refine below_set ?_ GE137.out)|exact HB.out)⟩⟩
 case round =>
  clear H'
  try clear c1
  try clear p2
  obtain ⟨x3_1,x4_1,rfl,rfl,HA,HK1,BK137,HB⟩:=hrel
  cases gk with
  | zero=>exact absurd HA.out (by simp [coronerref04_Text.l0])
  | succ k1 =>
   have H:=HA.out
   clear HA
   simp only [coronerref04_Text.l0] at H
   by_cases c3:x4_1 < (l0_0.length:Int)
   ·rw [if_pos c3] at H
    have c3b0:decide (x4_1 < (l0_0.length:Int))=true:=decide_eq_true c3
    clear c3
    by_cases c4:0≤x4_1
    ·rw [if_pos c4] at H
     have c4b0:decide (0≤x4_1)=true:=decide_eq_true c4
     clear c4
     replace H:=Option.bind_eq_some_iff.mp H
     obtain ⟨t140,A50,H⟩:=H
     replace H:(if 2+t140.size≤9223372036854775807 then (if (rd_T42 l0_0 x4_1).f1=true then (if ((⟨#[116,32]⟩:ByteArray) ++ t140).size+3≤9223372036854775807 then (coronerref04_Text.j1 k1 x3_1 x4_1 (((⟨#[116,32]⟩:ByteArray) ++ t140) ++ (⟨#[32,97,10]⟩:ByteArray)) l0_0 ((rd_T42 l0_0 x4_1).f0) ((rd_T42 l0_0 x4_1).f1) ((rd_T42 l0_0 x4_1).f2)) else (none)) else (if ((⟨#[116,32]⟩:ByteArray) ++ t140).size+3≤9223372036854775807 then (coronerref04_Text.j1 k1 x3_1 x4_1 (((⟨#[116,32]⟩:ByteArray) ++ t140) ++ (⟨#[32,99,10]⟩:ByteArray)) l0_0 ((rd_T42 l0_0 x4_1).f0) ((rd_T42 l0_0 x4_1).f1) ((rd_T42 l0_0 x4_1).f2)) else (none))) else (none))=some r:=H
     have A5:=Aside0.mk A50
     clear A50
     by_cases c6:2+t140.size≤9223372036854775807
     ·rw [if_pos c6] at H
      have c6b0:=eq_true c6
      have c6b1:decide (2+t140.size≤9223372036854775807)=true:=decide_eq_true c6
      try have c6b2:(9223372036854775807 < 2+t140.size)=False:=eq_false (Nat.not_lt.2 c6)
      try (have c6b2z:=c6b2;simp only [ByteArray.size_append,sz_lit,List.size_toArray,List.length_cons,List.length_nil,Nat.zero_add,Nat.reduceAdd] at c6b2z)
      have HC7:=Aside0.mk H
      clear H
      have hcz8_0:wr.cell? ⟨gb137,0,none⟩=some (.slice A0_0 l0_0.length c0_0):=(blk_cell BK137.out 0).trans rfl
      have hfz8_0:=blk_frozen BK137.out 0
      have p138:0≤(x4_1:Int):=of_decide_eq_true (by first|(with_reducible assumption)|assumption)
      have q138:x4_1 < (l0_0.length:Int):=of_decide_eq_true (by first|(with_reducible assumption)|assumption)
      obtain ⟨ad138,A138_2,c138_2,e138,hx138_0,hx138_1,hx138_2,hl138_2,hi138_2⟩:=at_T42 HR0_0.out x4_1 p138 q138
      cases e138
      replace hx138_0:=(HB.out.cell (World.block_lt_of_cell? w _ hx138_0)).trans hx138_0
      replace hx138_1:=(HB.out.cell (World.block_lt_of_cell? w _ hx138_1)).trans hx138_1
      replace hx138_2:=(HB.out.cell (World.block_lt_of_cell? w _ hx138_2)).trans hx138_2
      have HR138_2:=Aside0.mk hi138_2
      have HC138_2:=Aside0.mk hl138_2
      clear hi138_2 hl138_2
      replace p138:=eq_true p138
      replace q138:=eq_true q138
      go_upto_if 27 with (first|((with_reducible refine gate_dst (N:=5) rfl ?_);refine box_event ?hg (N:=5) ?hd (cs:=#[.int .i64 0,.bool false,.slice none 0 0]) (t:=42) ?hr ?_;(case hd=>rfl);(case hg=>rfl);(case hr=>first|(go_simp;done)|(go_simp;rfl));intro gb139 hg w9 hbox hb;have n0_:=Aside0.mk (blk_below (g:=gb137) (o:=.cells #[.slice (some ad138) l0_0.length c0_0] 24 (0,0)) (by (with_reducible repeat (first|refine blk_drewN ?_ _|refine blk_drew ?_|refine blk_alloc ?_ _));exact BK137.out) hb);have n1_:=Aside0.mk (below_step (by repeat (first|(with_reducible first|exact HB.out|apply below_alloc|apply pw_below_drewN|apply below_drew1|refine below_set ?_ GE137.out)|exact HB.out)) hb);have n2_:=Aside0.mk (hbox);have n3_:=Aside0.mk ((by rw [hg];exact (below_size (by repeat (first|(with_reducible first|exact HB.out|apply below_alloc|apply pw_below_drewN|apply below_drew1|refine below_set ?_ GE137.out)|exact HB.out))):w.heap.size≤gb139));have n4_:=Aside0.mk ((by rw [hg];exact (below_size (by repeat (first|(with_reducible first|exact HB.out|apply below_alloc|apply pw_below_drewN|apply below_drew1|refine below_set ?_ GE137.out)|exact HB.out))):w.heap.size≤gb139));have n5_:=Aside0.mk ((by rw [hg];exact Nat.ne_of_lt (blk_lt (g:=gb137) (o:=.cells #[.slice (some ad138) l0_0.length c0_0] 24 (0,0)) (by (with_reducible repeat (first|refine blk_drewN ?_ _|refine blk_drew ?_|refine blk_alloc ?_ _));exact BK137.out)):gb137 ≠ gb139));have n6_:=Aside0.mk ((by rw [hg];exact Nat.ne_of_gt (blk_lt (g:=gb137) (o:=.cells #[.slice (some ad138) l0_0.length c0_0] 24 (0,0)) (by (with_reducible repeat (first|refine blk_drewN ?_ _|refine blk_drew ?_|refine blk_alloc ?_ _));exact BK137.out)):gb139 ≠ gb137));clear BK137;clear HB;have BK137:=n0_;have HB:=n1_;have BK139:=n2_;have GW139:=n3_;have GE139:=n4_;have NB137_139:=n5_;have NB139_137:=n6_;clear n0_ n1_ n2_ n3_ n4_ n5_ n6_;clear hb hbox hg;have hnb10:=NB139_137.out;have hnc10:=NB137_139.out;have hcz11_0:w9.cell? ⟨gb139,0,none⟩=some (.int .i64 0):=(blk_cell BK139.out 0).trans rfl;have hcz11_1:w9.cell? ⟨gb139,1,none⟩=some (.bool false):=(blk_cell BK139.out 1).trans rfl;have hcz11_2:w9.cell? ⟨gb139,2,none⟩=some (.slice none 0 0):=(blk_cell BK139.out 2).trans rfl;have hfz11_0:=blk_frozen BK139.out 0;have hfz11_1:=blk_frozen BK139.out 1;have hfz11_2:=blk_frozen BK139.out 2)|(go_at_call 32;(with_reducible refine (coronerref04_number.calls k1 ((rd_T42 l0_0 x4_1).f0) t140 _ A5.out).mono ?_);rintro e w' ⟨rfl,⟨nd,rfl⟩⟩;(try first|exact ⟨rfl,_,World.drewN_drewN _ _ _⟩|exact ⟨rfl,_,Eq.trans (World.drewN_drewN _ _ _) (congrArg (World.drewN _) (Nat.add_assoc _ _ _))⟩)))
      repeat (go_quiet (first|((with_reducible refine gate_dst (N:=5) rfl ?_);refine box_event ?hg (N:=5) ?hd (cs:=#[.int .i64 0,.bool false,.slice none 0 0]) (t:=42) ?hr ?_;(case hd=>rfl);(case hg=>rfl);(case hr=>first|(go_simp;done)|(go_simp;rfl));intro gb139 hg w9 hbox hb;have n0_:=Aside0.mk (blk_below (g:=gb137) (o:=.cells #[.slice (some ad138) l0_0.length c0_0] 24 (0,0)) (by (with_reducible repeat (first|refine blk_drewN ?_ _|refine blk_drew ?_|refine blk_alloc ?_ _));exact BK137.out) hb);have n1_:=Aside0.mk (below_step (by repeat (first|(with_reducible first|exact HB.out|apply below_alloc|apply pw_below_drewN|apply below_drew1|refine below_set ?_ GE137.out)|exact HB.out)) hb);have n2_:=Aside0.mk (hbox);have n3_:=Aside0.mk ((by rw [hg];exact (below_size (by repeat (first|(with_reducible first|exact HB.out|apply below_alloc|apply pw_below_drewN|apply below_drew1|refine below_set ?_ GE137.out)|exact HB.out))):w.heap.size≤gb139));have n4_:=Aside0.mk ((by rw [hg];exact (below_size (by repeat (first|(with_reducible first|exact HB.out|apply below_alloc|apply pw_below_drewN|apply below_drew1|refine below_set ?_ GE137.out)|exact HB.out))):w.heap.size≤gb139));have n5_:=Aside0.mk ((by rw [hg];exact Nat.ne_of_lt (blk_lt (g:=gb137) (o:=.cells #[.slice (some ad138) l0_0.length c0_0] 24 (0,0)) (by (with_reducible repeat (first|refine blk_drewN ?_ _|refine blk_drew ?_|refine blk_alloc ?_ _));exact BK137.out)):gb137 ≠ gb139));have n6_:=Aside0.mk ((by rw [hg];exact Nat.ne_of_gt (blk_lt (g:=gb137) (o:=.cells #[.slice (some ad138) l0_0.length c0_0] 24 (0,0)) (by (with_reducible repeat (first|refine blk_drewN ?_ _|refine blk_drew ?_|refine blk_alloc ?_ _));exact BK137.out)):gb139 ≠ gb137));clear BK137;clear HB;have BK137:=n0_;have HB:=n1_;have BK139:=n2_;have GW139:=n3_;have GE139:=n4_;have NB137_139:=n5_;have NB139_137:=n6_;clear n0_ n1_ n2_ n3_ n4_ n5_ n6_;clear hb hbox hg;have hnb10:=NB139_137.out;have hnc10:=NB137_139.out;have hcz11_0:w9.cell? ⟨gb139,0,none⟩=some (.int .i64 0):=(blk_cell BK139.out 0).trans rfl;have hcz11_1:w9.cell? ⟨gb139,1,none⟩=some (.bool false):=(blk_cell BK139.out 1).trans rfl;have hcz11_2:w9.cell? ⟨gb139,2,none⟩=some (.slice none 0 0):=(blk_cell BK139.out 2).trans rfl;have hfz11_0:=blk_frozen BK139.out 0;have hfz11_1:=blk_frozen BK139.out 1;have hfz11_2:=blk_frozen BK139.out 2)|(go_at_call 32;(with_reducible refine (coronerref04_number.calls k1 ((rd_T42 l0_0 x4_1).f0) t140 _ A5.out).mono ?_);rintro e w' ⟨rfl,⟨nd,rfl⟩⟩;(try first|exact ⟨rfl,_,World.drewN_drewN _ _ _⟩|exact ⟨rfl,_,Eq.trans (World.drewN_drewN _ _ _) (congrArg (World.drewN _) (Nat.add_assoc _ _ _))⟩)));go_upto_if 27 with (first|((with_reducible refine gate_dst (N:=5) rfl ?_);refine box_event ?hg (N:=5) ?hd (cs:=#[.int .i64 0,.bool false,.slice none 0 0]) (t:=42) ?hr ?_;(case hd=>rfl);(case hg=>rfl);(case hr=>first|(go_simp;done)|(go_simp;rfl));intro gb139 hg w9 hbox hb;have n0_:=Aside0.mk (blk_below (g:=gb137) (o:=.cells #[.slice (some ad138) l0_0.length c0_0] 24 (0,0)) (by (with_reducible repeat (first|refine blk_drewN ?_ _|refine blk_drew ?_|refine blk_alloc ?_ _));exact BK137.out) hb);have n1_:=Aside0.mk (below_step (by repeat (first|(with_reducible first|exact HB.out|apply below_alloc|apply pw_below_drewN|apply below_drew1|refine below_set ?_ GE137.out)|exact HB.out)) hb);have n2_:=Aside0.mk (hbox);have n3_:=Aside0.mk ((by rw [hg];exact (below_size (by repeat (first|(with_reducible first|exact HB.out|apply below_alloc|apply pw_below_drewN|apply below_drew1|refine below_set ?_ GE137.out)|exact HB.out))):w.heap.size≤gb139));have n4_:=Aside0.mk ((by rw [hg];exact (below_size (by repeat (first|(with_reducible first|exact HB.out|apply below_alloc|apply pw_below_drewN|apply below_drew1|refine below_set ?_ GE137.out)|exact HB.out))):w.heap.size≤gb139));have n5_:=Aside0.mk ((by rw [hg];exact Nat.ne_of_lt (blk_lt (g:=gb137) (o:=.cells #[.slice (some ad138) l0_0.length c0_0] 24 (0,0)) (by (with_reducible repeat (first|refine blk_drewN ?_ _|refine blk_drew ?_|refine blk_alloc ?_ _));exact BK137.out)):gb137 ≠ gb139));have n6_:=Aside0.mk ((by rw [hg];exact Nat.ne_of_gt (blk_lt (g:=gb137) (o:=.cells #[.slice (some ad138) l0_0.length c0_0] 24 (0,0)) (by (with_reducible repeat (first|refine blk_drewN ?_ _|refine blk_drew ?_|refine blk_alloc ?_ _));exact BK137.out)):gb139 ≠ gb137));clear BK137;clear HB;have BK137:=n0_;have HB:=n1_;have BK139:=n2_;have GW139:=n3_;have GE139:=n4_;have NB137_139:=n5_;have NB139_137:=n6_;clear n0_ n1_ n2_ n3_ n4_ n5_ n6_;clear hb hbox hg;have hnb10:=NB139_137.out;have hnc10:=NB137_139.out;have hcz11_0:w9.cell? ⟨gb139,0,none⟩=some (.int .i64 0):=(blk_cell BK139.out 0).trans rfl;have hcz11_1:w9.cell? ⟨gb139,1,none⟩=some (.bool false):=(blk_cell BK139.out 1).trans rfl;have hcz11_2:w9.cell? ⟨gb139,2,none⟩=some (.slice none 0 0):=(blk_cell BK139.out 2).trans rfl;have hfz11_0:=blk_frozen BK139.out 0;have hfz11_1:=blk_frozen BK139.out 1;have hfz11_2:=blk_frozen BK139.out 2)|(go_at_call 32;(with_reducible refine (coronerref04_number.calls k1 ((rd_T42 l0_0 x4_1).f0) t140 _ A5.out).mono ?_);rintro e w' ⟨rfl,⟨nd,rfl⟩⟩;(try first|exact ⟨rfl,_,World.drewN_drewN _ _ _⟩|exact ⟨rfl,_,Eq.trans (World.drewN_drewN _ _ _) (congrArg (World.drewN _) (Nat.add_assoc _ _ _))⟩))))
      (try simp only [Act.put,List.setIfInBounds_toArray,List.set_cons_zero,List.set_cons_succ])
      go_cut [6] (fun v6 wc=>∃ (kq:Nat) (x6_6:ByteArray),v6=.string x6_6∧Aside0 (coronerref04_Text.j1 kq x3_1 x4_1 x6_6 l0_0 ((rd_T42 l0_0 x4_1).f0) ((rd_T42 l0_0 x4_1).f1) ((rd_T42 l0_0 x4_1).f2)=some r)∧Aside0 (kq≤k1)∧Aside0 (wc.heap[gb137]?=some (.cells #[(.slice (some ad138) l0_0.length c0_0)] 24 (0,0)))∧Aside0 (wc.heap[gb139]?=some (.cells #[.int .i64 ((rd_T42 l0_0 x4_1).f0),.bool ((rd_T42 l0_0 x4_1).f1),(.slice A138_2 ((rd_T42 l0_0 x4_1).f2).length c138_2)] 42 (0,0)))∧Aside0 (Below w.heap.size w wc))
      case first =>
       have H:=HC7.out
       clear HC7
       obtain ⟨bq12,hbq12⟩:∃ b_:Bool,b_=((rd_T42 l0_0 x4_1).f1):=⟨_,rfl⟩
       replace H:(if bq12=true then (if ((⟨#[116,32]⟩:ByteArray) ++ t140).size+3≤9223372036854775807 then (coronerref04_Text.j1 k1 x3_1 x4_1 (((⟨#[116,32]⟩:ByteArray) ++ t140) ++ (⟨#[32,97,10]⟩:ByteArray)) l0_0 ((rd_T42 l0_0 x4_1).f0) bq12 ((rd_T42 l0_0 x4_1).f2)) else (none)) else (if ((⟨#[116,32]⟩:ByteArray) ++ t140).size+3≤9223372036854775807 then (coronerref04_Text.j1 k1 x3_1 x4_1 (((⟨#[116,32]⟩:ByteArray) ++ t140) ++ (⟨#[32,99,10]⟩:ByteArray)) l0_0 ((rd_T42 l0_0 x4_1).f0) bq12 ((rd_T42 l0_0 x4_1).f2)) else (none)))=some r:=by rw [← hbq12] at H;exact H
       have Nbq12:=Aside0.mk hbq12
       clear hbq12
       (try rw [← Nbq12.out])
       by_cases c13:bq12=true
       ·subst c13
        have H1:(if ((⟨#[116,32]⟩:ByteArray) ++ t140).size+3≤9223372036854775807 then (coronerref04_Text.j1 k1 x3_1 x4_1 (((⟨#[116,32]⟩:ByteArray) ++ t140) ++ (⟨#[32,97,10]⟩:ByteArray)) l0_0 ((rd_T42 l0_0 x4_1).f0) true ((rd_T42 l0_0 x4_1).f2)) else (none))=some r:=by rw [if_pos rfl] at H;exact H
        clear H
        have H:=H1
        clear H1
        by_cases c14:((⟨#[116,32]⟩:ByteArray) ++ t140).size+3≤9223372036854775807
        ·rw [if_pos c14] at H
         have c14b0:=eq_true c14
         have c14b1:decide (((⟨#[116,32]⟩:ByteArray) ++ t140).size+3≤9223372036854775807)=true:=decide_eq_true c14
         try have c14b2:(9223372036854775807 < ((⟨#[116,32]⟩:ByteArray) ++ t140).size+3)=False:=eq_false (Nat.not_lt.2 c14)
         try (have c14b2z:=c14b2;simp only [ByteArray.size_append,sz_lit,List.size_toArray,List.length_cons,List.length_nil,Nat.zero_add,Nat.reduceAdd] at c14b2z)
         have H':=Aside0.mk H
         clear H
         go_wp2
         repeat (go_quiet (fail);try go_wp2)
         go_meet
         case rel=>(try rw [← Nbq12.out]);exact ⟨_,(((⟨#[116,32]⟩:ByteArray) ++ t140) ++ (⟨#[32,97,10]⟩:ByteArray)),(by first|rfl|(simp;done)|(simp [*];done)),H',⟨by have:=HK1.out;first|omega|exact Nat.le_refl _⟩,⟨by (with_reducible repeat (first|refine blk_drewN ?_ _|refine blk_drew ?_|refine blk_alloc ?_ _));refine blk_far ?_ NB137_139.out _;(with_reducible repeat (first|refine blk_drewN ?_ _|refine blk_drew ?_|refine blk_alloc ?_ _));refine blk_far ?_ NB137_139.out _;(with_reducible repeat (first|refine blk_drewN ?_ _|refine blk_drew ?_|refine blk_alloc ?_ _));refine blk_far ?_ NB137_139.out _;(with_reducible repeat (first|refine blk_drewN ?_ _|refine blk_drew ?_|refine blk_alloc ?_ _));exact BK137.out⟩,⟨by (with_reducible repeat (first|refine blk_drewN ?_ _|refine blk_drew ?_|refine blk_alloc ?_ _));refine blk_put (cs:=#[.int .i64 ((rd_T42 l0_0 x4_1).f0),.bool (true),.slice none 0 0]) ?_ 2 _ rfl;(with_reducible repeat (first|refine blk_drewN ?_ _|refine blk_drew ?_|refine blk_alloc ?_ _));refine blk_put (cs:=#[.int .i64 ((rd_T42 l0_0 x4_1).f0),.bool false,.slice none 0 0]) ?_ 1 _ rfl;(with_reducible repeat (first|refine blk_drewN ?_ _|refine blk_drew ?_|refine blk_alloc ?_ _));refine blk_put (cs:=#[.int .i64 0,.bool false,.slice none 0 0]) ?_ 0 _ rfl;(with_reducible repeat (first|refine blk_drewN ?_ _|refine blk_drew ?_|refine blk_alloc ?_ _));exact BK139.out⟩,⟨by repeat (first|(with_reducible first|exact HB.out|apply below_alloc|apply pw_below_drewN|apply below_drew1|refine below_set ?_ GE137.out|refine below_set ?_ GE139.out)|exact HB.out)⟩⟩
        ·rw [if_neg c14] at H
         exact absurd H (by simp)
       ·replace c13:=Bool.eq_false_iff.mpr c13
        subst c13
        have H1:(if ((⟨#[116,32]⟩:ByteArray) ++ t140).size+3≤9223372036854775807 then (coronerref04_Text.j1 k1 x3_1 x4_1 (((⟨#[116,32]⟩:ByteArray) ++ t140) ++ (⟨#[32,99,10]⟩:ByteArray)) l0_0 ((rd_T42 l0_0 x4_1).f0) false ((rd_T42 l0_0 x4_1).f2)) else (none))=some r:=by rw [if_neg (show ¬ (false=true) by decide)] at H;exact H
        clear H
        have H:=H1
        clear H1
        by_cases c15:((⟨#[116,32]⟩:ByteArray) ++ t140).size+3≤9223372036854775807
        ·rw [if_pos c15] at H
         have c15b0:=eq_true c15
         have c15b1:decide (((⟨#[116,32]⟩:ByteArray) ++ t140).size+3≤9223372036854775807)=true:=decide_eq_true c15
         try have c15b2:(9223372036854775807 < ((⟨#[116,32]⟩:ByteArray) ++ t140).size+3)=False:=eq_false (Nat.not_lt.2 c15)
         try (have c15b2z:=c15b2;simp only [ByteArray.size_append,sz_lit,List.size_toArray,List.length_cons,List.length_nil,Nat.zero_add,Nat.reduceAdd] at c15b2z)
         have H':=Aside0.mk H
         clear H
         go_wp2
         repeat (go_quiet (fail);try go_wp2)
         go_meet
         case rel=>(try rw [← Nbq12.out]);exact ⟨_,(((⟨#[116,32]⟩:ByteArray) ++ t140) ++ (⟨#[32,99,10]⟩:ByteArray)),(by first|rfl|(simp;done)|(simp [*];done)),H',⟨by have:=HK1.out;first|omega|exact Nat.le_refl _⟩,⟨by (with_reducible repeat (first|refine blk_drewN ?_ _|refine blk_drew ?_|refine blk_alloc ?_ _));refine blk_far ?_ NB137_139.out _;(with_reducible repeat (first|refine blk_drewN ?_ _|refine blk_drew ?_|refine blk_alloc ?_ _));refine blk_far ?_ NB137_139.out _;(with_reducible repeat (first|refine blk_drewN ?_ _|refine blk_drew ?_|refine blk_alloc ?_ _));refine blk_far ?_ NB137_139.out _;(with_reducible repeat (first|refine blk_drewN ?_ _|refine blk_drew ?_|refine blk_alloc ?_ _));exact BK137.out⟩,⟨by (with_reducible repeat (first|refine blk_drewN ?_ _|refine blk_drew ?_|refine blk_alloc ?_ _));refine blk_put (cs:=#[.int .i64 ((rd_T42 l0_0 x4_1).f0),.bool (false),.slice none 0 0]) ?_ 2 _ rfl;(with_reducible repeat (first|refine blk_drewN ?_ _|refine blk_drew ?_|refine blk_alloc ?_ _));refine blk_put (cs:=#[.int .i64 ((rd_T42 l0_0 x4_1).f0),.bool false,.slice none 0 0]) ?_ 1 _ rfl;(with_reducible repeat (first|refine blk_drewN ?_ _|refine blk_drew ?_|refine blk_alloc ?_ _));refine blk_put (cs:=#[.int .i64 0,.bool false,.slice none 0 0]) ?_ 0 _ rfl;(with_reducible repeat (first|refine blk_drewN ?_ _|refine blk_drew ?_|refine blk_alloc ?_ _));exact BK139.out⟩,⟨by repeat (first|(with_reducible first|exact HB.out|apply below_alloc|apply pw_below_drewN|apply below_drew1|refine below_set ?_ GE137.out|refine below_set ?_ GE139.out)|exact HB.out)⟩⟩
        ·rw [if_neg c15] at H
         exact absurd H (by simp)
      case rest =>
       clear HC7
       try clear c1
       try clear p1
       try clear q1
       try clear hx1
       try clear p2
       try clear c3
       try clear c3b0
       try clear c4
       try clear c4b0
       try clear c6
       try clear c6b0
       try clear c6b1
       try clear c6b2
       try clear c10
       try clear q12
       try clear c13
       try clear p13
       try clear q13
       try clear hx13
       try clear c14
       try clear c14b0
       try clear c14b1
       try clear c14b2
       try clear c15
       try clear c15b0
       try clear c15b1
       try clear c15b2
       try clear hcz11_0
       try clear hcz11_1
       try clear hcz11_2
       try clear hcz8_0
       try clear hfz11_0
       try clear hfz11_1
       try clear hfz11_2
       try clear hfz8_0
       try clear hx138_0
       try clear hx138_1
       try clear hx138_2
       try clear p138
       try clear p2
       try clear q138
       obtain ⟨kq,x6_6,rfl,HA,HJ6,BK137,BK139,HB⟩:=hcut
       cases kq with
       | zero=>exact absurd HA.out (by simp [coronerref04_Text.j1])
       | succ kj6 =>
        have H:=HA.out
        clear HA
        simp only [coronerref04_Text.j1] at H
        have H':=Aside0.mk H
        clear H
        go_wp2
        repeat (go_quiet (fail);try go_wp2)
        go_loopg [6,7] kj6 (fun kq v6 v7 w'=>∃ (x6_3:ByteArray) (x7_3:Int),v6=.string x6_3∧v7=.int .i64 x7_3∧Aside0 (coronerref04_Text.l1 kq x3_1 x4_1 x6_3 x7_3 l0_0 ((rd_T42 l0_0 x4_1).f0) ((rd_T42 l0_0 x4_1).f1) ((rd_T42 l0_0 x4_1).f2)=some r)∧Aside0 (kq≤kj6)∧Aside0 (w'.heap[gb137]?=some (.cells #[(.slice (some ad138) l0_0.length c0_0)] 24 (0,0)))∧Aside0 (w'.heap[gb139]?=some (.cells #[.int .i64 ((rd_T42 l0_0 x4_1).f0),.bool ((rd_T42 l0_0 x4_1).f1),(.slice A138_2 ((rd_T42 l0_0 x4_1).f2).length c138_2)] 42 (0,0)))∧Aside0 (Below w.heap.size w w'))
        case atStart=>exact ⟨(x6_6),(0),(by first|rfl|(simp;done)|(simp [*];done)),(by first|rfl|(simp;done)|(simp [*];done)),H',⟨Nat.le_refl _⟩,⟨by (with_reducible repeat (first|refine blk_drewN ?_ _|refine blk_drew ?_|refine blk_alloc ?_ _));exact BK137.out⟩,⟨by (with_reducible repeat (first|refine blk_drewN ?_ _|refine blk_drew ?_|refine blk_alloc ?_ _));exact BK139.out⟩,⟨by repeat (first|(with_reducible first|exact HB.out|apply below_alloc|apply pw_below_drewN|apply below_drew1|refine below_set ?_ GE137.out|refine below_set ?_ GE139.out)|exact HB.out)⟩⟩
        case round =>
         clear H'
         try clear c1
         try clear p1
         try clear q1
         try clear hx1
         try clear p2
         try clear c3
         try clear c3b0
         try clear c4
         try clear c4b0
         try clear c6
         try clear c6b0
         try clear c6b1
         try clear c6b2
         try clear c10
         try clear q12
         try clear c13
         try clear p13
         try clear q13
         try clear hx13
         try clear c14
         try clear c14b0
         try clear c14b1
         try clear c14b2
         try clear c15
         try clear c15b0
         try clear c15b1
         try clear c15b2
         try clear hcz11_0
         try clear hcz11_1
         try clear hcz11_2
         try clear hcz8_0
         try clear hfz11_0
         try clear hfz11_1
         try clear hfz11_2
         try clear hfz8_0
         try clear hx138_0
         try clear hx138_1
         try clear hx138_2
         try clear p1
         try clear p13
         try clear p138
         try clear p2
         try clear q1
         try clear q12
         try clear q13
         try clear q138
         obtain ⟨x6_3,x7_3,rfl,rfl,HA,HK3,BK137,BK139,HB⟩:=hrel
         cases gk with
         | zero=>exact absurd HA.out (by simp [coronerref04_Text.l1])
         | succ k3 =>
          have H:=HA.out
          clear HA
          simp only [coronerref04_Text.l1] at H
          by_cases c16:x7_3 < (((rd_T42 l0_0 x4_1).f2).length:Int)
          ·rw [if_pos c16] at H
           have c16b0:decide (x7_3 < (((rd_T42 l0_0 x4_1).f2).length:Int))=true:=decide_eq_true c16
           clear c16
           by_cases c17:0≤x7_3
           ·rw [if_pos c17] at H
            have c17b0:decide (0≤x7_3)=true:=decide_eq_true c17
            clear c17
            obtain ⟨bq18,hbq18⟩:∃ b_:Bool,b_=((rd_T39 ((rd_T42 l0_0 x4_1).f2) x7_3).f0):=⟨_,rfl⟩
            replace H:(if bq18=true then (if x6_3.size+2≤9223372036854775807 then ((coronerref04_number.f k3 ((rd_T39 ((rd_T42 l0_0 x4_1).f2) x7_3).f1)).bind fun t143=>(if (x6_3 ++ (⟨#[114,32]⟩:ByteArray)).size+t143.size≤9223372036854775807 then (coronerref04_Text.l2 k3 x3_1 x4_1 ((x6_3 ++ (⟨#[114,32]⟩:ByteArray)) ++ t143) x7_3 0 l0_0 ((rd_T42 l0_0 x4_1).f0) ((rd_T42 l0_0 x4_1).f1) ((rd_T42 l0_0 x4_1).f2) bq18 ((rd_T39 ((rd_T42 l0_0 x4_1).f2) x7_3).f1) ((rd_T39 ((rd_T42 l0_0 x4_1).f2) x7_3).f2) ((rd_T39 ((rd_T42 l0_0 x4_1).f2) x7_3).f3)) else (none))) else (none)) else (if x6_3.size+2≤9223372036854775807 then ((coronerref04_number.f k3 ((rd_T39 ((rd_T42 l0_0 x4_1).f2) x7_3).f1)).bind fun t146=>(if (x6_3 ++ (⟨#[97,32]⟩:ByteArray)).size+t146.size≤9223372036854775807 then (if ((x6_3 ++ (⟨#[97,32]⟩:ByteArray)) ++ t146).size+1≤9223372036854775807 then ((coronerref04_number.f k3 ((rd_T39 ((rd_T42 l0_0 x4_1).f2) x7_3).f2)).bind fun t147=>(if (((x6_3 ++ (⟨#[97,32]⟩:ByteArray)) ++ t146) ++ (⟨#[32]⟩:ByteArray)).size+t147.size≤9223372036854775807 then (if ((((x6_3 ++ (⟨#[97,32]⟩:ByteArray)) ++ t146) ++ (⟨#[32]⟩:ByteArray)) ++ t147).size+1≤9223372036854775807 then (coronerref04_Text.l1 k3 x3_1 x4_1 (((((x6_3 ++ (⟨#[97,32]⟩:ByteArray)) ++ t146) ++ (⟨#[32]⟩:ByteArray)) ++ t147) ++ (⟨#[10]⟩:ByteArray)) (wrap64 (x7_3+1)) l0_0 ((rd_T42 l0_0 x4_1).f0) ((rd_T42 l0_0 x4_1).f1) ((rd_T42 l0_0 x4_1).f2)) else (none)) else (none))) else (none)) else (none))) else (none)))=some r:=by rw [← hbq18] at H;exact H
            have Nbq18:=Aside0.mk hbq18
            clear hbq18
            by_cases c19:bq18=true
            ·subst c19
             have H1:(if x6_3.size+2≤9223372036854775807 then ((coronerref04_number.f k3 ((rd_T39 ((rd_T42 l0_0 x4_1).f2) x7_3).f1)).bind fun t143=>(if (x6_3 ++ (⟨#[114,32]⟩:ByteArray)).size+t143.size≤9223372036854775807 then (coronerref04_Text.l2 k3 x3_1 x4_1 ((x6_3 ++ (⟨#[114,32]⟩:ByteArray)) ++ t143) x7_3 0 l0_0 ((rd_T42 l0_0 x4_1).f0) ((rd_T42 l0_0 x4_1).f1) ((rd_T42 l0_0 x4_1).f2) true ((rd_T39 ((rd_T42 l0_0 x4_1).f2) x7_3).f1) ((rd_T39 ((rd_T42 l0_0 x4_1).f2) x7_3).f2) ((rd_T39 ((rd_T42 l0_0 x4_1).f2) x7_3).f3)) else (none))) else (none))=some r:=by rw [if_pos rfl] at H;exact H
             clear H
             have H:=H1
             clear H1
             by_cases c20:x6_3.size+2≤9223372036854775807
             ·rw [if_pos c20] at H
              have c20b0:=eq_true c20
              have c20b1:decide (x6_3.size+2≤9223372036854775807)=true:=decide_eq_true c20
              try have c20b2:(9223372036854775807 < x6_3.size+2)=False:=eq_false (Nat.not_lt.2 c20)
              try (have c20b2z:=c20b2;simp only [ByteArray.size_append,sz_lit,List.size_toArray,List.length_cons,List.length_nil,Nat.zero_add,Nat.reduceAdd] at c20b2z)
              replace H:=Option.bind_eq_some_iff.mp H
              obtain ⟨t143,A210,H⟩:=H
              replace H:(if (x6_3 ++ (⟨#[114,32]⟩:ByteArray)).size+t143.size≤9223372036854775807 then (coronerref04_Text.l2 k3 x3_1 x4_1 ((x6_3 ++ (⟨#[114,32]⟩:ByteArray)) ++ t143) x7_3 0 l0_0 ((rd_T42 l0_0 x4_1).f0) ((rd_T42 l0_0 x4_1).f1) ((rd_T42 l0_0 x4_1).f2) true ((rd_T39 ((rd_T42 l0_0 x4_1).f2) x7_3).f1) ((rd_T39 ((rd_T42 l0_0 x4_1).f2) x7_3).f2) ((rd_T39 ((rd_T42 l0_0 x4_1).f2) x7_3).f3)) else (none))=some r:=H
              have A21:=Aside0.mk A210
              clear A210
              by_cases c22:(x6_3 ++ (⟨#[114,32]⟩:ByteArray)).size+t143.size≤9223372036854775807
              ·rw [if_pos c22] at H
               have c22b0:=eq_true c22
               have c22b1:decide ((x6_3 ++ (⟨#[114,32]⟩:ByteArray)).size+t143.size≤9223372036854775807)=true:=decide_eq_true c22
               try have c22b2:(9223372036854775807 < (x6_3 ++ (⟨#[114,32]⟩:ByteArray)).size+t143.size)=False:=eq_false (Nat.not_lt.2 c22)
               try (have c22b2z:=c22b2;simp only [ByteArray.size_append,sz_lit,List.size_toArray,List.length_cons,List.length_nil,Nat.zero_add,Nat.reduceAdd] at c22b2z)
               have H':=Aside0.mk H
               clear H
               have hnb23:=NB139_137.out
               have hnc23:=NB137_139.out
               have hcz24_0:wr.cell? ⟨gb139,0,none⟩=some (.int .i64 ((rd_T42 l0_0 x4_1).f0)):=(blk_cell BK139.out 0).trans rfl
               have hcz24_1:wr.cell? ⟨gb139,1,none⟩=some (.bool ((rd_T42 l0_0 x4_1).f1)):=(blk_cell BK139.out 1).trans rfl
               have hcz24_2:wr.cell? ⟨gb139,2,none⟩=some (.slice A138_2 ((rd_T42 l0_0 x4_1).f2).length c138_2):=(blk_cell BK139.out 2).trans rfl
               have hfz24_0:=blk_frozen BK139.out 0
               have hfz24_1:=blk_frozen BK139.out 1
               have hfz24_2:=blk_frozen BK139.out 2
               have p141:0≤(x7_3:Int):=of_decide_eq_true (by first|(with_reducible assumption)|assumption)
               have q141:x7_3 < (((rd_T42 l0_0 x4_1).f2).length:Int):=of_decide_eq_true (by first|(with_reducible assumption)|assumption)
               obtain ⟨ad141,A141_3,c141_3,e141,hx141_0,hx141_1,hx141_2,hx141_3,hl141_3,hi141_3⟩:=at_T39 HR138_2.out x7_3 p141 q141
               (try rw [← Nbq18.out] at hx141_0)
               cases e141
               replace hx141_0:=(HB.out.cell (World.block_lt_of_cell? w _ hx141_0)).trans hx141_0
               replace hx141_1:=(HB.out.cell (World.block_lt_of_cell? w _ hx141_1)).trans hx141_1
               replace hx141_2:=(HB.out.cell (World.block_lt_of_cell? w _ hx141_2)).trans hx141_2
               replace hx141_3:=(HB.out.cell (World.block_lt_of_cell? w _ hx141_3)).trans hx141_3
               have HR141_3:=Aside0.mk hi141_3
               have HC141_3:=Aside0.mk hl141_3
               clear hi141_3 hl141_3
               replace p141:=eq_true p141
               replace q141:=eq_true q141
               go_wp2_with (first|((with_reducible refine gate_dst (N:=8) rfl ?_);refine box_event ?hg (N:=8) ?hd (cs:=#[.bool false,.int .i64 0,.int .i64 0,.slice none 0 0]) (t:=39) ?hr ?_;(case hd=>rfl);(case hg=>rfl);(case hr=>first|(go_simp;done)|(go_simp;rfl));intro gb142 hg w25 hbox hb;have n0_:=Aside0.mk (blk_below (g:=gb137) (o:=.cells #[.slice (some ad138) l0_0.length c0_0] 24 (0,0)) (by (with_reducible repeat (first|refine blk_drewN ?_ _|refine blk_drew ?_|refine blk_alloc ?_ _));exact BK137.out) hb);have n1_:=Aside0.mk (blk_below (g:=gb139) (o:=.cells #[.int .i64 ((rd_T42 l0_0 x4_1).f0),.bool ((rd_T42 l0_0 x4_1).f1),.slice (some ad141) ((rd_T42 l0_0 x4_1).f2).length c138_2] 42 (0,0)) (by (with_reducible repeat (first|refine blk_drewN ?_ _|refine blk_drew ?_|refine blk_alloc ?_ _));exact BK139.out) hb);have n2_:=Aside0.mk (below_step (by repeat (first|(with_reducible first|exact HB.out|apply below_alloc|apply pw_below_drewN|apply below_drew1|refine below_set ?_ GE137.out|refine below_set ?_ GE139.out)|exact HB.out)) hb);have n3_:=Aside0.mk (hbox);have n4_:=Aside0.mk ((by rw [hg];exact (below_size (by repeat (first|(with_reducible first|exact HB.out|apply below_alloc|apply pw_below_drewN|apply below_drew1|refine below_set ?_ GE137.out|refine below_set ?_ GE139.out)|exact HB.out))):w.heap.size≤gb142));have n5_:=Aside0.mk ((by rw [hg];exact (below_size (by repeat (first|(with_reducible first|exact HB.out|apply below_alloc|apply pw_below_drewN|apply below_drew1|refine below_set ?_ GE137.out|refine below_set ?_ GE139.out)|exact HB.out))):w.heap.size≤gb142));have n6_:=Aside0.mk ((by rw [hg];exact Nat.ne_of_lt (blk_lt (g:=gb137) (o:=.cells #[.slice (some ad138) l0_0.length c0_0] 24 (0,0)) (by (with_reducible repeat (first|refine blk_drewN ?_ _|refine blk_drew ?_|refine blk_alloc ?_ _));exact BK137.out)):gb137 ≠ gb142));have n7_:=Aside0.mk ((by rw [hg];exact Nat.ne_of_gt (blk_lt (g:=gb137) (o:=.cells #[.slice (some ad138) l0_0.length c0_0] 24 (0,0)) (by (with_reducible repeat (first|refine blk_drewN ?_ _|refine blk_drew ?_|refine blk_alloc ?_ _));exact BK137.out)):gb142 ≠ gb137));have n8_:=Aside0.mk ((by rw [hg];exact Nat.ne_of_lt (blk_lt (g:=gb139) (o:=.cells #[.int .i64 ((rd_T42 l0_0 x4_1).f0),.bool ((rd_T42 l0_0 x4_1).f1),.slice (some ad141) ((rd_T42 l0_0 x4_1).f2).length c138_2] 42 (0,0)) (by (with_reducible repeat (first|refine blk_drewN ?_ _|refine blk_drew ?_|refine blk_alloc ?_ _));exact BK139.out)):gb139 ≠ gb142));have n9_:=Aside0.mk ((by rw [hg];exact Nat.ne_of_gt (blk_lt (g:=gb139) (o:=.cells #[.int .i64 ((rd_T42 l0_0 x4_1).f0),.bool ((rd_T42 l0_0 x4_1).f1),.slice (some ad141) ((rd_T42 l0_0 x4_1).f2).length c138_2] 42 (0,0)) (by (with_reducible repeat (first|refine blk_drewN ?_ _|refine blk_drew ?_|refine blk_alloc ?_ _));exact BK139.out)):gb142 ≠ gb139));clear BK137;clear BK139;clear HB;have BK137:=n0_;have BK139:=n1_;have HB:=n2_;have BK142:=n3_;have GW142:=n4_;have GE142:=n5_;have NB137_142:=n6_;have NB142_137:=n7_;have NB139_142:=n8_;have NB142_139:=n9_;clear n0_ n1_ n2_ n3_ n4_ n5_ n6_ n7_ n8_ n9_;clear hb hbox hg;have hnb26:=NB142_137.out;have hnc26:=NB137_142.out;have hnb27:=NB142_139.out;have hnc27:=NB139_142.out;have hcz28_0:w25.cell? ⟨gb142,0,none⟩=some (.bool false):=(blk_cell BK142.out 0).trans rfl;have hcz28_1:w25.cell? ⟨gb142,1,none⟩=some (.int .i64 0):=(blk_cell BK142.out 1).trans rfl;have hcz28_2:w25.cell? ⟨gb142,2,none⟩=some (.int .i64 0):=(blk_cell BK142.out 2).trans rfl;have hcz28_3:w25.cell? ⟨gb142,3,none⟩=some (.slice none 0 0):=(blk_cell BK142.out 3).trans rfl;have hfz28_0:=blk_frozen BK142.out 0;have hfz28_1:=blk_frozen BK142.out 1;have hfz28_2:=blk_frozen BK142.out 2;have hfz28_3:=blk_frozen BK142.out 3)|(go_at_call 32;(with_reducible refine (coronerref04_number.calls k3 ((rd_T39 ((rd_T42 l0_0 x4_1).f2) x7_3).f1) t143 _ A21.out).mono ?_);rintro e w' ⟨rfl,⟨nd,rfl⟩⟩;(try first|exact ⟨rfl,_,World.drewN_drewN _ _ _⟩|exact ⟨rfl,_,Eq.trans (World.drewN_drewN _ _ _) (congrArg (World.drewN _) (Nat.add_assoc _ _ _))⟩)))
               repeat (go_quiet (first|((with_reducible refine gate_dst (N:=8) rfl ?_);refine box_event ?hg (N:=8) ?hd (cs:=#[.bool false,.int .i64 0,.int .i64 0,.slice none 0 0]) (t:=39) ?hr ?_;(case hd=>rfl);(case hg=>rfl);(case hr=>first|(go_simp;done)|(go_simp;rfl));intro gb142 hg w25 hbox hb;have n0_:=Aside0.mk (blk_below (g:=gb137) (o:=.cells #[.slice (some ad138) l0_0.length c0_0] 24 (0,0)) (by (with_reducible repeat (first|refine blk_drewN ?_ _|refine blk_drew ?_|refine blk_alloc ?_ _));exact BK137.out) hb);have n1_:=Aside0.mk (blk_below (g:=gb139) (o:=.cells #[.int .i64 ((rd_T42 l0_0 x4_1).f0),.bool ((rd_T42 l0_0 x4_1).f1),.slice (some ad141) ((rd_T42 l0_0 x4_1).f2).length c138_2] 42 (0,0)) (by (with_reducible repeat (first|refine blk_drewN ?_ _|refine blk_drew ?_|refine blk_alloc ?_ _));exact BK139.out) hb);have n2_:=Aside0.mk (below_step (by repeat (first|(with_reducible first|exact HB.out|apply below_alloc|apply pw_below_drewN|apply below_drew1|refine below_set ?_ GE137.out|refine below_set ?_ GE139.out)|exact HB.out)) hb);have n3_:=Aside0.mk (hbox);have n4_:=Aside0.mk ((by rw [hg];exact (below_size (by repeat (first|(with_reducible first|exact HB.out|apply below_alloc|apply pw_below_drewN|apply below_drew1|refine below_set ?_ GE137.out|refine below_set ?_ GE139.out)|exact HB.out))):w.heap.size≤gb142));have n5_:=Aside0.mk ((by rw [hg];exact (below_size (by repeat (first|(with_reducible first|exact HB.out|apply below_alloc|apply pw_below_drewN|apply below_drew1|refine below_set ?_ GE137.out|refine below_set ?_ GE139.out)|exact HB.out))):w.heap.size≤gb142));have n6_:=Aside0.mk ((by rw [hg];exact Nat.ne_of_lt (blk_lt (g:=gb137) (o:=.cells #[.slice (some ad138) l0_0.length c0_0] 24 (0,0)) (by (with_reducible repeat (first|refine blk_drewN ?_ _|refine blk_drew ?_|refine blk_alloc ?_ _));exact BK137.out)):gb137 ≠ gb142));have n7_:=Aside0.mk ((by rw [hg];exact Nat.ne_of_gt (blk_lt (g:=gb137) (o:=.cells #[.slice (some ad138) l0_0.length c0_0] 24 (0,0)) (by (with_reducible repeat (first|refine blk_drewN ?_ _|refine blk_drew ?_|refine blk_alloc ?_ _));exact BK137.out)):gb142 ≠ gb137));have n8_:=Aside0.mk ((by rw [hg];exact Nat.ne_of_lt (blk_lt (g:=gb139) (o:=.cells #[.int .i64 ((rd_T42 l0_0 x4_1).f0),.bool ((rd_T42 l0_0 x4_1).f1),.slice (some ad141) ((rd_T42 l0_0 x4_1).f2).length c138_2] 42 (0,0)) (by (with_reducible repeat (first|refine blk_drewN ?_ _|refine blk_drew ?_|refine blk_alloc ?_ _));exact BK139.out)):gb139 ≠ gb142));have n9_:=Aside0.mk ((by rw [hg];exact Nat.ne_of_gt (blk_lt (g:=gb139) (o:=.cells #[.int .i64 ((rd_T42 l0_0 x4_1).f0),.bool ((rd_T42 l0_0 x4_1).f1),.slice (some ad141) ((rd_T42 l0_0 x4_1).f2).length c138_2] 42 (0,0)) (by (with_reducible repeat (first|refine blk_drewN ?_ _|refine blk_drew ?_|refine blk_alloc ?_ _));exact BK139.out)):gb142 ≠ gb139));clear BK137;clear BK139;clear HB;have BK137:=n0_;have BK139:=n1_;have HB:=n2_;have BK142:=n3_;have GW142:=n4_;have GE142:=n5_;have NB137_142:=n6_;have NB142_137:=n7_;have NB139_142:=n8_;have NB142_139:=n9_;clear n0_ n1_ n2_ n3_ n4_ n5_ n6_ n7_ n8_ n9_;clear hb hbox hg;have hnb26:=NB142_137.out;have hnc26:=NB137_142.out;have hnb27:=NB142_139.out;have hnc27:=NB139_142.out;have hcz28_0:w25.cell? ⟨gb142,0,none⟩=some (.bool false):=(blk_cell BK142.out 0).trans rfl;have hcz28_1:w25.cell? ⟨gb142,1,none⟩=some (.int .i64 0):=(blk_cell BK142.out 1).trans rfl;have hcz28_2:w25.cell? ⟨gb142,2,none⟩=some (.int .i64 0):=(blk_cell BK142.out 2).trans rfl;have hcz28_3:w25.cell? ⟨gb142,3,none⟩=some (.slice none 0 0):=(blk_cell BK142.out 3).trans rfl;have hfz28_0:=blk_frozen BK142.out 0;have hfz28_1:=blk_frozen BK142.out 1;have hfz28_2:=blk_frozen BK142.out 2;have hfz28_3:=blk_frozen BK142.out 3)|(go_at_call 32;(with_reducible refine (coronerref04_number.calls k3 ((rd_T39 ((rd_T42 l0_0 x4_1).f2) x7_3).f1) t143 _ A21.out).mono ?_);rintro e w' ⟨rfl,⟨nd,rfl⟩⟩;(try first|exact ⟨rfl,_,World.drewN_drewN _ _ _⟩|exact ⟨rfl,_,Eq.trans (World.drewN_drewN _ _ _) (congrArg (World.drewN _) (Nat.add_assoc _ _ _))⟩)));try go_wp2_with (first|((with_reducible refine gate_dst (N:=8) rfl ?_);refine box_event ?hg (N:=8) ?hd (cs:=#[.bool false,.int .i64 0,.int .i64 0,.slice none 0 0]) (t:=39) ?hr ?_;(case hd=>rfl);(case hg=>rfl);(case hr=>first|(go_simp;done)|(go_simp;rfl));intro gb142 hg w25 hbox hb;have n0_:=Aside0.mk (blk_below (g:=gb137) (o:=.cells #[.slice (some ad138) l0_0.length c0_0] 24 (0,0)) (by (with_reducible repeat (first|refine blk_drewN ?_ _|refine blk_drew ?_|refine blk_alloc ?_ _));exact BK137.out) hb);have n1_:=Aside0.mk (blk_below (g:=gb139) (o:=.cells #[.int .i64 ((rd_T42 l0_0 x4_1).f0),.bool ((rd_T42 l0_0 x4_1).f1),.slice (some ad141) ((rd_T42 l0_0 x4_1).f2).length c138_2] 42 (0,0)) (by (with_reducible repeat (first|refine blk_drewN ?_ _|refine blk_drew ?_|refine blk_alloc ?_ _));exact BK139.out) hb);have n2_:=Aside0.mk (below_step (by repeat (first|(with_reducible first|exact HB.out|apply below_alloc|apply pw_below_drewN|apply below_drew1|refine below_set ?_ GE137.out|refine below_set ?_ GE139.out)|exact HB.out)) hb);have n3_:=Aside0.mk (hbox);have n4_:=Aside0.mk ((by rw [hg];exact (below_size (by repeat (first|(with_reducible first|exact HB.out|apply below_alloc|apply pw_below_drewN|apply below_drew1|refine below_set ?_ GE137.out|refine below_set ?_ GE139.out)|exact HB.out))):w.heap.size≤gb142));have n5_:=Aside0.mk ((by rw [hg];exact (below_size (by repeat (first|(with_reducible first|exact HB.out|apply below_alloc|apply pw_below_drewN|apply below_drew1|refine below_set ?_ GE137.out|refine below_set ?_ GE139.out)|exact HB.out))):w.heap.size≤gb142));have n6_:=Aside0.mk ((by rw [hg];exact Nat.ne_of_lt (blk_lt (g:=gb137) (o:=.cells #[.slice (some ad138) l0_0.length c0_0] 24 (0,0)) (by (with_reducible repeat (first|refine blk_drewN ?_ _|refine blk_drew ?_|refine blk_alloc ?_ _));exact BK137.out)):gb137 ≠ gb142));have n7_:=Aside0.mk ((by rw [hg];exact Nat.ne_of_gt (blk_lt (g:=gb137) (o:=.cells #[.slice (some ad138) l0_0.length c0_0] 24 (0,0)) (by (with_reducible repeat (first|refine blk_drewN ?_ _|refine blk_drew ?_|refine blk_alloc ?_ _));exact BK137.out)):gb142 ≠ gb137));have n8_:=Aside0.mk ((by rw [hg];exact Nat.ne_of_lt (blk_lt (g:=gb139) (o:=.cells #[.int .i64 ((rd_T42 l0_0 x4_1).f0),.bool ((rd_T42 l0_0 x4_1).f1),.slice (some ad141) ((rd_T42 l0_0 x4_1).f2).length c138_2] 42 (0,0)) (by (with_reducible repeat (first|refine blk_drewN ?_ _|refine blk_drew ?_|refine blk_alloc ?_ _));exact BK139.out)):gb139 ≠ gb142));have n9_:=Aside0.mk ((by rw [hg];exact Nat.ne_of_gt (blk_lt (g:=gb139) (o:=.cells #[.int .i64 ((rd_T42 l0_0 x4_1).f0),.bool ((rd_T42 l0_0 x4_1).f1),.slice (some ad141) ((rd_T42 l0_0 x4_1).f2).length c138_2] 42 (0,0)) (by (with_reducible repeat (first|refine blk_drewN ?_ _|refine blk_drew ?_|refine blk_alloc ?_ _));exact BK139.out)):gb142 ≠ gb139));clear BK137;clear BK139;clear HB;have BK137:=n0_;have BK139:=n1_;have HB:=n2_;have BK142:=n3_;have GW142:=n4_;have GE142:=n5_;have NB137_142:=n6_;have NB142_137:=n7_;have NB139_142:=n8_;have NB142_139:=n9_;clear n0_ n1_ n2_ n3_ n4_ n5_ n6_ n7_ n8_ n9_;clear hb hbox hg;have hnb26:=NB142_137.out;have hnc26:=NB137_142.out;have hnb27:=NB142_139.out;have hnc27:=NB139_142.out;have hcz28_0:w25.cell? ⟨gb142,0,none⟩=some (.bool false):=(blk_cell BK142.out 0).trans rfl;have hcz28_1:w25.cell? ⟨gb142,1,none⟩=some (.int .i64 0):=(blk_cell BK142.out 1).trans rfl;have hcz28_2:w25.cell? ⟨gb142,2,none⟩=some (.int .i64 0):=(blk_cell BK142.out 2).trans rfl;have hcz28_3:w25.cell? ⟨gb142,3,none⟩=some (.slice none 0 0):=(blk_cell BK142.out 3).trans rfl;have hfz28_0:=blk_frozen BK142.out 0;have hfz28_1:=blk_frozen BK142.out 1;have hfz28_2:=blk_frozen BK142.out 2;have hfz28_3:=blk_frozen BK142.out 3)|(go_at_call 32;(with_reducible refine (coronerref04_number.calls k3 ((rd_T39 ((rd_T42 l0_0 x4_1).f2) x7_3).f1) t143 _ A21.out).mono ?_);rintro e w' ⟨rfl,⟨nd,rfl⟩⟩;(try first|exact ⟨rfl,_,World.drewN_drewN _ _ _⟩|exact ⟨rfl,_,Eq.trans (World.drewN_drewN _ _ _) (congrArg (World.drewN _) (Nat.add_assoc _ _ _))⟩))))
               go_loopg [6,9] k3 (fun kq v6 v9 w'=>∃ (x6_4:ByteArray) (x9_4:Int),v6=.string x6_4∧v9=.int .i64 x9_4∧Aside0 (coronerref04_Text.l2 kq x3_1 x4_1 x6_4 x7_3 x9_4 l0_0 ((rd_T42 l0_0 x4_1).f0) ((rd_T42 l0_0 x4_1).f1) ((rd_T42 l0_0 x4_1).f2) true ((rd_T39 ((rd_T42 l0_0 x4_1).f2) x7_3).f1) ((rd_T39 ((rd_T42 l0_0 x4_1).f2) x7_3).f2) ((rd_T39 ((rd_T42 l0_0 x4_1).f2) x7_3).f3)=some r)∧Aside0 (kq≤k3)∧Aside0 (w'.heap[gb137]?=some (.cells #[(.slice (some ad138) l0_0.length c0_0)] 24 (0,0)))∧Aside0 (w'.heap[gb139]?=some (.cells #[.int .i64 ((rd_T42 l0_0 x4_1).f0),.bool ((rd_T42 l0_0 x4_1).f1),(.slice (some ad141) ((rd_T42 l0_0 x4_1).f2).length c138_2)] 42 (0,0)))∧Aside0 (w'.heap[gb142]?=some (.cells #[.bool true,.int .i64 ((rd_T39 ((rd_T42 l0_0 x4_1).f2) x7_3).f1),.int .i64 ((rd_T39 ((rd_T42 l0_0 x4_1).f2) x7_3).f2),(.slice A141_3 ((rd_T39 ((rd_T42 l0_0 x4_1).f2) x7_3).f3).length c141_3)] 39 (0,0)))∧Aside0 (Below w.heap.size w w'))
               case atStart=>exact ⟨((x6_3 ++ (⟨#[114,32]⟩:ByteArray)) ++ t143),(0),(by first|rfl|(simp;done)|(simp [*];done)),(by first|rfl|(simp;done)|(simp [*];done)),H',⟨Nat.le_refl _⟩,⟨by (with_reducible repeat (first|refine blk_drewN ?_ _|refine blk_drew ?_|refine blk_alloc ?_ _));refine blk_far ?_ NB137_142.out _;(with_reducible repeat (first|refine blk_drewN ?_ _|refine blk_drew ?_|refine blk_alloc ?_ _));refine blk_far ?_ NB137_142.out _;(with_reducible repeat (first|refine blk_drewN ?_ _|refine blk_drew ?_|refine blk_alloc ?_ _));refine blk_far ?_ NB137_142.out _;(with_reducible repeat (first|refine blk_drewN ?_ _|refine blk_drew ?_|refine blk_alloc ?_ _));refine blk_far ?_ NB137_142.out _;(with_reducible repeat (first|refine blk_drewN ?_ _|refine blk_drew ?_|refine blk_alloc ?_ _));exact BK137.out⟩,⟨by (with_reducible repeat (first|refine blk_drewN ?_ _|refine blk_drew ?_|refine blk_alloc ?_ _));refine blk_far ?_ NB139_142.out _;(with_reducible repeat (first|refine blk_drewN ?_ _|refine blk_drew ?_|refine blk_alloc ?_ _));refine blk_far ?_ NB139_142.out _;(with_reducible repeat (first|refine blk_drewN ?_ _|refine blk_drew ?_|refine blk_alloc ?_ _));refine blk_far ?_ NB139_142.out _;(with_reducible repeat (first|refine blk_drewN ?_ _|refine blk_drew ?_|refine blk_alloc ?_ _));refine blk_far ?_ NB139_142.out _;(with_reducible repeat (first|refine blk_drewN ?_ _|refine blk_drew ?_|refine blk_alloc ?_ _));exact BK139.out⟩,⟨by (with_reducible repeat (first|refine blk_drewN ?_ _|refine blk_drew ?_|refine blk_alloc ?_ _));refine blk_put (cs:=#[.bool true,.int .i64 ((rd_T39 ((rd_T42 l0_0 x4_1).f2) x7_3).f1),.int .i64 ((rd_T39 ((rd_T42 l0_0 x4_1).f2) x7_3).f2),.slice none 0 0]) ?_ 3 _ rfl;(with_reducible repeat (first|refine blk_drewN ?_ _|refine blk_drew ?_|refine blk_alloc ?_ _));refine blk_put (cs:=#[.bool true,.int .i64 ((rd_T39 ((rd_T42 l0_0 x4_1).f2) x7_3).f1),.int .i64 0,.slice none 0 0]) ?_ 2 _ rfl;(with_reducible repeat (first|refine blk_drewN ?_ _|refine blk_drew ?_|refine blk_alloc ?_ _));refine blk_put (cs:=#[.bool true,.int .i64 0,.int .i64 0,.slice none 0 0]) ?_ 1 _ rfl;(with_reducible repeat (first|refine blk_drewN ?_ _|refine blk_drew ?_|refine blk_alloc ?_ _));refine blk_put (cs:=#[.bool false,.int .i64 0,.int .i64 0,.slice none 0 0]) ?_ 0 _ rfl;(with_reducible repeat (first|refine blk_drewN ?_ _|refine blk_drew ?_|refine blk_alloc ?_ _));exact BK142.out⟩,⟨by repeat (first|(with_reducible first|exact HB.out|apply below_alloc|apply pw_below_drewN|apply below_drew1|refine below_set ?_ GE137.out|refine below_set ?_ GE139.out|refine below_set ?_ GE142.out)|exact HB.out)⟩⟩
               case round =>
                clear H'
                try clear c1
                try clear p1
                try clear q1
                try clear hx1
                try clear c2
                try clear p2
                try clear c3
                try clear c3b0
                try clear c4
                try clear c4b0
                try clear c6
                try clear c6b0
                try clear c6b1
                try clear c6b2
                try clear p6
                try clear c10
                try clear q12
                try clear c13
                try clear p13
                try clear q13
                try clear hx13
                try clear c14
                try clear c14b0
                try clear c14b1
                try clear c14b2
                try clear p14
                try clear q14
                try clear hx14
                try clear c15
                try clear c15b0
                try clear c15b1
                try clear c15b2
                try clear c16
                try clear c16b0
                try clear c17
                try clear c17b0
                try clear c18
                try clear q18
                try clear c19
                try clear c20
                try clear c20b0
                try clear c20b1
                try clear c20b2
                try clear c22
                try clear c22b0
                try clear c22b1
                try clear c22b2
                try clear c23
                try clear c26
                try clear c27
                try clear hcz11_0
                try clear hcz11_1
                try clear hcz11_2
                try clear hcz24_0
                try clear hcz24_1
                try clear hcz24_2
                try clear hcz28_0
                try clear hcz28_1
                try clear hcz28_2
                try clear hcz28_3
                try clear hcz8_0
                try clear hfz11_0
                try clear hfz11_1
                try clear hfz11_2
                try clear hfz24_0
                try clear hfz24_1
                try clear hfz24_2
                try clear hfz28_0
                try clear hfz28_1
                try clear hfz28_2
                try clear hfz28_3
                try clear hfz8_0
                try clear hx138_0
                try clear hx138_1
                try clear hx138_2
                try clear hx141_0
                try clear hx141_1
                try clear hx141_2
                try clear hx141_3
                try clear p1
                try clear p13
                try clear p138
                try clear p141
                try clear p2
                try clear q1
                try clear q12
                try clear q13
                try clear q138
                try clear q141
                obtain ⟨x6_4,x9_4,rfl,rfl,HA,HK4,BK137,BK139,BK142,HB⟩:=hrel
                cases gk with
                | zero=>exact absurd HA.out (by simp [coronerref04_Text.l2])
                | succ k4 =>
                 have H:=HA.out
                 clear HA
                 simp only [coronerref04_Text.l2] at H
                 by_cases c29:x9_4 < (((rd_T39 ((rd_T42 l0_0 x4_1).f2) x7_3).f3).length:Int)
                 ·rw [if_pos c29] at H
                  have c29b0:decide (x9_4 < (((rd_T39 ((rd_T42 l0_0 x4_1).f2) x7_3).f3).length:Int))=true:=decide_eq_true c29
                  clear c29
                  by_cases c30:x6_4.size+1≤9223372036854775807
                  ·rw [if_pos c30] at H
                   have c30b0:=eq_true c30
                   have c30b1:decide (x6_4.size+1≤9223372036854775807)=true:=decide_eq_true c30
                   try have c30b2:(9223372036854775807 < x6_4.size+1)=False:=eq_false (Nat.not_lt.2 c30)
                   try (have c30b2z:=c30b2;simp only [ByteArray.size_append,sz_lit,List.size_toArray,List.length_cons,List.length_nil,Nat.zero_add,Nat.reduceAdd] at c30b2z)
                   by_cases c31:0≤x9_4
                   ·rw [if_pos c31] at H
                    have c31b0:decide (0≤x9_4)=true:=decide_eq_true c31
                    clear c31
                    replace H:=Option.bind_eq_some_iff.mp H
                    obtain ⟨t145,A320,H⟩:=H
                    replace H:(if (x6_4 ++ (⟨#[32]⟩:ByteArray)).size+t145.size≤9223372036854775807 then (coronerref04_Text.l2 k4 x3_1 x4_1 ((x6_4 ++ (⟨#[32]⟩:ByteArray)) ++ t145) x7_3 (wrap64 (x9_4+1)) l0_0 ((rd_T42 l0_0 x4_1).f0) ((rd_T42 l0_0 x4_1).f1) ((rd_T42 l0_0 x4_1).f2) true ((rd_T39 ((rd_T42 l0_0 x4_1).f2) x7_3).f1) ((rd_T39 ((rd_T42 l0_0 x4_1).f2) x7_3).f2) ((rd_T39 ((rd_T42 l0_0 x4_1).f2) x7_3).f3)) else (none))=some r:=H
                    have A32:=Aside0.mk A320
                    clear A320
                    by_cases c33:(x6_4 ++ (⟨#[32]⟩:ByteArray)).size+t145.size≤9223372036854775807
                    ·rw [if_pos c33] at H
                     have c33b0:=eq_true c33
                     have c33b1:decide ((x6_4 ++ (⟨#[32]⟩:ByteArray)).size+t145.size≤9223372036854775807)=true:=decide_eq_true c33
                     try have c33b2:(9223372036854775807 < (x6_4 ++ (⟨#[32]⟩:ByteArray)).size+t145.size)=False:=eq_false (Nat.not_lt.2 c33)
                     try (have c33b2z:=c33b2;simp only [ByteArray.size_append,sz_lit,List.size_toArray,List.length_cons,List.length_nil,Nat.zero_add,Nat.reduceAdd] at c33b2z)
                     have H':=Aside0.mk H
                     clear H
                     have hnb34:=NB142_137.out
                     have hnc34:=NB137_142.out
                     have hnb35:=NB142_139.out
                     have hnc35:=NB139_142.out
                     have hcz36_0:wr.cell? ⟨gb142,0,none⟩=some (.bool true):=(blk_cell BK142.out 0).trans rfl
                     have hcz36_1:wr.cell? ⟨gb142,1,none⟩=some (.int .i64 ((rd_T39 ((rd_T42 l0_0 x4_1).f2) x7_3).f1)):=(blk_cell BK142.out 1).trans rfl
                     have hcz36_2:wr.cell? ⟨gb142,2,none⟩=some (.int .i64 ((rd_T39 ((rd_T42 l0_0 x4_1).f2) x7_3).f2)):=(blk_cell BK142.out 2).trans rfl
                     have hcz36_3:wr.cell? ⟨gb142,3,none⟩=some (.slice A141_3 ((rd_T39 ((rd_T42 l0_0 x4_1).f2) x7_3).f3).length c141_3):=(blk_cell BK142.out 3).trans rfl
                     have hfz36_0:=blk_frozen BK142.out 0
                     have hfz36_1:=blk_frozen BK142.out 1
                     have hfz36_2:=blk_frozen BK142.out 2
                     have hfz36_3:=blk_frozen BK142.out 3
                     have p144:0≤(x9_4:Int):=of_decide_eq_true (by first|(with_reducible assumption)|assumption)
                     have q144:x9_4 < (((rd_T39 ((rd_T42 l0_0 x4_1).f2) x7_3).f3).length:Int):=of_decide_eq_true (by first|(with_reducible assumption)|assumption)
                     obtain ⟨ad144,e144,hx144_0⟩:=Kd.at_int HR141_3.out x9_4 p144 q144
                     cases e144
                     replace hx144_0:=(HB.out.cell (World.block_lt_of_cell? w _ hx144_0)).trans hx144_0
                     replace p144:=eq_true p144
                     replace q144:=eq_true q144
                     go_wp2_with (first|(go_at_call 32;(with_reducible refine (coronerref04_number.calls k4 (rd ((rd_T39 ((rd_T42 l0_0 x4_1).f2) x7_3).f3) x9_4) t145 _ A32.out).mono ?_);rintro e w' ⟨rfl,⟨nd,rfl⟩⟩;(try first|exact ⟨rfl,_,World.drewN_drewN _ _ _⟩|exact ⟨rfl,_,Eq.trans (World.drewN_drewN _ _ _) (congrArg (World.drewN _) (Nat.add_assoc _ _ _))⟩)))
                     repeat (go_quiet (first|(go_at_call 32;(with_reducible refine (coronerref04_number.calls k4 (rd ((rd_T39 ((rd_T42 l0_0 x4_1).f2) x7_3).f3) x9_4) t145 _ A32.out).mono ?_);rintro e w' ⟨rfl,⟨nd,rfl⟩⟩;(try first|exact ⟨rfl,_,World.drewN_drewN _ _ _⟩|exact ⟨rfl,_,Eq.trans (World.drewN_drewN _ _ _) (congrArg (World.drewN _) (Nat.add_assoc _ _ _))⟩)));try go_wp2_with (first|(go_at_call 32;(with_reducible refine (coronerref04_number.calls k4 (rd ((rd_T39 ((rd_T42 l0_0 x4_1).f2) x7_3).f3) x9_4) t145 _ A32.out).mono ?_);rintro e w' ⟨rfl,⟨nd,rfl⟩⟩;(try first|exact ⟨rfl,_,World.drewN_drewN _ _ _⟩|exact ⟨rfl,_,Eq.trans (World.drewN_drewN _ _ _) (congrArg (World.drewN _) (Nat.add_assoc _ _ _))⟩))))
                     go_roundg k4
                     case measure=>have:=HK1.out;have:=HJ6.out;have:=HK3.out;have:=HK4.out;omega
                     case rel=>exact ⟨((x6_4 ++ (⟨#[32]⟩:ByteArray)) ++ t145),(wrap64 (x9_4+1)),(by first|rfl|(simp;done)|(simp [*];done)),(by first|rfl|(simp;done)|(simp [*];done)),H',⟨by have:=HK1.out;have:=HJ6.out;have:=HK3.out;have:=HK4.out;omega⟩,⟨by (with_reducible repeat (first|refine blk_drewN ?_ _|refine blk_drew ?_|refine blk_alloc ?_ _));exact BK137.out⟩,⟨by (with_reducible repeat (first|refine blk_drewN ?_ _|refine blk_drew ?_|refine blk_alloc ?_ _));exact BK139.out⟩,⟨by (with_reducible repeat (first|refine blk_drewN ?_ _|refine blk_drew ?_|refine blk_alloc ?_ _));exact BK142.out⟩,⟨by repeat (first|(with_reducible first|exact HB.out|apply below_alloc|apply pw_below_drewN|apply below_drew1|refine below_set ?_ GE137.out|refine below_set ?_ GE139.out|refine below_set ?_ GE142.out)|exact HB.out)⟩⟩
                    ·rw [if_neg c33] at H
                     exact absurd H (by simp)
                   ·rw [if_neg c31] at H
                    exact absurd H (by simp)
                  ·rw [if_neg c30] at H
                   exact absurd H (by simp)
                 ·rw [if_neg c29] at H
                  have c29b0:decide (x9_4 < (((rd_T39 ((rd_T42 l0_0 x4_1).f2) x7_3).f3).length:Int))=false:=decide_eq_false c29
                  clear c29
                  by_cases c37:x6_4.size+1≤9223372036854775807
                  ·rw [if_pos c37] at H
                   have c37b0:=eq_true c37
                   have c37b1:decide (x6_4.size+1≤9223372036854775807)=true:=decide_eq_true c37
                   try have c37b2:(9223372036854775807 < x6_4.size+1)=False:=eq_false (Nat.not_lt.2 c37)
                   try (have c37b2z:=c37b2;simp only [ByteArray.size_append,sz_lit,List.size_toArray,List.length_cons,List.length_nil,Nat.zero_add,Nat.reduceAdd] at c37b2z)
                   have H':=Aside0.mk H
                   clear H
                   have hnb38:=NB142_137.out
                   have hnc38:=NB137_142.out
                   have hnb39:=NB142_139.out
                   have hnc39:=NB139_142.out
                   have hcz40_0:wr.cell? ⟨gb142,0,none⟩=some (.bool true):=(blk_cell BK142.out 0).trans rfl
                   have hcz40_1:wr.cell? ⟨gb142,1,none⟩=some (.int .i64 ((rd_T39 ((rd_T42 l0_0 x4_1).f2) x7_3).f1)):=(blk_cell BK142.out 1).trans rfl
                   have hcz40_2:wr.cell? ⟨gb142,2,none⟩=some (.int .i64 ((rd_T39 ((rd_T42 l0_0 x4_1).f2) x7_3).f2)):=(blk_cell BK142.out 2).trans rfl
                   have hcz40_3:wr.cell? ⟨gb142,3,none⟩=some (.slice A141_3 ((rd_T39 ((rd_T42 l0_0 x4_1).f2) x7_3).f3).length c141_3):=(blk_cell BK142.out 3).trans rfl
                   have hfz40_0:=blk_frozen BK142.out 0
                   have hfz40_1:=blk_frozen BK142.out 1
                   have hfz40_2:=blk_frozen BK142.out 2
                   have hfz40_3:=blk_frozen BK142.out 3
                   go_wp2
                   repeat (go_quiet (fail);try go_wp2)
                   go_roundg k4
                   case measure=>have:=HK1.out;have:=HJ6.out;have:=HK3.out;have:=HK4.out;omega
                   case rel=>exact ⟨(x6_4 ++ (⟨#[10]⟩:ByteArray)),(wrap64 (x7_3+1)),(by first|rfl|(simp;done)|(simp [*];done)),(by first|rfl|(simp;done)|(simp [*];done)),H',⟨by have:=HK1.out;have:=HJ6.out;have:=HK3.out;have:=HK4.out;omega⟩,⟨by (with_reducible repeat (first|refine blk_drewN ?_ _|refine blk_drew ?_|refine blk_alloc ?_ _));exact BK137.out⟩,⟨by (with_reducible repeat (first|refine blk_drewN ?_ _|refine blk_drew ?_|refine blk_alloc ?_ _));exact BK139.out⟩,⟨by repeat (first|(with_reducible first|exact HB.out|apply below_alloc|apply pw_below_drewN|apply below_drew1|refine below_set ?_ GE137.out|refine below_set ?_ GE139.out|refine below_set ?_ GE142.out)|exact HB.out)⟩⟩
                  ·rw [if_neg c37] at H
                   exact absurd H (by simp)
              ·rw [if_neg c22] at H
               exact absurd H (by simp)
             ·rw [if_neg c20] at H
              exact absurd H (by simp)
            ·replace c19:=Bool.eq_false_iff.mpr c19
             subst c19
             have H1:(if x6_3.size+2≤9223372036854775807 then ((coronerref04_number.f k3 ((rd_T39 ((rd_T42 l0_0 x4_1).f2) x7_3).f1)).bind fun t146=>(if (x6_3 ++ (⟨#[97,32]⟩:ByteArray)).size+t146.size≤9223372036854775807 then (if ((x6_3 ++ (⟨#[97,32]⟩:ByteArray)) ++ t146).size+1≤9223372036854775807 then ((coronerref04_number.f k3 ((rd_T39 ((rd_T42 l0_0 x4_1).f2) x7_3).f2)).bind fun t147=>(if (((x6_3 ++ (⟨#[97,32]⟩:ByteArray)) ++ t146) ++ (⟨#[32]⟩:ByteArray)).size+t147.size≤9223372036854775807 then (if ((((x6_3 ++ (⟨#[97,32]⟩:ByteArray)) ++ t146) ++ (⟨#[32]⟩:ByteArray)) ++ t147).size+1≤9223372036854775807 then (coronerref04_Text.l1 k3 x3_1 x4_1 (((((x6_3 ++ (⟨#[97,32]⟩:ByteArray)) ++ t146) ++ (⟨#[32]⟩:ByteArray)) ++ t147) ++ (⟨#[10]⟩:ByteArray)) (wrap64 (x7_3+1)) l0_0 ((rd_T42 l0_0 x4_1).f0) ((rd_T42 l0_0 x4_1).f1) ((rd_T42 l0_0 x4_1).f2)) else (none)) else (none))) else (none)) else (none))) else (none))=some r:=by rw [if_neg (show ¬ (false=true) by decide)] at H;exact H
             clear H
             have H:=H1
             clear H1
             by_cases c41:x6_3.size+2≤9223372036854775807
             ·rw [if_pos c41] at H
              have c41b0:=eq_true c41
              have c41b1:decide (x6_3.size+2≤9223372036854775807)=true:=decide_eq_true c41
              try have c41b2:(9223372036854775807 < x6_3.size+2)=False:=eq_false (Nat.not_lt.2 c41)
              try (have c41b2z:=c41b2;simp only [ByteArray.size_append,sz_lit,List.size_toArray,List.length_cons,List.length_nil,Nat.zero_add,Nat.reduceAdd] at c41b2z)
              replace H:=Option.bind_eq_some_iff.mp H
              obtain ⟨t146,A420,H⟩:=H
              replace H:(if (x6_3 ++ (⟨#[97,32]⟩:ByteArray)).size+t146.size≤9223372036854775807 then (if ((x6_3 ++ (⟨#[97,32]⟩:ByteArray)) ++ t146).size+1≤9223372036854775807 then ((coronerref04_number.f k3 ((rd_T39 ((rd_T42 l0_0 x4_1).f2) x7_3).f2)).bind fun t147=>(if (((x6_3 ++ (⟨#[97,32]⟩:ByteArray)) ++ t146) ++ (⟨#[32]⟩:ByteArray)).size+t147.size≤9223372036854775807 then (if ((((x6_3 ++ (⟨#[97,32]⟩:ByteArray)) ++ t146) ++ (⟨#[32]⟩:ByteArray)) ++ t147).size+1≤9223372036854775807 then (coronerref04_Text.l1 k3 x3_1 x4_1 (((((x6_3 ++ (⟨#[97,32]⟩:ByteArray)) ++ t146) ++ (⟨#[32]⟩:ByteArray)) ++ t147) ++ (⟨#[10]⟩:ByteArray)) (wrap64 (x7_3+1)) l0_0 ((rd_T42 l0_0 x4_1).f0) ((rd_T42 l0_0 x4_1).f1) ((rd_T42 l0_0 x4_1).f2)) else (none)) else (none))) else (none)) else (none))=some r:=H
              have A42:=Aside0.mk A420
              clear A420
              by_cases c43:(x6_3 ++ (⟨#[97,32]⟩:ByteArray)).size+t146.size≤9223372036854775807
              ·rw [if_pos c43] at H
               have c43b0:=eq_true c43
               have c43b1:decide ((x6_3 ++ (⟨#[97,32]⟩:ByteArray)).size+t146.size≤9223372036854775807)=true:=decide_eq_true c43
               try have c43b2:(9223372036854775807 < (x6_3 ++ (⟨#[97,32]⟩:ByteArray)).size+t146.size)=False:=eq_false (Nat.not_lt.2 c43)
               try (have c43b2z:=c43b2;simp only [ByteArray.size_append,sz_lit,List.size_toArray,List.length_cons,List.length_nil,Nat.zero_add,Nat.reduceAdd] at c43b2z)
               by_cases c44:((x6_3 ++ (⟨#[97,32]⟩:ByteArray)) ++ t146).size+1≤9223372036854775807
               ·rw [if_pos c44] at H
                have c44b0:=eq_true c44
                have c44b1:decide (((x6_3 ++ (⟨#[97,32]⟩:ByteArray)) ++ t146).size+1≤9223372036854775807)=true:=decide_eq_true c44
                try have c44b2:(9223372036854775807 < ((x6_3 ++ (⟨#[97,32]⟩:ByteArray)) ++ t146).size+1)=False:=eq_false (Nat.not_lt.2 c44)
                try (have c44b2z:=c44b2;simp only [ByteArray.size_append,sz_lit,List.size_toArray,List.length_cons,List.length_nil,Nat.zero_add,Nat.reduceAdd] at c44b2z)
                replace H:=Option.bind_eq_some_iff.mp H
                obtain ⟨t147,A450,H⟩:=H
                replace H:(if (((x6_3 ++ (⟨#[97,32]⟩:ByteArray)) ++ t146) ++ (⟨#[32]⟩:ByteArray)).size+t147.size≤9223372036854775807 then (if ((((x6_3 ++ (⟨#[97,32]⟩:ByteArray)) ++ t146) ++ (⟨#[32]⟩:ByteArray)) ++ t147).size+1≤9223372036854775807 then (coronerref04_Text.l1 k3 x3_1 x4_1 (((((x6_3 ++ (⟨#[97,32]⟩:ByteArray)) ++ t146) ++ (⟨#[32]⟩:ByteArray)) ++ t147) ++ (⟨#[10]⟩:ByteArray)) (wrap64 (x7_3+1)) l0_0 ((rd_T42 l0_0 x4_1).f0) ((rd_T42 l0_0 x4_1).f1) ((rd_T42 l0_0 x4_1).f2)) else (none)) else (none))=some r:=H
                have A45:=Aside0.mk A450
                clear A450
                by_cases c46:(((x6_3 ++ (⟨#[97,32]⟩:ByteArray)) ++ t146) ++ (⟨#[32]⟩:ByteArray)).size+t147.size≤9223372036854775807
                ·rw [if_pos c46] at H
                 have c46b0:=eq_true c46
                 have c46b1:decide ((((x6_3 ++ (⟨#[97,32]⟩:ByteArray)) ++ t146) ++ (⟨#[32]⟩:ByteArray)).size+t147.size≤9223372036854775807)=true:=decide_eq_true c46
                 try have c46b2:(9223372036854775807 < (((x6_3 ++ (⟨#[97,32]⟩:ByteArray)) ++ t146) ++ (⟨#[32]⟩:ByteArray)).size+t147.size)=False:=eq_false (Nat.not_lt.2 c46)
                 try (have c46b2z:=c46b2;simp only [ByteArray.size_append,sz_lit,List.size_toArray,List.length_cons,List.length_nil,Nat.zero_add,Nat.reduceAdd] at c46b2z)
                 by_cases c47:((((x6_3 ++ (⟨#[97,32]⟩:ByteArray)) ++ t146) ++ (⟨#[32]⟩:ByteArray)) ++ t147).size+1≤9223372036854775807
                 ·rw [if_pos c47] at H
                  have c47b0:=eq_true c47
                  have c47b1:decide (((((x6_3 ++ (⟨#[97,32]⟩:ByteArray)) ++ t146) ++ (⟨#[32]⟩:ByteArray)) ++ t147).size+1≤9223372036854775807)=true:=decide_eq_true c47
                  try have c47b2:(9223372036854775807 < ((((x6_3 ++ (⟨#[97,32]⟩:ByteArray)) ++ t146) ++ (⟨#[32]⟩:ByteArray)) ++ t147).size+1)=False:=eq_false (Nat.not_lt.2 c47)
                  try (have c47b2z:=c47b2;simp only [ByteArray.size_append,sz_lit,List.size_toArray,List.length_cons,List.length_nil,Nat.zero_add,Nat.reduceAdd] at c47b2z)
                  have H':=Aside0.mk H
                  clear H
                  have hnb48:=NB139_137.out
                  have hnc48:=NB137_139.out
                  have hcz49_0:wr.cell? ⟨gb139,0,none⟩=some (.int .i64 ((rd_T42 l0_0 x4_1).f0)):=(blk_cell BK139.out 0).trans rfl
                  have hcz49_1:wr.cell? ⟨gb139,1,none⟩=some (.bool ((rd_T42 l0_0 x4_1).f1)):=(blk_cell BK139.out 1).trans rfl
                  have hcz49_2:wr.cell? ⟨gb139,2,none⟩=some (.slice A138_2 ((rd_T42 l0_0 x4_1).f2).length c138_2):=(blk_cell BK139.out 2).trans rfl
                  have hfz49_0:=blk_frozen BK139.out 0
                  have hfz49_1:=blk_frozen BK139.out 1
                  have hfz49_2:=blk_frozen BK139.out 2
                  have p141:0≤(x7_3:Int):=of_decide_eq_true (by first|(with_reducible assumption)|assumption)
                  have q141:x7_3 < (((rd_T42 l0_0 x4_1).f2).length:Int):=of_decide_eq_true (by first|(with_reducible assumption)|assumption)
                  obtain ⟨ad141,A141_3,c141_3,e141,hx141_0,hx141_1,hx141_2,hx141_3,hl141_3,hi141_3⟩:=at_T39 HR138_2.out x7_3 p141 q141
                  (try rw [← Nbq18.out] at hx141_0)
                  cases e141
                  replace hx141_0:=(HB.out.cell (World.block_lt_of_cell? w _ hx141_0)).trans hx141_0
                  replace hx141_1:=(HB.out.cell (World.block_lt_of_cell? w _ hx141_1)).trans hx141_1
                  replace hx141_2:=(HB.out.cell (World.block_lt_of_cell? w _ hx141_2)).trans hx141_2
                  replace hx141_3:=(HB.out.cell (World.block_lt_of_cell? w _ hx141_3)).trans hx141_3
                  have HR141_3:=Aside0.mk hi141_3
                  have HC141_3:=Aside0.mk hl141_3
                  clear hi141_3 hl141_3
                  replace p141:=eq_true p141
                  replace q141:=eq_true q141
                  go_wp2_with (first|((with_reducible refine gate_dst (N:=8) rfl ?_);refine box_event ?hg (N:=8) ?hd (cs:=#[.bool false,.int .i64 0,.int .i64 0,.slice none 0 0]) (t:=39) ?hr ?_;(case hd=>rfl);(case hg=>rfl);(case hr=>first|(go_simp;done)|(go_simp;rfl));intro gb142 hg w50 hbox hb;have n0_:=Aside0.mk (blk_below (g:=gb137) (o:=.cells #[.slice (some ad138) l0_0.length c0_0] 24 (0,0)) (by (with_reducible repeat (first|refine blk_drewN ?_ _|refine blk_drew ?_|refine blk_alloc ?_ _));exact BK137.out) hb);have n1_:=Aside0.mk (blk_below (g:=gb139) (o:=.cells #[.int .i64 ((rd_T42 l0_0 x4_1).f0),.bool ((rd_T42 l0_0 x4_1).f1),.slice (some ad141) ((rd_T42 l0_0 x4_1).f2).length c138_2] 42 (0,0)) (by (with_reducible repeat (first|refine blk_drewN ?_ _|refine blk_drew ?_|refine blk_alloc ?_ _));exact BK139.out) hb);have n2_:=Aside0.mk (below_step (by repeat (first|(with_reducible first|exact HB.out|apply below_alloc|apply pw_below_drewN|apply below_drew1|refine below_set ?_ GE137.out|refine below_set ?_ GE139.out)|exact HB.out)) hb);have n3_:=Aside0.mk (hbox);have n4_:=Aside0.mk ((by rw [hg];exact (below_size (by repeat (first|(with_reducible first|exact HB.out|apply below_alloc|apply pw_below_drewN|apply below_drew1|refine below_set ?_ GE137.out|refine below_set ?_ GE139.out)|exact HB.out))):w.heap.size≤gb142));have n5_:=Aside0.mk ((by rw [hg];exact (below_size (by repeat (first|(with_reducible first|exact HB.out|apply below_alloc|apply pw_below_drewN|apply below_drew1|refine below_set ?_ GE137.out|refine below_set ?_ GE139.out)|exact HB.out))):w.heap.size≤gb142));have n6_:=Aside0.mk ((by rw [hg];exact Nat.ne_of_lt (blk_lt (g:=gb137) (o:=.cells #[.slice (some ad138) l0_0.length c0_0] 24 (0,0)) (by (with_reducible repeat (first|refine blk_drewN ?_ _|refine blk_drew ?_|refine blk_alloc ?_ _));exact BK137.out)):gb137 ≠ gb142));have n7_:=Aside0.mk ((by rw [hg];exact Nat.ne_of_gt (blk_lt (g:=gb137) (o:=.cells #[.slice (some ad138) l0_0.length c0_0] 24 (0,0)) (by (with_reducible repeat (first|refine blk_drewN ?_ _|refine blk_drew ?_|refine blk_alloc ?_ _));exact BK137.out)):gb142 ≠ gb137));have n8_:=Aside0.mk ((by rw [hg];exact Nat.ne_of_lt (blk_lt (g:=gb139) (o:=.cells #[.int .i64 ((rd_T42 l0_0 x4_1).f0),.bool ((rd_T42 l0_0 x4_1).f1),.slice (some ad141) ((rd_T42 l0_0 x4_1).f2).length c138_2] 42 (0,0)) (by (with_reducible repeat (first|refine blk_drewN ?_ _|refine blk_drew ?_|refine blk_alloc ?_ _));exact BK139.out)):gb139 ≠ gb142));have n9_:=Aside0.mk ((by rw [hg];exact Nat.ne_of_gt (blk_lt (g:=gb139) (o:=.cells #[.int .i64 ((rd_T42 l0_0 x4_1).f0),.bool ((rd_T42 l0_0 x4_1).f1),.slice (some ad141) ((rd_T42 l0_0 x4_1).f2).length c138_2] 42 (0,0)) (by (with_reducible repeat (first|refine blk_drewN ?_ _|refine blk_drew ?_|refine blk_alloc ?_ _));exact BK139.out)):gb142 ≠ gb139));clear BK137;clear BK139;clear HB;have BK137:=n0_;have BK139:=n1_;have HB:=n2_;have BK142:=n3_;have GW142:=n4_;have GE142:=n5_;have NB137_142:=n6_;have NB142_137:=n7_;have NB139_142:=n8_;have NB142_139:=n9_;clear n0_ n1_ n2_ n3_ n4_ n5_ n6_ n7_ n8_ n9_;clear hb hbox hg;have hnb51:=NB142_137.out;have hnc51:=NB137_142.out;have hnb52:=NB142_139.out;have hnc52:=NB139_142.out;have hcz53_0:w50.cell? ⟨gb142,0,none⟩=some (.bool false):=(blk_cell BK142.out 0).trans rfl;have hcz53_1:w50.cell? ⟨gb142,1,none⟩=some (.int .i64 0):=(blk_cell BK142.out 1).trans rfl;have hcz53_2:w50.cell? ⟨gb142,2,none⟩=some (.int .i64 0):=(blk_cell BK142.out 2).trans rfl;have hcz53_3:w50.cell? ⟨gb142,3,none⟩=some (.slice none 0 0):=(blk_cell BK142.out 3).trans rfl;have hfz53_0:=blk_frozen BK142.out 0;have hfz53_1:=blk_frozen BK142.out 1;have hfz53_2:=blk_frozen BK142.out 2;have hfz53_3:=blk_frozen BK142.out 3)|(go_at_call 32;(with_reducible refine (coronerref04_number.calls k3 ((rd_T39 ((rd_T42 l0_0 x4_1).f2) x7_3).f1) t146 _ A42.out).mono ?_);rintro e w' ⟨rfl,⟨nd,rfl⟩⟩;(try first|exact ⟨rfl,_,World.drewN_drewN _ _ _⟩|exact ⟨rfl,_,Eq.trans (World.drewN_drewN _ _ _) (congrArg (World.drewN _) (Nat.add_assoc _ _ _))⟩))|(go_at_call 32;(with_reducible refine (coronerref04_number.calls k3 ((rd_T39 ((rd_T42 l0_0 x4_1).f2) x7_3).f2) t147 _ A45.out).mono ?_);rintro e w' ⟨rfl,⟨nd,rfl⟩⟩;(try first|exact ⟨rfl,_,World.drewN_drewN _ _ _⟩|exact ⟨rfl,_,Eq.trans (World.drewN_drewN _ _ _) (congrArg (World.drewN _) (Nat.add_assoc _ _ _))⟩)))
                  repeat (go_quiet (first|((with_reducible refine gate_dst (N:=8) rfl ?_);refine box_event ?hg (N:=8) ?hd (cs:=#[.bool false,.int .i64 0,.int .i64 0,.slice none 0 0]) (t:=39) ?hr ?_;(case hd=>rfl);(case hg=>rfl);(case hr=>first|(go_simp;done)|(go_simp;rfl));intro gb142 hg w50 hbox hb;have n0_:=Aside0.mk (blk_below (g:=gb137) (o:=.cells #[.slice (some ad138) l0_0.length c0_0] 24 (0,0)) (by (with_reducible repeat (first|refine blk_drewN ?_ _|refine blk_drew ?_|refine blk_alloc ?_ _));exact BK137.out) hb);have n1_:=Aside0.mk (blk_below (g:=gb139) (o:=.cells #[.int .i64 ((rd_T42 l0_0 x4_1).f0),.bool ((rd_T42 l0_0 x4_1).f1),.slice (some ad141) ((rd_T42 l0_0 x4_1).f2).length c138_2] 42 (0,0)) (by (with_reducible repeat (first|refine blk_drewN ?_ _|refine blk_drew ?_|refine blk_alloc ?_ _));exact BK139.out) hb);have n2_:=Aside0.mk (below_step (by repeat (first|(with_reducible first|exact HB.out|apply below_alloc|apply pw_below_drewN|apply below_drew1|refine below_set ?_ GE137.out|refine below_set ?_ GE139.out)|exact HB.out)) hb);have n3_:=Aside0.mk (hbox);have n4_:=Aside0.mk ((by rw [hg];exact (below_size (by repeat (first|(with_reducible first|exact HB.out|apply below_alloc|apply pw_below_drewN|apply below_drew1|refine below_set ?_ GE137.out|refine below_set ?_ GE139.out)|exact HB.out))):w.heap.size≤gb142));have n5_:=Aside0.mk ((by rw [hg];exact (below_size (by repeat (first|(with_reducible first|exact HB.out|apply below_alloc|apply pw_below_drewN|apply below_drew1|refine below_set ?_ GE137.out|refine below_set ?_ GE139.out)|exact HB.out))):w.heap.size≤gb142));have n6_:=Aside0.mk ((by rw [hg];exact Nat.ne_of_lt (blk_lt (g:=gb137) (o:=.cells #[.slice (some ad138) l0_0.length c0_0] 24 (0,0)) (by (with_reducible repeat (first|refine blk_drewN ?_ _|refine blk_drew ?_|refine blk_alloc ?_ _));exact BK137.out)):gb137 ≠ gb142));have n7_:=Aside0.mk ((by rw [hg];exact Nat.ne_of_gt (blk_lt (g:=gb137) (o:=.cells #[.slice (some ad138) l0_0.length c0_0] 24 (0,0)) (by (with_reducible repeat (first|refine blk_drewN ?_ _|refine blk_drew ?_|refine blk_alloc ?_ _));exact BK137.out)):gb142 ≠ gb137));have n8_:=Aside0.mk ((by rw [hg];exact Nat.ne_of_lt (blk_lt (g:=gb139) (o:=.cells #[.int .i64 ((rd_T42 l0_0 x4_1).f0),.bool ((rd_T42 l0_0 x4_1).f1),.slice (some ad141) ((rd_T42 l0_0 x4_1).f2).length c138_2] 42 (0,0)) (by (with_reducible repeat (first|refine blk_drewN ?_ _|refine blk_drew ?_|refine blk_alloc ?_ _));exact BK139.out)):gb139 ≠ gb142));have n9_:=Aside0.mk ((by rw [hg];exact Nat.ne_of_gt (blk_lt (g:=gb139) (o:=.cells #[.int .i64 ((rd_T42 l0_0 x4_1).f0),.bool ((rd_T42 l0_0 x4_1).f1),.slice (some ad141) ((rd_T42 l0_0 x4_1).f2).length c138_2] 42 (0,0)) (by (with_reducible repeat (first|refine blk_drewN ?_ _|refine blk_drew ?_|refine blk_alloc ?_ _));exact BK139.out)):gb142 ≠ gb139));clear BK137;clear BK139;clear HB;have BK137:=n0_;have BK139:=n1_;have HB:=n2_;have BK142:=n3_;have GW142:=n4_;have GE142:=n5_;have NB137_142:=n6_;have NB142_137:=n7_;have NB139_142:=n8_;have NB142_139:=n9_;clear n0_ n1_ n2_ n3_ n4_ n5_ n6_ n7_ n8_ n9_;clear hb hbox hg;have hnb51:=NB142_137.out;have hnc51:=NB137_142.out;have hnb52:=NB142_139.out;have hnc52:=NB139_142.out;have hcz53_0:w50.cell? ⟨gb142,0,none⟩=some (.bool false):=(blk_cell BK142.out 0).trans rfl;have hcz53_1:w50.cell? ⟨gb142,1,none⟩=some (.int .i64 0):=(blk_cell BK142.out 1).trans rfl;have hcz53_2:w50.cell? ⟨gb142,2,none⟩=some (.int .i64 0):=(blk_cell BK142.out 2).trans rfl;have hcz53_3:w50.cell? ⟨gb142,3,none⟩=some (.slice none 0 0):=(blk_cell BK142.out 3).trans rfl;have hfz53_0:=blk_frozen BK142.out 0;have hfz53_1:=blk_frozen BK142.out 1;have hfz53_2:=blk_frozen BK142.out 2;have hfz53_3:=blk_frozen BK142.out 3)|(go_at_call 32;(with_reducible refine (coronerref04_number.calls k3 ((rd_T39 ((rd_T42 l0_0 x4_1).f2) x7_3).f1) t146 _ A42.out).mono ?_);rintro e w' ⟨rfl,⟨nd,rfl⟩⟩;(try first|exact ⟨rfl,_,World.drewN_drewN _ _ _⟩|exact ⟨rfl,_,Eq.trans (World.drewN_drewN _ _ _) (congrArg (World.drewN _) (Nat.add_assoc _ _ _))⟩))|(go_at_call 32;(with_reducible refine (coronerref04_number.calls k3 ((rd_T39 ((rd_T42 l0_0 x4_1).f2) x7_3).f2) t147 _ A45.out).mono ?_);rintro e w' ⟨rfl,⟨nd,rfl⟩⟩;(try first|exact ⟨rfl,_,World.drewN_drewN _ _ _⟩|exact ⟨rfl,_,Eq.trans (World.drewN_drewN _ _ _) (congrArg (World.drewN _) (Nat.add_assoc _ _ _))⟩)));try go_wp2_with (first|((with_reducible refine gate_dst (N:=8) rfl ?_);refine box_event ?hg (N:=8) ?hd (cs:=#[.bool false,.int .i64 0,.int .i64 0,.slice none 0 0]) (t:=39) ?hr ?_;(case hd=>rfl);(case hg=>rfl);(case hr=>first|(go_simp;done)|(go_simp;rfl));intro gb142 hg w50 hbox hb;have n0_:=Aside0.mk (blk_below (g:=gb137) (o:=.cells #[.slice (some ad138) l0_0.length c0_0] 24 (0,0)) (by (with_reducible repeat (first|refine blk_drewN ?_ _|refine blk_drew ?_|refine blk_alloc ?_ _));exact BK137.out) hb);have n1_:=Aside0.mk (blk_below (g:=gb139) (o:=.cells #[.int .i64 ((rd_T42 l0_0 x4_1).f0),.bool ((rd_T42 l0_0 x4_1).f1),.slice (some ad141) ((rd_T42 l0_0 x4_1).f2).length c138_2] 42 (0,0)) (by (with_reducible repeat (first|refine blk_drewN ?_ _|refine blk_drew ?_|refine blk_alloc ?_ _));exact BK139.out) hb);have n2_:=Aside0.mk (below_step (by repeat (first|(with_reducible first|exact HB.out|apply below_alloc|apply pw_below_drewN|apply below_drew1|refine below_set ?_ GE137.out|refine below_set ?_ GE139.out)|exact HB.out)) hb);have n3_:=Aside0.mk (hbox);have n4_:=Aside0.mk ((by rw [hg];exact (below_size (by repeat (first|(with_reducible first|exact HB.out|apply below_alloc|apply pw_below_drewN|apply below_drew1|refine below_set ?_ GE137.out|refine below_set ?_ GE139.out)|exact HB.out))):w.heap.size≤gb142));have n5_:=Aside0.mk ((by rw [hg];exact (below_size (by repeat (first|(with_reducible first|exact HB.out|apply below_alloc|apply pw_below_drewN|apply below_drew1|refine below_set ?_ GE137.out|refine below_set ?_ GE139.out)|exact HB.out))):w.heap.size≤gb142));have n6_:=Aside0.mk ((by rw [hg];exact Nat.ne_of_lt (blk_lt (g:=gb137) (o:=.cells #[.slice (some ad138) l0_0.length c0_0] 24 (0,0)) (by (with_reducible repeat (first|refine blk_drewN ?_ _|refine blk_drew ?_|refine blk_alloc ?_ _));exact BK137.out)):gb137 ≠ gb142));have n7_:=Aside0.mk ((by rw [hg];exact Nat.ne_of_gt (blk_lt (g:=gb137) (o:=.cells #[.slice (some ad138) l0_0.length c0_0] 24 (0,0)) (by (with_reducible repeat (first|refine blk_drewN ?_ _|refine blk_drew ?_|refine blk_alloc ?_ _));exact BK137.out)):gb142 ≠ gb137));have n8_:=Aside0.mk ((by rw [hg];exact Nat.ne_of_lt (blk_lt (g:=gb139) (o:=.cells #[.int .i64 ((rd_T42 l0_0 x4_1).f0),.bool ((rd_T42 l0_0 x4_1).f1),.slice (some ad141) ((rd_T42 l0_0 x4_1).f2).length c138_2] 42 (0,0)) (by (with_reducible repeat (first|refine blk_drewN ?_ _|refine blk_drew ?_|refine blk_alloc ?_ _));exact BK139.out)):gb139 ≠ gb142));have n9_:=Aside0.mk ((by rw [hg];exact Nat.ne_of_gt (blk_lt (g:=gb139) (o:=.cells #[.int .i64 ((rd_T42 l0_0 x4_1).f0),.bool ((rd_T42 l0_0 x4_1).f1),.slice (some ad141) ((rd_T42 l0_0 x4_1).f2).length c138_2] 42 (0,0)) (by (with_reducible repeat (first|refine blk_drewN ?_ _|refine blk_drew ?_|refine blk_alloc ?_ _));exact BK139.out)):gb142 ≠ gb139));clear BK137;clear BK139;clear HB;have BK137:=n0_;have BK139:=n1_;have HB:=n2_;have BK142:=n3_;have GW142:=n4_;have GE142:=n5_;have NB137_142:=n6_;have NB142_137:=n7_;have NB139_142:=n8_;have NB142_139:=n9_;clear n0_ n1_ n2_ n3_ n4_ n5_ n6_ n7_ n8_ n9_;clear hb hbox hg;have hnb51:=NB142_137.out;have hnc51:=NB137_142.out;have hnb52:=NB142_139.out;have hnc52:=NB139_142.out;have hcz53_0:w50.cell? ⟨gb142,0,none⟩=some (.bool false):=(blk_cell BK142.out 0).trans rfl;have hcz53_1:w50.cell? ⟨gb142,1,none⟩=some (.int .i64 0):=(blk_cell BK142.out 1).trans rfl;have hcz53_2:w50.cell? ⟨gb142,2,none⟩=some (.int .i64 0):=(blk_cell BK142.out 2).trans rfl;have hcz53_3:w50.cell? ⟨gb142,3,none⟩=some (.slice none 0 0):=(blk_cell BK142.out 3).trans rfl;have hfz53_0:=blk_frozen BK142.out 0;have hfz53_1:=blk_frozen BK142.out 1;have hfz53_2:=blk_frozen BK142.out 2;have hfz53_3:=blk_frozen BK142.out 3)|(go_at_call 32;(with_reducible refine (coronerref04_number.calls k3 ((rd_T39 ((rd_T42 l0_0 x4_1).f2) x7_3).f1) t146 _ A42.out).mono ?_);rintro e w' ⟨rfl,⟨nd,rfl⟩⟩;(try first|exact ⟨rfl,_,World.drewN_drewN _ _ _⟩|exact ⟨rfl,_,Eq.trans (World.drewN_drewN _ _ _) (congrArg (World.drewN _) (Nat.add_assoc _ _ _))⟩))|(go_at_call 32;(with_reducible refine (coronerref04_number.calls k3 ((rd_T39 ((rd_T42 l0_0 x4_1).f2) x7_3).f2) t147 _ A45.out).mono ?_);rintro e w' ⟨rfl,⟨nd,rfl⟩⟩;(try first|exact ⟨rfl,_,World.drewN_drewN _ _ _⟩|exact ⟨rfl,_,Eq.trans (World.drewN_drewN _ _ _) (congrArg (World.drewN _) (Nat.add_assoc _ _ _))⟩))))
                  go_roundg k3
                  case measure=>have:=HK1.out;have:=HJ6.out;have:=HK3.out;omega
                  case rel=>exact ⟨(((((x6_3 ++ (⟨#[97,32]⟩:ByteArray)) ++ t146) ++ (⟨#[32]⟩:ByteArray)) ++ t147) ++ (⟨#[10]⟩:ByteArray)),(wrap64 (x7_3+1)),(by first|rfl|(simp;done)|(simp [*];done)),(by first|rfl|(simp;done)|(simp [*];done)),H',⟨by have:=HK1.out;have:=HJ6.out;have:=HK3.out;omega⟩,⟨by (with_reducible repeat (first|refine blk_drewN ?_ _|refine blk_drew ?_|refine blk_alloc ?_ _));refine blk_far ?_ NB137_142.out _;(with_reducible repeat (first|refine blk_drewN ?_ _|refine blk_drew ?_|refine blk_alloc ?_ _));refine blk_far ?_ NB137_142.out _;(with_reducible repeat (first|refine blk_drewN ?_ _|refine blk_drew ?_|refine blk_alloc ?_ _));refine blk_far ?_ NB137_142.out _;(with_reducible repeat (first|refine blk_drewN ?_ _|refine blk_drew ?_|refine blk_alloc ?_ _));refine blk_far ?_ NB137_142.out _;(with_reducible repeat (first|refine blk_drewN ?_ _|refine blk_drew ?_|refine blk_alloc ?_ _));exact BK137.out⟩,⟨by (with_reducible repeat (first|refine blk_drewN ?_ _|refine blk_drew ?_|refine blk_alloc ?_ _));refine blk_far ?_ NB139_142.out _;(with_reducible repeat (first|refine blk_drewN ?_ _|refine blk_drew ?_|refine blk_alloc ?_ _));refine blk_far ?_ NB139_142.out _;(with_reducible repeat (first|refine blk_drewN ?_ _|refine blk_drew ?_|refine blk_alloc ?_ _));refine blk_far ?_ NB139_142.out _;(with_reducible repeat (first|refine blk_drewN ?_ _|refine blk_drew ?_|refine blk_alloc ?_ _));refine blk_far ?_ NB139_142.out _;(with_reducible repeat (first|refine blk_drewN ?_ _|refine blk_drew ?_|refine blk_alloc ?_ _));exact BK139.out⟩,⟨by repeat (first|(with_reducible first|exact HB.out|apply below_alloc|apply pw_below_drewN|apply below_drew1|refine below_set ?_ GE137.out|refine below_set ?_ GE139.out|refine below_set ?_ GE142.out)|exact HB.out)⟩⟩
                 ·rw [if_neg c47] at H
                  exact absurd H (by simp)
                ·rw [if_neg c46] at H
                 exact absurd H (by simp)
               ·rw [if_neg c44] at H
                exact absurd H (by simp)
              ·rw [if_neg c43] at H
               exact absurd H (by simp)
             ·rw [if_neg c41] at H
              exact absurd H (by simp)
           ·rw [if_neg c17] at H
            exact absurd H (by simp)
          ·rw [if_neg c16] at H
           have c16b0:decide (x7_3 < (((rd_T42 l0_0 x4_1).f2).length:Int))=false:=decide_eq_false c16
           clear c16
           by_cases c54:x3_1.size+x6_3.size≤9223372036854775807
           ·rw [if_pos c54] at H
            have c54b0:=eq_true c54
            have c54b1:decide (x3_1.size+x6_3.size≤9223372036854775807)=true:=decide_eq_true c54
            try have c54b2:(9223372036854775807 < x3_1.size+x6_3.size)=False:=eq_false (Nat.not_lt.2 c54)
            try (have c54b2z:=c54b2;simp only [ByteArray.size_append,sz_lit,List.size_toArray,List.length_cons,List.length_nil,Nat.zero_add,Nat.reduceAdd] at c54b2z)
            have H':=Aside0.mk H
            clear H
            have hnb55:=NB139_137.out
            have hnc55:=NB137_139.out
            have hcz56_0:wr.cell? ⟨gb139,0,none⟩=some (.int .i64 ((rd_T42 l0_0 x4_1).f0)):=(blk_cell BK139.out 0).trans rfl
            have hcz56_1:wr.cell? ⟨gb139,1,none⟩=some (.bool ((rd_T42 l0_0 x4_1).f1)):=(blk_cell BK139.out 1).trans rfl
            have hcz56_2:wr.cell? ⟨gb139,2,none⟩=some (.slice A138_2 ((rd_T42 l0_0 x4_1).f2).length c138_2):=(blk_cell BK139.out 2).trans rfl
            have hfz56_0:=blk_frozen BK139.out 0
            have hfz56_1:=blk_frozen BK139.out 1
            have hfz56_2:=blk_frozen BK139.out 2
            go_wp2
            repeat (go_quiet (fail);try go_wp2)
            go_roundg k3
            case measure=>have:=HK1.out;have:=HJ6.out;have:=HK3.out;omega
            case rel=>exact ⟨(x3_1 ++ x6_3),(wrap64 (x4_1+1)),(by first|rfl|(simp;done)|(simp [*];done)),(by first|rfl|(simp;done)|(simp [*];done)),H',⟨by have:=HK1.out;have:=HJ6.out;have:=HK3.out;omega⟩,⟨by (with_reducible repeat (first|refine blk_drewN ?_ _|refine blk_drew ?_|refine blk_alloc ?_ _));exact BK137.out⟩,⟨by repeat (first|(with_reducible first|exact HB.out|apply below_alloc|apply pw_below_drewN|apply below_drew1|refine below_set ?_ GE137.out|refine below_set ?_ GE139.out)|exact HB.out)⟩⟩
           ·rw [if_neg c54] at H
            exact absurd H (by simp)
     ·rw [if_neg c6] at H
      exact absurd H (by simp)
    ·rw [if_neg c4] at H
     exact absurd H (by simp)
   ·rw [if_neg c3] at H
    have c3b0:decide (x4_1 < (l0_0.length:Int))=false:=decide_eq_false c3
    clear c3
    obtain rfl:=Option.some.inj H
    have hcz57_0:wr.cell? ⟨gb137,0,none⟩=some (.slice A0_0 l0_0.length c0_0):=(blk_cell BK137.out 0).trans rfl
    have hfz57_0:=blk_frozen BK137.out 0
    go_wp2
    repeat (go_quiet (fail);try go_wp2)
    go_ret
    exact ⟨by first|rfl|(simp [errW_none,errW_some] <;> rfl)|(simp [*,errW_none,errW_some] <;> rfl),by repeat (first|(with_reducible first|exact HB.out|apply below_alloc|apply pw_below_drewN|apply below_drew1|refine below_set ?_ GE137.out)|exact HB.out)⟩
def coronerref04_may.f (a0:Int):Option (Bool):=if a0 ≥ 0 then (some (decide (a0≤2147483647))) else (some false)
set_option maxHeartbeats 8000000 in
set_option maxRecDepth 100000 in
theorem coronerref04_may.calls (a0:Int) (r:Bool) (w:World) (h:coronerref04_may.f a0=some r) :
 Calls Try.prog 28 #[.int .i64 a0] w fun e w'=>e=.returned (.bool r)∧Drawn0 w w':=by
 have H:(if a0 ≥ 0 then (some (decide (a0≤2147483647))) else (some false))=some r:=h
 clear h
 by_cases c2:a0 ≥ 0
 ·rw [if_pos c2] at H
  have c2b0:decide (0≤a0)=true:=decide_eq_true c2
  clear c2
  obtain rfl:=Option.some.inj H
  go_enter Try.func28,Try.ntmps28
  go_wp2
  go_ret
  exact ⟨by first|rfl|(simp;done)|(simp [*];done),by repeat (first|exact Drawn0.refl _|apply Drawn0.step)⟩
 ·rw [if_neg c2] at H
  have c2b0:decide (0≤a0)=false:=decide_eq_false c2
  clear c2
  obtain rfl:=Option.some.inj H
  go_enter Try.func28,Try.ntmps28
  go_wp2
  go_ret
  exact ⟨by first|rfl|(simp;done)|(simp [*];done),by repeat (first|exact Drawn0.refl _|apply Drawn0.step)⟩
end Go.Proofs.Ytlcioegdmopppaa.PEncodeBack
set_option linter.unusedSimpArgs false
namespace Go.Proofs.Ytlcioegdmopppaa.En
open Go.RowKit Go.Proofs.Ytlcioegdmopppaa.PEncodeBack Go.Proofs.YtlcioegdmopppaaW.PrintWords
set_option linter.unusedVariables false
theorem tm1 (m:Nat):Int.tmod (m:Int) 10=((m % 10:Nat):Int):=rfl
theorem td1 (m:Nat):Int.tdiv (m:Int) 10=((m / 10:Nat):Int):=rfl
theorem wr1 (m:Nat) (h:m≤2147483647):wrap64 ((m:Nat):Int)=((m:Nat):Int):=by unfold wrap64;omega
theorem wr2 (m:Nat) (h:m≤2147483647):wrap64 ((m:Nat)+1:Int)=((m+1:Nat):Int):=by unfold wrap64;omega
theorem dig_size (m:Nat) (hm:m < 10):((⟨#[48,49,50,51,52,53,54,55,56,57]⟩:ByteArray).extract m (m+1)).size=1:=by
 have hc:m=0 ∨ m=1 ∨ m=2 ∨ m=3 ∨ m=4 ∨ m=5 ∨ m=6 ∨ m=7 ∨ m=8 ∨ m=9:=by omega
 rcases hc with rfl|rfl|rfl|rfl|rfl|rfl|rfl|rfl|rfl|rfl <;> rfl
theorem rprint_on (m:Nat) (hm:m≤2147483647) (h9:9 < m) (s:ByteArray) (hs:s.size≤10) (r:Nat):coronerref01_Print.l0 (r+1) (m:Int) s=coronerref01_Print.l0 r ((m / 10:Nat):Int) ((⟨#[48,49,50,51,52,53,54,55,56,57]⟩:ByteArray).extract (m % 10) (m % 10+1) ++ s):=by
 have hz1:=dig_size (m % 10) (Nat.mod_lt _ (by omega))
 have hlt:m % 10 < 10:=Nat.mod_lt _ (by omega)
 simp only [coronerref01_Print.l0]
 rw [if_pos (by omega),tm1,td1,wr2 (m % 10) (by omega),wr1 (m / 10) (by omega),Int.toNat_natCast,Int.toNat_natCast,if_pos (by omega),if_pos (by omega),if_pos (by omega),if_pos (by omega)]
theorem rprint_end (m:Nat) (h9:m≤9) (s:ByteArray) (hs:s.size≤10) (r:Nat):coronerref01_Print.l0 (r+1) (m:Int) s=some ((⟨#[48,49,50,51,52,53,54,55,56,57]⟩:ByteArray).extract m (m+1) ++ s,0):=by
 have hz1:=dig_size m (by omega)
 simp only [coronerref01_Print.l0]
 rw [if_neg (by omega),wr2 m (by omega),Int.toNat_natCast,Int.toNat_natCast,if_pos (by omega),if_pos (by omega),if_pos (by omega),if_pos (by omega)]
theorem rprint_loop (n:Nat) (hn:n≤2147483647):∀ (d k:Nat),k+d=wd n→k < wd n→Ev (fun r=>coronerref01_Print.l0 r ((n / 10 ^ k:Nat):Int) (strOfNums (low k n))) (strOfNums (low (wd n) n),0)
 | 0,k,hd,hk=>absurd hk (by omega)
 | d+1,k,hd,hk=>by
  have hm:n / 10 ^ k≤2147483647:=Nat.le_trans (Nat.div_le_self _ _) hn
  have hs:(strOfNums (low k n)).size≤10:=by rw [str_size,low_length];have:=wd_le hn;omega
  have hdiv:=div_pow n k
  have hmore:=lt_wd (k+1) n
  have hlow:low (k+1) n=((n / 10 ^ k % 10+48:Nat):Int) :: low k n:=rfl
  have hdig:=str_digit (n / 10 ^ k % 10) (Nat.mod_lt _ (by omega)) (low k n)
  by_cases h9:9 < n / 10 ^ k
  ·have hk1:k+1 < wd n:=hmore.2 (.inr (by rw [← hdiv];exact Nat.div_pos (by omega) (by omega)))
   have ih:=rprint_loop n hn d (k+1) (by omega) hk1
   rw [← hdiv,hlow,← hdig] at ih
   exact Ev.step (fun r=>rprint_on _ hm h9 _ hs r) ih
  ·have hk1:k+1=wd n:=by
    rcases Nat.lt_or_ge (k+1) (wd n) with h|h
    ·rcases hmore.1 h with h|h
     ·omega
     ·rw [← hdiv] at h
      have:n / 10 ^ k / 10=0:=Nat.div_eq_of_lt (by omega)
      omega
    ·omega
   have hm10:n / 10 ^ k % 10=n / 10 ^ k:=Nat.mod_eq_of_lt (by omega)
   rw [hm10] at hdig hlow
   rw [← hk1,hlow,← hdig]
   exact Ev.step (f:=fun _=>some _) (fun r=>rprint_end _ (by omega) _ hs r) (Ev.now _)
theorem number_ev {n:Int} (h:okN n=true):Ev (fun r=>coronerref04_number.f r n) (strOfNums (numS n)):=by
 obtain ⟨h0,h1⟩:=okN_iff.1 h
 have hl:=rprint_loop n.toNat (by omega) (wd n.toNat) 0 (by omega) (wd_pos _)
 rw [Nat.pow_zero,Nat.div_one,Int.toNat_of_nonneg h0] at hl
 have hp:Ev (fun r=>coronerref01_Print.f r n) (strOfNums (numS n),0):=by
  refine Ev.congr (f:=fun r=>coronerref01_Print.j0 r n (decide (n > 2147483647))) (fun r=>?_) (Ev.step (fun r=>?_) hl)
  ·unfold coronerref01_Print.f;rw [if_neg (by omega)]
  ·simp only [coronerref01_Print.j0];rw [if_neg (by simp;omega)];rfl
 exact Ev.bind (f:=fun _ bt=>some bt.1) hp (Ev.now _)
section
variable {h:List S42} {x3:List Int} {x4:Int} {a0:Int} {a1:Bool} {a2:List S39} {R:ByteArray}
theorem rtext_l2 (o:S39) (x7:Nat) (hx7:x7 < a2.length) (hl2:a2.length≤big) (ho:o.f3.all okN=true) (hl3:o.f3.length≤big):∀ (d j:Nat) (x6:List Int),j+d=o.f3.length→x6.length+(texts (o.f3.drop j)).length+1≤big →
 Ev (fun k=>coronerref04_Text.l1 k (strOfNums x3) x4 (strOfNums (x6 ++ texts (o.f3.drop j) ++ [10])) ((x7+1:Nat):Int) h a0 a1 a2) R →
 Ev (fun k=>coronerref04_Text.l2 k (strOfNums x3) x4 (strOfNums x6) (x7:Int) (j:Int) h a0 a1 a2 o.f0 o.f1 o.f2 o.f3) R
 | 0,j,x6,hj,hb,hR=>by
  unfold big at *
  rw [List.drop_eq_nil_of_le (by omega)] at hR hb
  refine Ev.step (fun k=>?_) hR
  simp only [coronerref04_Text.l2]
  rw [if_neg (by omega),if_pos (by rw [str_len];omega),wrapS hx7 (by omega)]
  have e:strOfNums x6 ++ (⟨#[10]⟩:ByteArray)=strOfNums (x6 ++ texts [] ++ [10]):=by simp only [texts,List.append_nil];exact str_lit _ [10] _ rfl
  rw [e]
 | d+1,j,x6,hj,hb,hR=>by
  have hlt:j < o.f3.length:=by omega
  have hok:okN o.f3[j]=true:=List.all_eq_true.1 ho _ (List.getElem_mem hlt)
  have hn:=numS_len hok
  rw [List.drop_eq_getElem_cons hlt,texts_cons] at hR hb
  simp only [List.length_append,List.length_cons] at hb
  have ih:=rtext_l2 o x7 hx7 hl2 ho hl3 d (j+1) (x6 ++ (32 :: numS o.f3[j])) (by omega) (by simp;omega) (by
   have e:x6 ++ 32 :: numS o.f3[j] ++ texts (o.f3.drop (j+1)) ++ [10]=x6 ++ (32 :: numS o.f3[j] ++ texts (o.f3.drop (j+1))) ++ [10]:=by simp
   rw [e];exact hR)
  unfold big at *
  refine Ev.step (f:=fun k=>(coronerref04_number.f k o.f3[j]).bind fun t=>if (strOfNums x6 ++ (⟨#[32]⟩:ByteArray)).size+t.size≤9223372036854775807 then coronerref04_Text.l2 k (strOfNums x3) x4 ((strOfNums x6 ++ (⟨#[32]⟩:ByteArray)) ++ t) (x7:Int) ((j+1:Nat):Int) h a0 a1 a2 o.f0 o.f1 o.f2 o.f3 else none) (fun k=>?_) ?_
  ·simp only [coronerref04_Text.l2]
   rw [if_pos (by omega),if_pos (by rw [str_len];omega),if_pos (by omega),rdI hlt,wrapS hlt (by omega)]
  ·refine Ev.bind (number_ev hok) ?_
   have e1:strOfNums x6 ++ (⟨#[32]⟩:ByteArray)=strOfNums (x6 ++ [32]):=str_lit _ [32] _ rfl
   have e2:strOfNums (x6 ++ [32]) ++ strOfNums (numS o.f3[j])=strOfNums (x6 ++ 32 :: numS o.f3[j]):=by rw [str_append];simp
   rw [e1,e2]
   exact Ev.congr (fun k=>if_pos (by rw [str_len,str_len];simp;omega)) ih
theorem rtext_l1 (x4n:Nat) (hx4:x4n < h.length) (hlh:h.length≤big) (hl2:a2.length≤big) (ha:a2.all okOp=true) (hl3:∀ o ∈ a2,o.f3.length≤big):∀ (d j:Nat) (x6:List Int),j+d=a2.length→x3.length+x6.length+((a2.drop j).flatMap opT).length≤big →
 Ev (fun k=>coronerref04_Text.l0 k (strOfNums (x3 ++ (x6 ++ (a2.drop j).flatMap opT))) ((x4n+1:Nat):Int) h) R →
 Ev (fun k=>coronerref04_Text.l1 k (strOfNums x3) (x4n:Int) (strOfNums x6) (j:Int) h a0 a1 a2) R
 | 0,j,x6,hj,hb,hR=>by
  unfold big at *
  rw [List.drop_eq_nil_of_le (by omega)] at hR hb
  rw [List.flatMap_nil,List.append_nil] at hR
  refine Ev.step (fun k=>?_) hR
  simp only [coronerref04_Text.l1]
  rw [if_neg (by omega),if_pos (by rw [str_len,str_len];omega),wrapS hx4 (by omega),str_append]
 | d+1,j,x6,hj,hb,hR=>by
  have hlt:j < a2.length:=by omega
  have hok:okOp a2[j]=true:=List.all_eq_true.1 ha _ (List.getElem_mem hlt)
  have hl:=hl3 _ (List.getElem_mem hlt)
  rw [List.drop_eq_getElem_cons hlt,List.flatMap_cons] at hR hb
  rw [List.length_append] at hb
  have hR2:Ev (fun k=>coronerref04_Text.l0 k (strOfNums (x3 ++ ((x6 ++ opT a2[j]) ++ (a2.drop (j+1)).flatMap opT))) ((x4n+1:Nat):Int) h) R:=by
   rw [List.append_assoc];exact hR
  have ih:=rtext_l1 x4n hx4 hlh hl2 ha hl3 d (j+1) (x6 ++ opT a2[j]) (by omega) (by rw [List.length_append];omega) hR2
  clear hR hR2
  generalize ho:a2[j]=o at *
  unfold okOp at hok
  simp only [Bool.and_eq_true] at hok
  obtain ⟨hk1,hk2⟩:=hok
  have hn1:=numS_len hk1
  by_cases hr:o.f0=true
  ·rw [if_pos hr] at hk2
   simp only [Bool.and_eq_true] at hk2
   unfold opT at hb ih
   rw [if_pos hr,texts_cons] at hb ih
   simp only [List.length_append,List.length_cons,List.length_nil] at hb
   have h2:=rtext_l2 (h:=h) (x3:=x3) (x4:=(x4n:Int)) (a0:=a0) (a1:=a1) (a2:=a2) (R:=R) o j hlt hl2 hk2.2 hl o.f3.length 0 (x6 ++ (114 :: 32 :: numS o.f1)) (by omega) (by simp;omega) (by
    rw [List.drop_zero]
    have e:x6 ++ 114 :: 32 :: numS o.f1 ++ texts o.f3 ++ [10]=x6 ++ (114 :: (32 :: numS o.f1 ++ texts o.f3) ++ [10]):=by simp
    rw [e];exact ih)
   unfold big at *
   refine Ev.step (f:=fun k=>(coronerref04_number.f k o.f1).bind fun t=>if (strOfNums x6 ++ (⟨#[114,32]⟩:ByteArray)).size+t.size≤9223372036854775807 then coronerref04_Text.l2 k (strOfNums x3) (x4n:Int) ((strOfNums x6 ++ (⟨#[114,32]⟩:ByteArray)) ++ t) (j:Int) ((0:Nat):Int) h a0 a1 a2 o.f0 o.f1 o.f2 o.f3 else none) (fun k=>?_) ?_
   ·simp only [coronerref04_Text.l1]
    rw [if_pos (by omega),if_pos (by omega),rd39 hlt,ho,if_pos hr,if_pos (by rw [str_len];omega)]
    rfl
   ·refine Ev.bind (number_ev hk1) ?_
    have e1:strOfNums x6 ++ (⟨#[114,32]⟩:ByteArray)=strOfNums (x6 ++ [114,32]):=str_lit _ [114,32] _ rfl
    have e2:strOfNums (x6 ++ [114,32]) ++ strOfNums (numS o.f1)=strOfNums (x6 ++ 114 :: 32 :: numS o.f1):=by rw [str_append];simp
    rw [e1,e2]
    exact Ev.congr (fun k=>if_pos (by rw [str_len,str_len];simp;omega)) h2
  ·rw [if_neg hr] at hk2
   simp only [Bool.and_eq_true] at hk2
   have hn2:=numS_len hk2.1
   unfold opT at hb ih
   rw [if_neg hr,texts_cons,texts_one] at hb ih
   simp only [List.length_append,List.length_cons,List.length_nil] at hb
   unfold big at *
   refine Ev.step (f:=fun k=>(coronerref04_number.f k o.f1).bind fun t=>if (strOfNums x6 ++ (⟨#[97,32]⟩:ByteArray)).size+t.size≤9223372036854775807 then (if ((strOfNums x6 ++ (⟨#[97,32]⟩:ByteArray)) ++ t).size+1≤9223372036854775807 then ((coronerref04_number.f k o.f2).bind fun t2=>if (((strOfNums x6 ++ (⟨#[97,32]⟩:ByteArray)) ++ t) ++ (⟨#[32]⟩:ByteArray)).size+t2.size≤9223372036854775807 then (if ((((strOfNums x6 ++ (⟨#[97,32]⟩:ByteArray)) ++ t) ++ (⟨#[32]⟩:ByteArray)) ++ t2).size+1≤9223372036854775807 then coronerref04_Text.l1 k (strOfNums x3) (x4n:Int) (((((strOfNums x6 ++ (⟨#[97,32]⟩:ByteArray)) ++ t) ++ (⟨#[32]⟩:ByteArray)) ++ t2) ++ (⟨#[10]⟩:ByteArray)) ((j+1:Nat):Int) h a0 a1 a2 else none) else none) else none) else none) (fun k=>?_) ?_
   ·simp only [coronerref04_Text.l1]
    rw [if_pos (by omega),if_pos (by omega),rd39 hlt,ho,if_neg hr,if_pos (by rw [str_len];omega),wrapS hlt (by omega)]
   ·refine Ev.bind (number_ev hk1) ?_
    have e1:strOfNums x6 ++ (⟨#[97,32]⟩:ByteArray)=strOfNums (x6 ++ [97,32]):=str_lit _ [97,32] _ rfl
    have e2:strOfNums (x6 ++ [97,32]) ++ strOfNums (numS o.f1)=strOfNums (x6 ++ 97 :: 32 :: numS o.f1):=by rw [str_append];simp
    have e3:strOfNums (x6 ++ 97 :: 32 :: numS o.f1) ++ (⟨#[32]⟩:ByteArray)=strOfNums (x6 ++ 97 :: 32 :: numS o.f1 ++ [32]):=str_lit _ [32] _ rfl
    rw [e1,e2,e3]
    refine Ev.congr (fun k=>(if_pos (by rw [str_len,str_len];simp;omega)).trans (if_pos (by rw [str_len];simp;omega))) ?_
    refine Ev.bind (number_ev hk2.1) ?_
    have e4:strOfNums (x6 ++ 97 :: 32 :: numS o.f1 ++ [32]) ++ strOfNums (numS o.f2)=strOfNums (x6 ++ 97 :: 32 :: numS o.f1 ++ [32] ++ numS o.f2):=by rw [str_append]
    have e5:strOfNums (x6 ++ 97 :: 32 :: numS o.f1 ++ [32] ++ numS o.f2) ++ (⟨#[10]⟩:ByteArray)=strOfNums (x6 ++ (97 :: (32 :: numS o.f1 ++ 32 :: numS o.f2) ++ [10])):=by
     have:x6 ++ (97 :: (32 :: numS o.f1 ++ 32 :: numS o.f2) ++ [10])=x6 ++ 97 :: 32 :: numS o.f1 ++ [32] ++ numS o.f2 ++ [10]:=by simp
     rw [this];exact str_lit _ [10] _ rfl
    rw [e4,e5]
    exact Ev.congr (fun k=>(if_pos (by rw [str_len,str_len];simp;omega)).trans (if_pos (by rw [str_len];simp;omega))) ih
end
theorem rtext_l0 (h:List S42) (hlh:h.length≤big) (ha:h.all okT=true) (hl2:∀ t ∈ h,t.f2.length≤big∧∀ o ∈ t.f2,o.f3.length≤big):∀ (d j:Nat) (x3:List Int),j+d=h.length→x3.length+((h.drop j).flatMap txnT).length≤big →
 Ev (fun k=>coronerref04_Text.l0 k (strOfNums x3) (j:Int) h) (strOfNums (x3 ++ (h.drop j).flatMap txnT))
 | 0,j,x3,hj,hb=>by
  rw [List.drop_eq_nil_of_le (by omega),List.flatMap_nil,List.append_nil]
  exact Ev.step (f:=fun _=>some _) (fun k=>by simp only [coronerref04_Text.l0];rw [if_neg (by omega)]) (Ev.now _)
 | d+1,j,x3,hj,hb=>by
  have hlt:j < h.length:=by omega
  have hok:okT h[j]=true:=List.all_eq_true.1 ha _ (List.getElem_mem hlt)
  obtain ⟨hl,hl3⟩:=hl2 _ (List.getElem_mem hlt)
  rw [List.drop_eq_getElem_cons hlt,List.flatMap_cons] at hb ⊢
  rw [List.length_append] at hb
  have ih:=rtext_l0 h hlh ha hl2 d (j+1) (x3 ++ txnT h[j]) (by omega) (by rw [List.length_append];omega)
  rw [List.append_assoc] at ih
  generalize ht:h[j]=t at *
  unfold okT at hok
  simp only [Bool.and_eq_true] at hok
  have hn:=numS_len hok.1
  unfold txnT at hb
  simp only [List.length_append] at hb
  have hhl:(headT t).length=(numS t.f0).length+5:=by unfold headT;rw [texts_one];simp
  have h1:=rtext_l1 (h:=h) (x3:=x3) (a0:=t.f0) (a1:=t.f1) (a2:=t.f2) (R:=strOfNums (x3 ++ (txnT t ++ (h.drop (j+1)).flatMap txnT))) j hlt hlh hl hok.2 hl3 t.f2.length 0 (headT t) (by omega) (by rw [List.drop_zero];omega) (by
   rw [List.drop_zero];exact ih)
  unfold big at *
  have hj1:Ev (fun k=>coronerref04_Text.j1 k (strOfNums x3) (j:Int) (strOfNums (headT t)) h t.f0 t.f1 t.f2) (strOfNums (x3 ++ (txnT t ++ (h.drop (j+1)).flatMap txnT))) :=
   Ev.step (fun k=>by simp only [coronerref04_Text.j1];rfl) h1
  refine Ev.step (f:=fun k=>(coronerref04_number.f k t.f0).bind fun t140=>if 2+t140.size≤9223372036854775807 then (if t.f1=true then (if ((⟨#[116,32]⟩:ByteArray) ++ t140).size+3≤9223372036854775807 then coronerref04_Text.j1 k (strOfNums x3) (j:Int) (((⟨#[116,32]⟩:ByteArray) ++ t140) ++ (⟨#[32,97,10]⟩:ByteArray)) h t.f0 t.f1 t.f2 else none) else (if ((⟨#[116,32]⟩:ByteArray) ++ t140).size+3≤9223372036854775807 then coronerref04_Text.j1 k (strOfNums x3) (j:Int) (((⟨#[116,32]⟩:ByteArray) ++ t140) ++ (⟨#[32,99,10]⟩:ByteArray)) h t.f0 t.f1 t.f2 else none)) else none) (fun k=>?_) ?_
  ·simp only [coronerref04_Text.l0]
   rw [if_pos (by omega),if_pos (by omega),rd42 hlt,ht]
  ·refine Ev.bind (number_ev hok.1) ?_
   have e1:(⟨#[116,32]⟩:ByteArray) ++ strOfNums (numS t.f0)=strOfNums (116 :: 32 :: numS t.f0):=by
    have:(116:Int) :: 32 :: numS t.f0=[116,32] ++ numS t.f0:=rfl
    rw [this,← str_append];rfl
   rw [e1]
   refine Ev.congr (fun k=>if_pos (by rw [str_len];omega)) ?_
   by_cases hab:t.f1=true
   ·have e2:strOfNums (116 :: 32 :: numS t.f0) ++ (⟨#[32,97,10]⟩:ByteArray)=strOfNums (headT t):=by
     unfold headT
     rw [if_pos hab,texts_one];exact str_lit _ [32,97,10] _ rfl
    rw [e2]
    exact Ev.congr (fun k=>(if_pos hab).trans (if_pos (by rw [str_len];simp;omega))) hj1
   ·have e2:strOfNums (116 :: 32 :: numS t.f0) ++ (⟨#[32,99,10]⟩:ByteArray)=strOfNums (headT t):=by
     unfold headT
     rw [if_neg hab,texts_one];exact str_lit _ [32,99,10] _ rfl
    rw [e2]
    exact Ev.congr (fun k=>(if_neg hab).trans (if_pos (by rw [str_len];simp;omega))) hj1
theorem rtext_ev (h:List S42) (hlh:h.length≤big) (ha:h.all okT=true) (hl2:∀ t ∈ h,t.f2.length≤big∧∀ o ∈ t.f2,o.f3.length≤big) (hb:(histT h).length≤big):Ev (fun k=>coronerref04_Text.f k h) (strOfNums (histT h)):=by
 have:=rtext_l0 h hlh ha hl2 h.length 0 [] (by omega) (by rw [List.drop_zero,List.length_nil,Nat.zero_add];exact hb)
 exact this
end Go.Proofs.Ytlcioegdmopppaa.En
