/- Printed by shake.py. -/
import Derived.Test.YtlcioegdmopppaaShE21
import Derived.Test.YtlcioegdmopppaaShE44
import Derived.Test.YtlcioegdmopppaaShE34
namespace Go.Proofs.Ytlcioegdmopppaa.PEncodeBack
open Go.RowKit Go.Proofs.YtlcioegdmopppaaW.PrintWords Go.Proofs.YtlcioegdmopppaaW.PrintLast Go.Proofs.YtlcioegdmopppaaW.PrintMore
attribute [local go_sem] max2_int min2_int max_two min_two max_three min_three max_four min_four
set_option linter.unusedVariables false
set_option linter.unusedSimpArgs false
def coronerref04_mayOp.l0:Nat→Int→Bool→Int→Int→List Int→Option (Bool)
 | 0,_,_,_,_,_=>none
 | k+1,x3,x151000,x151001,x151002,x151003=>if x3 < (x151003.length:Int) then (if 0≤x3 then ((coronerref04_may.f (rd x151003 x3)).bind fun t154=>(if t154=true then (coronerref04_mayOp.l0 k (wrap64 (x3+1)) x151000 x151001 x151002 x151003) else (some false))) else (none)) else (some (x151002 == 0))
def coronerref04_mayOp.f (k:Nat) (a0_0:Bool) (a0_1:Int) (a0_2:Int) (l0_3:List Int):Option (Bool):=(coronerref04_may.f a0_1).bind fun t151=>(if t151=true then (if a0_0=true then (coronerref04_mayOp.l0 k 0 a0_0 a0_1 a0_2 l0_3) else ((coronerref04_may.f a0_2).bind fun t152=>(if t152=true then (some ((l0_3.length:Int) == 0)) else (some false)))) else (some false))
set_option maxHeartbeats 8000000 in
set_option maxRecDepth 100000 in
theorem coronerref04_mayOp.calls (k:Nat) (a0_0:Bool) (a0_1:Int) (a0_2:Int) (A0_3:Option Addr) (c0_3:Nat) (l0_3:List Int) (r:Bool) (w:World) (hr0_3:Kd.C (Kd.int .i64) w A0_3 l0_3.length l0_3) (hc0_3:l0_3.length≤c0_3) (h:coronerref04_mayOp.f k a0_0 a0_1 a0_2 l0_3=some r) :
 Calls Try.prog 29 #[.agg #[.bool a0_0,.int .i64 a0_1,.int .i64 a0_2,.slice A0_3 l0_3.length c0_3]] w fun e w'=>e=.returned (.bool r)∧Below w.heap.size w w':=by
 have hu39:=Try.underlying39
 have HR0_3:=Aside0.mk hr0_3
 have HC0_3:=Aside0.mk hc0_3
 clear hr0_3 hc0_3
 have HB:=Aside0.mk (Below.refl w.heap.size w)
 have H:((coronerref04_may.f a0_1).bind fun t151=>(if t151=true then (if a0_0=true then (coronerref04_mayOp.l0 k 0 a0_0 a0_1 a0_2 l0_3) else ((coronerref04_may.f a0_2).bind fun t152=>(if t152=true then (some ((l0_3.length:Int) == 0)) else (some false)))) else (some false)))=some r:=h
 clear h
 replace H:=Option.bind_eq_some_iff.mp H
 obtain ⟨t151,A20,H⟩:=H
 replace H:(if t151=true then (if a0_0=true then (coronerref04_mayOp.l0 k 0 a0_0 a0_1 a0_2 l0_3) else ((coronerref04_may.f a0_2).bind fun t152=>(if t152=true then (some ((l0_3.length:Int) == 0)) else (some false)))) else (some false))=some r:=H
 have A2:=Aside0.mk A20
 clear A20
 by_cases c3:t151=true
 ·subst c3
  have H1:(if a0_0=true then (coronerref04_mayOp.l0 k 0 a0_0 a0_1 a0_2 l0_3) else ((coronerref04_may.f a0_2).bind fun t152=>(if t152=true then (some ((l0_3.length:Int) == 0)) else (some false))))=some r:=by rw [if_pos rfl] at H;exact H
  clear H
  have H:=H1
  clear H1
  by_cases c4:a0_0=true
  ·subst c4
   have H1:(coronerref04_mayOp.l0 k 0 true a0_1 a0_2 l0_3)=some r:=by rw [if_pos rfl] at H;exact H
   clear H
   have H:=H1
   clear H1
   have H':=Aside0.mk H
   clear H
   go_enter Try.func29,Try.ntmps29
   go_wp2_with (first|((with_reducible refine gate_dst (N:=1) rfl ?_);(try (refine gate_guard (by rfl) ?_;dsimp only));refine box_event ?hg (N:=1) ?hd (cs:=#[.bool true,.int .i64 a0_1,.int .i64 a0_2,.slice A0_3 l0_3.length c0_3]) (t:=39) ?hr ?_;(case hd=>rfl);(case hg=>rfl);(case hr=>first|(go_simp;done)|(go_simp;rfl));intro gb150 hg w5 hbox hb;have n0_:=Aside0.mk (below_step (by repeat (first|(with_reducible first|exact HB.out|apply below_alloc|apply pw_below_drewN|apply below_drew1)|exact HB.out)) hb);have n1_:=Aside0.mk (hbox);have n2_:=Aside0.mk ((by rw [hg];exact (below_size (by repeat (first|(with_reducible first|exact HB.out|apply below_alloc|apply pw_below_drewN|apply below_drew1)|exact HB.out))):w.heap.size≤gb150));have n3_:=Aside0.mk ((by rw [hg];exact (below_size (by repeat (first|(with_reducible first|exact HB.out|apply below_alloc|apply pw_below_drewN|apply below_drew1)|exact HB.out))):w.heap.size≤gb150));clear HB;have HB:=n0_;have BK150:=n1_;have GW150:=n2_;have GE150:=n3_;clear n0_ n1_ n2_ n3_;clear hb hbox hg;have hcz6_0:w5.cell? ⟨gb150,0,none⟩=some (.bool true):=(blk_cell BK150.out 0).trans rfl;have hcz6_1:w5.cell? ⟨gb150,1,none⟩=some (.int .i64 a0_1):=(blk_cell BK150.out 1).trans rfl;have hcz6_2:w5.cell? ⟨gb150,2,none⟩=some (.int .i64 a0_2):=(blk_cell BK150.out 2).trans rfl;have hcz6_3:w5.cell? ⟨gb150,3,none⟩=some (.slice A0_3 l0_3.length c0_3):=(blk_cell BK150.out 3).trans rfl;have hfz6_0:=blk_frozen BK150.out 0;have hfz6_1:=blk_frozen BK150.out 1;have hfz6_2:=blk_frozen BK150.out 2;have hfz6_3:=blk_frozen BK150.out 3)|((with_reducible refine gate_callee (f:=28) rfl ?_);refine goesL_ (some 6) rfl rfl Try.func28 (by kernel_rfl) rfl #[.int .i64 a0_1] rfl (by (try simp only [List.map_toArray,List.map_cons,List.map_nil]);first|done|rfl|(simp only [List.length_drop,List.length_take];rfl)) ?_;(with_reducible refine (coronerref04_may.calls a0_1 true _ A2.out).mono ?_);rintro e w' ⟨rfl,⟨nd,rfl⟩⟩;refine ⟨_,rfl,?_⟩))
   go_loopg [3] k (fun kq v3 w'=>∃ (x3_1:Int),v3=.int .i64 x3_1∧Aside0 (coronerref04_mayOp.l0 kq x3_1 true a0_1 a0_2 l0_3=some r)∧Aside0 (kq≤k)∧Aside0 (w'.heap[gb150]?=some (.cells #[.bool true,.int .i64 a0_1,.int .i64 a0_2,(.slice A0_3 l0_3.length c0_3)] 39 (0,0)))∧Aside0 (Below w.heap.size w w'))
   case atStart=>exact ⟨(0),(by first|rfl|(simp;done)|(simp [*];done)),H',⟨Nat.le_refl _⟩,⟨by (with_reducible repeat (first|refine blk_drewN ?_ _|refine blk_drew ?_|refine blk_alloc ?_ _));exact BK150.out⟩,⟨by repeat (first|(with_reducible first|exact HB.out|apply below_alloc|apply pw_below_drewN|apply below_drew1|refine below_set ?_ GE150.out)|exact HB.out)⟩⟩
   case round =>
    clear H'
    try clear c2
    try clear p2
    try clear c3
    try clear c4
    try clear hcz6_0
    try clear hcz6_1
    try clear hcz6_2
    try clear hcz6_3
    try clear hfz6_0
    try clear hfz6_1
    try clear hfz6_2
    try clear hfz6_3
    obtain ⟨x3_1,rfl,HA,HK1,BK150,HB⟩:=hrel
    cases gk with
    | zero=>exact absurd HA.out (by simp [coronerref04_mayOp.l0])
    | succ k1 =>
     have H:=HA.out
     clear HA
     simp only [coronerref04_mayOp.l0] at H
     by_cases c7:x3_1 < (l0_3.length:Int)
     ·rw [if_pos c7] at H
      have c7b0:decide (x3_1 < (l0_3.length:Int))=true:=decide_eq_true c7
      clear c7
      by_cases c8:0≤x3_1
      ·rw [if_pos c8] at H
       have c8b0:decide (0≤x3_1)=true:=decide_eq_true c8
       clear c8
       replace H:=Option.bind_eq_some_iff.mp H
       obtain ⟨t154,A90,H⟩:=H
       replace H:(if t154=true then (coronerref04_mayOp.l0 k1 (wrap64 (x3_1+1)) true a0_1 a0_2 l0_3) else (some false))=some r:=H
       have A9:=Aside0.mk A90
       clear A90
       by_cases c10:t154=true
       ·subst c10
        have H1:(coronerref04_mayOp.l0 k1 (wrap64 (x3_1+1)) true a0_1 a0_2 l0_3)=some r:=by rw [if_pos rfl] at H;exact H
        clear H
        have H:=H1
        clear H1
        have H':=Aside0.mk H
        clear H
        have hcz11_0:wr.cell? ⟨gb150,0,none⟩=some (.bool true):=(blk_cell BK150.out 0).trans rfl
        have hcz11_1:wr.cell? ⟨gb150,1,none⟩=some (.int .i64 a0_1):=(blk_cell BK150.out 1).trans rfl
        have hcz11_2:wr.cell? ⟨gb150,2,none⟩=some (.int .i64 a0_2):=(blk_cell BK150.out 2).trans rfl
        have hcz11_3:wr.cell? ⟨gb150,3,none⟩=some (.slice A0_3 l0_3.length c0_3):=(blk_cell BK150.out 3).trans rfl
        have hfz11_0:=blk_frozen BK150.out 0
        have hfz11_1:=blk_frozen BK150.out 1
        have hfz11_2:=blk_frozen BK150.out 2
        have hfz11_3:=blk_frozen BK150.out 3
        have p153:0≤(x3_1:Int):=of_decide_eq_true (by first|(with_reducible assumption)|assumption)
        have q153:x3_1 < (l0_3.length:Int):=of_decide_eq_true (by first|(with_reducible assumption)|assumption)
        obtain ⟨ad153,e153,hx153_0⟩:=Kd.at_int HR0_3.out x3_1 p153 q153
        cases e153
        replace hx153_0:=(HB.out.cell (World.block_lt_of_cell? w _ hx153_0)).trans hx153_0
        replace p153:=eq_true p153
        replace q153:=eq_true q153
        go_wp2_with (first|((with_reducible refine gate_callee (f:=28) rfl ?_);refine goesL_ (some 32) rfl rfl Try.func28 (by kernel_rfl) rfl #[.int .i64 (rd l0_3 x3_1)] rfl (by (try simp only [List.map_toArray,List.map_cons,List.map_nil]);first|done|rfl|(simp only [List.length_drop,List.length_take];rfl)) ?_;(with_reducible refine (coronerref04_may.calls (rd l0_3 x3_1) true _ A9.out).mono ?_);rintro e w' ⟨rfl,⟨nd,rfl⟩⟩;refine ⟨_,rfl,?_⟩))
        go_roundg k1
        case measure=>have:=HK1.out;omega
        case rel=>exact ⟨(wrap64 (x3_1+1)),(by first|rfl|(simp;done)|(simp [*];done)),H',⟨by have:=HK1.out;omega⟩,⟨by (with_reducible repeat (first|refine blk_drewN ?_ _|refine blk_drew ?_|refine blk_alloc ?_ _));exact BK150.out⟩,⟨by repeat (first|(with_reducible first|exact HB.out|apply below_alloc|apply pw_below_drewN|apply below_drew1|refine below_set ?_ GE150.out)|exact HB.out)⟩⟩
       ·replace c10:=Bool.eq_false_iff.mpr c10
        subst c10
        have H1:(some false)=some r:=by rw [if_neg (show ¬ (false=true) by decide)] at H;exact H
        clear H
        have H:=H1
        clear H1
        obtain rfl:=Option.some.inj H
        have hcz12_0:wr.cell? ⟨gb150,0,none⟩=some (.bool true):=(blk_cell BK150.out 0).trans rfl
        have hcz12_1:wr.cell? ⟨gb150,1,none⟩=some (.int .i64 a0_1):=(blk_cell BK150.out 1).trans rfl
        have hcz12_2:wr.cell? ⟨gb150,2,none⟩=some (.int .i64 a0_2):=(blk_cell BK150.out 2).trans rfl
        have hcz12_3:wr.cell? ⟨gb150,3,none⟩=some (.slice A0_3 l0_3.length c0_3):=(blk_cell BK150.out 3).trans rfl
        have hfz12_0:=blk_frozen BK150.out 0
        have hfz12_1:=blk_frozen BK150.out 1
        have hfz12_2:=blk_frozen BK150.out 2
        have hfz12_3:=blk_frozen BK150.out 3
        have p153:0≤(x3_1:Int):=of_decide_eq_true (by first|(with_reducible assumption)|assumption)
        have q153:x3_1 < (l0_3.length:Int):=of_decide_eq_true (by first|(with_reducible assumption)|assumption)
        obtain ⟨ad153,e153,hx153_0⟩:=Kd.at_int HR0_3.out x3_1 p153 q153
        cases e153
        replace hx153_0:=(HB.out.cell (World.block_lt_of_cell? w _ hx153_0)).trans hx153_0
        replace p153:=eq_true p153
        replace q153:=eq_true q153
        go_wp2_with (first|((with_reducible refine gate_callee (f:=28) rfl ?_);refine goesL_ (some 32) rfl rfl Try.func28 (by kernel_rfl) rfl #[.int .i64 (rd l0_3 x3_1)] rfl (by (try simp only [List.map_toArray,List.map_cons,List.map_nil]);first|done|rfl|(simp only [List.length_drop,List.length_take];rfl)) ?_;(with_reducible refine (coronerref04_may.calls (rd l0_3 x3_1) false _ A9.out).mono ?_);rintro e w' ⟨rfl,⟨nd,rfl⟩⟩;refine ⟨_,rfl,?_⟩))
        go_ret
        exact ⟨by first|rfl|(simp [errW_none,errW_some] <;> rfl)|(simp [*,errW_none,errW_some] <;> rfl),by repeat (first|(with_reducible first|exact HB.out|apply below_alloc|apply pw_below_drewN|apply below_drew1|refine below_set ?_ GE150.out)|exact HB.out)⟩
      ·rw [if_neg c8] at H
       exact absurd H (by simp)
     ·rw [if_neg c7] at H
      have c7b0:decide (x3_1 < (l0_3.length:Int))=false:=decide_eq_false c7
      clear c7
      obtain rfl:=Option.some.inj H
      have hcz13_0:wr.cell? ⟨gb150,0,none⟩=some (.bool true):=(blk_cell BK150.out 0).trans rfl
      have hcz13_1:wr.cell? ⟨gb150,1,none⟩=some (.int .i64 a0_1):=(blk_cell BK150.out 1).trans rfl
      have hcz13_2:wr.cell? ⟨gb150,2,none⟩=some (.int .i64 a0_2):=(blk_cell BK150.out 2).trans rfl
      have hcz13_3:wr.cell? ⟨gb150,3,none⟩=some (.slice A0_3 l0_3.length c0_3):=(blk_cell BK150.out 3).trans rfl
      have hfz13_0:=blk_frozen BK150.out 0
      have hfz13_1:=blk_frozen BK150.out 1
      have hfz13_2:=blk_frozen BK150.out 2
      have hfz13_3:=blk_frozen BK150.out 3
      go_wp2
      go_ret
      exact ⟨by first|rfl|(simp [errW_none,errW_some] <;> rfl)|(simp [*,errW_none,errW_some] <;> rfl),by repeat (first|(with_reducible first|exact HB.out|apply below_alloc|apply pw_below_drewN|apply below_drew1|refine below_set ?_ GE150.out)|exact HB.out)⟩
  ·replace c4:=Bool.eq_false_iff.mpr c4
   subst c4
   have H1:((coronerref04_may.f a0_2).bind fun t152=>(if t152=true then (some ((l0_3.length:Int) == 0)) else (some false)))=some r:=by rw [if_neg (show ¬ (false=true) by decide)] at H;exact H
   clear H
   have H:=H1
   clear H1
   replace H:=Option.bind_eq_some_iff.mp H
   obtain ⟨t152,A140,H⟩:=H
   replace H:(if t152=true then (some ((l0_3.length:Int) == 0)) else (some false))=some r:=H
   have A14:=Aside0.mk A140
   clear A140
   by_cases c15:t152=true
   ·subst c15
    have H1:(some ((l0_3.length:Int) == 0))=some r:=by rw [if_pos rfl] at H;exact H
    clear H
    have H:=H1
    clear H1
    obtain rfl:=Option.some.inj H
    go_enter Try.func29,Try.ntmps29
    go_wp2_with (first|((with_reducible refine gate_dst (N:=1) rfl ?_);(try (refine gate_guard (by rfl) ?_;dsimp only));refine box_event ?hg (N:=1) ?hd (cs:=#[.bool false,.int .i64 a0_1,.int .i64 a0_2,.slice A0_3 l0_3.length c0_3]) (t:=39) ?hr ?_;(case hd=>rfl);(case hg=>rfl);(case hr=>first|(go_simp;done)|(go_simp;rfl));intro gb150 hg w16 hbox hb;have n0_:=Aside0.mk (below_step (by repeat (first|(with_reducible first|exact HB.out|apply below_alloc|apply pw_below_drewN|apply below_drew1)|exact HB.out)) hb);have n1_:=Aside0.mk (hbox);have n2_:=Aside0.mk ((by rw [hg];exact (below_size (by repeat (first|(with_reducible first|exact HB.out|apply below_alloc|apply pw_below_drewN|apply below_drew1)|exact HB.out))):w.heap.size≤gb150));have n3_:=Aside0.mk ((by rw [hg];exact (below_size (by repeat (first|(with_reducible first|exact HB.out|apply below_alloc|apply pw_below_drewN|apply below_drew1)|exact HB.out))):w.heap.size≤gb150));clear HB;have HB:=n0_;have BK150:=n1_;have GW150:=n2_;have GE150:=n3_;clear n0_ n1_ n2_ n3_;clear hb hbox hg;have hcz17_0:w16.cell? ⟨gb150,0,none⟩=some (.bool false):=(blk_cell BK150.out 0).trans rfl;have hcz17_1:w16.cell? ⟨gb150,1,none⟩=some (.int .i64 a0_1):=(blk_cell BK150.out 1).trans rfl;have hcz17_2:w16.cell? ⟨gb150,2,none⟩=some (.int .i64 a0_2):=(blk_cell BK150.out 2).trans rfl;have hcz17_3:w16.cell? ⟨gb150,3,none⟩=some (.slice A0_3 l0_3.length c0_3):=(blk_cell BK150.out 3).trans rfl;have hfz17_0:=blk_frozen BK150.out 0;have hfz17_1:=blk_frozen BK150.out 1;have hfz17_2:=blk_frozen BK150.out 2;have hfz17_3:=blk_frozen BK150.out 3)|((with_reducible refine gate_callee (f:=28) rfl ?_);refine goesL_ (some 6) rfl rfl Try.func28 (by kernel_rfl) rfl #[.int .i64 a0_1] rfl (by (try simp only [List.map_toArray,List.map_cons,List.map_nil]);first|done|rfl|(simp only [List.length_drop,List.length_take];rfl)) ?_;(with_reducible refine (coronerref04_may.calls a0_1 true _ A2.out).mono ?_);rintro e w' ⟨rfl,⟨nd,rfl⟩⟩;refine ⟨_,rfl,?_⟩)|((with_reducible refine gate_callee (f:=28) rfl ?_);refine goesL_ (some 13) rfl rfl Try.func28 (by kernel_rfl) rfl #[.int .i64 a0_2] rfl (by (try simp only [List.map_toArray,List.map_cons,List.map_nil]);first|done|rfl|(simp only [List.length_drop,List.length_take];rfl)) ?_;(with_reducible refine (coronerref04_may.calls a0_2 true _ A14.out).mono ?_);rintro e w' ⟨rfl,⟨nd,rfl⟩⟩;refine ⟨_,rfl,?_⟩))
    go_ret
    exact ⟨by first|rfl|(simp [errW_none,errW_some] <;> rfl)|(simp [*,errW_none,errW_some] <;> rfl),by repeat (first|(with_reducible first|exact HB.out|apply below_alloc|apply pw_below_drewN|apply below_drew1|refine below_set ?_ GE150.out)|exact HB.out)⟩
   ·replace c15:=Bool.eq_false_iff.mpr c15
    subst c15
    have H1:(some false)=some r:=by rw [if_neg (show ¬ (false=true) by decide)] at H;exact H
    clear H
    have H:=H1
    clear H1
    obtain rfl:=Option.some.inj H
    go_enter Try.func29,Try.ntmps29
    go_wp2_with (first|((with_reducible refine gate_dst (N:=1) rfl ?_);(try (refine gate_guard (by rfl) ?_;dsimp only));refine box_event ?hg (N:=1) ?hd (cs:=#[.bool false,.int .i64 a0_1,.int .i64 a0_2,.slice A0_3 l0_3.length c0_3]) (t:=39) ?hr ?_;(case hd=>rfl);(case hg=>rfl);(case hr=>first|(go_simp;done)|(go_simp;rfl));intro gb150 hg w18 hbox hb;have n0_:=Aside0.mk (below_step (by repeat (first|(with_reducible first|exact HB.out|apply below_alloc|apply pw_below_drewN|apply below_drew1)|exact HB.out)) hb);have n1_:=Aside0.mk (hbox);have n2_:=Aside0.mk ((by rw [hg];exact (below_size (by repeat (first|(with_reducible first|exact HB.out|apply below_alloc|apply pw_below_drewN|apply below_drew1)|exact HB.out))):w.heap.size≤gb150));have n3_:=Aside0.mk ((by rw [hg];exact (below_size (by repeat (first|(with_reducible first|exact HB.out|apply below_alloc|apply pw_below_drewN|apply below_drew1)|exact HB.out))):w.heap.size≤gb150));clear HB;have HB:=n0_;have BK150:=n1_;have GW150:=n2_;have GE150:=n3_;clear n0_ n1_ n2_ n3_;clear hb hbox hg;have hcz19_0:w18.cell? ⟨gb150,0,none⟩=some (.bool false):=(blk_cell BK150.out 0).trans rfl;have hcz19_1:w18.cell? ⟨gb150,1,none⟩=some (.int .i64 a0_1):=(blk_cell BK150.out 1).trans rfl;have hcz19_2:w18.cell? ⟨gb150,2,none⟩=some (.int .i64 a0_2):=(blk_cell BK150.out 2).trans rfl;have hcz19_3:w18.cell? ⟨gb150,3,none⟩=some (.slice A0_3 l0_3.length c0_3):=(blk_cell BK150.out 3).trans rfl;have hfz19_0:=blk_frozen BK150.out 0;have hfz19_1:=blk_frozen BK150.out 1;have hfz19_2:=blk_frozen BK150.out 2;have hfz19_3:=blk_frozen BK150.out 3)|((with_reducible refine gate_callee (f:=28) rfl ?_);refine goesL_ (some 6) rfl rfl Try.func28 (by kernel_rfl) rfl #[.int .i64 a0_1] rfl (by (try simp only [List.map_toArray,List.map_cons,List.map_nil]);first|done|rfl|(simp only [List.length_drop,List.length_take];rfl)) ?_;(with_reducible refine (coronerref04_may.calls a0_1 true _ A2.out).mono ?_);rintro e w' ⟨rfl,⟨nd,rfl⟩⟩;refine ⟨_,rfl,?_⟩)|((with_reducible refine gate_callee (f:=28) rfl ?_);refine goesL_ (some 13) rfl rfl Try.func28 (by kernel_rfl) rfl #[.int .i64 a0_2] rfl (by (try simp only [List.map_toArray,List.map_cons,List.map_nil]);first|done|rfl|(simp only [List.length_drop,List.length_take];rfl)) ?_;(with_reducible refine (coronerref04_may.calls a0_2 false _ A14.out).mono ?_);rintro e w' ⟨rfl,⟨nd,rfl⟩⟩;refine ⟨_,rfl,?_⟩))
    go_ret
    exact ⟨by first|rfl|(simp [errW_none,errW_some] <;> rfl)|(simp [*,errW_none,errW_some] <;> rfl),by repeat (first|(with_reducible first|exact HB.out|apply below_alloc|apply pw_below_drewN|apply below_drew1|refine below_set ?_ GE150.out)|exact HB.out)⟩
 ·replace c3:=Bool.eq_false_iff.mpr c3
  subst c3
  have H1:(some false)=some r:=by rw [if_neg (show ¬ (false=true) by decide)] at H;exact H
  clear H
  have H:=H1
  clear H1
  obtain rfl:=Option.some.inj H
  go_enter Try.func29,Try.ntmps29
  go_wp2_with (first|((with_reducible refine gate_dst (N:=1) rfl ?_);(try (refine gate_guard (by rfl) ?_;dsimp only));refine box_event ?hg (N:=1) ?hd (cs:=#[.bool a0_0,.int .i64 a0_1,.int .i64 a0_2,.slice A0_3 l0_3.length c0_3]) (t:=39) ?hr ?_;(case hd=>rfl);(case hg=>rfl);(case hr=>first|(go_simp;done)|(go_simp;rfl));intro gb150 hg w20 hbox hb;have n0_:=Aside0.mk (below_step (by repeat (first|(with_reducible first|exact HB.out|apply below_alloc|apply pw_below_drewN|apply below_drew1)|exact HB.out)) hb);have n1_:=Aside0.mk (hbox);have n2_:=Aside0.mk ((by rw [hg];exact (below_size (by repeat (first|(with_reducible first|exact HB.out|apply below_alloc|apply pw_below_drewN|apply below_drew1)|exact HB.out))):w.heap.size≤gb150));have n3_:=Aside0.mk ((by rw [hg];exact (below_size (by repeat (first|(with_reducible first|exact HB.out|apply below_alloc|apply pw_below_drewN|apply below_drew1)|exact HB.out))):w.heap.size≤gb150));clear HB;have HB:=n0_;have BK150:=n1_;have GW150:=n2_;have GE150:=n3_;clear n0_ n1_ n2_ n3_;clear hb hbox hg;have hcz21_0:w20.cell? ⟨gb150,0,none⟩=some (.bool a0_0):=(blk_cell BK150.out 0).trans rfl;have hcz21_1:w20.cell? ⟨gb150,1,none⟩=some (.int .i64 a0_1):=(blk_cell BK150.out 1).trans rfl;have hcz21_2:w20.cell? ⟨gb150,2,none⟩=some (.int .i64 a0_2):=(blk_cell BK150.out 2).trans rfl;have hcz21_3:w20.cell? ⟨gb150,3,none⟩=some (.slice A0_3 l0_3.length c0_3):=(blk_cell BK150.out 3).trans rfl;have hfz21_0:=blk_frozen BK150.out 0;have hfz21_1:=blk_frozen BK150.out 1;have hfz21_2:=blk_frozen BK150.out 2;have hfz21_3:=blk_frozen BK150.out 3)|((with_reducible refine gate_callee (f:=28) rfl ?_);refine goesL_ (some 6) rfl rfl Try.func28 (by kernel_rfl) rfl #[.int .i64 a0_1] rfl (by (try simp only [List.map_toArray,List.map_cons,List.map_nil]);first|done|rfl|(simp only [List.length_drop,List.length_take];rfl)) ?_;(with_reducible refine (coronerref04_may.calls a0_1 false _ A2.out).mono ?_);rintro e w' ⟨rfl,⟨nd,rfl⟩⟩;refine ⟨_,rfl,?_⟩))
  go_ret
  exact ⟨by first|rfl|(simp [errW_none,errW_some] <;> rfl)|(simp [*,errW_none,errW_some] <;> rfl),by repeat (first|(with_reducible first|exact HB.out|apply below_alloc|apply pw_below_drewN|apply below_drew1|refine below_set ?_ GE150.out)|exact HB.out)⟩
def coronerref04_earlier.f (l0_0:List (S42)) (a1:Int) (a2:Int):Option ((List (S42))):=(some (([]:List (S42)):List (S42))).bind fun y162=>(if 0≤a1 then (if a1≤(l0_0.length:Int) then ((some (l0_0.take (a1:Int).toNat:List (S42))).bind fun y165=>(if y162.length+y165.length < 3518437208883 then ((some (y162 ++ y165:List (S42))).bind fun y170=>(if a1 < (l0_0.length:Int) then (if 0≤a2 then (if a2≤(((rd_T42 l0_0 a1).f2).length:Int) then (if y170.length < 3518437208883 then (some (y170 ++ [(⟨(rd_T42 l0_0 a1).f0,(rd_T42 l0_0 a1).f1,(((rd_T42 l0_0 a1).f2).take (a2:Int).toNat)⟩:S42)])) else (none)) else (none)) else (none)) else (none))) else (none))) else (none)) else (none))
set_option maxHeartbeats 8000000 in
set_option maxRecDepth 100000 in
theorem coronerref04_earlier.calls (P0_0_:Nat→Prop) (A0_0:Option Addr) (c0_0:Nat) (l0_0:List (S42)) (a1:Int) (a2:Int) (r:List (S42)) (w:World) (hs0_0:Kd.V k42 42 w w.heap.size (fun k_=>P0_0_ k_) (.slice A0_0 l0_0.length c0_0) l0_0) (h:coronerref04_earlier.f l0_0 a1 a2=some r) :
 Calls Try.prog 31 #[.agg #[.slice A0_0 l0_0.length c0_0],.int .i64 a1,.int .i64 a2] w fun e w'=>∃ v0_:Value,e=.returned (.agg #[v0_])∧Kd.N k42 42 w' w.heap.size (fun k_=>(P0_0_ k_ ∨ w.heap.size≤k_)) v0_ r∧Below w.heap.size w w':=by
 have hu24:=Try.underlying24
 have hu42:=Try.underlying42
 have HO0_0:=Aside0.mk (show Kd.V k42 42 w w.heap.size (fun k_=>(P0_0_ k_ ∨ w.heap.size≤k_)) (.slice A0_0 l0_0.length c0_0) l0_0 from Kd.V_mono hs0_0 (fun k_ hk=>.inl hk))
 have HB:=Aside0.mk (Below.refl w.heap.size w)
 have H:((some (([]:List (S42)):List (S42))).bind fun y162=>(if 0≤a1 then (if a1≤(l0_0.length:Int) then ((some (l0_0.take (a1:Int).toNat:List (S42))).bind fun y165=>(if y162.length+y165.length < 3518437208883 then ((some (y162 ++ y165:List (S42))).bind fun y170=>(if a1 < (l0_0.length:Int) then (if 0≤a2 then (if a2≤(((rd_T42 l0_0 a1).f2).length:Int) then (if y170.length < 3518437208883 then (some (y170 ++ [(⟨(rd_T42 l0_0 a1).f0,(rd_T42 l0_0 a1).f1,(((rd_T42 l0_0 a1).f2).take (a2:Int).toNat)⟩:S42)])) else (none)) else (none)) else (none)) else (none))) else (none))) else (none)) else (none)))=some r:=h
 clear h
 obtain ⟨y162,hy162⟩:∃ y_:List (S42),y_=(([]:List (S42))):=⟨_,rfl⟩
 replace H:(if 0≤a1 then (if a1≤(l0_0.length:Int) then ((some (l0_0.take (a1:Int).toNat:List (S42))).bind fun y165=>(if y162.length+y165.length < 3518437208883 then ((some (y162 ++ y165:List (S42))).bind fun y170=>(if a1 < (l0_0.length:Int) then (if 0≤a2 then (if a2≤(((rd_T42 l0_0 a1).f2).length:Int) then (if y170.length < 3518437208883 then (some (y170 ++ [(⟨(rd_T42 l0_0 a1).f0,(rd_T42 l0_0 a1).f1,(((rd_T42 l0_0 a1).f2).take (a2:Int).toNat)⟩:S42)])) else (none)) else (none)) else (none)) else (none))) else (none))) else (none)) else (none))=some r:=by first|(rw [hy162];with_reducible exact H)|(have H2_:=(Option.bind_some _ _).symm.trans H;rw [hy162];with_reducible exact H2_)|(have H2_:=(Option.bind_some _ _).symm.trans H;with_reducible exact H2_)|with_reducible exact H|(rw [hy162];exact H)|exact H
 have Ny162:=Aside0.mk hy162
 clear hy162
 by_cases c4:0≤a1
 ·rw [if_pos c4] at H
  have c4b0:=eq_true c4
  have c4b1:decide (0≤a1)=true:=decide_eq_true c4
  clear c4
  by_cases c5:a1≤(l0_0.length:Int)
  ·rw [if_pos c5] at H
   have c5b0:=eq_true c5
   have c5b1:decide (a1≤(l0_0.length:Int))=true:=decide_eq_true c5
   clear c5
   obtain ⟨y165,hy165⟩:∃ y_:List (S42),y_=(l0_0.take (a1:Int).toNat):=⟨_,rfl⟩
   replace H:(if y162.length+y165.length < 3518437208883 then ((some (y162 ++ y165:List (S42))).bind fun y170=>(if a1 < (l0_0.length:Int) then (if 0≤a2 then (if a2≤(((rd_T42 l0_0 a1).f2).length:Int) then (if y170.length < 3518437208883 then (some (y170 ++ [(⟨(rd_T42 l0_0 a1).f0,(rd_T42 l0_0 a1).f1,(((rd_T42 l0_0 a1).f2).take (a2:Int).toNat)⟩:S42)])) else (none)) else (none)) else (none)) else (none))) else (none))=some r:=by first|(rw [hy165];with_reducible exact H)|(have H2_:=(Option.bind_some _ _).symm.trans H;rw [hy165];with_reducible exact H2_)|(have H2_:=(Option.bind_some _ _).symm.trans H;with_reducible exact H2_)|with_reducible exact H|(rw [hy165];exact H)|exact H
   have Ny165:=Aside0.mk hy165
   clear hy165
   by_cases c6:y162.length+y165.length < 3518437208883
   ·rw [if_pos c6] at H
    have LMc6:=Aside0.mk c6
    clear c6
    obtain ⟨y170,hy170⟩:∃ y_:List (S42),y_=(y162 ++ y165):=⟨_,rfl⟩
    replace H:(if a1 < (l0_0.length:Int) then (if 0≤a2 then (if a2≤(((rd_T42 l0_0 a1).f2).length:Int) then (if y170.length < 3518437208883 then (some (y170 ++ [(⟨(rd_T42 l0_0 a1).f0,(rd_T42 l0_0 a1).f1,(((rd_T42 l0_0 a1).f2).take (a2:Int).toNat)⟩:S42)])) else (none)) else (none)) else (none)) else (none))=some r:=by first|(rw [hy170];with_reducible exact H)|(have H2_:=(Option.bind_some _ _).symm.trans H;rw [hy170];with_reducible exact H2_)|(have H2_:=(Option.bind_some _ _).symm.trans H;with_reducible exact H2_)|with_reducible exact H|(rw [hy170];exact H)|exact H
    have Ny170:=Aside0.mk hy170
    clear hy170
    by_cases c7:a1 < (l0_0.length:Int)
    ·rw [if_pos c7] at H
     have c7b0:decide (a1 < (l0_0.length:Int))=true:=decide_eq_true c7
     clear c7
     by_cases c8:0≤a2
     ·rw [if_pos c8] at H
      have c8b0:=eq_true c8
      have c8b1:decide (0≤a2)=true:=decide_eq_true c8
      clear c8
      by_cases c9:a2≤(((rd_T42 l0_0 a1).f2).length:Int)
      ·rw [if_pos c9] at H
       have c9b0:=eq_true c9
       have c9b1:decide (a2≤(((rd_T42 l0_0 a1).f2).length:Int))=true:=decide_eq_true c9
       clear c9
       obtain ⟨y175,hy175⟩:∃ y_:List (S39),y_=(((rd_T42 l0_0 a1).f2).take (a2:Int).toNat):=⟨_,rfl⟩
       replace H:(if y170.length < 3518437208883 then (some (y170 ++ [(⟨(rd_T42 l0_0 a1).f0,(rd_T42 l0_0 a1).f1,y175⟩:S42)])) else (none))=some r:=by first|(rw [hy175];with_reducible exact H)|(have H2_:=(Option.bind_some _ _).symm.trans H;rw [hy175];with_reducible exact H2_)|(have H2_:=(Option.bind_some _ _).symm.trans H;with_reducible exact H2_)|with_reducible exact H|(rw [hy175];exact H)|exact H
       have Ny175:=Aside0.mk hy175
       clear hy175
       by_cases c10:y170.length < 3518437208883
       ·rw [if_pos c10] at H
        have LMc10:=Aside0.mk c10
        clear c10
        obtain ⟨y180,hy180⟩:∃ y_:List (S42),y_=(y170 ++ [(⟨(rd_T42 l0_0 a1).f0,(rd_T42 l0_0 a1).f1,y175⟩:S42)]):=⟨_,rfl⟩
        replace H:(some y180)=some r:=by first|(rw [hy180];with_reducible exact H)|(have H2_:=(Option.bind_some _ _).symm.trans H;rw [hy180];with_reducible exact H2_)|(have H2_:=(Option.bind_some _ _).symm.trans H;with_reducible exact H2_)|with_reducible exact H|(rw [hy180];exact H)|exact H
        have Ny180:=Aside0.mk hy180
        clear hy180
        obtain rfl:=Option.some.inj H
        go_enter Try.func31,Try.ntmps31
        go_wp2_with (first|((with_reducible refine gate_dst (N:=3) rfl ?_);refine box_event ?hg (N:=3) ?hd (cs:=#[.slice A0_0 l0_0.length c0_0]) (t:=24) ?hr ?_;(case hd=>rfl);(case hg=>rfl);(case hr=>first|(go_simp;done)|(go_simp;rfl));intro gb160 hg w11 hbox hb;have n0_:=Aside0.mk (Kd.V_below (Kd.V_elderB (by (with_reducible repeat (first|apply Kd.V_alloc|apply Kd.V_drewN|apply Kd.V_drew));exact HO0_0.out) gb160 (Nat.le_of_eq hg.symm)) hb);have n1_:=Aside0.mk (below_step (by repeat (first|(with_reducible first|exact HB.out|apply below_alloc|apply pw_below_drewN|apply below_drew1)|exact HB.out)) hb);have n2_:=Aside0.mk (hbox);have n3_:=Aside0.mk ((by rw [hg];exact (below_size (by repeat (first|(with_reducible first|exact HB.out|apply below_alloc|apply pw_below_drewN|apply below_drew1)|exact HB.out))):w.heap.size≤gb160));have n4_:=Aside0.mk ((by rw [hg];exact (below_size (by repeat (first|(with_reducible first|exact HB.out|apply below_alloc|apply pw_below_drewN|apply below_drew1)|exact HB.out))):w.heap.size≤gb160));clear HO0_0;clear HB;have HO0_0:=n0_;have HB:=n1_;have BK160:=n2_;have GW160:=n3_;have GE160:=n4_;clear n0_ n1_ n2_ n3_ n4_;clear hb hbox hg)|((with_reducible refine gate_dst (N:=6) rfl ?_);refine box_event ?hg (N:=6) ?hd (cs:=#[.slice none 0 0]) (t:=24) ?hr ?_;(case hd=>rfl);(case hg=>rfl);(case hr=>first|(go_simp;done)|(go_simp;rfl));intro gb161 hg w12 hbox hb;have n0_:=Aside0.mk (Kd.V_below (Kd.V_elderB (by (with_reducible repeat (first|apply Kd.V_alloc|apply Kd.V_drewN|apply Kd.V_drew));exact HO0_0.out) gb161 (Nat.le_of_eq hg.symm)) hb);have n1_:=Aside0.mk (blk_below (g:=gb160) (o:=.cells #[.slice A0_0 l0_0.length c0_0] 24 (0,0)) (by (with_reducible repeat (first|refine blk_drewN ?_ _|refine blk_drew ?_|refine blk_alloc ?_ _));exact BK160.out) hb);have n2_:=Aside0.mk (below_step (by repeat (first|(with_reducible first|exact HB.out|apply below_alloc|apply pw_below_drewN|apply below_drew1|refine below_set ?_ GE160.out)|exact HB.out)) hb);have n3_:=Aside0.mk (hbox);have n4_:=Aside0.mk ((by rw [hg];exact (below_size (by repeat (first|(with_reducible first|exact HB.out|apply below_alloc|apply pw_below_drewN|apply below_drew1|refine below_set ?_ GE160.out)|exact HB.out))):w.heap.size≤gb161));have n5_:=Aside0.mk ((by rw [hg];exact (below_size (by repeat (first|(with_reducible first|exact HB.out|apply below_alloc|apply pw_below_drewN|apply below_drew1|refine below_set ?_ GE160.out)|exact HB.out))):w.heap.size≤gb161));have n6_:=Aside0.mk ((by rw [hg];exact Nat.ne_of_lt (blk_lt (g:=gb160) (o:=.cells #[.slice A0_0 l0_0.length c0_0] 24 (0,0)) (by (with_reducible repeat (first|refine blk_drewN ?_ _|refine blk_drew ?_|refine blk_alloc ?_ _));exact BK160.out)):gb160 ≠ gb161));have n7_:=Aside0.mk ((by rw [hg];exact Nat.ne_of_gt (blk_lt (g:=gb160) (o:=.cells #[.slice A0_0 l0_0.length c0_0] 24 (0,0)) (by (with_reducible repeat (first|refine blk_drewN ?_ _|refine blk_drew ?_|refine blk_alloc ?_ _));exact BK160.out)):gb161 ≠ gb160));clear HO0_0;clear BK160;clear HB;have HO0_0:=n0_;have BK160:=n1_;have HB:=n2_;have BK161:=n3_;have GW161:=n4_;have GE161:=n5_;have NB160_161:=n6_;have NB161_160:=n7_;clear n0_ n1_ n2_ n3_ n4_ n5_ n6_ n7_;clear hb hbox hg)|((with_reducible refine gate_dst (N:=9) rfl ?_);refine Kd.N_lit k42 _ 42 ?hg (N':=9) ?hd (xs:=([]:List (S42))) (inner:=[]) (ok:=(fun k_=>(P0_0_ k_ ∨ w.heap.size≤k_)∧k_ ≠ gb160∧k_ ≠ gb161)) (okp:=(fun k_=>(P0_0_ k_ ∨ w.heap.size≤k_)∧k_ ≠ gb160∧k_ ≠ gb161)) ?hr ?hp (fun _ hk=>hk) ((show ∀ k_,w12.heap.size≤k_→(fun k_=>(P0_0_ k_ ∨ w.heap.size≤k_)∧k_ ≠ gb160∧k_ ≠ gb161) k_ from fun k_ hk=>⟨(.inr (Nat.le_trans (below_size (by repeat (first|(with_reducible first|exact HB.out|apply below_alloc|apply pw_below_drewN|apply below_drew1|refine below_set ?_ GE160.out|refine below_set ?_ GE161.out)|exact HB.out))) hk)),Kd.freshB (g:=gb160) (o:=.cells #[.slice A0_0 l0_0.length c0_0] 24 (0,0)) (by (with_reducible repeat (first|refine blk_drewN ?_ _|refine blk_drew ?_|refine blk_alloc ?_ _));exact BK160.out) k_ hk,Kd.freshB (g:=gb161) (o:=.cells #[.slice none 0 0] 24 (0,0)) (by (with_reducible repeat (first|refine blk_drewN ?_ _|refine blk_drew ?_|refine blk_alloc ?_ _));exact BK161.out) k_ hk⟩) _ (Nat.le_refl _)) (Below.refl _ _) (Nat.le_refl _) (by simp) ?_;(case hd=>rfl);(case hg=>rfl);(case hr=>first|(go_simp;done)|(go_simp;rfl));(case hp=>exact (Reps.none _ _));intro v163 w13 ho14 hb hg_ hnew_;clear hg_ hnew_;(first|rw [← Ny162.out] at ho14|(simp only [Int.reduceToNat] at ho14;rw [← Ny162.out] at ho14));have n0_:=Aside0.mk (Kd.V_elder' (by (with_reducible repeat (first|apply Kd.V_alloc|apply Kd.V_drewN|apply Kd.V_drew));exact HO0_0.out) (Kd.N_base ho14) hb);have n1_:=Aside0.mk (Kd.N_lower ho14 (below_size (by repeat (first|(with_reducible first|exact HB.out|apply below_alloc|apply pw_below_drewN|apply below_drew1|refine below_set ?_ GE160.out|refine below_set ?_ GE161.out)|exact HB.out))));have n2_:=Aside0.mk (blk_below (g:=gb160) (o:=.cells #[.slice A0_0 l0_0.length c0_0] 24 (0,0)) (by (with_reducible repeat (first|refine blk_drewN ?_ _|refine blk_drew ?_|refine blk_alloc ?_ _));exact BK160.out) hb);have n3_:=Aside0.mk (blk_below (g:=gb161) (o:=.cells #[.slice none 0 0] 24 (0,0)) (by (with_reducible repeat (first|refine blk_drewN ?_ _|refine blk_drew ?_|refine blk_alloc ?_ _));exact BK161.out) hb);have n4_:=Aside0.mk (below_step (by repeat (first|(with_reducible first|exact HB.out|apply below_alloc|apply pw_below_drewN|apply below_drew1|refine below_set ?_ GE160.out|refine below_set ?_ GE161.out)|exact HB.out)) hb);clear HO0_0;clear BK160;clear BK161;clear HB;have HO0_0:=n0_;have HO164:=n1_;have BK160:=n2_;have BK161:=n3_;have HB:=n4_;clear n0_ n1_ n2_ n3_ n4_;clear hb ho14;have hnb15:=NB160_161.out;have hnc15:=NB161_160.out;have hcz16_0:w13.cell? ⟨gb160,0,none⟩=some (.slice A0_0 l0_0.length c0_0):=(blk_cell BK160.out 0).trans rfl;have hfz16_0:=blk_frozen BK160.out 0;have q17:(a1:Int)≤((l0_0.length:Int):Int):=of_decide_eq_true (by first|(with_reducible assumption)|assumption);obtain ⟨i017,hi017,_,hsz17,_⟩:=info_parts info42;have hroom17:l0_0.length≤c0_0:=(Kd.V_reads' HO0_0.out).2.1;have hC17:Kd.F k42 _ _ A0_0 l0_0.length l0_0:=(Kd.V_at (base:=w.heap.size) HO0_0.out).2.2;have hcut17:=cut_to (P:=Try.prog) 22 42 .i64 Try.underlying22 hi017 A0_0 l0_0.length c0_0 a1 (of_decide_eq_true (by first|(with_reducible assumption)|assumption)) q17 hroom17;have hr17:=Kd.F_take (m:=(a1:Int).toNat) hC17 (by omega);have hy17:y165.length=(a1:Int).toNat:=(by rw [Ny165.out,List.length_take];omega);rw [← Ny165.out] at hr17;rw [← hy17] at hcut17;have HO169:=Aside0.mk (show Kd.V k42 42 _ w.heap.size _ (.slice A0_0 y165.length c0_0) y165 from Kd.V_mk (by omega) hr17);have HC169:=Aside0.mk (show y165.length≤c0_0 from by omega);clear hr17 hC17 hroom17 hi017 hsz17;have KY17:=Aside0.mk hy17;clear hy17;replace q17:=eq_true q17)|((with_reducible refine gate_builtin (b:=.append) (xs:=#[.tmp 9,.tmp 13]) rfl ?_);at_builtin;refine Kd.N_append_rows k42 (w0:=w) w.heap.size rfl (.tmp 9) (.tmp 13) 22 42 (.agg #[(.int .i64 0),(.bool false),(.slice none 0 0)]) 40 rfl Try.underlying22 info42 rfl (by decide) (by omega) v163 y162 y165 _ _ _ (fun k_=>(P0_0_ k_ ∨ w.heap.size≤k_)∧k_ ≠ gb160∧k_ ≠ gb161) (fun k_=>((fun k_=>(P0_0_ k_ ∨ w.heap.size≤k_)∧k_ ≠ gb160∧k_ ≠ gb161)) k_∧some k_ ≠ (v163:Value).ownBlock) rfl rfl ?aO ?aR (fun _ hk=>hk) ?aF ?aB ?aS ?aL ?_;(case aR=>exact (by skip;exact Kd.V_F (Kd.V_mono (ok':=(fun k_=>((fun k_=>(P0_0_ k_ ∨ w.heap.size≤k_)∧k_ ≠ gb160∧k_ ≠ gb161)) k_∧some k_ ≠ (v163:Value).ownBlock)) (HO169.out) (fun k_ hk=>⟨⟨hk.1.1.1,⟨hk.1.1.2,hk.1.2⟩⟩,hk.2⟩))));(case aB=>exact (by repeat (first|(with_reducible first|exact HB.out|apply below_alloc|apply pw_below_drewN|apply below_drew1|refine below_set ?_ GE160.out|refine below_set ?_ GE161.out)|exact HB.out)));(case aF=>exact (fun k_ hk=>⟨(.inr (Nat.le_trans (below_size (by repeat (first|(with_reducible first|exact HB.out|apply below_alloc|apply pw_below_drewN|apply below_drew1|refine below_set ?_ GE160.out|refine below_set ?_ GE161.out)|exact HB.out))) hk)),Kd.freshB (g:=gb160) (o:=.cells #[.slice A0_0 l0_0.length c0_0] 24 (0,0)) (by (with_reducible repeat (first|refine blk_drewN ?_ _|refine blk_drew ?_|refine blk_alloc ?_ _));exact BK160.out) k_ hk,Kd.freshB (g:=gb161) (o:=.cells #[.slice none 0 0] 24 (0,0)) (by (with_reducible repeat (first|refine blk_drewN ?_ _|refine blk_drew ?_|refine blk_alloc ?_ _));exact BK161.out) k_ hk⟩));(case aO=>exact (by (with_reducible repeat (first|apply Kd.N_alloc|apply Kd.N_drewN|apply Kd.N_drew));exact HO164.out));(case aS=>exact (below_size (by repeat (first|(with_reducible first|exact HB.out|apply below_alloc|apply pw_below_drewN|apply below_drew1|refine below_set ?_ GE160.out|refine below_set ?_ GE161.out)|exact HB.out))));(case aL=>have:=LMc6.out;omega);intro v171 w18 ho hb hg hat;rw [← Ny170.out] at ho;have n0_:=Aside0.mk (Kd.V_afterv (ok:=(fun k_=>(P0_0_ k_ ∨ w.heap.size≤k_)∧k_ ≠ gb160∧k_ ≠ gb161)) (by (with_reducible repeat (first|apply Kd.V_alloc|apply Kd.V_drewN|apply Kd.V_drew));exact Kd.V_mono HO0_0.out (fun _ hk=>⟨⟨hk.1.1.1,⟨hk.1.1.2,hk.1.2⟩⟩,hk.2⟩)) hg hat);have n1_:=Aside0.mk (blk_grown (g:=gb160) (o:=.cells #[.slice A0_0 l0_0.length c0_0] 24 (0,0)) (by (with_reducible repeat (first|refine blk_drewN ?_ _|refine blk_drew ?_|refine blk_alloc ?_ _));exact BK160.out) hg (Kd.N_ne HO164.out BK160.out (by decide)));have n2_:=Aside0.mk (blk_grown (g:=gb161) (o:=.cells #[.slice none 0 0] 24 (0,0)) (by (with_reducible repeat (first|refine blk_drewN ?_ _|refine blk_drew ?_|refine blk_alloc ?_ _));exact BK161.out) hg (Kd.N_ne HO164.out BK161.out (by decide)));have n3_:=Aside0.mk (Kd.V_afterv (ok:=(fun k_=>(P0_0_ k_ ∨ w.heap.size≤k_)∧k_ ≠ gb160∧k_ ≠ gb161)) (by (with_reducible repeat (first|apply Kd.V_alloc|apply Kd.V_drewN|apply Kd.V_drew));exact Kd.V_mono HO169.out (fun _ hk=>⟨⟨hk.1.1.1,⟨hk.1.1.2,hk.1.2⟩⟩,hk.2⟩)) hg hat);have n4_:=Aside0.mk (hb);have n5_:=Aside0.mk (ho);clear HO0_0;clear BK160;clear BK161;clear HO169;clear HB;clear HO164;have HO0_0:=n0_;have BK160:=n1_;have BK161:=n2_;have HO169:=n3_;have HB:=n4_;have HO172:=n5_;clear n0_ n1_ n2_ n3_ n4_ n5_;clear ho hb hg hat;have hcz19_0:w18.cell? ⟨gb160,0,none⟩=some (.slice A0_0 l0_0.length c0_0):=(blk_cell BK160.out 0).trans rfl;have hfz19_0:=blk_frozen BK160.out 0;have p173:0≤(a1:Int):=of_decide_eq_true (by first|(with_reducible assumption)|assumption);have q173:a1 < (l0_0.length:Int):=of_decide_eq_true (by first|(with_reducible assumption)|assumption);obtain ⟨ad173,A173_2,c173_2,e173,hx173_0,hx173_1,hx173_2,hl173_2,hi173_2⟩:=at_T42 (Kd.V_reads' HO0_0.out).2.2 a1 p173 q173;cases e173;obtain ⟨ce173,hce173,hMe173,hcc173⟩:=Kd.V_get HO0_0.out z42 a1 p173 (by first|exact q173|exact of_decide_eq_true (by first|(with_reducible assumption)|assumption)|(have e_:=(Kd.V_reads' HO0_0.out).1;omega));obtain ⟨ua173_2,uc173_2,rfl,ul173_2,ge173_2⟩:=k42_openF hMe173;have hv173_2:=hcc173 2 _ rfl;rw [add_field _ _ 2 (by omega)] at hv173_2;replace hv173_2:=Option.some.inj (hv173_2.symm.trans hx173_2);injection hv173_2 with hva_ hvn_ hvc_;rw [hva_] at ge173_2;rw [hvc_] at ul173_2;have HL173_2:=Aside0.mk (show Kd.V k39 39 _ w.heap.size _ _ ((rd_T42 l0_0 a1).f2) from Kd.V_mk ul173_2 ge173_2);clear hva_ hvn_ hvc_ ge173_2 ul173_2;clear hcc173 hce173;have HR173_2:=Aside0.mk hi173_2;have HC173_2:=Aside0.mk hl173_2;clear hi173_2 hl173_2;replace p173:=eq_true p173;replace q173:=eq_true q173)|((with_reducible refine gate_dst (N:=8) rfl ?_);refine box_event ?hg (N:=8) ?hd (cs:=#[.int .i64 0,.bool false,.slice none 0 0]) (t:=42) ?hr ?_;(case hd=>rfl);(case hg=>rfl);(case hr=>first|(go_simp;done)|(go_simp;rfl));intro gb174 hg w20 hbox hb;have n0_:=Aside0.mk (Kd.V_below (Kd.V_elderB (by (with_reducible repeat (first|apply Kd.V_alloc|apply Kd.V_drewN|apply Kd.V_drew));exact HO0_0.out) gb174 (Nat.le_of_eq hg.symm)) hb);have n1_:=Aside0.mk (Kd.V_below (Kd.V_elderB (by (with_reducible repeat (first|apply Kd.V_alloc|apply Kd.V_drewN|apply Kd.V_drew));exact HO169.out) gb174 (Nat.le_of_eq hg.symm)) hb);have n2_:=Aside0.mk (Kd.N_below (Kd.N_elderB (by (with_reducible repeat (first|apply Kd.N_alloc|apply Kd.N_drewN|apply Kd.N_drew));exact HO172.out) gb174 (Nat.le_of_eq hg.symm)) hb);have n3_:=Aside0.mk (Kd.V_below (Kd.V_elderB (by (with_reducible repeat (first|apply Kd.V_alloc|apply Kd.V_drewN|apply Kd.V_drew));exact HL173_2.out) gb174 (Nat.le_of_eq hg.symm)) hb);have n4_:=Aside0.mk (blk_below (g:=gb160) (o:=.cells #[.slice (some ad173) l0_0.length c0_0] 24 (0,0)) (by (with_reducible repeat (first|refine blk_drewN ?_ _|refine blk_drew ?_|refine blk_alloc ?_ _));exact BK160.out) hb);have n5_:=Aside0.mk (blk_below (g:=gb161) (o:=.cells #[.slice none 0 0] 24 (0,0)) (by (with_reducible repeat (first|refine blk_drewN ?_ _|refine blk_drew ?_|refine blk_alloc ?_ _));exact BK161.out) hb);have n6_:=Aside0.mk (Kd.C_below (by repeat (first|(with_reducible exact HR173_2.out)|(with_reducible refine Kd.C_alloc ?_ _)|(with_reducible refine Kd.C_drewN ?_ _)|(with_reducible refine Kd.C_drew ?_)|exact HR173_2.out)) hb);have n7_:=Aside0.mk (below_step (by repeat (first|(with_reducible first|exact HB.out|apply below_alloc|apply pw_below_drewN|apply below_drew1|refine below_set ?_ GE160.out|refine below_set ?_ GE161.out)|exact HB.out)) hb);have n8_:=Aside0.mk (hbox);have n9_:=Aside0.mk ((by rw [hg];exact (below_size (by repeat (first|(with_reducible first|exact HB.out|apply below_alloc|apply pw_below_drewN|apply below_drew1|refine below_set ?_ GE160.out|refine below_set ?_ GE161.out)|exact HB.out))):w.heap.size≤gb174));have n10_:=Aside0.mk ((by rw [hg];exact (below_size (by repeat (first|(with_reducible first|exact HB.out|apply below_alloc|apply pw_below_drewN|apply below_drew1|refine below_set ?_ GE160.out|refine below_set ?_ GE161.out)|exact HB.out))):w.heap.size≤gb174));have n11_:=Aside0.mk ((by rw [hg];exact Nat.ne_of_lt (blk_lt (g:=gb160) (o:=.cells #[.slice (some ad173) l0_0.length c0_0] 24 (0,0)) (by (with_reducible repeat (first|refine blk_drewN ?_ _|refine blk_drew ?_|refine blk_alloc ?_ _));exact BK160.out)):gb160 ≠ gb174));have n12_:=Aside0.mk ((by rw [hg];exact Nat.ne_of_gt (blk_lt (g:=gb160) (o:=.cells #[.slice (some ad173) l0_0.length c0_0] 24 (0,0)) (by (with_reducible repeat (first|refine blk_drewN ?_ _|refine blk_drew ?_|refine blk_alloc ?_ _));exact BK160.out)):gb174 ≠ gb160));have n13_:=Aside0.mk ((by rw [hg];exact Nat.ne_of_lt (blk_lt (g:=gb161) (o:=.cells #[.slice none 0 0] 24 (0,0)) (by (with_reducible repeat (first|refine blk_drewN ?_ _|refine blk_drew ?_|refine blk_alloc ?_ _));exact BK161.out)):gb161 ≠ gb174));have n14_:=Aside0.mk ((by rw [hg];exact Nat.ne_of_gt (blk_lt (g:=gb161) (o:=.cells #[.slice none 0 0] 24 (0,0)) (by (with_reducible repeat (first|refine blk_drewN ?_ _|refine blk_drew ?_|refine blk_alloc ?_ _));exact BK161.out)):gb174 ≠ gb161));clear HO0_0;clear HO169;clear HO172;clear HL173_2;clear BK160;clear BK161;clear HR173_2;clear HB;have HO0_0:=n0_;have HO169:=n1_;have HO172:=n2_;have HL173_2:=n3_;have BK160:=n4_;have BK161:=n5_;have HR173_2:=n6_;have HB:=n7_;have BK174:=n8_;have GW174:=n9_;have GE174:=n10_;have NB160_174:=n11_;have NB174_160:=n12_;have NB161_174:=n13_;have NB174_161:=n14_;clear n0_ n1_ n2_ n3_ n4_ n5_ n6_ n7_ n8_ n9_ n10_ n11_ n12_ n13_ n14_;clear hb hbox hg;have hnb21:=NB174_160.out;have hnc21:=NB160_174.out;have hnb22:=NB174_161.out;have hnc22:=NB161_174.out;have hcz23_0:w20.cell? ⟨gb174,0,none⟩=some (.int .i64 0):=(blk_cell BK174.out 0).trans rfl;have hcz23_1:w20.cell? ⟨gb174,1,none⟩=some (.bool false):=(blk_cell BK174.out 1).trans rfl;have hcz23_2:w20.cell? ⟨gb174,2,none⟩=some (.slice none 0 0):=(blk_cell BK174.out 2).trans rfl;have hfz23_0:=blk_frozen BK174.out 0;have hfz23_1:=blk_frozen BK174.out 1;have hfz23_2:=blk_frozen BK174.out 2)|((with_reducible refine gate_store (t:=42) (p:=8) rfl ?_);refine store_event (t:=42) (p:=8) (v:=?vo_w24) (w1:=(((w20.setCell ⟨gb174,0,none⟩ (.int .i64 ((rd_T42 l0_0 a1).f0))).setCell ⟨gb174,1,none⟩ (.bool ((rd_T42 l0_0 a1).f1))).setCell ⟨gb174,2,none⟩ (.slice A173_2 ((rd_T42 l0_0 a1).f2).length c173_2))) ?hg ?ho ?hn ?hr ?_;(case ho=>rfl);(case hg=>rfl);(case hn=>rfl);(case hr=>first|(go_simp;done)|(go_simp;rfl));intro w24 hw;have n0_:Aside0 (Kd.V k42 42 w24 w.heap.size (fun k_=>(P0_0_ k_ ∨ w.heap.size≤k_)∧some k_ ≠ (v171:Value).ownBlock∧k_ ≠ gb160∧k_ ≠ gb161∧k_ ≠ gb174) (.slice (some ad173) l0_0.length c0_0) l0_0):=⟨(by rw [hw];exact (by (with_reducible repeat (first|apply Kd.V_alloc|apply Kd.V_drewN|apply Kd.V_drew));exact Kd.V_mono (Kd.V_far (p:=⟨gb174,2,none⟩) (Kd.V_far (p:=⟨gb174,1,none⟩) (Kd.V_far (p:=⟨gb174,0,none⟩) (Kd.V_mono HO0_0.out (fun k_ hk=>(⟨hk,hk.2⟩:_∧k_ ≠ gb174))) (fun _ hk=>hk.2) (.int .i64 ((rd_T42 l0_0 a1).f0))) (fun _ hk=>hk.2) (.bool ((rd_T42 l0_0 a1).f1))) (fun _ hk=>hk.2) (.slice A173_2 ((rd_T42 l0_0 a1).f2).length c173_2)) (fun _ hk=>⟨hk.1.1.1.1,⟨hk.1.1.2,⟨hk.1.1.1.2.1,⟨hk.1.1.1.2.2,hk.1.2⟩⟩⟩⟩)))⟩;have n1_:Aside0 (Kd.V k42 42 w24 w.heap.size (fun k_=>(P0_0_ k_ ∨ w.heap.size≤k_)∧some k_ ≠ (v171:Value).ownBlock∧k_ ≠ gb160∧k_ ≠ gb161∧k_ ≠ gb174) (.slice (some ad173) y165.length c0_0) y165):=⟨(by rw [hw];exact (by (with_reducible repeat (first|apply Kd.V_alloc|apply Kd.V_drewN|apply Kd.V_drew));exact Kd.V_mono (Kd.V_far (p:=⟨gb174,2,none⟩) (Kd.V_far (p:=⟨gb174,1,none⟩) (Kd.V_far (p:=⟨gb174,0,none⟩) (Kd.V_mono HO169.out (fun k_ hk=>(⟨hk,hk.2⟩:_∧k_ ≠ gb174))) (fun _ hk=>hk.2) (.int .i64 ((rd_T42 l0_0 a1).f0))) (fun _ hk=>hk.2) (.bool ((rd_T42 l0_0 a1).f1))) (fun _ hk=>hk.2) (.slice A173_2 ((rd_T42 l0_0 a1).f2).length c173_2)) (fun _ hk=>⟨hk.1.1.1.1,⟨hk.1.1.2,⟨hk.1.1.1.2.1,⟨hk.1.1.1.2.2,hk.1.2⟩⟩⟩⟩)))⟩;have n2_:Aside0 (Kd.N k42 42 w24 w.heap.size (fun k_=>(P0_0_ k_ ∨ w.heap.size≤k_)∧k_ ≠ gb160∧k_ ≠ gb161∧k_ ≠ gb174) v171 y170):=⟨(by rw [hw];exact (by (with_reducible repeat (first|apply Kd.N_alloc|apply Kd.N_drewN|apply Kd.N_drew));exact Kd.N_mono (Kd.N_far (p:=⟨gb174,2,none⟩) (Kd.N_far (p:=⟨gb174,1,none⟩) (Kd.N_far (p:=⟨gb174,0,none⟩) (Kd.N_mono HO172.out (fun k_ hk=>(⟨hk,hk.2⟩:_∧k_ ≠ gb174))) (fun _ hk=>hk.2) (.int .i64 ((rd_T42 l0_0 a1).f0))) (fun _ hk=>hk.2) (.bool ((rd_T42 l0_0 a1).f1))) (fun _ hk=>hk.2) (.slice A173_2 ((rd_T42 l0_0 a1).f2).length c173_2)) (fun _ hk=>⟨hk.1.1.1,⟨hk.1.1.2.1,⟨hk.1.1.2.2,hk.1.2⟩⟩⟩)))⟩;have n3_:Aside0 (Kd.V k39 39 w24 w.heap.size (fun k_=>(P0_0_ k_ ∨ w.heap.size≤k_)∧some k_ ≠ (v171:Value).ownBlock∧k_ ≠ gb160∧k_ ≠ gb161∧k_ ≠ gb174) (.slice A173_2 ((rd_T42 l0_0 a1).f2).length c173_2) ((rd_T42 l0_0 a1).f2)):=⟨(by rw [hw];exact (by (with_reducible repeat (first|apply Kd.V_alloc|apply Kd.V_drewN|apply Kd.V_drew));exact Kd.V_mono (Kd.V_far (p:=⟨gb174,2,none⟩) (Kd.V_far (p:=⟨gb174,1,none⟩) (Kd.V_far (p:=⟨gb174,0,none⟩) (Kd.V_mono HL173_2.out (fun k_ hk=>(⟨hk,hk.2⟩:_∧k_ ≠ gb174))) (fun _ hk=>hk.2) (.int .i64 ((rd_T42 l0_0 a1).f0))) (fun _ hk=>hk.2) (.bool ((rd_T42 l0_0 a1).f1))) (fun _ hk=>hk.2) (.slice A173_2 ((rd_T42 l0_0 a1).f2).length c173_2)) (fun _ hk=>⟨hk.1.1.1.1,⟨hk.1.1.2,⟨hk.1.1.1.2.1,⟨hk.1.1.1.2.2,hk.1.2⟩⟩⟩⟩)))⟩;have n4_:Aside0 (w24.heap[gb160]?=some (.cells #[.slice (some ad173) l0_0.length c0_0] 24 (0,0))):=⟨(by rw [hw];exact (by (with_reducible repeat (first|refine blk_drewN ?_ _|refine blk_drew ?_|refine blk_alloc ?_ _));refine blk_far ?_ NB160_174.out _;(with_reducible repeat (first|refine blk_drewN ?_ _|refine blk_drew ?_|refine blk_alloc ?_ _));refine blk_far ?_ NB160_174.out _;(with_reducible repeat (first|refine blk_drewN ?_ _|refine blk_drew ?_|refine blk_alloc ?_ _));refine blk_far ?_ NB160_174.out _;(with_reducible repeat (first|refine blk_drewN ?_ _|refine blk_drew ?_|refine blk_alloc ?_ _));exact BK160.out))⟩;have n5_:Aside0 (w24.heap[gb161]?=some (.cells #[.slice none 0 0] 24 (0,0))):=⟨(by rw [hw];exact (by (with_reducible repeat (first|refine blk_drewN ?_ _|refine blk_drew ?_|refine blk_alloc ?_ _));refine blk_far ?_ NB161_174.out _;(with_reducible repeat (first|refine blk_drewN ?_ _|refine blk_drew ?_|refine blk_alloc ?_ _));refine blk_far ?_ NB161_174.out _;(with_reducible repeat (first|refine blk_drewN ?_ _|refine blk_drew ?_|refine blk_alloc ?_ _));refine blk_far ?_ NB161_174.out _;(with_reducible repeat (first|refine blk_drewN ?_ _|refine blk_drew ?_|refine blk_alloc ?_ _));exact BK161.out))⟩;have n6_:Aside0 (w24.heap[gb174]?=some (.cells #[.int .i64 ((rd_T42 l0_0 a1).f0),.bool ((rd_T42 l0_0 a1).f1),.slice A173_2 ((rd_T42 l0_0 a1).f2).length c173_2] 42 (0,0))):=⟨(by rw [hw];exact (by (with_reducible repeat (first|refine blk_drewN ?_ _|refine blk_drew ?_|refine blk_alloc ?_ _));refine blk_put (cs:=#[.int .i64 ((rd_T42 l0_0 a1).f0),.bool ((rd_T42 l0_0 a1).f1),.slice none 0 0]) ?_ 2 _ rfl;(with_reducible repeat (first|refine blk_drewN ?_ _|refine blk_drew ?_|refine blk_alloc ?_ _));refine blk_put (cs:=#[.int .i64 ((rd_T42 l0_0 a1).f0),.bool false,.slice none 0 0]) ?_ 1 _ rfl;(with_reducible repeat (first|refine blk_drewN ?_ _|refine blk_drew ?_|refine blk_alloc ?_ _));refine blk_put (cs:=#[.int .i64 0,.bool false,.slice none 0 0]) ?_ 0 _ rfl;(with_reducible repeat (first|refine blk_drewN ?_ _|refine blk_drew ?_|refine blk_alloc ?_ _));exact BK174.out))⟩;have n7_:Aside0 (Below w.heap.size w w24):=⟨(by rw [hw];exact (by repeat (first|(with_reducible first|exact HB.out|apply below_alloc|apply pw_below_drewN|apply below_drew1|refine below_set ?_ GE160.out|refine below_set ?_ GE161.out|refine below_set ?_ GE174.out)|exact HB.out)))⟩;clear hw;clear HO0_0;clear HO169;clear HO172;clear HL173_2;clear BK160;clear BK161;clear BK174;clear HB;have HO0_0:=n0_;have HO169:=n1_;have HO172:=n2_;have HL173_2:=n3_;have BK160:=n4_;have BK161:=n5_;have BK174:=n6_;have HB:=n7_;clear n0_ n1_ n2_ n3_ n4_ n5_ n6_ n7_;have hcz25_0:w24.cell? ⟨gb174,0,none⟩=some (.int .i64 ((rd_T42 l0_0 a1).f0)):=(blk_cell BK174.out 0).trans rfl;have hcz25_1:w24.cell? ⟨gb174,1,none⟩=some (.bool ((rd_T42 l0_0 a1).f1)):=(blk_cell BK174.out 1).trans rfl;have hcz25_2:w24.cell? ⟨gb174,2,none⟩=some (.slice A173_2 ((rd_T42 l0_0 a1).f2).length c173_2):=(blk_cell BK174.out 2).trans rfl;have hfz25_0:=blk_frozen BK174.out 0;have hfz25_1:=blk_frozen BK174.out 1;have hfz25_2:=blk_frozen BK174.out 2;have q26:(a2:Int)≤((((rd_T42 l0_0 a1).f2).length:Int):Int):=of_decide_eq_true (by first|(with_reducible assumption)|assumption);obtain ⟨i026,hi026,_,hsz26,_⟩:=info_parts info39;have hroom26:((rd_T42 l0_0 a1).f2).length≤c173_2:=HC173_2.out;have hC26:Kd.F k39 _ _ A173_2 ((rd_T42 l0_0 a1).f2).length ((rd_T42 l0_0 a1).f2):=(Kd.V_at (base:=w.heap.size) HL173_2.out).2.2;have hcut26:=cut_to (P:=Try.prog) 40 39 .i64 Try.underlying40 hi026 A173_2 ((rd_T42 l0_0 a1).f2).length c173_2 a2 (of_decide_eq_true (by first|(with_reducible assumption)|assumption)) q26 hroom26;have hr26:=Kd.F_take (m:=(a2:Int).toNat) hC26 (by omega);have hy26:y175.length=(a2:Int).toNat:=(by rw [Ny175.out,List.length_take];omega);rw [← Ny175.out] at hr26;rw [← hy26] at hcut26;have HO179:=Aside0.mk (show Kd.V k39 39 _ w.heap.size _ (.slice A173_2 y175.length c173_2) y175 from Kd.V_mk (by omega) hr26);have HC179:=Aside0.mk (show y175.length≤c173_2 from by omega);clear hr26 hC26 hroom26 hi026 hsz26;have KY26:=Aside0.mk hy26;clear hy26;replace q26:=eq_true q26)|((with_reducible refine gate_store (t:=40) (p:=24) rfl ?_);refine store_event (t:=40) (p:=24) (v:=?vo_w27) (w1:=(w24.setCell ⟨gb174,2,none⟩ (.slice A173_2 y175.length c173_2))) ?hg ?ho ?hn ?hr ?_;(case ho=>rfl);(case hg=>rfl);(case hn=>rfl);(case hr=>first|(go_simp;done)|(go_simp;rfl));intro w27 hw;have n0_:Aside0 (Kd.V k42 42 w27 w.heap.size (fun k_=>(P0_0_ k_ ∨ w.heap.size≤k_)∧some k_ ≠ (v171:Value).ownBlock∧k_ ≠ gb160∧k_ ≠ gb161∧k_ ≠ gb174) (.slice (some ad173) l0_0.length c0_0) l0_0):=⟨(by rw [hw];exact (by (with_reducible repeat (first|apply Kd.V_alloc|apply Kd.V_drewN|apply Kd.V_drew));exact Kd.V_mono (Kd.V_far (p:=⟨gb174,2,none⟩) (Kd.V_mono HO0_0.out (fun k_ hk=>(⟨hk,hk.2.2.2.2⟩:_∧k_ ≠ gb174))) (fun _ hk=>hk.2) (.slice A173_2 y175.length c173_2)) (fun _ hk=>⟨hk.1.1,⟨hk.1.2.1,⟨hk.1.2.2.1,⟨hk.1.2.2.2.1,hk.1.2.2.2.2⟩⟩⟩⟩)))⟩;have n1_:Aside0 (Kd.V k42 42 w27 w.heap.size (fun k_=>(P0_0_ k_ ∨ w.heap.size≤k_)∧some k_ ≠ (v171:Value).ownBlock∧k_ ≠ gb160∧k_ ≠ gb161∧k_ ≠ gb174) (.slice (some ad173) y165.length c0_0) y165):=⟨(by rw [hw];exact (by (with_reducible repeat (first|apply Kd.V_alloc|apply Kd.V_drewN|apply Kd.V_drew));exact Kd.V_mono (Kd.V_far (p:=⟨gb174,2,none⟩) (Kd.V_mono HO169.out (fun k_ hk=>(⟨hk,hk.2.2.2.2⟩:_∧k_ ≠ gb174))) (fun _ hk=>hk.2) (.slice A173_2 y175.length c173_2)) (fun _ hk=>⟨hk.1.1,⟨hk.1.2.1,⟨hk.1.2.2.1,⟨hk.1.2.2.2.1,hk.1.2.2.2.2⟩⟩⟩⟩)))⟩;have n2_:Aside0 (Kd.N k42 42 w27 w.heap.size (fun k_=>(P0_0_ k_ ∨ w.heap.size≤k_)∧k_ ≠ gb160∧k_ ≠ gb161∧k_ ≠ gb174) v171 y170):=⟨(by rw [hw];exact (by (with_reducible repeat (first|apply Kd.N_alloc|apply Kd.N_drewN|apply Kd.N_drew));exact Kd.N_mono (Kd.N_far (p:=⟨gb174,2,none⟩) (Kd.N_mono HO172.out (fun k_ hk=>(⟨hk,hk.2.2.2⟩:_∧k_ ≠ gb174))) (fun _ hk=>hk.2) (.slice A173_2 y175.length c173_2)) (fun _ hk=>⟨hk.1.1,⟨hk.1.2.1,⟨hk.1.2.2.1,hk.1.2.2.2⟩⟩⟩)))⟩;have n3_:Aside0 (Kd.V k39 39 w27 w.heap.size (fun k_=>(P0_0_ k_ ∨ w.heap.size≤k_)∧some k_ ≠ (v171:Value).ownBlock∧k_ ≠ gb160∧k_ ≠ gb161∧k_ ≠ gb174) (.slice A173_2 ((rd_T42 l0_0 a1).f2).length c173_2) ((rd_T42 l0_0 a1).f2)):=⟨(by rw [hw];exact (by (with_reducible repeat (first|apply Kd.V_alloc|apply Kd.V_drewN|apply Kd.V_drew));exact Kd.V_mono (Kd.V_far (p:=⟨gb174,2,none⟩) (Kd.V_mono HL173_2.out (fun k_ hk=>(⟨hk,hk.2.2.2.2⟩:_∧k_ ≠ gb174))) (fun _ hk=>hk.2) (.slice A173_2 y175.length c173_2)) (fun _ hk=>⟨hk.1.1,⟨hk.1.2.1,⟨hk.1.2.2.1,⟨hk.1.2.2.2.1,hk.1.2.2.2.2⟩⟩⟩⟩)))⟩;have n4_:Aside0 (Kd.V k39 39 w27 w.heap.size (fun k_=>(P0_0_ k_ ∨ w.heap.size≤k_)∧some k_ ≠ (v171:Value).ownBlock∧k_ ≠ gb160∧k_ ≠ gb161∧k_ ≠ gb174) (.slice A173_2 y175.length c173_2) y175):=⟨(by rw [hw];exact (by (with_reducible repeat (first|apply Kd.V_alloc|apply Kd.V_drewN|apply Kd.V_drew));exact Kd.V_mono (Kd.V_far (p:=⟨gb174,2,none⟩) (Kd.V_mono HO179.out (fun k_ hk=>(⟨hk,hk.2.2.2.2⟩:_∧k_ ≠ gb174))) (fun _ hk=>hk.2) (.slice A173_2 y175.length c173_2)) (fun _ hk=>⟨hk.1.1,⟨hk.1.2.1,⟨hk.1.2.2.1,⟨hk.1.2.2.2.1,hk.1.2.2.2.2⟩⟩⟩⟩)))⟩;have n5_:Aside0 (w27.heap[gb160]?=some (.cells #[.slice (some ad173) l0_0.length c0_0] 24 (0,0))):=⟨(by rw [hw];exact (by (with_reducible repeat (first|refine blk_drewN ?_ _|refine blk_drew ?_|refine blk_alloc ?_ _));refine blk_far ?_ NB160_174.out _;(with_reducible repeat (first|refine blk_drewN ?_ _|refine blk_drew ?_|refine blk_alloc ?_ _));exact BK160.out))⟩;have n6_:Aside0 (w27.heap[gb161]?=some (.cells #[.slice none 0 0] 24 (0,0))):=⟨(by rw [hw];exact (by (with_reducible repeat (first|refine blk_drewN ?_ _|refine blk_drew ?_|refine blk_alloc ?_ _));refine blk_far ?_ NB161_174.out _;(with_reducible repeat (first|refine blk_drewN ?_ _|refine blk_drew ?_|refine blk_alloc ?_ _));exact BK161.out))⟩;have n7_:Aside0 (w27.heap[gb174]?=some (.cells #[.int .i64 ((rd_T42 l0_0 a1).f0),.bool ((rd_T42 l0_0 a1).f1),.slice A173_2 y175.length c173_2] 42 (0,0))):=⟨(by rw [hw];exact (by (with_reducible repeat (first|refine blk_drewN ?_ _|refine blk_drew ?_|refine blk_alloc ?_ _));refine blk_put (cs:=#[.int .i64 ((rd_T42 l0_0 a1).f0),.bool ((rd_T42 l0_0 a1).f1),.slice A173_2 ((rd_T42 l0_0 a1).f2).length c173_2]) ?_ 2 _ rfl;(with_reducible repeat (first|refine blk_drewN ?_ _|refine blk_drew ?_|refine blk_alloc ?_ _));exact BK174.out))⟩;have n8_:Aside0 (Below w.heap.size w w27):=⟨(by rw [hw];exact (by repeat (first|(with_reducible first|exact HB.out|apply below_alloc|apply pw_below_drewN|apply below_drew1|refine below_set ?_ GE160.out|refine below_set ?_ GE161.out|refine below_set ?_ GE174.out)|exact HB.out)))⟩;clear hw;clear HO0_0;clear HO169;clear HO172;clear HL173_2;clear HO179;clear BK160;clear BK161;clear BK174;clear HB;have HO0_0:=n0_;have HO169:=n1_;have HO172:=n2_;have HL173_2:=n3_;have HO179:=n4_;have BK160:=n5_;have BK161:=n6_;have BK174:=n7_;have HB:=n8_;clear n0_ n1_ n2_ n3_ n4_ n5_ n6_ n7_ n8_;have hcz28_0:w27.cell? ⟨gb174,0,none⟩=some (.int .i64 ((rd_T42 l0_0 a1).f0)):=(blk_cell BK174.out 0).trans rfl;have hcz28_1:w27.cell? ⟨gb174,1,none⟩=some (.bool ((rd_T42 l0_0 a1).f1)):=(blk_cell BK174.out 1).trans rfl;have hcz28_2:w27.cell? ⟨gb174,2,none⟩=some (.slice A173_2 y175.length c173_2):=(blk_cell BK174.out 2).trans rfl;have hfz28_0:=blk_frozen BK174.out 0;have hfz28_1:=blk_frozen BK174.out 1;have hfz28_2:=blk_frozen BK174.out 2)|((with_reducible refine gate_builtin (b:=.append) (xs:=#[.tmp 25,.tmp 27]) rfl ?_);at_builtin;refine Kd.N_append k42 (w0:=w) w.heap.size rfl (.tmp 25) (.tmp 27) 22 42 (.agg #[(.int .i64 0),(.bool false),(.slice none 0 0)]) 40 rfl Try.underlying22 info42 rfl (by decide) (by omega) v171 y170 (⟨(rd_T42 l0_0 a1).f0,(rd_T42 l0_0 a1).f1,y175⟩:S42) [.int .i64 ((rd_T42 l0_0 a1).f0),.bool ((rd_T42 l0_0 a1).f1),.slice A173_2 y175.length c173_2] (fun k_=>(P0_0_ k_ ∨ w.heap.size≤k_)∧k_ ≠ gb160∧k_ ≠ gb161∧k_ ≠ gb174) (fun k_=>((fun k_=>(P0_0_ k_ ∨ w.heap.size≤k_)∧k_ ≠ gb160∧k_ ≠ gb161∧k_ ≠ gb174)) k_∧some k_ ≠ (v171:Value).ownBlock) rfl rfl ?aP (fun _ hk=>hk) ?aF ?aO ?aB ?aS ?aL ?_;(case aP=>exact (k42_mkF _ _ (⟨(rd_T42 l0_0 a1).f0,(rd_T42 l0_0 a1).f1,y175⟩:S42) (Kd.V_reads' (Kd.V_mono (ok':=(fun k_=>((fun k_=>(P0_0_ k_ ∨ w.heap.size≤k_)∧k_ ≠ gb160∧k_ ≠ gb161∧k_ ≠ gb174)) k_∧some k_ ≠ (v171:Value).ownBlock)) (HO179.out) (fun k_ hk=>⟨⟨hk.1,⟨hk.2.2.1,⟨hk.2.2.2.1,hk.2.2.2.2⟩⟩⟩,hk.2.1⟩))).2.1 (Kd.V_F (Kd.V_mono (ok':=(fun k_=>((fun k_=>(P0_0_ k_ ∨ w.heap.size≤k_)∧k_ ≠ gb160∧k_ ≠ gb161∧k_ ≠ gb174)) k_∧some k_ ≠ (v171:Value).ownBlock)) (HO179.out) (fun k_ hk=>⟨⟨hk.1,⟨hk.2.2.1,⟨hk.2.2.2.1,hk.2.2.2.2⟩⟩⟩,hk.2.1⟩)))));(case aB=>exact (by repeat (first|(with_reducible first|exact HB.out|apply below_alloc|apply pw_below_drewN|apply below_drew1|refine below_set ?_ GE160.out|refine below_set ?_ GE161.out|refine below_set ?_ GE174.out)|exact HB.out)));(case aF=>exact (fun k_ hk=>⟨(.inr (Nat.le_trans (below_size (by repeat (first|(with_reducible first|exact HB.out|apply below_alloc|apply pw_below_drewN|apply below_drew1|refine below_set ?_ GE160.out|refine below_set ?_ GE161.out|refine below_set ?_ GE174.out)|exact HB.out))) hk)),Kd.freshB (g:=gb160) (o:=.cells #[.slice (some ad173) l0_0.length c0_0] 24 (0,0)) (by (with_reducible repeat (first|refine blk_drewN ?_ _|refine blk_drew ?_|refine blk_alloc ?_ _));exact BK160.out) k_ hk,Kd.freshB (g:=gb161) (o:=.cells #[.slice none 0 0] 24 (0,0)) (by (with_reducible repeat (first|refine blk_drewN ?_ _|refine blk_drew ?_|refine blk_alloc ?_ _));exact BK161.out) k_ hk,Kd.freshB (g:=gb174) (o:=.cells #[.int .i64 ((rd_T42 l0_0 a1).f0),.bool ((rd_T42 l0_0 a1).f1),.slice A173_2 y175.length c173_2] 42 (0,0)) (by (with_reducible repeat (first|refine blk_drewN ?_ _|refine blk_drew ?_|refine blk_alloc ?_ _));exact BK174.out) k_ hk⟩));(case aO=>exact (by (with_reducible repeat (first|apply Kd.N_alloc|apply Kd.N_drewN|apply Kd.N_drew));exact HO172.out));(case aS=>exact (below_size (by repeat (first|(with_reducible first|exact HB.out|apply below_alloc|apply pw_below_drewN|apply below_drew1|refine below_set ?_ GE160.out|refine below_set ?_ GE161.out|refine below_set ?_ GE174.out)|exact HB.out))));(case aL=>have:=LMc10.out;omega);intro v181 w29 ho hb hg hat;rw [← Ny180.out] at ho;have n0_:=Aside0.mk (Kd.V_afterv (ok:=(fun k_=>(P0_0_ k_ ∨ w.heap.size≤k_)∧k_ ≠ gb160∧k_ ≠ gb161∧k_ ≠ gb174)) (by (with_reducible repeat (first|apply Kd.V_alloc|apply Kd.V_drewN|apply Kd.V_drew));exact Kd.V_mono HO0_0.out (fun _ hk=>⟨⟨hk.1,⟨hk.2.2.1,⟨hk.2.2.2.1,hk.2.2.2.2⟩⟩⟩,hk.2.1⟩)) hg hat);have n1_:=Aside0.mk (blk_grown (g:=gb160) (o:=.cells #[.slice (some ad173) l0_0.length c0_0] 24 (0,0)) (by (with_reducible repeat (first|refine blk_drewN ?_ _|refine blk_drew ?_|refine blk_alloc ?_ _));exact BK160.out) hg (Kd.N_ne HO172.out BK160.out (by decide)));have n2_:=Aside0.mk (blk_grown (g:=gb161) (o:=.cells #[.slice none 0 0] 24 (0,0)) (by (with_reducible repeat (first|refine blk_drewN ?_ _|refine blk_drew ?_|refine blk_alloc ?_ _));exact BK161.out) hg (Kd.N_ne HO172.out BK161.out (by decide)));have n3_:=Aside0.mk (Kd.V_afterv (ok:=(fun k_=>(P0_0_ k_ ∨ w.heap.size≤k_)∧k_ ≠ gb160∧k_ ≠ gb161∧k_ ≠ gb174)) (by (with_reducible repeat (first|apply Kd.V_alloc|apply Kd.V_drewN|apply Kd.V_drew));exact Kd.V_mono HO169.out (fun _ hk=>⟨⟨hk.1,⟨hk.2.2.1,⟨hk.2.2.2.1,hk.2.2.2.2⟩⟩⟩,hk.2.1⟩)) hg hat);have n4_:=Aside0.mk (Kd.V_afterv (ok:=(fun k_=>(P0_0_ k_ ∨ w.heap.size≤k_)∧k_ ≠ gb160∧k_ ≠ gb161∧k_ ≠ gb174)) (by (with_reducible repeat (first|apply Kd.V_alloc|apply Kd.V_drewN|apply Kd.V_drew));exact Kd.V_mono HL173_2.out (fun _ hk=>⟨⟨hk.1,⟨hk.2.2.1,⟨hk.2.2.2.1,hk.2.2.2.2⟩⟩⟩,hk.2.1⟩)) hg hat);have n5_:=Aside0.mk (blk_grown (g:=gb174) (o:=.cells #[.int .i64 ((rd_T42 l0_0 a1).f0),.bool ((rd_T42 l0_0 a1).f1),.slice A173_2 y175.length c173_2] 42 (0,0)) (by (with_reducible repeat (first|refine blk_drewN ?_ _|refine blk_drew ?_|refine blk_alloc ?_ _));exact BK174.out) hg (Kd.N_away HO172.out (fun _ hk=>hk.2.2.2)));have n6_:=Aside0.mk (Kd.V_afterv (ok:=(fun k_=>(P0_0_ k_ ∨ w.heap.size≤k_)∧k_ ≠ gb160∧k_ ≠ gb161∧k_ ≠ gb174)) (by (with_reducible repeat (first|apply Kd.V_alloc|apply Kd.V_drewN|apply Kd.V_drew));exact Kd.V_mono HO179.out (fun _ hk=>⟨⟨hk.1,⟨hk.2.2.1,⟨hk.2.2.2.1,hk.2.2.2.2⟩⟩⟩,hk.2.1⟩)) hg hat);have n7_:=Aside0.mk (hb);have n8_:=Aside0.mk (ho);clear HO0_0;clear BK160;clear BK161;clear HO169;clear HL173_2;clear BK174;clear HO179;clear HB;clear HO172;have HO0_0:=n0_;have BK160:=n1_;have BK161:=n2_;have HO169:=n3_;have HL173_2:=n4_;have BK174:=n5_;have HO179:=n6_;have HB:=n7_;have HO182:=n8_;clear n0_ n1_ n2_ n3_ n4_ n5_ n6_ n7_ n8_;clear ho hb hg hat;obtain ⟨Ao30,co30,eo30⟩:=Kd.N_slice HO182.out;subst eo30;have hcz31_0:w29.cell? ⟨gb161,0,none⟩=some (.slice none 0 0):=(blk_cell BK161.out 0).trans rfl;have hfz31_0:=blk_frozen BK161.out 0))
        refine bodyPost_ret (results_cell_row rfl _ _ gb161 24 #[.slice Ao30 y180.length co30] (0,0) _ rfl (by (with_reducible repeat (first|refine blk_drewN ?_ _|refine blk_drew ?_|refine blk_alloc ?_ _));refine blk_put (cs:=#[.slice none 0 0]) ?_ 0 _ rfl;(with_reducible repeat (first|refine blk_drewN ?_ _|refine blk_drew ?_|refine blk_alloc ?_ _));exact BK161.out) Try.underlying24 rfl (by kernel_rfl)) rfl ?_
        exact ⟨_,by first|rfl|(simp [errW_none,errW_some] <;> rfl)|(simp [*,errW_none,errW_some] <;> rfl),by (with_reducible repeat (first|apply Kd.N_alloc|apply Kd.N_drewN|apply Kd.N_drew));exact Kd.N_mono (Kd.N_far (p:=⟨gb161,0,none⟩) (Kd.N_mono HO182.out (fun k_ hk=>(⟨hk,hk.2.2.1⟩:_∧k_ ≠ gb161))) (fun _ hk=>hk.2) (.slice Ao30 y180.length co30)) (fun _ hk=>hk.1.1),by repeat (first|(with_reducible first|exact HB.out|apply below_alloc|apply pw_below_drewN|apply below_drew1|refine below_set ?_ GE160.out|refine below_set ?_ GE161.out|refine below_set ?_ GE174.out)|exact HB.out)⟩
       ·rw [if_neg c10] at H
        exact absurd H (by simp)
      ·rw [if_neg c9] at H
       exact absurd H (by simp)
     ·rw [if_neg c8] at H
      exact absurd H (by simp)
    ·rw [if_neg c7] at H
     exact absurd H (by simp)
   ·rw [if_neg c6] at H
    exact absurd H (by simp)
  ·rw [if_neg c5] at H
   exact absurd H (by simp)
 ·rw [if_neg c4] at H
  exact absurd H (by simp)
end Go.Proofs.Ytlcioegdmopppaa.PEncodeBack
namespace Go.Proofs.Ytlcioegdmopppaa.PEncodeBack
open Go.RowKit Go.Proofs.YtlcioegdmopppaaW.PrintWords Go.Proofs.YtlcioegdmopppaaW.PrintLast Go.Proofs.YtlcioegdmopppaaW.PrintMore
attribute [local go_sem] max2_int min2_int max_two min_two max_three min_three max_four min_four
set_option linter.unusedVariables false
set_option linter.unusedSimpArgs false
mutual
def coronerref04_Check.j0:Nat→Bool→List (S42)→Option (Int)
 | 0,_,_=>none
 | k+1,x15,x184000=>if x15=true then (some 3) else (coronerref04_Check.l0 k 0 x184000)
def coronerref04_Check.l0:Nat→Int→List (S42)→Option (Int)
 | 0,_,_=>none
 | k+1,x3,x184000=>if x3 < (x184000.length:Int) then (if 0≤x3 then ((coronerref04_may.f ((rd_T42 x184000 x3).f0)).bind fun t188=>(if t188=true then (coronerref04_Check.l1 k x3 0 x184000 ((rd_T42 x184000 x3).f0) ((rd_T42 x184000 x3).f1) ((rd_T42 x184000 x3).f2)) else (some 2))) else (none)) else ((coronerref04_Text.f k x184000).bind fun t185=>(if (t185.size:Int) > 262144 then (some 3) else (some 0)))
def coronerref04_Check.l1:Nat→Int→Int→List (S42)→Int→Bool→List (S39)→Option (Int)
 | 0,_,_,_,_,_,_=>none
 | k+1,x3,x5,x184000,x188000,x188001,x188002=>if x5 < x3 then (if 0≤x5 then (if x5 < (x184000.length:Int) then (if ((rd_T42 x184000 x5).f0)=x188000 then (some 5) else (coronerref04_Check.l1 k x3 (wrap64 (x5+1)) x184000 x188000 x188001 x188002)) else (none)) else (none)) else (coronerref04_Check.l2 k x3 0 x184000 x188000 x188001 x188002)
def coronerref04_Check.l2:Nat→Int→Int→List (S42)→Int→Bool→List (S39)→Option (Int)
 | 0,_,_,_,_,_,_=>none
 | k+1,x3,x6,x184000,x188000,x188001,x188002=>if x6 < (x188002.length:Int) then (if 0≤x6 then ((coronerref04_mayOp.f k ((rd_T39 x188002 x6).f0) ((rd_T39 x188002 x6).f1) ((rd_T39 x188002 x6).f2) ((rd_T39 x188002 x6).f3)).bind fun t191=>(if t191=true then (if ((rd_T39 x188002 x6).f0=true) then (coronerref04_Check.l2 k x3 (wrap64 (x6+1)) x184000 x188000 x188001 x188002) else ((coronerref04_earlier.f x184000 x3 x6).bind fun t193=>((coronerref03_Appended.f k t193 ((rd_T39 x188002 x6).f1) ((rd_T39 x188002 x6).f2)).bind fun t198=>(if t198=true then (some 6) else (coronerref04_Check.l2 k x3 (wrap64 (x6+1)) x184000 x188000 x188001 x188002))))) else (some 2))) else (none)) else (coronerref04_Check.l0 k (wrap64 (x3+1)) x184000)
end
def coronerref04_Check.f (k:Nat) (l0_0:List (S42)):Option (Int):=if (l0_0.length:Int) > 1024 then (coronerref04_Check.j0 k true l0_0) else ((coronerref03_Ops.f k l0_0).bind fun t184=>(coronerref04_Check.j0 k (decide (t184 > 4096)) l0_0))
def coronerref04_Check.T12:Bool × List (List Nat × List Nat):=(true,[([],[]),([0],[0]),([],[]),([1,2],[1,2]),([3],[3]),([4],[4]),([],[]),([6],[6]),([5,7],[5,7])])
def coronerref04_Check.B12:List Nat:=[0,1,0,7,15,31,0,64,255]
theorem coronerref04_Check.tab12:rtab .any (opsOf Try.f16 12)=coronerref04_Check.T12:=by kernel_rfl
theorem coronerref04_Check.bits12:waitsOk coronerref04_Check.T12.2 coronerref04_Check.B12=true:=by kernel_rfl
def coronerref04_Check.T19:Bool × List (List Nat × List Nat):=(true,[([],[]),([0],[0]),([],[]),([1,2],[1,2]),([3],[3]),([4],[4]),([5],[5]),([6],[6]),([7],[7]),([7],[7]),([7],[7]),([8,9,10,7,7],[7,8,9,10]),([7],[7]),([12,7],[7,12]),([7],[7]),([13,14,7],[7,13,14]),([15,7],[7,15]),([16,7],[7,16]),([7],[7]),([18,7],[7,18]),([7],[7]),([19,20,7],[7,19,20]),([21,7],[7,21]),([22,7],[7,22]),([11,17,23,11,7],[7,11,17,23]),([7,24],[7,24])])
def coronerref04_Check.B19:List Nat:=[0,1,0,7,15,31,63,127,255,255,255,2047,255,4351,255,28927,61695,127231,255,262399,255,1835263,3932415,8126719,16777215,33554431]
theorem coronerref04_Check.tab19:rtab .any (opsOf Try.f16 19)=coronerref04_Check.T19:=by kernel_rfl
theorem coronerref04_Check.bits19:waitsOk coronerref04_Check.T19.2 coronerref04_Check.B19=true:=by kernel_rfl
set_option maxHeartbeats 8000000 in
set_option maxRecDepth 100000 in
theorem coronerref04_Check.calls (k:Nat) (A0_0:Option Addr) (c0_0:Nat) (l0_0:List (S42)) (r:Int) (w:World) (hr0_0:Kd.C k42 w A0_0 l0_0.length l0_0) (hc0_0:l0_0.length≤c0_0) (h:coronerref04_Check.f k l0_0=some r) :
 Calls Try.prog 16 #[.agg #[.slice A0_0 l0_0.length c0_0]] w fun e w'=>e=.returned (.int .i64 r)∧Below w.heap.size w w':=by
 have hu24:=Try.underlying24
 have hu42:=Try.underlying42
 have hu39:=Try.underlying39
 have HR0_0:=Aside0.mk hr0_0
 have HC0_0:=Aside0.mk hc0_0
 clear hr0_0 hc0_0
 have HB:=Aside0.mk (Below.refl w.heap.size w)
 have H:(if (l0_0.length:Int) > 1024 then (coronerref04_Check.j0 k true l0_0) else ((coronerref03_Ops.f k l0_0).bind fun t184=>(coronerref04_Check.j0 k (decide (t184 > 4096)) l0_0)))=some r:=h
 clear h
 have HC2:=Aside0.mk H
 clear H
 go_enter Try.func16,Try.ntmps16
 go_upto_region 1 with (first|((with_reducible refine gate_dst (N:=1) rfl ?_);refine box_event ?hg (N:=1) ?hd (cs:=#[.slice A0_0 l0_0.length c0_0]) (t:=24) ?hr ?_;(case hd=>rfl);(case hg=>rfl);(case hr=>first|(go_simp;done)|(go_simp;rfl));intro gb183 hg w3 hbox hb;have n0_:=Aside0.mk (below_step (by repeat (first|(with_reducible first|exact HB.out|apply below_alloc|apply pw_below_drewN|apply below_drew1)|exact HB.out)) hb);have n1_:=Aside0.mk (hbox);have n2_:=Aside0.mk ((by rw [hg];exact (below_size (by repeat (first|(with_reducible first|exact HB.out|apply below_alloc|apply pw_below_drewN|apply below_drew1)|exact HB.out))):w.heap.size≤gb183));have n3_:=Aside0.mk ((by rw [hg];exact (below_size (by repeat (first|(with_reducible first|exact HB.out|apply below_alloc|apply pw_below_drewN|apply below_drew1)|exact HB.out))):w.heap.size≤gb183));clear HB;have HB:=n0_;have BK183:=n1_;have GW183:=n2_;have GE183:=n3_;clear n0_ n1_ n2_ n3_;clear hb hbox hg))
 (try simp only [Act.put,List.setIfInBounds_toArray,List.set_cons_zero,List.set_cons_succ])
 go_cut [15] (fun v15 wc=>∃ (kq:Nat) (x15_1:Bool),v15=.bool x15_1∧Aside0 (coronerref04_Check.j0 kq x15_1 l0_0=some r)∧Aside0 (kq≤k)∧Aside0 (wc.heap[gb183]?=some (.cells #[(.slice A0_0 l0_0.length c0_0)] 24 (0,0)))∧Aside0 (Below w.heap.size w wc))
 case first =>
  have H:=HC2.out
  clear HC2
  by_cases c4:(l0_0.length:Int) > 1024
  ·rw [if_pos c4] at H
   have c4b0:decide (1024 < (l0_0.length:Int))=true:=decide_eq_true c4
   have c4b1:decide (1024 < l0_0.length)=true:=decide_eq_true (by omega)
   clear c4
   (first|rw [c4b0]|(simp only [i64_w,i32_w];rw [c4b0])|skip)
   have H':=Aside0.mk H
   clear H
   have hcz5_0:w3.cell? ⟨gb183,0,none⟩=some (.slice A0_0 l0_0.length c0_0):=(blk_cell BK183.out 0).trans rfl
   have hfz5_0:=blk_frozen BK183.out 0
   go_wp2
   go_meet
   case rel=>exact ⟨_,(true),(by first|rfl|(simp;done)|(simp [*];done)),H',⟨by first|omega|exact Nat.le_refl _⟩,⟨by (with_reducible repeat (first|refine blk_drewN ?_ _|refine blk_drew ?_|refine blk_alloc ?_ _));exact BK183.out⟩,⟨by repeat (first|(with_reducible first|exact HB.out|apply below_alloc|apply pw_below_drewN|apply below_drew1|refine below_set ?_ GE183.out)|exact HB.out)⟩⟩
  ·rw [if_neg c4] at H
   have c4b0:decide (1024 < (l0_0.length:Int))=false:=decide_eq_false c4
   have c4b1:decide (1024 < l0_0.length)=false:=decide_eq_false (by omega)
   clear c4
   (first|rw [c4b0]|(simp only [i64_w,i32_w];rw [c4b0])|skip)
   replace H:=Option.bind_eq_some_iff.mp H
   obtain ⟨t184,A60,H⟩:=H
   replace H:(coronerref04_Check.j0 k (decide (t184 > 4096)) l0_0)=some r:=H
   have A6:=Aside0.mk A60
   clear A60
   have H':=Aside0.mk H
   clear H
   have hcz7_0:w3.cell? ⟨gb183,0,none⟩=some (.slice A0_0 l0_0.length c0_0):=(blk_cell BK183.out 0).trans rfl
   have hfz7_0:=blk_frozen BK183.out 0
   go_wp2_with (first|(go_at_call 24;(with_reducible refine (coronerref03_Ops.calls k _ _ l0_0 t184 _ ?side1 ?side2 A6.out).mono ?_);(case side1=>repeat (first|exact (Kd.C_below HR0_0.out HB.out)|(with_reducible refine Kd.C_alloc ?_ _)|(with_reducible refine Kd.C_drewN ?_ _)|(with_reducible refine Kd.C_drew ?_)));(case side2=>exact HC0_0.out);rintro e w8 ⟨rfl,hb⟩;have n0_:=Aside0.mk (blk_below (g:=gb183) (o:=.cells #[.slice A0_0 l0_0.length c0_0] 24 (0,0)) (by (with_reducible repeat (first|refine blk_drewN ?_ _|refine blk_drew ?_|refine blk_alloc ?_ _));exact BK183.out) hb);have n1_:=Aside0.mk (below_step (by repeat (first|(with_reducible first|exact HB.out|apply below_alloc|apply pw_below_drewN|apply below_drew1|refine below_set ?_ GE183.out)|exact HB.out)) hb);clear BK183;clear HB;have BK183:=n0_;have HB:=n1_;clear n0_ n1_;(try clear hb);(try clear hb2);(try clear hk);(try clear hi)))
   go_meet
   case rel=>exact ⟨_,(decide (t184 > 4096)),(by first|rfl|(simp;done)|(simp [*];done)),H',⟨by first|omega|exact Nat.le_refl _⟩,⟨by (with_reducible repeat (first|refine blk_drewN ?_ _|refine blk_drew ?_|refine blk_alloc ?_ _));exact BK183.out⟩,⟨by repeat (first|(with_reducible first|exact HB.out|apply below_alloc|apply pw_below_drewN|apply below_drew1|refine below_set ?_ GE183.out)|exact HB.out)⟩⟩
 case rest =>
  clear HC2
  try clear c1
  try clear p2
  try clear c4
  try clear c4b0
  try clear c4b1
  try clear hcz5_0
  try clear hcz7_0
  try clear hfz5_0
  try clear hfz7_0
  obtain ⟨kq,x15_1,rfl,HA,HJ1,BK183,HB⟩:=hcut
  cases kq with
  | zero=>exact absurd HA.out (by simp [coronerref04_Check.j0])
  | succ kj1 =>
   have H:=HA.out
   clear HA
   simp only [coronerref04_Check.j0] at H
   by_cases c9:x15_1=true
   ·subst c9
    have H1:(some 3)=some r:=by rw [if_pos rfl] at H;exact H
    clear H
    have H:=H1
    clear H1
    obtain rfl:=Option.some.inj H
    go_wp2
    go_ret
    exact ⟨by first|rfl|(simp [errW_none,errW_some] <;> rfl)|(simp [*,errW_none,errW_some] <;> rfl),by repeat (first|(with_reducible first|exact HB.out|apply below_alloc|apply pw_below_drewN|apply below_drew1|refine below_set ?_ GE183.out)|exact HB.out)⟩
   ·replace c9:=Bool.eq_false_iff.mpr c9
    subst c9
    have H1:(coronerref04_Check.l0 kj1 0 l0_0)=some r:=by rw [if_neg (show ¬ (false=true) by decide)] at H;exact H
    clear H
    have H:=H1
    clear H1
    have H':=Aside0.mk H
    clear H
    go_wp2
    go_loopg [3] kj1 (fun kq v3 w'=>∃ (x3_2:Int),v3=.int .i64 x3_2∧Aside0 (coronerref04_Check.l0 kq x3_2 l0_0=some r)∧Aside0 (kq≤kj1)∧Aside0 (w'.heap[gb183]?=some (.cells #[(.slice A0_0 l0_0.length c0_0)] 24 (0,0)))∧Aside0 (Below w.heap.size w w'))
    case atStart=>exact ⟨(0),(by first|rfl|(simp;done)|(simp [*];done)),H',⟨Nat.le_refl _⟩,⟨by (with_reducible repeat (first|refine blk_drewN ?_ _|refine blk_drew ?_|refine blk_alloc ?_ _));exact BK183.out⟩,⟨by repeat (first|(with_reducible first|exact HB.out|apply below_alloc|apply pw_below_drewN|apply below_drew1|refine below_set ?_ GE183.out)|exact HB.out)⟩⟩
    case round =>
     clear H'
     try clear c1
     try clear p2
     try clear c4
     try clear c4b0
     try clear c4b1
     try clear c9
     try clear hcz5_0
     try clear hcz7_0
     try clear hfz5_0
     try clear hfz7_0
     try clear p2
     obtain ⟨x3_2,rfl,HA,HK2,BK183,HB⟩:=hrel
     cases gk with
     | zero=>exact absurd HA.out (by simp [coronerref04_Check.l0])
     | succ k2 =>
      have H:=HA.out
      clear HA
      simp only [coronerref04_Check.l0] at H
      by_cases c10:x3_2 < (l0_0.length:Int)
      ·rw [if_pos c10] at H
       have c10b0:decide (x3_2 < (l0_0.length:Int))=true:=decide_eq_true c10
       clear c10
       by_cases c11:0≤x3_2
       ·rw [if_pos c11] at H
        have c11b0:decide (0≤x3_2)=true:=decide_eq_true c11
        clear c11
        replace H:=Option.bind_eq_some_iff.mp H
        obtain ⟨t188,A120,H⟩:=H
        replace H:(if t188=true then (coronerref04_Check.l1 k2 x3_2 0 l0_0 ((rd_T42 l0_0 x3_2).f0) ((rd_T42 l0_0 x3_2).f1) ((rd_T42 l0_0 x3_2).f2)) else (some 2))=some r:=H
        have A12:=Aside0.mk A120
        clear A120
        by_cases c13:t188=true
        ·subst c13
         have H1:(coronerref04_Check.l1 k2 x3_2 0 l0_0 ((rd_T42 l0_0 x3_2).f0) ((rd_T42 l0_0 x3_2).f1) ((rd_T42 l0_0 x3_2).f2))=some r:=by rw [if_pos rfl] at H;exact H
         clear H
         have H:=H1
         clear H1
         have H':=Aside0.mk H
         clear H
         have hcz14_0:wr.cell? ⟨gb183,0,none⟩=some (.slice A0_0 l0_0.length c0_0):=(blk_cell BK183.out 0).trans rfl
         have hfz14_0:=blk_frozen BK183.out 0
         have p186:0≤(x3_2:Int):=of_decide_eq_true (by first|(with_reducible assumption)|assumption)
         have q186:x3_2 < (l0_0.length:Int):=of_decide_eq_true (by first|(with_reducible assumption)|assumption)
         obtain ⟨ad186,A186_2,c186_2,e186,hx186_0,hx186_1,hx186_2,hl186_2,hi186_2⟩:=at_T42 HR0_0.out x3_2 p186 q186
         cases e186
         replace hx186_0:=(HB.out.cell (World.block_lt_of_cell? w _ hx186_0)).trans hx186_0
         replace hx186_1:=(HB.out.cell (World.block_lt_of_cell? w _ hx186_1)).trans hx186_1
         replace hx186_2:=(HB.out.cell (World.block_lt_of_cell? w _ hx186_2)).trans hx186_2
         have HR186_2:=Aside0.mk hi186_2
         have HC186_2:=Aside0.mk hl186_2
         clear hi186_2 hl186_2
         replace p186:=eq_true p186
         replace q186:=eq_true q186
         go_wp2_with (first|((with_reducible refine gate_dst (N:=4) rfl ?_);refine box_event ?hg (N:=4) ?hd (cs:=#[.int .i64 0,.bool false,.slice none 0 0]) (t:=42) ?hr ?_;(case hd=>rfl);(case hg=>rfl);(case hr=>first|(go_simp;done)|(go_simp;rfl));intro gb187 hg w15 hbox hb;have n0_:=Aside0.mk (blk_below (g:=gb183) (o:=.cells #[.slice (some ad186) l0_0.length c0_0] 24 (0,0)) (by (with_reducible repeat (first|refine blk_drewN ?_ _|refine blk_drew ?_|refine blk_alloc ?_ _));exact BK183.out) hb);have n1_:=Aside0.mk (below_step (by repeat (first|(with_reducible first|exact HB.out|apply below_alloc|apply pw_below_drewN|apply below_drew1|refine below_set ?_ GE183.out)|exact HB.out)) hb);have n2_:=Aside0.mk (hbox);have n3_:=Aside0.mk ((by rw [hg];exact (below_size (by repeat (first|(with_reducible first|exact HB.out|apply below_alloc|apply pw_below_drewN|apply below_drew1|refine below_set ?_ GE183.out)|exact HB.out))):w.heap.size≤gb187));have n4_:=Aside0.mk ((by rw [hg];exact (below_size (by repeat (first|(with_reducible first|exact HB.out|apply below_alloc|apply pw_below_drewN|apply below_drew1|refine below_set ?_ GE183.out)|exact HB.out))):w.heap.size≤gb187));have n5_:=Aside0.mk ((by rw [hg];exact Nat.ne_of_lt (blk_lt (g:=gb183) (o:=.cells #[.slice (some ad186) l0_0.length c0_0] 24 (0,0)) (by (with_reducible repeat (first|refine blk_drewN ?_ _|refine blk_drew ?_|refine blk_alloc ?_ _));exact BK183.out)):gb183 ≠ gb187));have n6_:=Aside0.mk ((by rw [hg];exact Nat.ne_of_gt (blk_lt (g:=gb183) (o:=.cells #[.slice (some ad186) l0_0.length c0_0] 24 (0,0)) (by (with_reducible repeat (first|refine blk_drewN ?_ _|refine blk_drew ?_|refine blk_alloc ?_ _));exact BK183.out)):gb187 ≠ gb183));clear BK183;clear HB;have BK183:=n0_;have HB:=n1_;have BK187:=n2_;have GW187:=n3_;have GE187:=n4_;have NB183_187:=n5_;have NB187_183:=n6_;clear n0_ n1_ n2_ n3_ n4_ n5_ n6_;clear hb hbox hg;have hnb16:=NB187_183.out;have hnc16:=NB183_187.out;have hcz17_0:w15.cell? ⟨gb187,0,none⟩=some (.int .i64 0):=(blk_cell BK187.out 0).trans rfl;have hcz17_1:w15.cell? ⟨gb187,1,none⟩=some (.bool false):=(blk_cell BK187.out 1).trans rfl;have hcz17_2:w15.cell? ⟨gb187,2,none⟩=some (.slice none 0 0):=(blk_cell BK187.out 2).trans rfl;have hfz17_0:=blk_frozen BK187.out 0;have hfz17_1:=blk_frozen BK187.out 1;have hfz17_2:=blk_frozen BK187.out 2)|((with_reducible refine gate_callee (f:=28) rfl ?_);refine goesL_ (some 30) rfl rfl Try.func28 (by kernel_rfl) rfl #[.int .i64 ((rd_T42 l0_0 x3_2).f0)] rfl (by (try simp only [List.map_toArray,List.map_cons,List.map_nil]);first|done|rfl|(simp only [List.length_drop,List.length_take];rfl)) ?_;(with_reducible refine (coronerref04_may.calls ((rd_T42 l0_0 x3_2).f0) true _ A12.out).mono ?_);rintro e w' ⟨rfl,⟨nd,rfl⟩⟩;refine ⟨_,rfl,?_⟩))
         go_loopg [5] k2 (fun kq v5 w'=>∃ (x5_3:Int),v5=.int .i64 x5_3∧Aside0 (coronerref04_Check.l1 kq x3_2 x5_3 l0_0 ((rd_T42 l0_0 x3_2).f0) ((rd_T42 l0_0 x3_2).f1) ((rd_T42 l0_0 x3_2).f2)=some r)∧Aside0 (kq≤k2)∧Aside0 (w'.heap[gb183]?=some (.cells #[(.slice (some ad186) l0_0.length c0_0)] 24 (0,0)))∧Aside0 (w'.heap[gb187]?=some (.cells #[.int .i64 ((rd_T42 l0_0 x3_2).f0),.bool ((rd_T42 l0_0 x3_2).f1),(.slice A186_2 ((rd_T42 l0_0 x3_2).f2).length c186_2)] 42 (0,0)))∧Aside0 (Below w.heap.size w w'))
         case atStart=>exact ⟨(0),(by first|rfl|(simp;done)|(simp [*];done)),H',⟨Nat.le_refl _⟩,⟨by (with_reducible repeat (first|refine blk_drewN ?_ _|refine blk_drew ?_|refine blk_alloc ?_ _));refine blk_far ?_ NB183_187.out _;(with_reducible repeat (first|refine blk_drewN ?_ _|refine blk_drew ?_|refine blk_alloc ?_ _));refine blk_far ?_ NB183_187.out _;(with_reducible repeat (first|refine blk_drewN ?_ _|refine blk_drew ?_|refine blk_alloc ?_ _));refine blk_far ?_ NB183_187.out _;(with_reducible repeat (first|refine blk_drewN ?_ _|refine blk_drew ?_|refine blk_alloc ?_ _));exact BK183.out⟩,⟨by (with_reducible repeat (first|refine blk_drewN ?_ _|refine blk_drew ?_|refine blk_alloc ?_ _));refine blk_put (cs:=#[.int .i64 ((rd_T42 l0_0 x3_2).f0),.bool ((rd_T42 l0_0 x3_2).f1),.slice none 0 0]) ?_ 2 _ rfl;(with_reducible repeat (first|refine blk_drewN ?_ _|refine blk_drew ?_|refine blk_alloc ?_ _));refine blk_put (cs:=#[.int .i64 ((rd_T42 l0_0 x3_2).f0),.bool false,.slice none 0 0]) ?_ 1 _ rfl;(with_reducible repeat (first|refine blk_drewN ?_ _|refine blk_drew ?_|refine blk_alloc ?_ _));refine blk_put (cs:=#[.int .i64 0,.bool false,.slice none 0 0]) ?_ 0 _ rfl;(with_reducible repeat (first|refine blk_drewN ?_ _|refine blk_drew ?_|refine blk_alloc ?_ _));exact BK187.out⟩,⟨by repeat (first|(with_reducible first|exact HB.out|apply below_alloc|apply pw_below_drewN|apply below_drew1|refine below_set ?_ GE183.out|refine below_set ?_ GE187.out)|exact HB.out)⟩⟩
         case round =>
          clear H'
          try clear c1
          try clear p1
          try clear q1
          try clear hx1
          try clear c2
          try clear p2
          try clear c4
          try clear c4b0
          try clear c4b1
          try clear c9
          try clear c10
          try clear c10b0
          try clear c11
          try clear c11b0
          try clear c13
          try clear c16
          try clear hcz14_0
          try clear hcz17_0
          try clear hcz17_1
          try clear hcz17_2
          try clear hcz5_0
          try clear hcz7_0
          try clear hfz14_0
          try clear hfz17_0
          try clear hfz17_1
          try clear hfz17_2
          try clear hfz5_0
          try clear hfz7_0
          try clear hx186_0
          try clear hx186_1
          try clear hx186_2
          try clear p186
          try clear p2
          try clear q186
          obtain ⟨x5_3,rfl,HA,HK3,BK183,BK187,HB⟩:=hrel
          cases gk with
          | zero=>exact absurd HA.out (by simp [coronerref04_Check.l1])
          | succ k3 =>
           have H:=HA.out
           clear HA
           simp only [coronerref04_Check.l1] at H
           by_cases c18:x5_3 < x3_2
           ·rw [if_pos c18] at H
            have c18b0:decide (x5_3 < x3_2)=true:=decide_eq_true c18
            clear c18
            by_cases c19:0≤x5_3
            ·rw [if_pos c19] at H
             have c19b0:decide (0≤x5_3)=true:=decide_eq_true c19
             clear c19
             by_cases c20:x5_3 < (l0_0.length:Int)
             ·rw [if_pos c20] at H
              have c20b0:decide (x5_3 < (l0_0.length:Int))=true:=decide_eq_true c20
              clear c20
              by_cases c21:((rd_T42 l0_0 x5_3).f0)=((rd_T42 l0_0 x3_2).f0)
              ·rw [if_pos c21] at H
               have c21b0:(((rd_T42 l0_0 x5_3).f0) == ((rd_T42 l0_0 x3_2).f0))=true:=beq_iff_eq.mpr c21
               have c21b1:(((rd_T42 l0_0 x5_3).f0) != ((rd_T42 l0_0 x3_2).f0))=false:=bne_eq_false_iff_eq.mpr c21
               clear c21
               obtain rfl:=Option.some.inj H
               try go_wp2
               have n0_:=Aside0.mk (blk_drew BK183.out)
               have n1_:=Aside0.mk (blk_drew BK187.out)
               have n2_:=Aside0.mk (below_drew1 HB.out)
               clear BK183
               clear BK187
               clear HB
               have BK183:=n0_
               have BK187:=n1_
               have HB:=n2_
               clear n0_ n1_ n2_
               have p189:0≤(x5_3:Int):=of_decide_eq_true (by first|(with_reducible assumption)|assumption)
               have q189:x5_3 < (l0_0.length:Int):=of_decide_eq_true (by first|(with_reducible assumption)|assumption)
               obtain ⟨ad189,A189_2,c189_2,e189,hx189_0,hx189_1,hx189_2,hl189_2,hi189_2⟩:=at_T42 HR0_0.out x5_3 p189 q189
               have hw189_2:=hx189_2
               have hw189_1:=hx189_1
               have hw189_0:=hx189_0
               obtain rfl:ad186=ad189:=(by injection e189)
               replace hx189_0:=(HB.out.cell (World.block_lt_of_cell? w _ hx189_0)).trans hx189_0
               replace hx189_1:=(HB.out.cell (World.block_lt_of_cell? w _ hx189_1)).trans hx189_1
               replace hx189_2:=(HB.out.cell (World.block_lt_of_cell? w _ hx189_2)).trans hx189_2
               have HR189_2:=Aside0.mk hi189_2
               have HC189_2:=Aside0.mk hl189_2
               clear hi189_2 hl189_2
               replace p189:=eq_true p189
               replace q189:=eq_true q189
               refine start_ (n:=9) (S:=fun w'=>w'.cell? ⟨gb183,0,none⟩=some (.slice (some ad186) l0_0.length c0_0)∧w'.cell? ⟨gb187,0,none⟩=some (.int .i64 ((rd_T42 l0_0 x3_2).f0))∧w'.cell? ⟨gb187,1,none⟩=some (.bool ((rd_T42 l0_0 x3_2).f1))∧w'.cell? ⟨gb187,2,none⟩=some (.slice A186_2 ((rd_T42 l0_0 x3_2).f2).length c186_2)∧w'.cell? (ad186.add ((x5_3).toNat * 3))=some (.int .i64 ((rd_T42 l0_0 x5_3).f0))∧w'.cell? ⟨(ad186.add ((x5_3).toNat * 3)).block,(ad186.add ((x5_3).toNat * 3)).off+1,none⟩=some (.bool ((rd_T42 l0_0 x5_3).f1))∧w'.cell? ⟨(ad186.add ((x5_3).toNat * 3)).block,(ad186.add ((x5_3).toNat * 3)).off+2,none⟩=some (.slice A189_2 ((rd_T42 l0_0 x5_3).f2).length c189_2)) (ds:=[]) #[false,false,false,false,false,false,false,false,false] (by kernel_rfl) rfl rfl ⟨(blk_cell BK183.out 0).trans rfl,(blk_cell BK187.out 0).trans rfl,(blk_cell BK187.out 1).trans rfl,(blk_cell BK187.out 2).trans rfl,((HB.out.cell (World.block_lt_of_cell? w _ hw189_0)).trans hw189_0),((HB.out.cell (World.block_lt_of_cell? w _ hw189_1)).trans hw189_1),((HB.out.cell (World.block_lt_of_cell? w _ hw189_2)).trans hw189_2)⟩ (fun hHeld=>?_);refine with_tabW coronerref04_Check.tab12 coronerref04_Check.bits12 (fun HT_ HW_=>?_)
               generalize wr.drew=w22 at BK183 BK187 HB HR189_2 hx189_0 hx189_1 hx189_2 hHeld ⊢
               refine pure_ (i:=0) (N:=some 37) (v:=?_) (a':=?_) #[true,false,false,false,false,false,false,false,false] rfl rfl (any_of HT_.out (by kernel_rfl)) (fun _ _ _ h=>h) (Or.inl ⟨by rfl,?_⟩) ?_ ?_
               rotate_left
               ·intro w'
                go_simp
                with_reducible rfl
               rotate_left
               ·simp only [Act.put,List.setIfInBounds_toArray,List.set_cons_zero,List.set_cons_succ,i64_w,i32_w]
                rfl
               refine pure_ (i:=2) (N:=some 39) (v:=?_) (a':=?_) #[true,false,true,false,false,false,false,false,false] rfl rfl (any_of HT_.out (by kernel_rfl)) (fun _ _ _ h=>h) (Or.inl ⟨by rfl,?_⟩) ?_ ?_
               rotate_left
               ·intro w'
                go_simp
                with_reducible rfl
               rotate_left
               ·simp only [Act.put,List.setIfInBounds_toArray,List.set_cons_zero,List.set_cons_succ,i64_w,i32_w]
                rfl
               refine pure_ (i:=6) (N:=some 43) (v:=?_) (a':=?_) #[true,false,true,false,false,false,true,false,false] rfl rfl (any_of HT_.out (by kernel_rfl)) (fun _ _ _ h=>h) (Or.inl ⟨by rfl,?_⟩) ?_ ?_
               rotate_left
               ·intro w'
                go_simp
                with_reducible rfl
               rotate_left
               ·simp only [Act.put,List.setIfInBounds_toArray,List.set_cons_zero,List.set_cons_succ,i64_w,i32_w]
                rfl
               refine take_ (i:=1) (N:=some 38) (v:=?_) (a':=?_) #[true,true,true,false,false,false,true,false,false] rfl rfl (take_ofW HT_.out HW_.out (by kernel_rfl)) (fun _ _ _ h=>h) (Or.inl ⟨by rfl,?_⟩) hHeld ?_ ?_
               rotate_left
               ·rintro w' ⟨s0,s1,s2,s3,s4,s5,s6⟩
                go_simp
                with_reducible rfl
               rotate_left
               ·simp only [Act.put,List.setIfInBounds_toArray,List.set_cons_zero,List.set_cons_succ,i64_w,i32_w]
                rfl
               refine pure_ (i:=3) (N:=some 40) (v:=?_) (a':=?_) #[true,true,true,true,false,false,true,false,false] rfl rfl (any_of HT_.out (by kernel_rfl)) (fun _ _ _ h=>h) (Or.inl ⟨by rfl,?_⟩) ?_ ?_
               rotate_left
               ·intro w'
                go_simp
                with_reducible rfl
               rotate_left
               ·simp only [Act.put,List.setIfInBounds_toArray,List.set_cons_zero,List.set_cons_succ,i64_w,i32_w]
                rfl
               refine pure_ (i:=4) (N:=some 41) (v:=?_) (a':=?_) #[true,true,true,true,true,false,true,false,false] rfl rfl (any_of HT_.out (by kernel_rfl)) (fun _ _ _ h=>h) (Or.inl ⟨by rfl,?_⟩) ?_ ?_
               rotate_left
               ·intro w'
                go_simp
                with_reducible rfl
               rotate_left
               ·simp only [Act.put,List.setIfInBounds_toArray,List.set_cons_zero,List.set_cons_succ,i64_w,i32_w]
                rfl
               refine take_ (i:=5) (N:=some 42) (v:=?_) (a':=?_) #[true,true,true,true,true,true,true,false,false] rfl rfl (take_ofW HT_.out HW_.out (by kernel_rfl)) (fun _ _ _ h=>h) (Or.inl ⟨by rfl,?_⟩) hHeld ?_ ?_
               rotate_left
               ·rintro w' ⟨s0,s1,s2,s3,s4,s5,s6⟩
                go_simp
                with_reducible rfl
               rotate_left
               ·simp only [Act.put,List.setIfInBounds_toArray,List.set_cons_zero,List.set_cons_succ,i64_w,i32_w]
                rfl
               refine take_ (i:=7) (N:=some 44) (v:=?_) (a':=?_) #[true,true,true,true,true,true,true,true,false] rfl rfl (take_ofW HT_.out HW_.out (by kernel_rfl)) (fun _ _ _ h=>h) (Or.inl ⟨by rfl,?_⟩) hHeld ?_ ?_
               rotate_left
               ·rintro w' ⟨s0,s1,s2,s3,s4,s5,s6⟩
                go_simp
                with_reducible rfl
               rotate_left
               ·simp only [Act.put,List.setIfInBounds_toArray,List.set_cons_zero,List.set_cons_succ,i64_w,i32_w]
                rfl
               refine pure_ (i:=8) (N:=some 45) (v:=?_) (a':=?_) #[true,true,true,true,true,true,true,true,true] rfl rfl (any_of HT_.out (by kernel_rfl)) (fun _ _ _ h=>h) (Or.inl ⟨by rfl,?_⟩) ?_ ?_
               rotate_left
               ·intro w'
                go_simp
                with_reducible rfl
               rotate_left
               ·simp only [Act.put,List.setIfInBounds_toArray,List.set_cons_zero,List.set_cons_succ,i64_w,i32_w]
                rfl
               refine done_ (done_of HT_.out (by kernel_rfl)) ?_
               try go_wp2
               go_ret
               exact ⟨by first|rfl|(simp [errW_none,errW_some] <;> rfl)|(simp [*,errW_none,errW_some] <;> rfl),by repeat (first|(with_reducible first|exact HB.out|apply below_alloc|apply pw_below_drewN|apply below_drew1|refine below_set ?_ GE183.out|refine below_set ?_ GE187.out)|exact HB.out)⟩
              ·rw [if_neg c21] at H
               have c21b0:(((rd_T42 l0_0 x5_3).f0) == ((rd_T42 l0_0 x3_2).f0))=false:=beq_eq_false_iff_ne.mpr c21
               have c21b1:(((rd_T42 l0_0 x5_3).f0) != ((rd_T42 l0_0 x3_2).f0))=true:=bne_iff_ne.mpr c21
               have H':=Aside0.mk H
               clear H
               try go_wp2
               have n0_:=Aside0.mk (blk_drew BK183.out)
               have n1_:=Aside0.mk (blk_drew BK187.out)
               have n2_:=Aside0.mk (below_drew1 HB.out)
               clear BK183
               clear BK187
               clear HB
               have BK183:=n0_
               have BK187:=n1_
               have HB:=n2_
               clear n0_ n1_ n2_
               have p189:0≤(x5_3:Int):=of_decide_eq_true (by first|(with_reducible assumption)|assumption)
               have q189:x5_3 < (l0_0.length:Int):=of_decide_eq_true (by first|(with_reducible assumption)|assumption)
               obtain ⟨ad189,A189_2,c189_2,e189,hx189_0,hx189_1,hx189_2,hl189_2,hi189_2⟩:=at_T42 HR0_0.out x5_3 p189 q189
               have hw189_2:=hx189_2
               have hw189_1:=hx189_1
               have hw189_0:=hx189_0
               obtain rfl:ad186=ad189:=(by injection e189)
               replace hx189_0:=(HB.out.cell (World.block_lt_of_cell? w _ hx189_0)).trans hx189_0
               replace hx189_1:=(HB.out.cell (World.block_lt_of_cell? w _ hx189_1)).trans hx189_1
               replace hx189_2:=(HB.out.cell (World.block_lt_of_cell? w _ hx189_2)).trans hx189_2
               have HR189_2:=Aside0.mk hi189_2
               have HC189_2:=Aside0.mk hl189_2
               clear hi189_2 hl189_2
               replace p189:=eq_true p189
               replace q189:=eq_true q189
               refine start_ (n:=9) (S:=fun w'=>w'.cell? ⟨gb183,0,none⟩=some (.slice (some ad186) l0_0.length c0_0)∧w'.cell? ⟨gb187,0,none⟩=some (.int .i64 ((rd_T42 l0_0 x3_2).f0))∧w'.cell? ⟨gb187,1,none⟩=some (.bool ((rd_T42 l0_0 x3_2).f1))∧w'.cell? ⟨gb187,2,none⟩=some (.slice A186_2 ((rd_T42 l0_0 x3_2).f2).length c186_2)∧w'.cell? (ad186.add ((x5_3).toNat * 3))=some (.int .i64 ((rd_T42 l0_0 x5_3).f0))∧w'.cell? ⟨(ad186.add ((x5_3).toNat * 3)).block,(ad186.add ((x5_3).toNat * 3)).off+1,none⟩=some (.bool ((rd_T42 l0_0 x5_3).f1))∧w'.cell? ⟨(ad186.add ((x5_3).toNat * 3)).block,(ad186.add ((x5_3).toNat * 3)).off+2,none⟩=some (.slice A189_2 ((rd_T42 l0_0 x5_3).f2).length c189_2)) (ds:=[]) #[false,false,false,false,false,false,false,false,false] (by kernel_rfl) rfl rfl ⟨(blk_cell BK183.out 0).trans rfl,(blk_cell BK187.out 0).trans rfl,(blk_cell BK187.out 1).trans rfl,(blk_cell BK187.out 2).trans rfl,((HB.out.cell (World.block_lt_of_cell? w _ hw189_0)).trans hw189_0),((HB.out.cell (World.block_lt_of_cell? w _ hw189_1)).trans hw189_1),((HB.out.cell (World.block_lt_of_cell? w _ hw189_2)).trans hw189_2)⟩ (fun hHeld=>?_);refine with_tabW coronerref04_Check.tab12 coronerref04_Check.bits12 (fun HT_ HW_=>?_)
               generalize wr.drew=w23 at BK183 BK187 HB HR189_2 hx189_0 hx189_1 hx189_2 hHeld ⊢
               refine pure_ (i:=0) (N:=some 37) (v:=?_) (a':=?_) #[true,false,false,false,false,false,false,false,false] rfl rfl (any_of HT_.out (by kernel_rfl)) (fun _ _ _ h=>h) (Or.inl ⟨by rfl,?_⟩) ?_ ?_
               rotate_left
               ·intro w'
                go_simp
                with_reducible rfl
               rotate_left
               ·simp only [Act.put,List.setIfInBounds_toArray,List.set_cons_zero,List.set_cons_succ,i64_w,i32_w]
                rfl
               refine pure_ (i:=2) (N:=some 39) (v:=?_) (a':=?_) #[true,false,true,false,false,false,false,false,false] rfl rfl (any_of HT_.out (by kernel_rfl)) (fun _ _ _ h=>h) (Or.inl ⟨by rfl,?_⟩) ?_ ?_
               rotate_left
               ·intro w'
                go_simp
                with_reducible rfl
               rotate_left
               ·simp only [Act.put,List.setIfInBounds_toArray,List.set_cons_zero,List.set_cons_succ,i64_w,i32_w]
                rfl
               refine pure_ (i:=6) (N:=some 43) (v:=?_) (a':=?_) #[true,false,true,false,false,false,true,false,false] rfl rfl (any_of HT_.out (by kernel_rfl)) (fun _ _ _ h=>h) (Or.inl ⟨by rfl,?_⟩) ?_ ?_
               rotate_left
               ·intro w'
                go_simp
                with_reducible rfl
               rotate_left
               ·simp only [Act.put,List.setIfInBounds_toArray,List.set_cons_zero,List.set_cons_succ,i64_w,i32_w]
                rfl
               refine take_ (i:=1) (N:=some 38) (v:=?_) (a':=?_) #[true,true,true,false,false,false,true,false,false] rfl rfl (take_ofW HT_.out HW_.out (by kernel_rfl)) (fun _ _ _ h=>h) (Or.inl ⟨by rfl,?_⟩) hHeld ?_ ?_
               rotate_left
               ·rintro w' ⟨s0,s1,s2,s3,s4,s5,s6⟩
                go_simp
                with_reducible rfl
               rotate_left
               ·simp only [Act.put,List.setIfInBounds_toArray,List.set_cons_zero,List.set_cons_succ,i64_w,i32_w]
                rfl
               refine pure_ (i:=3) (N:=some 40) (v:=?_) (a':=?_) #[true,true,true,true,false,false,true,false,false] rfl rfl (any_of HT_.out (by kernel_rfl)) (fun _ _ _ h=>h) (Or.inl ⟨by rfl,?_⟩) ?_ ?_
               rotate_left
               ·intro w'
                go_simp
                with_reducible rfl
               rotate_left
               ·simp only [Act.put,List.setIfInBounds_toArray,List.set_cons_zero,List.set_cons_succ,i64_w,i32_w]
                rfl
               refine pure_ (i:=4) (N:=some 41) (v:=?_) (a':=?_) #[true,true,true,true,true,false,true,false,false] rfl rfl (any_of HT_.out (by kernel_rfl)) (fun _ _ _ h=>h) (Or.inl ⟨by rfl,?_⟩) ?_ ?_
               rotate_left
               ·intro w'
                go_simp
                with_reducible rfl
               rotate_left
               ·simp only [Act.put,List.setIfInBounds_toArray,List.set_cons_zero,List.set_cons_succ,i64_w,i32_w]
                rfl
               refine take_ (i:=5) (N:=some 42) (v:=?_) (a':=?_) #[true,true,true,true,true,true,true,false,false] rfl rfl (take_ofW HT_.out HW_.out (by kernel_rfl)) (fun _ _ _ h=>h) (Or.inl ⟨by rfl,?_⟩) hHeld ?_ ?_
               rotate_left
               ·rintro w' ⟨s0,s1,s2,s3,s4,s5,s6⟩
                go_simp
                with_reducible rfl
               rotate_left
               ·simp only [Act.put,List.setIfInBounds_toArray,List.set_cons_zero,List.set_cons_succ,i64_w,i32_w]
                rfl
               refine take_ (i:=7) (N:=some 44) (v:=?_) (a':=?_) #[true,true,true,true,true,true,true,true,false] rfl rfl (take_ofW HT_.out HW_.out (by kernel_rfl)) (fun _ _ _ h=>h) (Or.inl ⟨by rfl,?_⟩) hHeld ?_ ?_
               rotate_left
               ·rintro w' ⟨s0,s1,s2,s3,s4,s5,s6⟩
                go_simp
                with_reducible rfl
               rotate_left
               ·simp only [Act.put,List.setIfInBounds_toArray,List.set_cons_zero,List.set_cons_succ,i64_w,i32_w]
                rfl
               refine pure_ (i:=8) (N:=some 45) (v:=?_) (a':=?_) #[true,true,true,true,true,true,true,true,true] rfl rfl (any_of HT_.out (by kernel_rfl)) (fun _ _ _ h=>h) (Or.inl ⟨by rfl,?_⟩) ?_ ?_
               rotate_left
               ·intro w'
                go_simp
                with_reducible rfl
               rotate_left
               ·simp only [Act.put,List.setIfInBounds_toArray,List.set_cons_zero,List.set_cons_succ,i64_w,i32_w]
                rfl
               refine done_ (done_of HT_.out (by kernel_rfl)) ?_
               try go_wp2
               go_roundg k3
               case measure=>have:=HJ1.out;have:=HK2.out;have:=HK3.out;omega
               case rel=>exact ⟨(wrap64 (x5_3+1)),(by first|rfl|(simp;done)|(simp [*];done)),H',⟨by have:=HJ1.out;have:=HK2.out;have:=HK3.out;omega⟩,⟨by (with_reducible repeat (first|refine blk_drewN ?_ _|refine blk_drew ?_|refine blk_alloc ?_ _));exact BK183.out⟩,⟨by (with_reducible repeat (first|refine blk_drewN ?_ _|refine blk_drew ?_|refine blk_alloc ?_ _));exact BK187.out⟩,⟨by repeat (first|(with_reducible first|exact HB.out|apply below_alloc|apply pw_below_drewN|apply below_drew1|refine below_set ?_ GE183.out|refine below_set ?_ GE187.out)|exact HB.out)⟩⟩
             ·rw [if_neg c20] at H
              exact absurd H (by simp)
            ·rw [if_neg c19] at H
             exact absurd H (by simp)
           ·rw [if_neg c18] at H
            have c18b0:decide (x5_3 < x3_2)=false:=decide_eq_false c18
            clear c18
            have H':=Aside0.mk H
            clear H
            go_wp2
            go_loopg [6] k3 (fun kq v6 w'=>∃ (x6_4:Int),v6=.int .i64 x6_4∧Aside0 (coronerref04_Check.l2 kq x3_2 x6_4 l0_0 ((rd_T42 l0_0 x3_2).f0) ((rd_T42 l0_0 x3_2).f1) ((rd_T42 l0_0 x3_2).f2)=some r)∧Aside0 (kq≤k3)∧Aside0 (w'.heap[gb183]?=some (.cells #[(.slice (some ad186) l0_0.length c0_0)] 24 (0,0)))∧Aside0 (w'.heap[gb187]?=some (.cells #[.int .i64 ((rd_T42 l0_0 x3_2).f0),.bool ((rd_T42 l0_0 x3_2).f1),(.slice A186_2 ((rd_T42 l0_0 x3_2).f2).length c186_2)] 42 (0,0)))∧Aside0 (Below w.heap.size w w'))
            case atStart=>exact ⟨(0),(by first|rfl|(simp;done)|(simp [*];done)),H',⟨Nat.le_refl _⟩,⟨by (with_reducible repeat (first|refine blk_drewN ?_ _|refine blk_drew ?_|refine blk_alloc ?_ _));exact BK183.out⟩,⟨by (with_reducible repeat (first|refine blk_drewN ?_ _|refine blk_drew ?_|refine blk_alloc ?_ _));exact BK187.out⟩,⟨by repeat (first|(with_reducible first|exact HB.out|apply below_alloc|apply pw_below_drewN|apply below_drew1|refine below_set ?_ GE183.out|refine below_set ?_ GE187.out)|exact HB.out)⟩⟩
            case round =>
             clear H'
             try clear c1
             try clear p1
             try clear q1
             try clear hx1
             try clear c2
             try clear p2
             try clear c4
             try clear c4b0
             try clear c4b1
             try clear p6
             try clear c9
             try clear c10
             try clear c10b0
             try clear c11
             try clear c11b0
             try clear c13
             try clear c16
             try clear c18
             try clear c18b0
             try clear p18
             try clear q18
             try clear hx18
             try clear c19
             try clear c19b0
             try clear c20
             try clear c20b0
             try clear c21
             try clear c21b0
             try clear c21b1
             try clear hcz14_0
             try clear hcz17_0
             try clear hcz17_1
             try clear hcz17_2
             try clear hcz5_0
             try clear hcz7_0
             try clear hfz14_0
             try clear hfz17_0
             try clear hfz17_1
             try clear hfz17_2
             try clear hfz5_0
             try clear hfz7_0
             try clear hx186_0
             try clear hx186_1
             try clear hx186_2
             try clear hx189_0
             try clear hx189_1
             try clear hx189_2
             try clear p1
             try clear p186
             try clear p189
             try clear p2
             try clear q1
             try clear q186
             try clear q189
             obtain ⟨x6_4,rfl,HA,HK4,BK183,BK187,HB⟩:=hrel
             cases gk with
             | zero=>exact absurd HA.out (by simp [coronerref04_Check.l2])
             | succ k4 =>
              have H:=HA.out
              clear HA
              simp only [coronerref04_Check.l2] at H
              by_cases c24:x6_4 < (((rd_T42 l0_0 x3_2).f2).length:Int)
              ·rw [if_pos c24] at H
               have c24b0:decide (x6_4 < (((rd_T42 l0_0 x3_2).f2).length:Int))=true:=decide_eq_true c24
               clear c24
               by_cases c25:0≤x6_4
               ·rw [if_pos c25] at H
                have c25b0:decide (0≤x6_4)=true:=decide_eq_true c25
                clear c25
                replace H:=Option.bind_eq_some_iff.mp H
                obtain ⟨t191,A260,H⟩:=H
                replace H:(if t191=true then (if ((rd_T39 ((rd_T42 l0_0 x3_2).f2) x6_4).f0=true) then (coronerref04_Check.l2 k4 x3_2 (wrap64 (x6_4+1)) l0_0 ((rd_T42 l0_0 x3_2).f0) ((rd_T42 l0_0 x3_2).f1) ((rd_T42 l0_0 x3_2).f2)) else ((coronerref04_earlier.f l0_0 x3_2 x6_4).bind fun t193=>((coronerref03_Appended.f k4 t193 ((rd_T39 ((rd_T42 l0_0 x3_2).f2) x6_4).f1) ((rd_T39 ((rd_T42 l0_0 x3_2).f2) x6_4).f2)).bind fun t198=>(if t198=true then (some 6) else (coronerref04_Check.l2 k4 x3_2 (wrap64 (x6_4+1)) l0_0 ((rd_T42 l0_0 x3_2).f0) ((rd_T42 l0_0 x3_2).f1) ((rd_T42 l0_0 x3_2).f2)))))) else (some 2))=some r:=H
                have A26:=Aside0.mk A260
                clear A260
                by_cases c27:t191=true
                ·subst c27
                 have H1:(if ((rd_T39 ((rd_T42 l0_0 x3_2).f2) x6_4).f0=true) then (coronerref04_Check.l2 k4 x3_2 (wrap64 (x6_4+1)) l0_0 ((rd_T42 l0_0 x3_2).f0) ((rd_T42 l0_0 x3_2).f1) ((rd_T42 l0_0 x3_2).f2)) else ((coronerref04_earlier.f l0_0 x3_2 x6_4).bind fun t193=>((coronerref03_Appended.f k4 t193 ((rd_T39 ((rd_T42 l0_0 x3_2).f2) x6_4).f1) ((rd_T39 ((rd_T42 l0_0 x3_2).f2) x6_4).f2)).bind fun t198=>(if t198=true then (some 6) else (coronerref04_Check.l2 k4 x3_2 (wrap64 (x6_4+1)) l0_0 ((rd_T42 l0_0 x3_2).f0) ((rd_T42 l0_0 x3_2).f1) ((rd_T42 l0_0 x3_2).f2))))))=some r:=by rw [if_pos rfl] at H;exact H
                 clear H
                 have H:=H1
                 clear H1
                 obtain ⟨bq28,hbq28⟩:∃ b_:Bool,b_=((rd_T39 ((rd_T42 l0_0 x3_2).f2) x6_4).f0):=⟨_,rfl⟩
                 replace H:(if (bq28=true) then (coronerref04_Check.l2 k4 x3_2 (wrap64 (x6_4+1)) l0_0 ((rd_T42 l0_0 x3_2).f0) ((rd_T42 l0_0 x3_2).f1) ((rd_T42 l0_0 x3_2).f2)) else ((coronerref04_earlier.f l0_0 x3_2 x6_4).bind fun t193=>((coronerref03_Appended.f k4 t193 ((rd_T39 ((rd_T42 l0_0 x3_2).f2) x6_4).f1) ((rd_T39 ((rd_T42 l0_0 x3_2).f2) x6_4).f2)).bind fun t198=>(if t198=true then (some 6) else (coronerref04_Check.l2 k4 x3_2 (wrap64 (x6_4+1)) l0_0 ((rd_T42 l0_0 x3_2).f0) ((rd_T42 l0_0 x3_2).f1) ((rd_T42 l0_0 x3_2).f2))))))=some r:=by rw [← hbq28] at H;exact H
                 have Nbq28:=Aside0.mk hbq28
                 (try rw [← Nbq28.out] at A26)
                 clear hbq28
                 by_cases c29:(bq28=true)
                 ·subst c29
                  have H1:(coronerref04_Check.l2 k4 x3_2 (wrap64 (x6_4+1)) l0_0 ((rd_T42 l0_0 x3_2).f0) ((rd_T42 l0_0 x3_2).f1) ((rd_T42 l0_0 x3_2).f2))=some r:=by rw [if_pos rfl] at H;exact H
                  clear H
                  have H:=H1
                  clear H1
                  have H':=Aside0.mk H
                  clear H
                  have hnb30:=NB187_183.out
                  have hnc30:=NB183_187.out
                  have hcz31_0:wr.cell? ⟨gb187,0,none⟩=some (.int .i64 ((rd_T42 l0_0 x3_2).f0)):=(blk_cell BK187.out 0).trans rfl
                  have hcz31_1:wr.cell? ⟨gb187,1,none⟩=some (.bool ((rd_T42 l0_0 x3_2).f1)):=(blk_cell BK187.out 1).trans rfl
                  have hcz31_2:wr.cell? ⟨gb187,2,none⟩=some (.slice A186_2 ((rd_T42 l0_0 x3_2).f2).length c186_2):=(blk_cell BK187.out 2).trans rfl
                  have hfz31_0:=blk_frozen BK187.out 0
                  have hfz31_1:=blk_frozen BK187.out 1
                  have hfz31_2:=blk_frozen BK187.out 2
                  have p190:0≤(x6_4:Int):=of_decide_eq_true (by first|(with_reducible assumption)|assumption)
                  have q190:x6_4 < (((rd_T42 l0_0 x3_2).f2).length:Int):=of_decide_eq_true (by first|(with_reducible assumption)|assumption)
                  obtain ⟨ad190,A190_3,c190_3,e190,hx190_0,hx190_1,hx190_2,hx190_3,hl190_3,hi190_3⟩:=at_T39 HR186_2.out x6_4 p190 q190
                  (try rw [← Nbq28.out] at hx190_0)
                  cases e190
                  replace hx190_0:=(HB.out.cell (World.block_lt_of_cell? w _ hx190_0)).trans hx190_0
                  replace hx190_1:=(HB.out.cell (World.block_lt_of_cell? w _ hx190_1)).trans hx190_1
                  replace hx190_2:=(HB.out.cell (World.block_lt_of_cell? w _ hx190_2)).trans hx190_2
                  replace hx190_3:=(HB.out.cell (World.block_lt_of_cell? w _ hx190_3)).trans hx190_3
                  have HR190_3:=Aside0.mk hi190_3
                  have HC190_3:=Aside0.mk hl190_3
                  clear hi190_3 hl190_3
                  replace p190:=eq_true p190
                  replace q190:=eq_true q190
                  try go_wp2_with (first|((with_reducible refine gate_callee (f:=29) rfl ?_);refine goesL_ (some 58) rfl rfl Try.func29 (by kernel_rfl) rfl #[.agg #[.bool true,.int .i64 ((rd_T39 ((rd_T42 l0_0 x3_2).f2) x6_4).f1),.int .i64 ((rd_T39 ((rd_T42 l0_0 x3_2).f2) x6_4).f2),.slice A190_3 ((rd_T39 ((rd_T42 l0_0 x3_2).f2) x6_4).f3).length c190_3]] rfl (by (try simp only [List.map_toArray,List.map_cons,List.map_nil]);first|done|rfl|(simp only [List.length_drop,List.length_take];rfl)) ?_;(with_reducible refine (coronerref04_mayOp.calls k4 true ((rd_T39 ((rd_T42 l0_0 x3_2).f2) x6_4).f1) ((rd_T39 ((rd_T42 l0_0 x3_2).f2) x6_4).f2) _ _ ((rd_T39 ((rd_T42 l0_0 x3_2).f2) x6_4).f3) true _ ?side1 ?side2 A26.out).mono ?_);(case side1=>repeat (first|exact (Kd.C_below HR190_3.out HB.out)|(with_reducible refine Kd.C_alloc ?_ _)|(with_reducible refine Kd.C_drewN ?_ _)|(with_reducible refine Kd.C_drew ?_)));(case side2=>exact HC190_3.out);rintro e w32 ⟨rfl,hb⟩;refine ⟨_,rfl,?_⟩;have n0_:=Aside0.mk (blk_below (g:=gb183) (o:=.cells #[.slice (some ad186) l0_0.length c0_0] 24 (0,0)) (by (with_reducible repeat (first|refine blk_drewN ?_ _|refine blk_drew ?_|refine blk_alloc ?_ _));exact BK183.out) hb);have n1_:=Aside0.mk (blk_below (g:=gb187) (o:=.cells #[.int .i64 ((rd_T42 l0_0 x3_2).f0),.bool ((rd_T42 l0_0 x3_2).f1),.slice (some ad190) ((rd_T42 l0_0 x3_2).f2).length c186_2] 42 (0,0)) (by (with_reducible repeat (first|refine blk_drewN ?_ _|refine blk_drew ?_|refine blk_alloc ?_ _));exact BK187.out) hb);have n2_:=Aside0.mk (below_step (by repeat (first|(with_reducible first|exact HB.out|apply below_alloc|apply pw_below_drewN|apply below_drew1|refine below_set ?_ GE183.out|refine below_set ?_ GE187.out)|exact HB.out)) hb);clear BK183;clear BK187;clear HB;have BK183:=n0_;have BK187:=n1_;have HB:=n2_;clear n0_ n1_ n2_;(try clear hb);(try clear hb2);(try clear hk);(try clear hi)))
                  have n0_:=Aside0.mk (blk_drew BK183.out)
                  have n1_:=Aside0.mk (blk_drew BK187.out)
                  have n2_:=Aside0.mk (below_drew1 HB.out)
                  clear BK183
                  clear BK187
                  clear HB
                  have BK183:=n0_
                  have BK187:=n1_
                  have HB:=n2_
                  clear n0_ n1_ n2_
                  have p192:0≤(x6_4:Int):=of_decide_eq_true (by first|(with_reducible assumption)|assumption)
                  have q192:x6_4 < (((rd_T42 l0_0 x3_2).f2).length:Int):=of_decide_eq_true (by first|(with_reducible assumption)|assumption)
                  obtain ⟨ad192,A192_3,c192_3,e192,hx192_0,hx192_1,hx192_2,hx192_3,hl192_3,hi192_3⟩:=at_T39 HR186_2.out x6_4 p192 q192
                  have hw192_3:=hx192_3
                  (try rw [← Nbq28.out] at hw192_3)
                  have hw192_2:=hx192_2
                  (try rw [← Nbq28.out] at hw192_2)
                  have hw192_1:=hx192_1
                  (try rw [← Nbq28.out] at hw192_1)
                  have hw192_0:=hx192_0
                  (try rw [← Nbq28.out] at hw192_0)
                  (try rw [← Nbq28.out] at hx192_0)
                  obtain rfl:ad190=ad192:=(by injection e192)
                  replace hx192_0:=(HB.out.cell (World.block_lt_of_cell? w _ hx192_0)).trans hx192_0
                  replace hx192_1:=(HB.out.cell (World.block_lt_of_cell? w _ hx192_1)).trans hx192_1
                  replace hx192_2:=(HB.out.cell (World.block_lt_of_cell? w _ hx192_2)).trans hx192_2
                  replace hx192_3:=(HB.out.cell (World.block_lt_of_cell? w _ hx192_3)).trans hx192_3
                  have HR192_3:=Aside0.mk hi192_3
                  have HC192_3:=Aside0.mk hl192_3
                  clear hi192_3 hl192_3
                  replace p192:=eq_true p192
                  replace q192:=eq_true q192
                  refine start_ (n:=26) (S:=fun w'=>w'.cell? ⟨gb187,0,none⟩=some (.int .i64 ((rd_T42 l0_0 x3_2).f0))∧w'.cell? ⟨gb187,1,none⟩=some (.bool ((rd_T42 l0_0 x3_2).f1))∧w'.cell? ⟨gb187,2,none⟩=some (.slice (some ad190) ((rd_T42 l0_0 x3_2).f2).length c186_2)∧w'.cell? (ad190.add ((x6_4).toNat * 4))=some (.bool true)∧w'.cell? ⟨(ad190.add ((x6_4).toNat * 4)).block,(ad190.add ((x6_4).toNat * 4)).off+1,none⟩=some (.int .i64 ((rd_T39 ((rd_T42 l0_0 x3_2).f2) x6_4).f1))∧w'.cell? ⟨(ad190.add ((x6_4).toNat * 4)).block,(ad190.add ((x6_4).toNat * 4)).off+2,none⟩=some (.int .i64 ((rd_T39 ((rd_T42 l0_0 x3_2).f2) x6_4).f2))∧w'.cell? ⟨(ad190.add ((x6_4).toNat * 4)).block,(ad190.add ((x6_4).toNat * 4)).off+3,none⟩=some (.slice A192_3 ((rd_T39 ((rd_T42 l0_0 x3_2).f2) x6_4).f3).length c192_3)) (ds:=[]) #[false,false,false,false,false,false,false,false,false,false,false,false,false,false,false,false,false,false,false,false,false,false,false,false,false,false] (by kernel_rfl) rfl rfl ⟨(blk_cell BK187.out 0).trans rfl,(blk_cell BK187.out 1).trans rfl,(blk_cell BK187.out 2).trans rfl,((HB.out.cell (World.block_lt_of_cell? w _ hw192_0)).trans hw192_0),((HB.out.cell (World.block_lt_of_cell? w _ hw192_1)).trans hw192_1),((HB.out.cell (World.block_lt_of_cell? w _ hw192_2)).trans hw192_2),((HB.out.cell (World.block_lt_of_cell? w _ hw192_3)).trans hw192_3)⟩ (fun hHeld=>?_);refine with_tabW coronerref04_Check.tab19 coronerref04_Check.bits19 (fun HT_ HW_=>?_)
                  generalize w32.drew=w33 at BK183 BK187 HB HR192_3 hx192_0 hx192_1 hx192_2 hx192_3 hHeld ⊢
                  refine pure_ (i:=0) (N:=some 60) (v:=?_) (a':=?_) #[true,false,false,false,false,false,false,false,false,false,false,false,false,false,false,false,false,false,false,false,false,false,false,false,false,false] rfl rfl (any_of HT_.out (by kernel_rfl)) (fun _ _ _ h=>h) (Or.inl ⟨by rfl,?_⟩) ?_ ?_
                  rotate_left
                  ·intro w'
                   go_simp
                   with_reducible rfl
                  rotate_left
                  ·simp only [Act.put,List.setIfInBounds_toArray,List.set_cons_zero,List.set_cons_succ,i64_w,i32_w]
                   rfl
                  refine pure_ (i:=2) (N:=some 62) (v:=?_) (a':=?_) #[true,false,true,false,false,false,false,false,false,false,false,false,false,false,false,false,false,false,false,false,false,false,false,false,false,false] rfl rfl (any_of HT_.out (by kernel_rfl)) (fun _ _ _ h=>h) (Or.inl ⟨by rfl,?_⟩) ?_ ?_
                  rotate_left
                  ·intro w'
                   go_simp
                   with_reducible rfl
                  rotate_left
                  ·simp only [Act.put,List.setIfInBounds_toArray,List.set_cons_zero,List.set_cons_succ,i64_w,i32_w]
                   rfl
                  refine take_ (i:=1) (N:=some 61) (v:=?_) (a':=?_) #[true,true,true,false,false,false,false,false,false,false,false,false,false,false,false,false,false,false,false,false,false,false,false,false,false,false] rfl rfl (take_ofW HT_.out HW_.out (by kernel_rfl)) (fun _ _ _ h=>h) (Or.inl ⟨by rfl,?_⟩) hHeld ?_ ?_
                  rotate_left
                  ·rintro w' ⟨s0,s1,s2,s3,s4,s5,s6⟩
                   go_simp
                   with_reducible rfl
                  rotate_left
                  ·simp only [Act.put,List.setIfInBounds_toArray,List.set_cons_zero,List.set_cons_succ,i64_w,i32_w]
                   rfl
                  refine pure_ (i:=3) (N:=some 63) (v:=?_) (a':=?_) #[true,true,true,true,false,false,false,false,false,false,false,false,false,false,false,false,false,false,false,false,false,false,false,false,false,false] rfl rfl (any_of HT_.out (by kernel_rfl)) (fun _ _ _ h=>h) (Or.inl ⟨by rfl,?_⟩) ?_ ?_
                  rotate_left
                  ·intro w'
                   go_simp
                   with_reducible rfl
                  rotate_left
                  ·simp only [Act.put,List.setIfInBounds_toArray,List.set_cons_zero,List.set_cons_succ,i64_w,i32_w]
                   rfl
                  refine pure_ (i:=4) (N:=some 64) (v:=?_) (a':=?_) #[true,true,true,true,true,false,false,false,false,false,false,false,false,false,false,false,false,false,false,false,false,false,false,false,false,false] rfl rfl (any_of HT_.out (by kernel_rfl)) (fun _ _ _ h=>h) (Or.inl ⟨by rfl,?_⟩) ?_ ?_
                  rotate_left
                  ·intro w'
                   go_simp
                   with_reducible rfl
                  rotate_left
                  ·simp only [Act.put,List.setIfInBounds_toArray,List.set_cons_zero,List.set_cons_succ,i64_w,i32_w]
                   rfl
                  refine take_ (i:=5) (N:=some 65) (v:=?_) (a':=?_) #[true,true,true,true,true,true,false,false,false,false,false,false,false,false,false,false,false,false,false,false,false,false,false,false,false,false] rfl rfl (take_ofW HT_.out HW_.out (by kernel_rfl)) (fun _ _ _ h=>h) (Or.inl ⟨by rfl,?_⟩) hHeld ?_ ?_
                  rotate_left
                  ·rintro w' ⟨s0,s1,s2,s3,s4,s5,s6⟩
                   go_simp
                   with_reducible rfl
                  rotate_left
                  ·simp only [Act.put,List.setIfInBounds_toArray,List.set_cons_zero,List.set_cons_succ,i64_w,i32_w]
                   rfl
                  refine pure_ (i:=6) (N:=some 66) (v:=?_) (a':=?_) #[true,true,true,true,true,true,true,false,false,false,false,false,false,false,false,false,false,false,false,false,false,false,false,false,false,false] rfl rfl (any_of HT_.out (by kernel_rfl)) (fun _ _ _ h=>h) (Or.inl ⟨by rfl,?_⟩) ?_ ?_
                  rotate_left
                  ·intro w'
                   go_simp
                   with_reducible rfl
                  rotate_left
                  ·simp only [Act.put,List.setIfInBounds_toArray,List.set_cons_zero,List.set_cons_succ,i64_w,i32_w]
                   rfl
                  refine pure_ (i:=7) (N:=some 67) (v:=?_) (a':=?_) #[true,true,true,true,true,true,true,true,false,false,false,false,false,false,false,false,false,false,false,false,false,false,false,false,false,false] rfl rfl (any_of HT_.out (by kernel_rfl)) (fun _ _ _ h=>h) (Or.inl ⟨by rfl,?_⟩) ?_ ?_
                  rotate_left
                  ·intro w'
                   go_simp
                   with_reducible rfl
                  rotate_left
                  ·simp only [Act.put,List.setIfInBounds_toArray,List.set_cons_zero,List.set_cons_succ,i64_w,i32_w]
                   rfl
                  refine pure_ (i:=8) (N:=some 68) (v:=undef) (a':=?_) #[true,true,true,true,true,true,true,true,true,false,false,false,false,false,false,false,false,false,false,false,false,false,false,false,false,false] rfl rfl (any_of HT_.out (by kernel_rfl)) (fun _ _ _ h=>h) (Or.inr ⟨by rfl,rfl⟩) ?_ ?_
                  rotate_left
                  ·simp only [Act.put,List.setIfInBounds_toArray,List.set_cons_zero,List.set_cons_succ,i64_w,i32_w]
                   rfl
                  refine pure_ (i:=9) (N:=some 69) (v:=undef) (a':=?_) #[true,true,true,true,true,true,true,true,true,true,false,false,false,false,false,false,false,false,false,false,false,false,false,false,false,false] rfl rfl (any_of HT_.out (by kernel_rfl)) (fun _ _ _ h=>h) (Or.inr ⟨by rfl,rfl⟩) ?_ ?_
                  rotate_left
                  ·simp only [Act.put,List.setIfInBounds_toArray,List.set_cons_zero,List.set_cons_succ,i64_w,i32_w]
                   rfl
                  refine pure_ (i:=10) (N:=some 70) (v:=undef) (a':=?_) #[true,true,true,true,true,true,true,true,true,true,true,false,false,false,false,false,false,false,false,false,false,false,false,false,false,false] rfl rfl (any_of HT_.out (by kernel_rfl)) (fun _ _ _ h=>h) (Or.inr ⟨by rfl,rfl⟩) ?_ ?_
                  rotate_left
                  ·simp only [Act.put,List.setIfInBounds_toArray,List.set_cons_zero,List.set_cons_succ,i64_w,i32_w]
                   rfl
                  refine pure_ (i:=11) (N:=some 71) (v:=undef) (a':=?_) #[true,true,true,true,true,true,true,true,true,true,true,true,false,false,false,false,false,false,false,false,false,false,false,false,false,false] rfl rfl (any_of HT_.out (by kernel_rfl)) (fun _ _ _ h=>h) (Or.inr ⟨by rfl,rfl⟩) ?_ ?_
                  rotate_left
                  ·simp only [Act.put,List.setIfInBounds_toArray,List.set_cons_zero,List.set_cons_succ,i64_w,i32_w]
                   rfl
                  refine pure_ (i:=12) (N:=some 72) (v:=undef) (a':=?_) #[true,true,true,true,true,true,true,true,true,true,true,true,true,false,false,false,false,false,false,false,false,false,false,false,false,false] rfl rfl (any_of HT_.out (by kernel_rfl)) (fun _ _ _ h=>h) (Or.inr ⟨by rfl,rfl⟩) ?_ ?_
                  rotate_left
                  ·simp only [Act.put,List.setIfInBounds_toArray,List.set_cons_zero,List.set_cons_succ,i64_w,i32_w]
                   rfl
                  refine pure_ (i:=13) (N:=some 73) (v:=undef) (a':=?_) #[true,true,true,true,true,true,true,true,true,true,true,true,true,true,false,false,false,false,false,false,false,false,false,false,false,false] rfl rfl (any_of HT_.out (by kernel_rfl)) (fun _ _ _ h=>h) (Or.inr ⟨by rfl,rfl⟩) ?_ ?_
                  rotate_left
                  ·simp only [Act.put,List.setIfInBounds_toArray,List.set_cons_zero,List.set_cons_succ,i64_w,i32_w]
                   rfl
                  refine pure_ (i:=14) (N:=some 74) (v:=undef) (a':=?_) #[true,true,true,true,true,true,true,true,true,true,true,true,true,true,true,false,false,false,false,false,false,false,false,false,false,false] rfl rfl (any_of HT_.out (by kernel_rfl)) (fun _ _ _ h=>h) (Or.inr ⟨by rfl,rfl⟩) ?_ ?_
                  rotate_left
                  ·simp only [Act.put,List.setIfInBounds_toArray,List.set_cons_zero,List.set_cons_succ,i64_w,i32_w]
                   rfl
                  refine pure_ (i:=15) (N:=some 75) (v:=undef) (a':=?_) #[true,true,true,true,true,true,true,true,true,true,true,true,true,true,true,true,false,false,false,false,false,false,false,false,false,false] rfl rfl (any_of HT_.out (by kernel_rfl)) (fun _ _ _ h=>h) (Or.inr ⟨by rfl,rfl⟩) ?_ ?_
                  rotate_left
                  ·simp only [Act.put,List.setIfInBounds_toArray,List.set_cons_zero,List.set_cons_succ,i64_w,i32_w]
                   rfl
                  refine pure_ (i:=16) (N:=some 76) (v:=undef) (a':=?_) #[true,true,true,true,true,true,true,true,true,true,true,true,true,true,true,true,true,false,false,false,false,false,false,false,false,false] rfl rfl (any_of HT_.out (by kernel_rfl)) (fun _ _ _ h=>h) (Or.inr ⟨by rfl,rfl⟩) ?_ ?_
                  rotate_left
                  ·simp only [Act.put,List.setIfInBounds_toArray,List.set_cons_zero,List.set_cons_succ,i64_w,i32_w]
                   rfl
                  refine pure_ (i:=17) (N:=some 77) (v:=undef) (a':=?_) #[true,true,true,true,true,true,true,true,true,true,true,true,true,true,true,true,true,true,false,false,false,false,false,false,false,false] rfl rfl (any_of HT_.out (by kernel_rfl)) (fun _ _ _ h=>h) (Or.inr ⟨by rfl,rfl⟩) ?_ ?_
                  rotate_left
                  ·simp only [Act.put,List.setIfInBounds_toArray,List.set_cons_zero,List.set_cons_succ,i64_w,i32_w]
                   rfl
                  refine pure_ (i:=18) (N:=some 78) (v:=undef) (a':=?_) #[true,true,true,true,true,true,true,true,true,true,true,true,true,true,true,true,true,true,true,false,false,false,false,false,false,false] rfl rfl (any_of HT_.out (by kernel_rfl)) (fun _ _ _ h=>h) (Or.inr ⟨by rfl,rfl⟩) ?_ ?_
                  rotate_left
                  ·simp only [Act.put,List.setIfInBounds_toArray,List.set_cons_zero,List.set_cons_succ,i64_w,i32_w]
                   rfl
                  refine pure_ (i:=19) (N:=some 79) (v:=undef) (a':=?_) #[true,true,true,true,true,true,true,true,true,true,true,true,true,true,true,true,true,true,true,true,false,false,false,false,false,false] rfl rfl (any_of HT_.out (by kernel_rfl)) (fun _ _ _ h=>h) (Or.inr ⟨by rfl,rfl⟩) ?_ ?_
                  rotate_left
                  ·simp only [Act.put,List.setIfInBounds_toArray,List.set_cons_zero,List.set_cons_succ,i64_w,i32_w]
                   rfl
                  refine pure_ (i:=20) (N:=some 80) (v:=undef) (a':=?_) #[true,true,true,true,true,true,true,true,true,true,true,true,true,true,true,true,true,true,true,true,true,false,false,false,false,false] rfl rfl (any_of HT_.out (by kernel_rfl)) (fun _ _ _ h=>h) (Or.inr ⟨by rfl,rfl⟩) ?_ ?_
                  rotate_left
                  ·simp only [Act.put,List.setIfInBounds_toArray,List.set_cons_zero,List.set_cons_succ,i64_w,i32_w]
                   rfl
                  refine pure_ (i:=21) (N:=some 81) (v:=undef) (a':=?_) #[true,true,true,true,true,true,true,true,true,true,true,true,true,true,true,true,true,true,true,true,true,true,false,false,false,false] rfl rfl (any_of HT_.out (by kernel_rfl)) (fun _ _ _ h=>h) (Or.inr ⟨by rfl,rfl⟩) ?_ ?_
                  rotate_left
                  ·simp only [Act.put,List.setIfInBounds_toArray,List.set_cons_zero,List.set_cons_succ,i64_w,i32_w]
                   rfl
                  refine pure_ (i:=22) (N:=some 82) (v:=undef) (a':=?_) #[true,true,true,true,true,true,true,true,true,true,true,true,true,true,true,true,true,true,true,true,true,true,true,false,false,false] rfl rfl (any_of HT_.out (by kernel_rfl)) (fun _ _ _ h=>h) (Or.inr ⟨by rfl,rfl⟩) ?_ ?_
                  rotate_left
                  ·simp only [Act.put,List.setIfInBounds_toArray,List.set_cons_zero,List.set_cons_succ,i64_w,i32_w]
                   rfl
                  refine pure_ (i:=23) (N:=some 83) (v:=undef) (a':=?_) #[true,true,true,true,true,true,true,true,true,true,true,true,true,true,true,true,true,true,true,true,true,true,true,true,false,false] rfl rfl (any_of HT_.out (by kernel_rfl)) (fun _ _ _ h=>h) (Or.inr ⟨by rfl,rfl⟩) ?_ ?_
                  rotate_left
                  ·simp only [Act.put,List.setIfInBounds_toArray,List.set_cons_zero,List.set_cons_succ,i64_w,i32_w]
                   rfl
                  refine pure_ (i:=24) (N:=some 84) (v:=undef) (a':=?_) #[true,true,true,true,true,true,true,true,true,true,true,true,true,true,true,true,true,true,true,true,true,true,true,true,true,false] rfl rfl (any_of HT_.out (by kernel_rfl)) (fun _ _ _ h=>h) (Or.inr ⟨by rfl,rfl⟩) ?_ ?_
                  rotate_left
                  ·simp only [Act.put,List.setIfInBounds_toArray,List.set_cons_zero,List.set_cons_succ,i64_w,i32_w]
                   rfl
                  refine pure_ (i:=25) (N:=some 85) (v:=?_) (a':=?_) #[true,true,true,true,true,true,true,true,true,true,true,true,true,true,true,true,true,true,true,true,true,true,true,true,true,true] rfl rfl (any_of HT_.out (by kernel_rfl)) (fun _ _ _ h=>h) (Or.inl ⟨by rfl,?_⟩) ?_ ?_
                  rotate_left
                  ·intro w'
                   go_simp
                   with_reducible rfl
                  rotate_left
                  ·simp only [Act.put,List.setIfInBounds_toArray,List.set_cons_zero,List.set_cons_succ,i64_w,i32_w]
                   rfl
                  refine done_ (done_of HT_.out (by kernel_rfl)) ?_
                  try go_wp2
                  go_roundg k4
                  case measure=>have:=HJ1.out;have:=HK2.out;have:=HK3.out;have:=HK4.out;omega
                  case rel=>exact ⟨(wrap64 (x6_4+1)),(by first|rfl|(simp;done)|(simp [*];done)),H',⟨by have:=HJ1.out;have:=HK2.out;have:=HK3.out;have:=HK4.out;omega⟩,⟨by (with_reducible repeat (first|refine blk_drewN ?_ _|refine blk_drew ?_|refine blk_alloc ?_ _));exact BK183.out⟩,⟨by (with_reducible repeat (first|refine blk_drewN ?_ _|refine blk_drew ?_|refine blk_alloc ?_ _));exact BK187.out⟩,⟨by repeat (first|(with_reducible first|exact HB.out|apply below_alloc|apply pw_below_drewN|apply below_drew1|refine below_set ?_ GE183.out|refine below_set ?_ GE187.out)|exact HB.out)⟩⟩
                 ·replace c29:=Bool.eq_false_iff.mpr c29
                  subst c29
                  have H1:((coronerref04_earlier.f l0_0 x3_2 x6_4).bind fun t193=>((coronerref03_Appended.f k4 t193 ((rd_T39 ((rd_T42 l0_0 x3_2).f2) x6_4).f1) ((rd_T39 ((rd_T42 l0_0 x3_2).f2) x6_4).f2)).bind fun t198=>(if t198=true then (some 6) else (coronerref04_Check.l2 k4 x3_2 (wrap64 (x6_4+1)) l0_0 ((rd_T42 l0_0 x3_2).f0) ((rd_T42 l0_0 x3_2).f1) ((rd_T42 l0_0 x3_2).f2)))))=some r:=by rw [if_neg (show ¬ (false=true) by decide)] at H;exact H
                  clear H
                  have H:=H1
                  clear H1
                  replace H:=Option.bind_eq_some_iff.mp H
                  obtain ⟨t193,A340,H⟩:=H
                  replace H:((coronerref03_Appended.f k4 t193 ((rd_T39 ((rd_T42 l0_0 x3_2).f2) x6_4).f1) ((rd_T39 ((rd_T42 l0_0 x3_2).f2) x6_4).f2)).bind fun t198=>(if t198=true then (some 6) else (coronerref04_Check.l2 k4 x3_2 (wrap64 (x6_4+1)) l0_0 ((rd_T42 l0_0 x3_2).f0) ((rd_T42 l0_0 x3_2).f1) ((rd_T42 l0_0 x3_2).f2))))=some r:=H
                  have A34:=Aside0.mk A340
                  clear A340
                  replace H:=Option.bind_eq_some_iff.mp H
                  obtain ⟨t198,A350,H⟩:=H
                  replace H:(if t198=true then (some 6) else (coronerref04_Check.l2 k4 x3_2 (wrap64 (x6_4+1)) l0_0 ((rd_T42 l0_0 x3_2).f0) ((rd_T42 l0_0 x3_2).f1) ((rd_T42 l0_0 x3_2).f2)))=some r:=H
                  have A35:=Aside0.mk A350
                  clear A350
                  by_cases c36:t198=true
                  ·subst c36
                   have H1:(some 6)=some r:=by rw [if_pos rfl] at H;exact H
                   clear H
                   have H:=H1
                   clear H1
                   obtain rfl:=Option.some.inj H
                   have hnb37:=NB187_183.out
                   have hnc37:=NB183_187.out
                   have hcz38_0:wr.cell? ⟨gb187,0,none⟩=some (.int .i64 ((rd_T42 l0_0 x3_2).f0)):=(blk_cell BK187.out 0).trans rfl
                   have hcz38_1:wr.cell? ⟨gb187,1,none⟩=some (.bool ((rd_T42 l0_0 x3_2).f1)):=(blk_cell BK187.out 1).trans rfl
                   have hcz38_2:wr.cell? ⟨gb187,2,none⟩=some (.slice A186_2 ((rd_T42 l0_0 x3_2).f2).length c186_2):=(blk_cell BK187.out 2).trans rfl
                   have hfz38_0:=blk_frozen BK187.out 0
                   have hfz38_1:=blk_frozen BK187.out 1
                   have hfz38_2:=blk_frozen BK187.out 2
                   have p190:0≤(x6_4:Int):=of_decide_eq_true (by first|(with_reducible assumption)|assumption)
                   have q190:x6_4 < (((rd_T42 l0_0 x3_2).f2).length:Int):=of_decide_eq_true (by first|(with_reducible assumption)|assumption)
                   obtain ⟨ad190,A190_3,c190_3,e190,hx190_0,hx190_1,hx190_2,hx190_3,hl190_3,hi190_3⟩:=at_T39 HR186_2.out x6_4 p190 q190
                   (try rw [← Nbq28.out] at hx190_0)
                   cases e190
                   replace hx190_0:=(HB.out.cell (World.block_lt_of_cell? w _ hx190_0)).trans hx190_0
                   replace hx190_1:=(HB.out.cell (World.block_lt_of_cell? w _ hx190_1)).trans hx190_1
                   replace hx190_2:=(HB.out.cell (World.block_lt_of_cell? w _ hx190_2)).trans hx190_2
                   replace hx190_3:=(HB.out.cell (World.block_lt_of_cell? w _ hx190_3)).trans hx190_3
                   have HR190_3:=Aside0.mk hi190_3
                   have HC190_3:=Aside0.mk hl190_3
                   clear hi190_3 hl190_3
                   replace p190:=eq_true p190
                   replace q190:=eq_true q190
                   try go_wp2_with (first|((with_reducible refine gate_callee (f:=29) rfl ?_);refine goesL_ (some 58) rfl rfl Try.func29 (by kernel_rfl) rfl #[.agg #[.bool false,.int .i64 ((rd_T39 ((rd_T42 l0_0 x3_2).f2) x6_4).f1),.int .i64 ((rd_T39 ((rd_T42 l0_0 x3_2).f2) x6_4).f2),.slice A190_3 ((rd_T39 ((rd_T42 l0_0 x3_2).f2) x6_4).f3).length c190_3]] rfl (by (try simp only [List.map_toArray,List.map_cons,List.map_nil]);first|done|rfl|(simp only [List.length_drop,List.length_take];rfl)) ?_;(with_reducible refine (coronerref04_mayOp.calls k4 false ((rd_T39 ((rd_T42 l0_0 x3_2).f2) x6_4).f1) ((rd_T39 ((rd_T42 l0_0 x3_2).f2) x6_4).f2) _ _ ((rd_T39 ((rd_T42 l0_0 x3_2).f2) x6_4).f3) true _ ?side1 ?side2 A26.out).mono ?_);(case side1=>repeat (first|exact (Kd.C_below HR190_3.out HB.out)|(with_reducible refine Kd.C_alloc ?_ _)|(with_reducible refine Kd.C_drewN ?_ _)|(with_reducible refine Kd.C_drew ?_)));(case side2=>exact HC190_3.out);rintro e w39 ⟨rfl,hb⟩;refine ⟨_,rfl,?_⟩;have n0_:=Aside0.mk (blk_below (g:=gb183) (o:=.cells #[.slice (some ad186) l0_0.length c0_0] 24 (0,0)) (by (with_reducible repeat (first|refine blk_drewN ?_ _|refine blk_drew ?_|refine blk_alloc ?_ _));exact BK183.out) hb);have n1_:=Aside0.mk (blk_below (g:=gb187) (o:=.cells #[.int .i64 ((rd_T42 l0_0 x3_2).f0),.bool ((rd_T42 l0_0 x3_2).f1),.slice (some ad190) ((rd_T42 l0_0 x3_2).f2).length c186_2] 42 (0,0)) (by (with_reducible repeat (first|refine blk_drewN ?_ _|refine blk_drew ?_|refine blk_alloc ?_ _));exact BK187.out) hb);have n2_:=Aside0.mk (below_step (by repeat (first|(with_reducible first|exact HB.out|apply below_alloc|apply pw_below_drewN|apply below_drew1|refine below_set ?_ GE183.out|refine below_set ?_ GE187.out)|exact HB.out)) hb);clear BK183;clear BK187;clear HB;have BK183:=n0_;have BK187:=n1_;have HB:=n2_;clear n0_ n1_ n2_;(try clear hb);(try clear hb2);(try clear hk);(try clear hi)))
                   have n0_:=Aside0.mk (blk_drew BK183.out)
                   have n1_:=Aside0.mk (blk_drew BK187.out)
                   have n2_:=Aside0.mk (below_drew1 HB.out)
                   clear BK183
                   clear BK187
                   clear HB
                   have BK183:=n0_
                   have BK187:=n1_
                   have HB:=n2_
                   clear n0_ n1_ n2_
                   have p192:0≤(x6_4:Int):=of_decide_eq_true (by first|(with_reducible assumption)|assumption)
                   have q192:x6_4 < (((rd_T42 l0_0 x3_2).f2).length:Int):=of_decide_eq_true (by first|(with_reducible assumption)|assumption)
                   obtain ⟨ad192,A192_3,c192_3,e192,hx192_0,hx192_1,hx192_2,hx192_3,hl192_3,hi192_3⟩:=at_T39 HR186_2.out x6_4 p192 q192
                   have hw192_3:=hx192_3
                   (try rw [← Nbq28.out] at hw192_3)
                   have hw192_2:=hx192_2
                   (try rw [← Nbq28.out] at hw192_2)
                   have hw192_1:=hx192_1
                   (try rw [← Nbq28.out] at hw192_1)
                   have hw192_0:=hx192_0
                   (try rw [← Nbq28.out] at hw192_0)
                   (try rw [← Nbq28.out] at hx192_0)
                   obtain rfl:ad190=ad192:=(by injection e192)
                   replace hx192_0:=(HB.out.cell (World.block_lt_of_cell? w _ hx192_0)).trans hx192_0
                   replace hx192_1:=(HB.out.cell (World.block_lt_of_cell? w _ hx192_1)).trans hx192_1
                   replace hx192_2:=(HB.out.cell (World.block_lt_of_cell? w _ hx192_2)).trans hx192_2
                   replace hx192_3:=(HB.out.cell (World.block_lt_of_cell? w _ hx192_3)).trans hx192_3
                   have HR192_3:=Aside0.mk hi192_3
                   have HC192_3:=Aside0.mk hl192_3
                   clear hi192_3 hl192_3
                   replace p192:=eq_true p192
                   replace q192:=eq_true q192
                   have p196:0≤(x6_4:Int):=of_decide_eq_true (by first|(with_reducible assumption)|assumption)
                   have q196:x6_4 < (((rd_T42 l0_0 x3_2).f2).length:Int):=of_decide_eq_true (by first|(with_reducible assumption)|assumption)
                   obtain ⟨ad196,A196_3,c196_3,e196,hx196_0,hx196_1,hx196_2,hx196_3,hl196_3,hi196_3⟩:=at_T39 HR186_2.out x6_4 p196 q196
                   have hw196_3:=hx196_3
                   (try rw [← Nbq28.out] at hw196_3)
                   have hw196_2:=hx196_2
                   (try rw [← Nbq28.out] at hw196_2)
                   have hw196_1:=hx196_1
                   (try rw [← Nbq28.out] at hw196_1)
                   have hw196_0:=hx196_0
                   (try rw [← Nbq28.out] at hw196_0)
                   (try rw [← Nbq28.out] at hx196_0)
                   obtain rfl:ad190=ad196:=(by injection e196)
                   replace hx196_0:=(HB.out.cell (World.block_lt_of_cell? w _ hx196_0)).trans hx196_0
                   replace hx196_1:=(HB.out.cell (World.block_lt_of_cell? w _ hx196_1)).trans hx196_1
                   replace hx196_2:=(HB.out.cell (World.block_lt_of_cell? w _ hx196_2)).trans hx196_2
                   replace hx196_3:=(HB.out.cell (World.block_lt_of_cell? w _ hx196_3)).trans hx196_3
                   have HR196_3:=Aside0.mk hi196_3
                   have HC196_3:=Aside0.mk hl196_3
                   clear hi196_3 hl196_3
                   replace p196:=eq_true p196
                   replace q196:=eq_true q196
                   have ea_:=Option.some.inj (hx192_3.symm.trans hx196_3)
                   injection ea_ with ea_ en_ ec_
                   subst ea_
                   subst ec_
                   clear en_
                   have p197:0≤(x6_4:Int):=of_decide_eq_true (by first|(with_reducible assumption)|assumption)
                   have q197:x6_4 < (((rd_T42 l0_0 x3_2).f2).length:Int):=of_decide_eq_true (by first|(with_reducible assumption)|assumption)
                   obtain ⟨ad197,A197_3,c197_3,e197,hx197_0,hx197_1,hx197_2,hx197_3,hl197_3,hi197_3⟩:=at_T39 HR186_2.out x6_4 p197 q197
                   have hw197_3:=hx197_3
                   (try rw [← Nbq28.out] at hw197_3)
                   have hw197_2:=hx197_2
                   (try rw [← Nbq28.out] at hw197_2)
                   have hw197_1:=hx197_1
                   (try rw [← Nbq28.out] at hw197_1)
                   have hw197_0:=hx197_0
                   (try rw [← Nbq28.out] at hw197_0)
                   (try rw [← Nbq28.out] at hx197_0)
                   obtain rfl:ad190=ad197:=(by injection e197)
                   replace hx197_0:=(HB.out.cell (World.block_lt_of_cell? w _ hx197_0)).trans hx197_0
                   replace hx197_1:=(HB.out.cell (World.block_lt_of_cell? w _ hx197_1)).trans hx197_1
                   replace hx197_2:=(HB.out.cell (World.block_lt_of_cell? w _ hx197_2)).trans hx197_2
                   replace hx197_3:=(HB.out.cell (World.block_lt_of_cell? w _ hx197_3)).trans hx197_3
                   have HR197_3:=Aside0.mk hi197_3
                   have HC197_3:=Aside0.mk hl197_3
                   clear hi197_3 hl197_3
                   replace p197:=eq_true p197
                   replace q197:=eq_true q197
                   have ea_:=Option.some.inj (hx192_3.symm.trans hx197_3)
                   injection ea_ with ea_ en_ ec_
                   subst ea_
                   subst ec_
                   clear en_
                   refine start_ (n:=26) (S:=fun w'=>w'.cell? ⟨gb187,0,none⟩=some (.int .i64 ((rd_T42 l0_0 x3_2).f0))∧w'.cell? ⟨gb187,1,none⟩=some (.bool ((rd_T42 l0_0 x3_2).f1))∧w'.cell? ⟨gb187,2,none⟩=some (.slice (some ad190) ((rd_T42 l0_0 x3_2).f2).length c186_2)∧w'.cell? ⟨gb183,0,none⟩=some (.slice (some ad186) l0_0.length c0_0)∧w'.cell? (ad190.add ((x6_4).toNat * 4))=some (.bool false)∧w'.cell? ⟨(ad190.add ((x6_4).toNat * 4)).block,(ad190.add ((x6_4).toNat * 4)).off+1,none⟩=some (.int .i64 ((rd_T39 ((rd_T42 l0_0 x3_2).f2) x6_4).f1))∧w'.cell? ⟨(ad190.add ((x6_4).toNat * 4)).block,(ad190.add ((x6_4).toNat * 4)).off+2,none⟩=some (.int .i64 ((rd_T39 ((rd_T42 l0_0 x3_2).f2) x6_4).f2))∧w'.cell? ⟨(ad190.add ((x6_4).toNat * 4)).block,(ad190.add ((x6_4).toNat * 4)).off+3,none⟩=some (.slice A192_3 ((rd_T39 ((rd_T42 l0_0 x3_2).f2) x6_4).f3).length c192_3)∧w'.cell? (ad190.add ((x6_4).toNat * 4))=some (.bool (false))∧w'.cell? ⟨(ad190.add ((x6_4).toNat * 4)).block,(ad190.add ((x6_4).toNat * 4)).off+1,none⟩=some (.int .i64 ((rd_T39 ((rd_T42 l0_0 x3_2).f2) x6_4).f1))∧w'.cell? ⟨(ad190.add ((x6_4).toNat * 4)).block,(ad190.add ((x6_4).toNat * 4)).off+2,none⟩=some (.int .i64 ((rd_T39 ((rd_T42 l0_0 x3_2).f2) x6_4).f2))∧w'.cell? ⟨(ad190.add ((x6_4).toNat * 4)).block,(ad190.add ((x6_4).toNat * 4)).off+3,none⟩=some (.slice A192_3 ((rd_T39 ((rd_T42 l0_0 x3_2).f2) x6_4).f3).length c192_3)∧w'.cell? (ad190.add ((x6_4).toNat * 4))=some (.bool (false))∧w'.cell? ⟨(ad190.add ((x6_4).toNat * 4)).block,(ad190.add ((x6_4).toNat * 4)).off+1,none⟩=some (.int .i64 ((rd_T39 ((rd_T42 l0_0 x3_2).f2) x6_4).f1))∧w'.cell? ⟨(ad190.add ((x6_4).toNat * 4)).block,(ad190.add ((x6_4).toNat * 4)).off+2,none⟩=some (.int .i64 ((rd_T39 ((rd_T42 l0_0 x3_2).f2) x6_4).f2))∧w'.cell? ⟨(ad190.add ((x6_4).toNat * 4)).block,(ad190.add ((x6_4).toNat * 4)).off+3,none⟩=some (.slice A192_3 ((rd_T39 ((rd_T42 l0_0 x3_2).f2) x6_4).f3).length c192_3)) (ds:=[]) #[false,false,false,false,false,false,false,false,false,false,false,false,false,false,false,false,false,false,false,false,false,false,false,false,false,false] (by kernel_rfl) rfl rfl ⟨(blk_cell BK187.out 0).trans rfl,(blk_cell BK187.out 1).trans rfl,(blk_cell BK187.out 2).trans rfl,(blk_cell BK183.out 0).trans rfl,((HB.out.cell (World.block_lt_of_cell? w _ hw192_0)).trans hw192_0),((HB.out.cell (World.block_lt_of_cell? w _ hw192_1)).trans hw192_1),((HB.out.cell (World.block_lt_of_cell? w _ hw192_2)).trans hw192_2),((HB.out.cell (World.block_lt_of_cell? w _ hw192_3)).trans hw192_3),((HB.out.cell (World.block_lt_of_cell? w _ hw196_0)).trans hw196_0),((HB.out.cell (World.block_lt_of_cell? w _ hw196_1)).trans hw196_1),((HB.out.cell (World.block_lt_of_cell? w _ hw196_2)).trans hw196_2),((HB.out.cell (World.block_lt_of_cell? w _ hw196_3)).trans hw196_3),((HB.out.cell (World.block_lt_of_cell? w _ hw197_0)).trans hw197_0),((HB.out.cell (World.block_lt_of_cell? w _ hw197_1)).trans hw197_1),((HB.out.cell (World.block_lt_of_cell? w _ hw197_2)).trans hw197_2),((HB.out.cell (World.block_lt_of_cell? w _ hw197_3)).trans hw197_3)⟩ (fun hHeld=>?_);refine with_tabW coronerref04_Check.tab19 coronerref04_Check.bits19 (fun HT_ HW_=>?_)
                   generalize w39.drew=w40 at BK183 BK187 HB HR192_3 HR196_3 HR197_3 hx192_0 hx192_1 hx192_2 hx192_3 hx196_0 hx196_1 hx196_2 hx196_3 hx197_0 hx197_1 hx197_2 hx197_3 hHeld ⊢
                   refine pure_ (i:=0) (N:=some 60) (v:=?_) (a':=?_) #[true,false,false,false,false,false,false,false,false,false,false,false,false,false,false,false,false,false,false,false,false,false,false,false,false,false] rfl rfl (any_of HT_.out (by kernel_rfl)) (fun _ _ _ h=>h) (Or.inl ⟨by rfl,?_⟩) ?_ ?_
                   rotate_left
                   ·intro w'
                    go_simp
                    with_reducible rfl
                   rotate_left
                   ·simp only [Act.put,List.setIfInBounds_toArray,List.set_cons_zero,List.set_cons_succ,i64_w,i32_w]
                    rfl
                   refine pure_ (i:=2) (N:=some 62) (v:=?_) (a':=?_) #[true,false,true,false,false,false,false,false,false,false,false,false,false,false,false,false,false,false,false,false,false,false,false,false,false,false] rfl rfl (any_of HT_.out (by kernel_rfl)) (fun _ _ _ h=>h) (Or.inl ⟨by rfl,?_⟩) ?_ ?_
                   rotate_left
                   ·intro w'
                    go_simp
                    with_reducible rfl
                   rotate_left
                   ·simp only [Act.put,List.setIfInBounds_toArray,List.set_cons_zero,List.set_cons_succ,i64_w,i32_w]
                    rfl
                   refine take_ (i:=1) (N:=some 61) (v:=?_) (a':=?_) #[true,true,true,false,false,false,false,false,false,false,false,false,false,false,false,false,false,false,false,false,false,false,false,false,false,false] rfl rfl (take_ofW HT_.out HW_.out (by kernel_rfl)) (fun _ _ _ h=>h) (Or.inl ⟨by rfl,?_⟩) hHeld ?_ ?_
                   rotate_left
                   ·rintro w' ⟨s0,s1,s2,s3,s4,s5,s6,s7,s8,s9,s10,s11,s12,s13,s14,s15⟩
                    go_simp
                    with_reducible rfl
                   rotate_left
                   ·simp only [Act.put,List.setIfInBounds_toArray,List.set_cons_zero,List.set_cons_succ,i64_w,i32_w]
                    rfl
                   refine pure_ (i:=3) (N:=some 63) (v:=?_) (a':=?_) #[true,true,true,true,false,false,false,false,false,false,false,false,false,false,false,false,false,false,false,false,false,false,false,false,false,false] rfl rfl (any_of HT_.out (by kernel_rfl)) (fun _ _ _ h=>h) (Or.inl ⟨by rfl,?_⟩) ?_ ?_
                   rotate_left
                   ·intro w'
                    go_simp
                    with_reducible rfl
                   rotate_left
                   ·simp only [Act.put,List.setIfInBounds_toArray,List.set_cons_zero,List.set_cons_succ,i64_w,i32_w]
                    rfl
                   refine pure_ (i:=4) (N:=some 64) (v:=?_) (a':=?_) #[true,true,true,true,true,false,false,false,false,false,false,false,false,false,false,false,false,false,false,false,false,false,false,false,false,false] rfl rfl (any_of HT_.out (by kernel_rfl)) (fun _ _ _ h=>h) (Or.inl ⟨by rfl,?_⟩) ?_ ?_
                   rotate_left
                   ·intro w'
                    go_simp
                    with_reducible rfl
                   rotate_left
                   ·simp only [Act.put,List.setIfInBounds_toArray,List.set_cons_zero,List.set_cons_succ,i64_w,i32_w]
                    rfl
                   refine take_ (i:=5) (N:=some 65) (v:=?_) (a':=?_) #[true,true,true,true,true,true,false,false,false,false,false,false,false,false,false,false,false,false,false,false,false,false,false,false,false,false] rfl rfl (take_ofW HT_.out HW_.out (by kernel_rfl)) (fun _ _ _ h=>h) (Or.inl ⟨by rfl,?_⟩) hHeld ?_ ?_
                   rotate_left
                   ·rintro w' ⟨s0,s1,s2,s3,s4,s5,s6,s7,s8,s9,s10,s11,s12,s13,s14,s15⟩
                    go_simp
                    with_reducible rfl
                   rotate_left
                   ·simp only [Act.put,List.setIfInBounds_toArray,List.set_cons_zero,List.set_cons_succ,i64_w,i32_w]
                    rfl
                   refine pure_ (i:=6) (N:=some 66) (v:=?_) (a':=?_) #[true,true,true,true,true,true,true,false,false,false,false,false,false,false,false,false,false,false,false,false,false,false,false,false,false,false] rfl rfl (any_of HT_.out (by kernel_rfl)) (fun _ _ _ h=>h) (Or.inl ⟨by rfl,?_⟩) ?_ ?_
                   rotate_left
                   ·intro w'
                    go_simp
                    with_reducible rfl
                   rotate_left
                   ·simp only [Act.put,List.setIfInBounds_toArray,List.set_cons_zero,List.set_cons_succ,i64_w,i32_w]
                    rfl
                   refine pure_ (i:=7) (N:=some 67) (v:=?_) (a':=?_) #[true,true,true,true,true,true,true,true,false,false,false,false,false,false,false,false,false,false,false,false,false,false,false,false,false,false] rfl rfl (any_of HT_.out (by kernel_rfl)) (fun _ _ _ h=>h) (Or.inl ⟨by rfl,?_⟩) ?_ ?_
                   rotate_left
                   ·intro w'
                    go_simp
                    with_reducible rfl
                   rotate_left
                   ·simp only [Act.put,List.setIfInBounds_toArray,List.set_cons_zero,List.set_cons_succ,i64_w,i32_w]
                    rfl
                   refine pure_ (i:=9) (N:=some 69) (v:=?_) (a':=?_) #[true,true,true,true,true,true,true,true,false,true,false,false,false,false,false,false,false,false,false,false,false,false,false,false,false,false] rfl rfl (any_of HT_.out (by kernel_rfl)) (fun _ _ _ h=>h) (Or.inl ⟨by rfl,?_⟩) ?_ ?_
                   rotate_left
                   ·intro w'
                    go_simp
                    with_reducible rfl
                   rotate_left
                   ·simp only [Act.put,List.setIfInBounds_toArray,List.set_cons_zero,List.set_cons_succ,i64_w,i32_w]
                    rfl
                   refine pure_ (i:=10) (N:=some 70) (v:=?_) (a':=?_) #[true,true,true,true,true,true,true,true,false,true,true,false,false,false,false,false,false,false,false,false,false,false,false,false,false,false] rfl rfl (any_of HT_.out (by kernel_rfl)) (fun _ _ _ h=>h) (Or.inl ⟨by rfl,?_⟩) ?_ ?_
                   rotate_left
                   ·intro w'
                    go_simp
                    with_reducible rfl
                   rotate_left
                   ·simp only [Act.put,List.setIfInBounds_toArray,List.set_cons_zero,List.set_cons_succ,i64_w,i32_w]
                    rfl
                   refine pure_ (i:=12) (N:=some 72) (v:=?_) (a':=?_) #[true,true,true,true,true,true,true,true,false,true,true,false,true,false,false,false,false,false,false,false,false,false,false,false,false,false] rfl rfl (any_of HT_.out (by kernel_rfl)) (fun _ _ _ h=>h) (Or.inl ⟨by rfl,?_⟩) ?_ ?_
                   rotate_left
                   ·intro w'
                    go_simp
                    with_reducible rfl
                   rotate_left
                   ·simp only [Act.put,List.setIfInBounds_toArray,List.set_cons_zero,List.set_cons_succ,i64_w,i32_w]
                    rfl
                   refine pure_ (i:=14) (N:=some 74) (v:=?_) (a':=?_) #[true,true,true,true,true,true,true,true,false,true,true,false,true,false,true,false,false,false,false,false,false,false,false,false,false,false] rfl rfl (any_of HT_.out (by kernel_rfl)) (fun _ _ _ h=>h) (Or.inl ⟨by rfl,?_⟩) ?_ ?_
                   rotate_left
                   ·intro w'
                    go_simp
                    with_reducible rfl
                   rotate_left
                   ·simp only [Act.put,List.setIfInBounds_toArray,List.set_cons_zero,List.set_cons_succ,i64_w,i32_w]
                    rfl
                   refine pure_ (i:=18) (N:=some 78) (v:=?_) (a':=?_) #[true,true,true,true,true,true,true,true,false,true,true,false,true,false,true,false,false,false,true,false,false,false,false,false,false,false] rfl rfl (any_of HT_.out (by kernel_rfl)) (fun _ _ _ h=>h) (Or.inl ⟨by rfl,?_⟩) ?_ ?_
                   rotate_left
                   ·intro w'
                    go_simp
                    with_reducible rfl
                   rotate_left
                   ·simp only [Act.put,List.setIfInBounds_toArray,List.set_cons_zero,List.set_cons_succ,i64_w,i32_w]
                    rfl
                   refine pure_ (i:=20) (N:=some 80) (v:=?_) (a':=?_) #[true,true,true,true,true,true,true,true,false,true,true,false,true,false,true,false,false,false,true,false,true,false,false,false,false,false] rfl rfl (any_of HT_.out (by kernel_rfl)) (fun _ _ _ h=>h) (Or.inl ⟨by rfl,?_⟩) ?_ ?_
                   rotate_left
                   ·intro w'
                    go_simp
                    with_reducible rfl
                   rotate_left
                   ·simp only [Act.put,List.setIfInBounds_toArray,List.set_cons_zero,List.set_cons_succ,i64_w,i32_w]
                    rfl
                   refine take_ (i:=8) (N:=some 68) (v:=?_) (a':=?_) #[true,true,true,true,true,true,true,true,true,true,true,false,true,false,true,false,false,false,true,false,true,false,false,false,false,false] rfl rfl (take_ofW HT_.out HW_.out (by kernel_rfl)) (fun _ _ _ h=>h) (Or.inl ⟨by rfl,?_⟩) hHeld ?_ ?_
                   rotate_left
                   ·rintro w' ⟨s0,s1,s2,s3,s4,s5,s6,s7,s8,s9,s10,s11,s12,s13,s14,s15⟩
                    go_simp
                    with_reducible rfl
                   rotate_left
                   ·simp only [Act.put,List.setIfInBounds_toArray,List.set_cons_zero,List.set_cons_succ,i64_w,i32_w]
                    rfl
                   refine take_ (i:=13) (N:=some 73) (v:=?_) (a':=?_) #[true,true,true,true,true,true,true,true,true,true,true,false,true,true,true,false,false,false,true,false,true,false,false,false,false,false] rfl rfl (take_ofW HT_.out HW_.out (by kernel_rfl)) (fun _ _ _ h=>h) (Or.inl ⟨by rfl,?_⟩) hHeld ?_ ?_
                   rotate_left
                   ·rintro w' ⟨s0,s1,s2,s3,s4,s5,s6,s7,s8,s9,s10,s11,s12,s13,s14,s15⟩
                    go_simp
                    with_reducible rfl
                   rotate_left
                   ·simp only [Act.put,List.setIfInBounds_toArray,List.set_cons_zero,List.set_cons_succ,i64_w,i32_w]
                    rfl
                   refine pure_ (i:=15) (N:=some 75) (v:=?_) (a':=?_) #[true,true,true,true,true,true,true,true,true,true,true,false,true,true,true,true,false,false,true,false,true,false,false,false,false,false] rfl rfl (any_of HT_.out (by kernel_rfl)) (fun _ _ _ h=>h) (Or.inl ⟨by rfl,?_⟩) ?_ ?_
                   rotate_left
                   ·intro w'
                    go_simp
                    with_reducible rfl
                   rotate_left
                   ·simp only [Act.put,List.setIfInBounds_toArray,List.set_cons_zero,List.set_cons_succ,i64_w,i32_w]
                    rfl
                   refine pure_ (i:=16) (N:=some 76) (v:=?_) (a':=?_) #[true,true,true,true,true,true,true,true,true,true,true,false,true,true,true,true,true,false,true,false,true,false,false,false,false,false] rfl rfl (any_of HT_.out (by kernel_rfl)) (fun _ _ _ h=>h) (Or.inl ⟨by rfl,?_⟩) ?_ ?_
                   rotate_left
                   ·intro w'
                    go_simp
                    with_reducible rfl
                   rotate_left
                   ·simp only [Act.put,List.setIfInBounds_toArray,List.set_cons_zero,List.set_cons_succ,i64_w,i32_w]
                    rfl
                   refine take_ (i:=17) (N:=some 77) (v:=?_) (a':=?_) #[true,true,true,true,true,true,true,true,true,true,true,false,true,true,true,true,true,true,true,false,true,false,false,false,false,false] rfl rfl (take_ofW HT_.out HW_.out (by kernel_rfl)) (fun _ _ _ h=>h) (Or.inl ⟨by rfl,?_⟩) hHeld ?_ ?_
                   rotate_left
                   ·rintro w' ⟨s0,s1,s2,s3,s4,s5,s6,s7,s8,s9,s10,s11,s12,s13,s14,s15⟩
                    go_simp
                    with_reducible rfl
                   rotate_left
                   ·simp only [Act.put,List.setIfInBounds_toArray,List.set_cons_zero,List.set_cons_succ,i64_w,i32_w]
                    rfl
                   refine take_ (i:=19) (N:=some 79) (v:=?_) (a':=?_) #[true,true,true,true,true,true,true,true,true,true,true,false,true,true,true,true,true,true,true,true,true,false,false,false,false,false] rfl rfl (take_ofW HT_.out HW_.out (by kernel_rfl)) (fun _ _ _ h=>h) (Or.inl ⟨by rfl,?_⟩) hHeld ?_ ?_
                   rotate_left
                   ·rintro w' ⟨s0,s1,s2,s3,s4,s5,s6,s7,s8,s9,s10,s11,s12,s13,s14,s15⟩
                    go_simp
                    with_reducible rfl
                   rotate_left
                   ·simp only [Act.put,List.setIfInBounds_toArray,List.set_cons_zero,List.set_cons_succ,i64_w,i32_w]
                    rfl
                   refine pure_ (i:=21) (N:=some 81) (v:=?_) (a':=?_) #[true,true,true,true,true,true,true,true,true,true,true,false,true,true,true,true,true,true,true,true,true,true,false,false,false,false] rfl rfl (any_of HT_.out (by kernel_rfl)) (fun _ _ _ h=>h) (Or.inl ⟨by rfl,?_⟩) ?_ ?_
                   rotate_left
                   ·intro w'
                    go_simp
                    with_reducible rfl
                   rotate_left
                   ·simp only [Act.put,List.setIfInBounds_toArray,List.set_cons_zero,List.set_cons_succ,i64_w,i32_w]
                    rfl
                   refine pure_ (i:=22) (N:=some 82) (v:=?_) (a':=?_) #[true,true,true,true,true,true,true,true,true,true,true,false,true,true,true,true,true,true,true,true,true,true,true,false,false,false] rfl rfl (any_of HT_.out (by kernel_rfl)) (fun _ _ _ h=>h) (Or.inl ⟨by rfl,?_⟩) ?_ ?_
                   rotate_left
                   ·intro w'
                    go_simp
                    with_reducible rfl
                   rotate_left
                   ·simp only [Act.put,List.setIfInBounds_toArray,List.set_cons_zero,List.set_cons_succ,i64_w,i32_w]
                    rfl
                   refine take_ (i:=23) (N:=some 83) (v:=?_) (a':=?_) #[true,true,true,true,true,true,true,true,true,true,true,false,true,true,true,true,true,true,true,true,true,true,true,true,false,false] rfl rfl (take_ofW HT_.out HW_.out (by kernel_rfl)) (fun _ _ _ h=>h) (Or.inl ⟨by rfl,?_⟩) hHeld ?_ ?_
                   rotate_left
                   ·rintro w' ⟨s0,s1,s2,s3,s4,s5,s6,s7,s8,s9,s10,s11,s12,s13,s14,s15⟩
                    go_simp
                    with_reducible rfl
                   rotate_left
                   ·simp only [Act.put,List.setIfInBounds_toArray,List.set_cons_zero,List.set_cons_succ,i64_w,i32_w]
                    rfl
                   refine one_ (i:=11) (N:=some 71) #[true,true,true,true,true,true,true,true,true,true,true,true,true,true,true,true,true,true,true,true,true,true,true,true,false,false] rfl rfl (one_of HT_.out (by kernel_rfl)) (by decide) (fun K hK=>?_)
                   refine goes_ Try.func31 (by kernel_rfl) rfl #[.agg #[.slice (some ad186) l0_0.length c0_0],.int .i64 x3_2,.int .i64 x6_4] (by rfl) rfl rfl (by (try simp only [List.map_toArray,List.map_cons,List.map_nil]);first|done|rfl|(simp only [List.length_drop,List.length_take];rfl)) ?_
                   with_reducible refine (coronerref04_earlier.calls (fun k_=>k_ < w.heap.size) _ _ l0_0 x3_2 x6_4 t193 _ ?side1 A34.out).mono ?_
                   (case side1=>exact Kd.V_mk HC0_0.out (Kd.F_below (Kd.C_F k42_heap HR0_0.out) (by repeat (first|(with_reducible first|exact HB.out|apply below_alloc|apply pw_below_drewN|apply below_drew1|refine below_set ?_ GE183.out|refine below_set ?_ GE187.out)|exact HB.out))))
                   rintro e w41 ⟨v194,rfl,ho0,hb⟩
                   refine ⟨_,rfl,?_⟩
                   have n0_:=Aside0.mk (Kd.N_lower (Kd.N_mono (ok':=fun k_=>k_ ≠ gb183∧k_ ≠ gb187) ho0 (fun k_ hk_=>⟨Or.elim hk_ (fun hs_=>fun e_=>Nat.not_le.2 hs_ (by rw [e_];exact GW183.out)) (fun hn_=>(Kd.freshB (g:=gb183) (o:=.cells #[.slice (some ad186) l0_0.length c0_0] 24 (0,0)) (by (with_reducible repeat (first|refine blk_drewN ?_ _|refine blk_drew ?_|refine blk_alloc ?_ _));exact BK183.out) k_ hn_)),Or.elim hk_ (fun hs_=>fun e_=>Nat.not_le.2 hs_ (by rw [e_];exact GW187.out)) (fun hn_=>(Kd.freshB (g:=gb187) (o:=.cells #[.int .i64 ((rd_T42 l0_0 x3_2).f0),.bool ((rd_T42 l0_0 x3_2).f1),.slice (some ad190) ((rd_T42 l0_0 x3_2).f2).length c186_2] 42 (0,0)) (by (with_reducible repeat (first|refine blk_drewN ?_ _|refine blk_drew ?_|refine blk_alloc ?_ _));exact BK187.out) k_ hn_))⟩)) (below_size (by repeat (first|(with_reducible first|exact HB.out|apply below_alloc|apply pw_below_drewN|apply below_drew1|refine below_set ?_ GE183.out|refine below_set ?_ GE187.out)|exact HB.out))))
                   have n1_:=Aside0.mk (blk_below (g:=gb183) (o:=.cells #[.slice (some ad186) l0_0.length c0_0] 24 (0,0)) (by (with_reducible repeat (first|refine blk_drewN ?_ _|refine blk_drew ?_|refine blk_alloc ?_ _));exact BK183.out) hb)
                   have n2_:=Aside0.mk (blk_below (g:=gb187) (o:=.cells #[.int .i64 ((rd_T42 l0_0 x3_2).f0),.bool ((rd_T42 l0_0 x3_2).f1),.slice (some ad190) ((rd_T42 l0_0 x3_2).f2).length c186_2] 42 (0,0)) (by (with_reducible repeat (first|refine blk_drewN ?_ _|refine blk_drew ?_|refine blk_alloc ?_ _));exact BK187.out) hb)
                   have n3_:=Aside0.mk (below_step (by repeat (first|(with_reducible first|exact HB.out|apply below_alloc|apply pw_below_drewN|apply below_drew1|refine below_set ?_ GE183.out|refine below_set ?_ GE187.out)|exact HB.out)) hb)
                   clear BK183
                   clear BK187
                   clear HB
                   have HO195:=n0_
                   have BK183:=n1_
                   have BK187:=n2_
                   have HB:=n3_
                   clear n0_ n1_ n2_ n3_
                   (try clear hb)
                   (try clear hb2)
                   (try clear hk)
                   (try clear hi)
                   (try clear ho0)
                   obtain ⟨Ao42,co42,eo42⟩:=Kd.N_slice HO195.out
                   (first|subst eo42|(injection eo42 with f1_ f2_ f3_;have f4_:=f1_.symm;have f5_:=f3_.symm;clear f1_ f2_ f3_;subst f4_;subst f5_))
                   refine hK.out _ _ ⟨(blk_cell BK187.out 0).trans rfl,(blk_cell BK187.out 1).trans rfl,(blk_cell BK187.out 2).trans rfl,(blk_cell BK183.out 0).trans rfl,((HB.out.cell (World.block_lt_of_cell? w _ hw192_0)).trans hw192_0),((HB.out.cell (World.block_lt_of_cell? w _ hw192_1)).trans hw192_1),((HB.out.cell (World.block_lt_of_cell? w _ hw192_2)).trans hw192_2),((HB.out.cell (World.block_lt_of_cell? w _ hw192_3)).trans hw192_3),((HB.out.cell (World.block_lt_of_cell? w _ hw196_0)).trans hw196_0),((HB.out.cell (World.block_lt_of_cell? w _ hw196_1)).trans hw196_1),((HB.out.cell (World.block_lt_of_cell? w _ hw196_2)).trans hw196_2),((HB.out.cell (World.block_lt_of_cell? w _ hw196_3)).trans hw196_3),((HB.out.cell (World.block_lt_of_cell? w _ hw197_0)).trans hw197_0),((HB.out.cell (World.block_lt_of_cell? w _ hw197_1)).trans hw197_1),((HB.out.cell (World.block_lt_of_cell? w _ hw197_2)).trans hw197_2),((HB.out.cell (World.block_lt_of_cell? w _ hw197_3)).trans hw197_3)⟩ (fun hHeld=>?_)
                   clear hK K
                   refine norm_ (a':=?_) ?_ ?_
                   rotate_left
                   ·show Act.put _ (some 71) _=_
                    simp only [Act.put,List.setIfInBounds_toArray,List.set_cons_zero,List.set_cons_succ,i64_w,i32_w]
                    rfl
                   refine one_ (i:=24) (N:=some 84) #[true,true,true,true,true,true,true,true,true,true,true,true,true,true,true,true,true,true,true,true,true,true,true,true,true,false] rfl rfl (one_of HT_.out (by kernel_rfl)) (by decide) (fun K hK=>?_)
                   refine goes_ Try.func30 (by kernel_rfl) rfl #[.agg #[.slice Ao42 t193.length co42],.int .i64 ((rd_T39 ((rd_T42 l0_0 x3_2).f2) x6_4).f1),.int .i64 ((rd_T39 ((rd_T42 l0_0 x3_2).f2) x6_4).f2)] (by rfl) rfl rfl (by (try simp only [List.map_toArray,List.map_cons,List.map_nil]);first|done|rfl|(simp only [List.length_drop,List.length_take];rfl)) ?_
                   with_reducible refine (coronerref03_Appended.calls k4 _ _ t193 ((rd_T39 ((rd_T42 l0_0 x3_2).f2) x6_4).f1) ((rd_T39 ((rd_T42 l0_0 x3_2).f2) x6_4).f2) true _ ?side1 ?side2 A35.out).mono ?_
                   (case side1=>repeat (first|exact (Kd.N_reads' HO195.out).2.2|(with_reducible refine Kd.C_alloc ?_ _)|(with_reducible refine Kd.C_drewN ?_ _)|(with_reducible refine Kd.C_drew ?_)))
                   (case side2=>exact (Kd.N_reads' HO195.out).2.1)
                   rintro e w43 ⟨rfl,hb⟩
                   refine ⟨_,rfl,?_⟩
                   have n0_:=Aside0.mk (Kd.N_below (by (with_reducible repeat (first|apply Kd.N_alloc|apply Kd.N_drewN|apply Kd.N_drew));exact HO195.out) hb)
                   have n1_:=Aside0.mk (blk_below (g:=gb183) (o:=.cells #[.slice (some ad186) l0_0.length c0_0] 24 (0,0)) (by (with_reducible repeat (first|refine blk_drewN ?_ _|refine blk_drew ?_|refine blk_alloc ?_ _));exact BK183.out) hb)
                   have n2_:=Aside0.mk (blk_below (g:=gb187) (o:=.cells #[.int .i64 ((rd_T42 l0_0 x3_2).f0),.bool ((rd_T42 l0_0 x3_2).f1),.slice (some ad190) ((rd_T42 l0_0 x3_2).f2).length c186_2] 42 (0,0)) (by (with_reducible repeat (first|refine blk_drewN ?_ _|refine blk_drew ?_|refine blk_alloc ?_ _));exact BK187.out) hb)
                   have n3_:=Aside0.mk (below_step (by repeat (first|(with_reducible first|exact HB.out|apply below_alloc|apply pw_below_drewN|apply below_drew1|refine below_set ?_ GE183.out|refine below_set ?_ GE187.out)|exact HB.out)) hb)
                   clear HO195
                   clear BK183
                   clear BK187
                   clear HB
                   have HO195:=n0_
                   have BK183:=n1_
                   have BK187:=n2_
                   have HB:=n3_
                   clear n0_ n1_ n2_ n3_
                   (try clear hb)
                   (try clear hb2)
                   (try clear hk)
                   (try clear hi)
                   refine hK.out _ _ ⟨(blk_cell BK187.out 0).trans rfl,(blk_cell BK187.out 1).trans rfl,(blk_cell BK187.out 2).trans rfl,(blk_cell BK183.out 0).trans rfl,((HB.out.cell (World.block_lt_of_cell? w _ hw192_0)).trans hw192_0),((HB.out.cell (World.block_lt_of_cell? w _ hw192_1)).trans hw192_1),((HB.out.cell (World.block_lt_of_cell? w _ hw192_2)).trans hw192_2),((HB.out.cell (World.block_lt_of_cell? w _ hw192_3)).trans hw192_3),((HB.out.cell (World.block_lt_of_cell? w _ hw196_0)).trans hw196_0),((HB.out.cell (World.block_lt_of_cell? w _ hw196_1)).trans hw196_1),((HB.out.cell (World.block_lt_of_cell? w _ hw196_2)).trans hw196_2),((HB.out.cell (World.block_lt_of_cell? w _ hw196_3)).trans hw196_3),((HB.out.cell (World.block_lt_of_cell? w _ hw197_0)).trans hw197_0),((HB.out.cell (World.block_lt_of_cell? w _ hw197_1)).trans hw197_1),((HB.out.cell (World.block_lt_of_cell? w _ hw197_2)).trans hw197_2),((HB.out.cell (World.block_lt_of_cell? w _ hw197_3)).trans hw197_3)⟩ (fun hHeld=>?_)
                   clear hK K
                   refine norm_ (a':=?_) ?_ ?_
                   rotate_left
                   ·show Act.put _ (some 84) _=_
                    simp only [Act.put,List.setIfInBounds_toArray,List.set_cons_zero,List.set_cons_succ,i64_w,i32_w]
                    rfl
                   refine pure_ (i:=25) (N:=some 85) (v:=?_) (a':=?_) #[true,true,true,true,true,true,true,true,true,true,true,true,true,true,true,true,true,true,true,true,true,true,true,true,true,true] rfl rfl (any_of HT_.out (by kernel_rfl)) (fun _ _ _ h=>h) (Or.inl ⟨by rfl,?_⟩) ?_ ?_
                   rotate_left
                   ·intro w'
                    go_simp
                    with_reducible rfl
                   rotate_left
                   ·simp only [Act.put,List.setIfInBounds_toArray,List.set_cons_zero,List.set_cons_succ,i64_w,i32_w]
                    rfl
                   refine done_ (done_of HT_.out (by kernel_rfl)) ?_
                   try go_wp2
                   go_ret
                   exact ⟨by first|rfl|(simp [errW_none,errW_some] <;> rfl)|(simp [*,errW_none,errW_some] <;> rfl),by repeat (first|(with_reducible first|exact HB.out|apply below_alloc|apply pw_below_drewN|apply below_drew1|refine below_set ?_ GE183.out|refine below_set ?_ GE187.out)|exact HB.out)⟩
                  ·replace c36:=Bool.eq_false_iff.mpr c36
                   subst c36
                   have H1:(coronerref04_Check.l2 k4 x3_2 (wrap64 (x6_4+1)) l0_0 ((rd_T42 l0_0 x3_2).f0) ((rd_T42 l0_0 x3_2).f1) ((rd_T42 l0_0 x3_2).f2))=some r:=by rw [if_neg (show ¬ (false=true) by decide)] at H;exact H
                   clear H
                   have H:=H1
                   clear H1
                   have H':=Aside0.mk H
                   clear H
                   have hnb44:=NB187_183.out
                   have hnc44:=NB183_187.out
                   have hcz45_0:wr.cell? ⟨gb187,0,none⟩=some (.int .i64 ((rd_T42 l0_0 x3_2).f0)):=(blk_cell BK187.out 0).trans rfl
                   have hcz45_1:wr.cell? ⟨gb187,1,none⟩=some (.bool ((rd_T42 l0_0 x3_2).f1)):=(blk_cell BK187.out 1).trans rfl
                   have hcz45_2:wr.cell? ⟨gb187,2,none⟩=some (.slice A186_2 ((rd_T42 l0_0 x3_2).f2).length c186_2):=(blk_cell BK187.out 2).trans rfl
                   have hfz45_0:=blk_frozen BK187.out 0
                   have hfz45_1:=blk_frozen BK187.out 1
                   have hfz45_2:=blk_frozen BK187.out 2
                   have p190:0≤(x6_4:Int):=of_decide_eq_true (by first|(with_reducible assumption)|assumption)
                   have q190:x6_4 < (((rd_T42 l0_0 x3_2).f2).length:Int):=of_decide_eq_true (by first|(with_reducible assumption)|assumption)
                   obtain ⟨ad190,A190_3,c190_3,e190,hx190_0,hx190_1,hx190_2,hx190_3,hl190_3,hi190_3⟩:=at_T39 HR186_2.out x6_4 p190 q190
                   (try rw [← Nbq28.out] at hx190_0)
                   cases e190
                   replace hx190_0:=(HB.out.cell (World.block_lt_of_cell? w _ hx190_0)).trans hx190_0
                   replace hx190_1:=(HB.out.cell (World.block_lt_of_cell? w _ hx190_1)).trans hx190_1
                   replace hx190_2:=(HB.out.cell (World.block_lt_of_cell? w _ hx190_2)).trans hx190_2
                   replace hx190_3:=(HB.out.cell (World.block_lt_of_cell? w _ hx190_3)).trans hx190_3
                   have HR190_3:=Aside0.mk hi190_3
                   have HC190_3:=Aside0.mk hl190_3
                   clear hi190_3 hl190_3
                   replace p190:=eq_true p190
                   replace q190:=eq_true q190
                   try go_wp2_with (first|((with_reducible refine gate_callee (f:=29) rfl ?_);refine goesL_ (some 58) rfl rfl Try.func29 (by kernel_rfl) rfl #[.agg #[.bool false,.int .i64 ((rd_T39 ((rd_T42 l0_0 x3_2).f2) x6_4).f1),.int .i64 ((rd_T39 ((rd_T42 l0_0 x3_2).f2) x6_4).f2),.slice A190_3 ((rd_T39 ((rd_T42 l0_0 x3_2).f2) x6_4).f3).length c190_3]] rfl (by (try simp only [List.map_toArray,List.map_cons,List.map_nil]);first|done|rfl|(simp only [List.length_drop,List.length_take];rfl)) ?_;(with_reducible refine (coronerref04_mayOp.calls k4 false ((rd_T39 ((rd_T42 l0_0 x3_2).f2) x6_4).f1) ((rd_T39 ((rd_T42 l0_0 x3_2).f2) x6_4).f2) _ _ ((rd_T39 ((rd_T42 l0_0 x3_2).f2) x6_4).f3) true _ ?side1 ?side2 A26.out).mono ?_);(case side1=>repeat (first|exact (Kd.C_below HR190_3.out HB.out)|(with_reducible refine Kd.C_alloc ?_ _)|(with_reducible refine Kd.C_drewN ?_ _)|(with_reducible refine Kd.C_drew ?_)));(case side2=>exact HC190_3.out);rintro e w46 ⟨rfl,hb⟩;refine ⟨_,rfl,?_⟩;have n0_:=Aside0.mk (blk_below (g:=gb183) (o:=.cells #[.slice (some ad186) l0_0.length c0_0] 24 (0,0)) (by (with_reducible repeat (first|refine blk_drewN ?_ _|refine blk_drew ?_|refine blk_alloc ?_ _));exact BK183.out) hb);have n1_:=Aside0.mk (blk_below (g:=gb187) (o:=.cells #[.int .i64 ((rd_T42 l0_0 x3_2).f0),.bool ((rd_T42 l0_0 x3_2).f1),.slice (some ad190) ((rd_T42 l0_0 x3_2).f2).length c186_2] 42 (0,0)) (by (with_reducible repeat (first|refine blk_drewN ?_ _|refine blk_drew ?_|refine blk_alloc ?_ _));exact BK187.out) hb);have n2_:=Aside0.mk (below_step (by repeat (first|(with_reducible first|exact HB.out|apply below_alloc|apply pw_below_drewN|apply below_drew1|refine below_set ?_ GE183.out|refine below_set ?_ GE187.out)|exact HB.out)) hb);clear BK183;clear BK187;clear HB;have BK183:=n0_;have BK187:=n1_;have HB:=n2_;clear n0_ n1_ n2_;(try clear hb);(try clear hb2);(try clear hk);(try clear hi)))
                   have n0_:=Aside0.mk (blk_drew BK183.out)
                   have n1_:=Aside0.mk (blk_drew BK187.out)
                   have n2_:=Aside0.mk (below_drew1 HB.out)
                   clear BK183
                   clear BK187
                   clear HB
                   have BK183:=n0_
                   have BK187:=n1_
                   have HB:=n2_
                   clear n0_ n1_ n2_
                   have p192:0≤(x6_4:Int):=of_decide_eq_true (by first|(with_reducible assumption)|assumption)
                   have q192:x6_4 < (((rd_T42 l0_0 x3_2).f2).length:Int):=of_decide_eq_true (by first|(with_reducible assumption)|assumption)
                   obtain ⟨ad192,A192_3,c192_3,e192,hx192_0,hx192_1,hx192_2,hx192_3,hl192_3,hi192_3⟩:=at_T39 HR186_2.out x6_4 p192 q192
                   have hw192_3:=hx192_3
                   (try rw [← Nbq28.out] at hw192_3)
                   have hw192_2:=hx192_2
                   (try rw [← Nbq28.out] at hw192_2)
                   have hw192_1:=hx192_1
                   (try rw [← Nbq28.out] at hw192_1)
                   have hw192_0:=hx192_0
                   (try rw [← Nbq28.out] at hw192_0)
                   (try rw [← Nbq28.out] at hx192_0)
                   obtain rfl:ad190=ad192:=(by injection e192)
                   replace hx192_0:=(HB.out.cell (World.block_lt_of_cell? w _ hx192_0)).trans hx192_0
                   replace hx192_1:=(HB.out.cell (World.block_lt_of_cell? w _ hx192_1)).trans hx192_1
                   replace hx192_2:=(HB.out.cell (World.block_lt_of_cell? w _ hx192_2)).trans hx192_2
                   replace hx192_3:=(HB.out.cell (World.block_lt_of_cell? w _ hx192_3)).trans hx192_3
                   have HR192_3:=Aside0.mk hi192_3
                   have HC192_3:=Aside0.mk hl192_3
                   clear hi192_3 hl192_3
                   replace p192:=eq_true p192
                   replace q192:=eq_true q192
                   have p196:0≤(x6_4:Int):=of_decide_eq_true (by first|(with_reducible assumption)|assumption)
                   have q196:x6_4 < (((rd_T42 l0_0 x3_2).f2).length:Int):=of_decide_eq_true (by first|(with_reducible assumption)|assumption)
                   obtain ⟨ad196,A196_3,c196_3,e196,hx196_0,hx196_1,hx196_2,hx196_3,hl196_3,hi196_3⟩:=at_T39 HR186_2.out x6_4 p196 q196
                   have hw196_3:=hx196_3
                   (try rw [← Nbq28.out] at hw196_3)
                   have hw196_2:=hx196_2
                   (try rw [← Nbq28.out] at hw196_2)
                   have hw196_1:=hx196_1
                   (try rw [← Nbq28.out] at hw196_1)
                   have hw196_0:=hx196_0
                   (try rw [← Nbq28.out] at hw196_0)
                   (try rw [← Nbq28.out] at hx196_0)
                   obtain rfl:ad190=ad196:=(by injection e196)
                   replace hx196_0:=(HB.out.cell (World.block_lt_of_cell? w _ hx196_0)).trans hx196_0
                   replace hx196_1:=(HB.out.cell (World.block_lt_of_cell? w _ hx196_1)).trans hx196_1
                   replace hx196_2:=(HB.out.cell (World.block_lt_of_cell? w _ hx196_2)).trans hx196_2
                   replace hx196_3:=(HB.out.cell (World.block_lt_of_cell? w _ hx196_3)).trans hx196_3
                   have HR196_3:=Aside0.mk hi196_3
                   have HC196_3:=Aside0.mk hl196_3
                   clear hi196_3 hl196_3
                   replace p196:=eq_true p196
                   replace q196:=eq_true q196
                   have ea_:=Option.some.inj (hx192_3.symm.trans hx196_3)
                   injection ea_ with ea_ en_ ec_
                   subst ea_
                   subst ec_
                   clear en_
                   have p197:0≤(x6_4:Int):=of_decide_eq_true (by first|(with_reducible assumption)|assumption)
                   have q197:x6_4 < (((rd_T42 l0_0 x3_2).f2).length:Int):=of_decide_eq_true (by first|(with_reducible assumption)|assumption)
                   obtain ⟨ad197,A197_3,c197_3,e197,hx197_0,hx197_1,hx197_2,hx197_3,hl197_3,hi197_3⟩:=at_T39 HR186_2.out x6_4 p197 q197
                   have hw197_3:=hx197_3
                   (try rw [← Nbq28.out] at hw197_3)
                   have hw197_2:=hx197_2
                   (try rw [← Nbq28.out] at hw197_2)
                   have hw197_1:=hx197_1
                   (try rw [← Nbq28.out] at hw197_1)
                   have hw197_0:=hx197_0
                   (try rw [← Nbq28.out] at hw197_0)
                   (try rw [← Nbq28.out] at hx197_0)
                   obtain rfl:ad190=ad197:=(by injection e197)
                   replace hx197_0:=(HB.out.cell (World.block_lt_of_cell? w _ hx197_0)).trans hx197_0
                   replace hx197_1:=(HB.out.cell (World.block_lt_of_cell? w _ hx197_1)).trans hx197_1
                   replace hx197_2:=(HB.out.cell (World.block_lt_of_cell? w _ hx197_2)).trans hx197_2
                   replace hx197_3:=(HB.out.cell (World.block_lt_of_cell? w _ hx197_3)).trans hx197_3
                   have HR197_3:=Aside0.mk hi197_3
                   have HC197_3:=Aside0.mk hl197_3
                   clear hi197_3 hl197_3
                   replace p197:=eq_true p197
                   replace q197:=eq_true q197
                   have ea_:=Option.some.inj (hx192_3.symm.trans hx197_3)
                   injection ea_ with ea_ en_ ec_
                   subst ea_
                   subst ec_
                   clear en_
                   refine start_ (n:=26) (S:=fun w'=>w'.cell? ⟨gb187,0,none⟩=some (.int .i64 ((rd_T42 l0_0 x3_2).f0))∧w'.cell? ⟨gb187,1,none⟩=some (.bool ((rd_T42 l0_0 x3_2).f1))∧w'.cell? ⟨gb187,2,none⟩=some (.slice (some ad190) ((rd_T42 l0_0 x3_2).f2).length c186_2)∧w'.cell? ⟨gb183,0,none⟩=some (.slice (some ad186) l0_0.length c0_0)∧w'.cell? (ad190.add ((x6_4).toNat * 4))=some (.bool false)∧w'.cell? ⟨(ad190.add ((x6_4).toNat * 4)).block,(ad190.add ((x6_4).toNat * 4)).off+1,none⟩=some (.int .i64 ((rd_T39 ((rd_T42 l0_0 x3_2).f2) x6_4).f1))∧w'.cell? ⟨(ad190.add ((x6_4).toNat * 4)).block,(ad190.add ((x6_4).toNat * 4)).off+2,none⟩=some (.int .i64 ((rd_T39 ((rd_T42 l0_0 x3_2).f2) x6_4).f2))∧w'.cell? ⟨(ad190.add ((x6_4).toNat * 4)).block,(ad190.add ((x6_4).toNat * 4)).off+3,none⟩=some (.slice A192_3 ((rd_T39 ((rd_T42 l0_0 x3_2).f2) x6_4).f3).length c192_3)∧w'.cell? (ad190.add ((x6_4).toNat * 4))=some (.bool (false))∧w'.cell? ⟨(ad190.add ((x6_4).toNat * 4)).block,(ad190.add ((x6_4).toNat * 4)).off+1,none⟩=some (.int .i64 ((rd_T39 ((rd_T42 l0_0 x3_2).f2) x6_4).f1))∧w'.cell? ⟨(ad190.add ((x6_4).toNat * 4)).block,(ad190.add ((x6_4).toNat * 4)).off+2,none⟩=some (.int .i64 ((rd_T39 ((rd_T42 l0_0 x3_2).f2) x6_4).f2))∧w'.cell? ⟨(ad190.add ((x6_4).toNat * 4)).block,(ad190.add ((x6_4).toNat * 4)).off+3,none⟩=some (.slice A192_3 ((rd_T39 ((rd_T42 l0_0 x3_2).f2) x6_4).f3).length c192_3)∧w'.cell? (ad190.add ((x6_4).toNat * 4))=some (.bool (false))∧w'.cell? ⟨(ad190.add ((x6_4).toNat * 4)).block,(ad190.add ((x6_4).toNat * 4)).off+1,none⟩=some (.int .i64 ((rd_T39 ((rd_T42 l0_0 x3_2).f2) x6_4).f1))∧w'.cell? ⟨(ad190.add ((x6_4).toNat * 4)).block,(ad190.add ((x6_4).toNat * 4)).off+2,none⟩=some (.int .i64 ((rd_T39 ((rd_T42 l0_0 x3_2).f2) x6_4).f2))∧w'.cell? ⟨(ad190.add ((x6_4).toNat * 4)).block,(ad190.add ((x6_4).toNat * 4)).off+3,none⟩=some (.slice A192_3 ((rd_T39 ((rd_T42 l0_0 x3_2).f2) x6_4).f3).length c192_3)) (ds:=[]) #[false,false,false,false,false,false,false,false,false,false,false,false,false,false,false,false,false,false,false,false,false,false,false,false,false,false] (by kernel_rfl) rfl rfl ⟨(blk_cell BK187.out 0).trans rfl,(blk_cell BK187.out 1).trans rfl,(blk_cell BK187.out 2).trans rfl,(blk_cell BK183.out 0).trans rfl,((HB.out.cell (World.block_lt_of_cell? w _ hw192_0)).trans hw192_0),((HB.out.cell (World.block_lt_of_cell? w _ hw192_1)).trans hw192_1),((HB.out.cell (World.block_lt_of_cell? w _ hw192_2)).trans hw192_2),((HB.out.cell (World.block_lt_of_cell? w _ hw192_3)).trans hw192_3),((HB.out.cell (World.block_lt_of_cell? w _ hw196_0)).trans hw196_0),((HB.out.cell (World.block_lt_of_cell? w _ hw196_1)).trans hw196_1),((HB.out.cell (World.block_lt_of_cell? w _ hw196_2)).trans hw196_2),((HB.out.cell (World.block_lt_of_cell? w _ hw196_3)).trans hw196_3),((HB.out.cell (World.block_lt_of_cell? w _ hw197_0)).trans hw197_0),((HB.out.cell (World.block_lt_of_cell? w _ hw197_1)).trans hw197_1),((HB.out.cell (World.block_lt_of_cell? w _ hw197_2)).trans hw197_2),((HB.out.cell (World.block_lt_of_cell? w _ hw197_3)).trans hw197_3)⟩ (fun hHeld=>?_);refine with_tabW coronerref04_Check.tab19 coronerref04_Check.bits19 (fun HT_ HW_=>?_)
                   generalize w46.drew=w47 at BK183 BK187 HB HR192_3 HR196_3 HR197_3 hx192_0 hx192_1 hx192_2 hx192_3 hx196_0 hx196_1 hx196_2 hx196_3 hx197_0 hx197_1 hx197_2 hx197_3 hHeld ⊢
                   refine pure_ (i:=0) (N:=some 60) (v:=?_) (a':=?_) #[true,false,false,false,false,false,false,false,false,false,false,false,false,false,false,false,false,false,false,false,false,false,false,false,false,false] rfl rfl (any_of HT_.out (by kernel_rfl)) (fun _ _ _ h=>h) (Or.inl ⟨by rfl,?_⟩) ?_ ?_
                   rotate_left
                   ·intro w'
                    go_simp
                    with_reducible rfl
                   rotate_left
                   ·simp only [Act.put,List.setIfInBounds_toArray,List.set_cons_zero,List.set_cons_succ,i64_w,i32_w]
                    rfl
                   refine pure_ (i:=2) (N:=some 62) (v:=?_) (a':=?_) #[true,false,true,false,false,false,false,false,false,false,false,false,false,false,false,false,false,false,false,false,false,false,false,false,false,false] rfl rfl (any_of HT_.out (by kernel_rfl)) (fun _ _ _ h=>h) (Or.inl ⟨by rfl,?_⟩) ?_ ?_
                   rotate_left
                   ·intro w'
                    go_simp
                    with_reducible rfl
                   rotate_left
                   ·simp only [Act.put,List.setIfInBounds_toArray,List.set_cons_zero,List.set_cons_succ,i64_w,i32_w]
                    rfl
                   refine take_ (i:=1) (N:=some 61) (v:=?_) (a':=?_) #[true,true,true,false,false,false,false,false,false,false,false,false,false,false,false,false,false,false,false,false,false,false,false,false,false,false] rfl rfl (take_ofW HT_.out HW_.out (by kernel_rfl)) (fun _ _ _ h=>h) (Or.inl ⟨by rfl,?_⟩) hHeld ?_ ?_
                   rotate_left
                   ·rintro w' ⟨s0,s1,s2,s3,s4,s5,s6,s7,s8,s9,s10,s11,s12,s13,s14,s15⟩
                    go_simp
                    with_reducible rfl
                   rotate_left
                   ·simp only [Act.put,List.setIfInBounds_toArray,List.set_cons_zero,List.set_cons_succ,i64_w,i32_w]
                    rfl
                   refine pure_ (i:=3) (N:=some 63) (v:=?_) (a':=?_) #[true,true,true,true,false,false,false,false,false,false,false,false,false,false,false,false,false,false,false,false,false,false,false,false,false,false] rfl rfl (any_of HT_.out (by kernel_rfl)) (fun _ _ _ h=>h) (Or.inl ⟨by rfl,?_⟩) ?_ ?_
                   rotate_left
                   ·intro w'
                    go_simp
                    with_reducible rfl
                   rotate_left
                   ·simp only [Act.put,List.setIfInBounds_toArray,List.set_cons_zero,List.set_cons_succ,i64_w,i32_w]
                    rfl
                   refine pure_ (i:=4) (N:=some 64) (v:=?_) (a':=?_) #[true,true,true,true,true,false,false,false,false,false,false,false,false,false,false,false,false,false,false,false,false,false,false,false,false,false] rfl rfl (any_of HT_.out (by kernel_rfl)) (fun _ _ _ h=>h) (Or.inl ⟨by rfl,?_⟩) ?_ ?_
                   rotate_left
                   ·intro w'
                    go_simp
                    with_reducible rfl
                   rotate_left
                   ·simp only [Act.put,List.setIfInBounds_toArray,List.set_cons_zero,List.set_cons_succ,i64_w,i32_w]
                    rfl
                   refine take_ (i:=5) (N:=some 65) (v:=?_) (a':=?_) #[true,true,true,true,true,true,false,false,false,false,false,false,false,false,false,false,false,false,false,false,false,false,false,false,false,false] rfl rfl (take_ofW HT_.out HW_.out (by kernel_rfl)) (fun _ _ _ h=>h) (Or.inl ⟨by rfl,?_⟩) hHeld ?_ ?_
                   rotate_left
                   ·rintro w' ⟨s0,s1,s2,s3,s4,s5,s6,s7,s8,s9,s10,s11,s12,s13,s14,s15⟩
                    go_simp
                    with_reducible rfl
                   rotate_left
                   ·simp only [Act.put,List.setIfInBounds_toArray,List.set_cons_zero,List.set_cons_succ,i64_w,i32_w]
                    rfl
                   refine pure_ (i:=6) (N:=some 66) (v:=?_) (a':=?_) #[true,true,true,true,true,true,true,false,false,false,false,false,false,false,false,false,false,false,false,false,false,false,false,false,false,false] rfl rfl (any_of HT_.out (by kernel_rfl)) (fun _ _ _ h=>h) (Or.inl ⟨by rfl,?_⟩) ?_ ?_
                   rotate_left
                   ·intro w'
                    go_simp
                    with_reducible rfl
                   rotate_left
                   ·simp only [Act.put,List.setIfInBounds_toArray,List.set_cons_zero,List.set_cons_succ,i64_w,i32_w]
                    rfl
                   refine pure_ (i:=7) (N:=some 67) (v:=?_) (a':=?_) #[true,true,true,true,true,true,true,true,false,false,false,false,false,false,false,false,false,false,false,false,false,false,false,false,false,false] rfl rfl (any_of HT_.out (by kernel_rfl)) (fun _ _ _ h=>h) (Or.inl ⟨by rfl,?_⟩) ?_ ?_
                   rotate_left
                   ·intro w'
                    go_simp
                    with_reducible rfl
                   rotate_left
                   ·simp only [Act.put,List.setIfInBounds_toArray,List.set_cons_zero,List.set_cons_succ,i64_w,i32_w]
                    rfl
                   refine pure_ (i:=9) (N:=some 69) (v:=?_) (a':=?_) #[true,true,true,true,true,true,true,true,false,true,false,false,false,false,false,false,false,false,false,false,false,false,false,false,false,false] rfl rfl (any_of HT_.out (by kernel_rfl)) (fun _ _ _ h=>h) (Or.inl ⟨by rfl,?_⟩) ?_ ?_
                   rotate_left
                   ·intro w'
                    go_simp
                    with_reducible rfl
                   rotate_left
                   ·simp only [Act.put,List.setIfInBounds_toArray,List.set_cons_zero,List.set_cons_succ,i64_w,i32_w]
                    rfl
                   refine pure_ (i:=10) (N:=some 70) (v:=?_) (a':=?_) #[true,true,true,true,true,true,true,true,false,true,true,false,false,false,false,false,false,false,false,false,false,false,false,false,false,false] rfl rfl (any_of HT_.out (by kernel_rfl)) (fun _ _ _ h=>h) (Or.inl ⟨by rfl,?_⟩) ?_ ?_
                   rotate_left
                   ·intro w'
                    go_simp
                    with_reducible rfl
                   rotate_left
                   ·simp only [Act.put,List.setIfInBounds_toArray,List.set_cons_zero,List.set_cons_succ,i64_w,i32_w]
                    rfl
                   refine pure_ (i:=12) (N:=some 72) (v:=?_) (a':=?_) #[true,true,true,true,true,true,true,true,false,true,true,false,true,false,false,false,false,false,false,false,false,false,false,false,false,false] rfl rfl (any_of HT_.out (by kernel_rfl)) (fun _ _ _ h=>h) (Or.inl ⟨by rfl,?_⟩) ?_ ?_
                   rotate_left
                   ·intro w'
                    go_simp
                    with_reducible rfl
                   rotate_left
                   ·simp only [Act.put,List.setIfInBounds_toArray,List.set_cons_zero,List.set_cons_succ,i64_w,i32_w]
                    rfl
                   refine pure_ (i:=14) (N:=some 74) (v:=?_) (a':=?_) #[true,true,true,true,true,true,true,true,false,true,true,false,true,false,true,false,false,false,false,false,false,false,false,false,false,false] rfl rfl (any_of HT_.out (by kernel_rfl)) (fun _ _ _ h=>h) (Or.inl ⟨by rfl,?_⟩) ?_ ?_
                   rotate_left
                   ·intro w'
                    go_simp
                    with_reducible rfl
                   rotate_left
                   ·simp only [Act.put,List.setIfInBounds_toArray,List.set_cons_zero,List.set_cons_succ,i64_w,i32_w]
                    rfl
                   refine pure_ (i:=18) (N:=some 78) (v:=?_) (a':=?_) #[true,true,true,true,true,true,true,true,false,true,true,false,true,false,true,false,false,false,true,false,false,false,false,false,false,false] rfl rfl (any_of HT_.out (by kernel_rfl)) (fun _ _ _ h=>h) (Or.inl ⟨by rfl,?_⟩) ?_ ?_
                   rotate_left
                   ·intro w'
                    go_simp
                    with_reducible rfl
                   rotate_left
                   ·simp only [Act.put,List.setIfInBounds_toArray,List.set_cons_zero,List.set_cons_succ,i64_w,i32_w]
                    rfl
                   refine pure_ (i:=20) (N:=some 80) (v:=?_) (a':=?_) #[true,true,true,true,true,true,true,true,false,true,true,false,true,false,true,false,false,false,true,false,true,false,false,false,false,false] rfl rfl (any_of HT_.out (by kernel_rfl)) (fun _ _ _ h=>h) (Or.inl ⟨by rfl,?_⟩) ?_ ?_
                   rotate_left
                   ·intro w'
                    go_simp
                    with_reducible rfl
                   rotate_left
                   ·simp only [Act.put,List.setIfInBounds_toArray,List.set_cons_zero,List.set_cons_succ,i64_w,i32_w]
                    rfl
                   refine take_ (i:=8) (N:=some 68) (v:=?_) (a':=?_) #[true,true,true,true,true,true,true,true,true,true,true,false,true,false,true,false,false,false,true,false,true,false,false,false,false,false] rfl rfl (take_ofW HT_.out HW_.out (by kernel_rfl)) (fun _ _ _ h=>h) (Or.inl ⟨by rfl,?_⟩) hHeld ?_ ?_
                   rotate_left
                   ·rintro w' ⟨s0,s1,s2,s3,s4,s5,s6,s7,s8,s9,s10,s11,s12,s13,s14,s15⟩
                    go_simp
                    with_reducible rfl
                   rotate_left
                   ·simp only [Act.put,List.setIfInBounds_toArray,List.set_cons_zero,List.set_cons_succ,i64_w,i32_w]
                    rfl
                   refine take_ (i:=13) (N:=some 73) (v:=?_) (a':=?_) #[true,true,true,true,true,true,true,true,true,true,true,false,true,true,true,false,false,false,true,false,true,false,false,false,false,false] rfl rfl (take_ofW HT_.out HW_.out (by kernel_rfl)) (fun _ _ _ h=>h) (Or.inl ⟨by rfl,?_⟩) hHeld ?_ ?_
                   rotate_left
                   ·rintro w' ⟨s0,s1,s2,s3,s4,s5,s6,s7,s8,s9,s10,s11,s12,s13,s14,s15⟩
                    go_simp
                    with_reducible rfl
                   rotate_left
                   ·simp only [Act.put,List.setIfInBounds_toArray,List.set_cons_zero,List.set_cons_succ,i64_w,i32_w]
                    rfl
                   refine pure_ (i:=15) (N:=some 75) (v:=?_) (a':=?_) #[true,true,true,true,true,true,true,true,true,true,true,false,true,true,true,true,false,false,true,false,true,false,false,false,false,false] rfl rfl (any_of HT_.out (by kernel_rfl)) (fun _ _ _ h=>h) (Or.inl ⟨by rfl,?_⟩) ?_ ?_
                   rotate_left
                   ·intro w'
                    go_simp
                    with_reducible rfl
                   rotate_left
                   ·simp only [Act.put,List.setIfInBounds_toArray,List.set_cons_zero,List.set_cons_succ,i64_w,i32_w]
                    rfl
                   refine pure_ (i:=16) (N:=some 76) (v:=?_) (a':=?_) #[true,true,true,true,true,true,true,true,true,true,true,false,true,true,true,true,true,false,true,false,true,false,false,false,false,false] rfl rfl (any_of HT_.out (by kernel_rfl)) (fun _ _ _ h=>h) (Or.inl ⟨by rfl,?_⟩) ?_ ?_
                   rotate_left
                   ·intro w'
                    go_simp
                    with_reducible rfl
                   rotate_left
                   ·simp only [Act.put,List.setIfInBounds_toArray,List.set_cons_zero,List.set_cons_succ,i64_w,i32_w]
                    rfl
                   refine take_ (i:=17) (N:=some 77) (v:=?_) (a':=?_) #[true,true,true,true,true,true,true,true,true,true,true,false,true,true,true,true,true,true,true,false,true,false,false,false,false,false] rfl rfl (take_ofW HT_.out HW_.out (by kernel_rfl)) (fun _ _ _ h=>h) (Or.inl ⟨by rfl,?_⟩) hHeld ?_ ?_
                   rotate_left
                   ·rintro w' ⟨s0,s1,s2,s3,s4,s5,s6,s7,s8,s9,s10,s11,s12,s13,s14,s15⟩
                    go_simp
                    with_reducible rfl
                   rotate_left
                   ·simp only [Act.put,List.setIfInBounds_toArray,List.set_cons_zero,List.set_cons_succ,i64_w,i32_w]
                    rfl
                   refine take_ (i:=19) (N:=some 79) (v:=?_) (a':=?_) #[true,true,true,true,true,true,true,true,true,true,true,false,true,true,true,true,true,true,true,true,true,false,false,false,false,false] rfl rfl (take_ofW HT_.out HW_.out (by kernel_rfl)) (fun _ _ _ h=>h) (Or.inl ⟨by rfl,?_⟩) hHeld ?_ ?_
                   rotate_left
                   ·rintro w' ⟨s0,s1,s2,s3,s4,s5,s6,s7,s8,s9,s10,s11,s12,s13,s14,s15⟩
                    go_simp
                    with_reducible rfl
                   rotate_left
                   ·simp only [Act.put,List.setIfInBounds_toArray,List.set_cons_zero,List.set_cons_succ,i64_w,i32_w]
                    rfl
                   refine pure_ (i:=21) (N:=some 81) (v:=?_) (a':=?_) #[true,true,true,true,true,true,true,true,true,true,true,false,true,true,true,true,true,true,true,true,true,true,false,false,false,false] rfl rfl (any_of HT_.out (by kernel_rfl)) (fun _ _ _ h=>h) (Or.inl ⟨by rfl,?_⟩) ?_ ?_
                   rotate_left
                   ·intro w'
                    go_simp
                    with_reducible rfl
                   rotate_left
                   ·simp only [Act.put,List.setIfInBounds_toArray,List.set_cons_zero,List.set_cons_succ,i64_w,i32_w]
                    rfl
                   refine pure_ (i:=22) (N:=some 82) (v:=?_) (a':=?_) #[true,true,true,true,true,true,true,true,true,true,true,false,true,true,true,true,true,true,true,true,true,true,true,false,false,false] rfl rfl (any_of HT_.out (by kernel_rfl)) (fun _ _ _ h=>h) (Or.inl ⟨by rfl,?_⟩) ?_ ?_
                   rotate_left
                   ·intro w'
                    go_simp
                    with_reducible rfl
                   rotate_left
                   ·simp only [Act.put,List.setIfInBounds_toArray,List.set_cons_zero,List.set_cons_succ,i64_w,i32_w]
                    rfl
                   refine take_ (i:=23) (N:=some 83) (v:=?_) (a':=?_) #[true,true,true,true,true,true,true,true,true,true,true,false,true,true,true,true,true,true,true,true,true,true,true,true,false,false] rfl rfl (take_ofW HT_.out HW_.out (by kernel_rfl)) (fun _ _ _ h=>h) (Or.inl ⟨by rfl,?_⟩) hHeld ?_ ?_
                   rotate_left
                   ·rintro w' ⟨s0,s1,s2,s3,s4,s5,s6,s7,s8,s9,s10,s11,s12,s13,s14,s15⟩
                    go_simp
                    with_reducible rfl
                   rotate_left
                   ·simp only [Act.put,List.setIfInBounds_toArray,List.set_cons_zero,List.set_cons_succ,i64_w,i32_w]
                    rfl
                   refine one_ (i:=11) (N:=some 71) #[true,true,true,true,true,true,true,true,true,true,true,true,true,true,true,true,true,true,true,true,true,true,true,true,false,false] rfl rfl (one_of HT_.out (by kernel_rfl)) (by decide) (fun K hK=>?_)
                   refine goes_ Try.func31 (by kernel_rfl) rfl #[.agg #[.slice (some ad186) l0_0.length c0_0],.int .i64 x3_2,.int .i64 x6_4] (by rfl) rfl rfl (by (try simp only [List.map_toArray,List.map_cons,List.map_nil]);first|done|rfl|(simp only [List.length_drop,List.length_take];rfl)) ?_
                   with_reducible refine (coronerref04_earlier.calls (fun k_=>k_ < w.heap.size) _ _ l0_0 x3_2 x6_4 t193 _ ?side1 A34.out).mono ?_
                   (case side1=>exact Kd.V_mk HC0_0.out (Kd.F_below (Kd.C_F k42_heap HR0_0.out) (by repeat (first|(with_reducible first|exact HB.out|apply below_alloc|apply pw_below_drewN|apply below_drew1|refine below_set ?_ GE183.out|refine below_set ?_ GE187.out)|exact HB.out))))
                   rintro e w48 ⟨v194,rfl,ho0,hb⟩
                   refine ⟨_,rfl,?_⟩
                   have n0_:=Aside0.mk (Kd.N_lower (Kd.N_mono (ok':=fun k_=>k_ ≠ gb183∧k_ ≠ gb187) ho0 (fun k_ hk_=>⟨Or.elim hk_ (fun hs_=>fun e_=>Nat.not_le.2 hs_ (by rw [e_];exact GW183.out)) (fun hn_=>(Kd.freshB (g:=gb183) (o:=.cells #[.slice (some ad186) l0_0.length c0_0] 24 (0,0)) (by (with_reducible repeat (first|refine blk_drewN ?_ _|refine blk_drew ?_|refine blk_alloc ?_ _));exact BK183.out) k_ hn_)),Or.elim hk_ (fun hs_=>fun e_=>Nat.not_le.2 hs_ (by rw [e_];exact GW187.out)) (fun hn_=>(Kd.freshB (g:=gb187) (o:=.cells #[.int .i64 ((rd_T42 l0_0 x3_2).f0),.bool ((rd_T42 l0_0 x3_2).f1),.slice (some ad190) ((rd_T42 l0_0 x3_2).f2).length c186_2] 42 (0,0)) (by (with_reducible repeat (first|refine blk_drewN ?_ _|refine blk_drew ?_|refine blk_alloc ?_ _));exact BK187.out) k_ hn_))⟩)) (below_size (by repeat (first|(with_reducible first|exact HB.out|apply below_alloc|apply pw_below_drewN|apply below_drew1|refine below_set ?_ GE183.out|refine below_set ?_ GE187.out)|exact HB.out))))
                   have n1_:=Aside0.mk (blk_below (g:=gb183) (o:=.cells #[.slice (some ad186) l0_0.length c0_0] 24 (0,0)) (by (with_reducible repeat (first|refine blk_drewN ?_ _|refine blk_drew ?_|refine blk_alloc ?_ _));exact BK183.out) hb)
                   have n2_:=Aside0.mk (blk_below (g:=gb187) (o:=.cells #[.int .i64 ((rd_T42 l0_0 x3_2).f0),.bool ((rd_T42 l0_0 x3_2).f1),.slice (some ad190) ((rd_T42 l0_0 x3_2).f2).length c186_2] 42 (0,0)) (by (with_reducible repeat (first|refine blk_drewN ?_ _|refine blk_drew ?_|refine blk_alloc ?_ _));exact BK187.out) hb)
                   have n3_:=Aside0.mk (below_step (by repeat (first|(with_reducible first|exact HB.out|apply below_alloc|apply pw_below_drewN|apply below_drew1|refine below_set ?_ GE183.out|refine below_set ?_ GE187.out)|exact HB.out)) hb)
                   clear BK183
                   clear BK187
                   clear HB
                   have HO195:=n0_
                   have BK183:=n1_
                   have BK187:=n2_
                   have HB:=n3_
                   clear n0_ n1_ n2_ n3_
                   (try clear hb)
                   (try clear hb2)
                   (try clear hk)
                   (try clear hi)
                   (try clear ho0)
                   obtain ⟨Ao49,co49,eo49⟩:=Kd.N_slice HO195.out
                   (first|subst eo49|(injection eo49 with f1_ f2_ f3_;have f4_:=f1_.symm;have f5_:=f3_.symm;clear f1_ f2_ f3_;subst f4_;subst f5_))
                   refine hK.out _ _ ⟨(blk_cell BK187.out 0).trans rfl,(blk_cell BK187.out 1).trans rfl,(blk_cell BK187.out 2).trans rfl,(blk_cell BK183.out 0).trans rfl,((HB.out.cell (World.block_lt_of_cell? w _ hw192_0)).trans hw192_0),((HB.out.cell (World.block_lt_of_cell? w _ hw192_1)).trans hw192_1),((HB.out.cell (World.block_lt_of_cell? w _ hw192_2)).trans hw192_2),((HB.out.cell (World.block_lt_of_cell? w _ hw192_3)).trans hw192_3),((HB.out.cell (World.block_lt_of_cell? w _ hw196_0)).trans hw196_0),((HB.out.cell (World.block_lt_of_cell? w _ hw196_1)).trans hw196_1),((HB.out.cell (World.block_lt_of_cell? w _ hw196_2)).trans hw196_2),((HB.out.cell (World.block_lt_of_cell? w _ hw196_3)).trans hw196_3),((HB.out.cell (World.block_lt_of_cell? w _ hw197_0)).trans hw197_0),((HB.out.cell (World.block_lt_of_cell? w _ hw197_1)).trans hw197_1),((HB.out.cell (World.block_lt_of_cell? w _ hw197_2)).trans hw197_2),((HB.out.cell (World.block_lt_of_cell? w _ hw197_3)).trans hw197_3)⟩ (fun hHeld=>?_)
                   clear hK K
                   refine norm_ (a':=?_) ?_ ?_
                   rotate_left
                   ·show Act.put _ (some 71) _=_
                    simp only [Act.put,List.setIfInBounds_toArray,List.set_cons_zero,List.set_cons_succ,i64_w,i32_w]
                    rfl
                   refine one_ (i:=24) (N:=some 84) #[true,true,true,true,true,true,true,true,true,true,true,true,true,true,true,true,true,true,true,true,true,true,true,true,true,false] rfl rfl (one_of HT_.out (by kernel_rfl)) (by decide) (fun K hK=>?_)
                   refine goes_ Try.func30 (by kernel_rfl) rfl #[.agg #[.slice Ao49 t193.length co49],.int .i64 ((rd_T39 ((rd_T42 l0_0 x3_2).f2) x6_4).f1),.int .i64 ((rd_T39 ((rd_T42 l0_0 x3_2).f2) x6_4).f2)] (by rfl) rfl rfl (by (try simp only [List.map_toArray,List.map_cons,List.map_nil]);first|done|rfl|(simp only [List.length_drop,List.length_take];rfl)) ?_
                   with_reducible refine (coronerref03_Appended.calls k4 _ _ t193 ((rd_T39 ((rd_T42 l0_0 x3_2).f2) x6_4).f1) ((rd_T39 ((rd_T42 l0_0 x3_2).f2) x6_4).f2) false _ ?side1 ?side2 A35.out).mono ?_
                   (case side1=>repeat (first|exact (Kd.N_reads' HO195.out).2.2|(with_reducible refine Kd.C_alloc ?_ _)|(with_reducible refine Kd.C_drewN ?_ _)|(with_reducible refine Kd.C_drew ?_)))
                   (case side2=>exact (Kd.N_reads' HO195.out).2.1)
                   rintro e w50 ⟨rfl,hb⟩
                   refine ⟨_,rfl,?_⟩
                   have n0_:=Aside0.mk (Kd.N_below (by (with_reducible repeat (first|apply Kd.N_alloc|apply Kd.N_drewN|apply Kd.N_drew));exact HO195.out) hb)
                   have n1_:=Aside0.mk (blk_below (g:=gb183) (o:=.cells #[.slice (some ad186) l0_0.length c0_0] 24 (0,0)) (by (with_reducible repeat (first|refine blk_drewN ?_ _|refine blk_drew ?_|refine blk_alloc ?_ _));exact BK183.out) hb)
                   have n2_:=Aside0.mk (blk_below (g:=gb187) (o:=.cells #[.int .i64 ((rd_T42 l0_0 x3_2).f0),.bool ((rd_T42 l0_0 x3_2).f1),.slice (some ad190) ((rd_T42 l0_0 x3_2).f2).length c186_2] 42 (0,0)) (by (with_reducible repeat (first|refine blk_drewN ?_ _|refine blk_drew ?_|refine blk_alloc ?_ _));exact BK187.out) hb)
                   have n3_:=Aside0.mk (below_step (by repeat (first|(with_reducible first|exact HB.out|apply below_alloc|apply pw_below_drewN|apply below_drew1|refine below_set ?_ GE183.out|refine below_set ?_ GE187.out)|exact HB.out)) hb)
                   clear HO195
                   clear BK183
                   clear BK187
                   clear HB
                   have HO195:=n0_
                   have BK183:=n1_
                   have BK187:=n2_
                   have HB:=n3_
                   clear n0_ n1_ n2_ n3_
                   (try clear hb)
                   (try clear hb2)
                   (try clear hk)
                   (try clear hi)
                   refine hK.out _ _ ⟨(blk_cell BK187.out 0).trans rfl,(blk_cell BK187.out 1).trans rfl,(blk_cell BK187.out 2).trans rfl,(blk_cell BK183.out 0).trans rfl,((HB.out.cell (World.block_lt_of_cell? w _ hw192_0)).trans hw192_0),((HB.out.cell (World.block_lt_of_cell? w _ hw192_1)).trans hw192_1),((HB.out.cell (World.block_lt_of_cell? w _ hw192_2)).trans hw192_2),((HB.out.cell (World.block_lt_of_cell? w _ hw192_3)).trans hw192_3),((HB.out.cell (World.block_lt_of_cell? w _ hw196_0)).trans hw196_0),((HB.out.cell (World.block_lt_of_cell? w _ hw196_1)).trans hw196_1),((HB.out.cell (World.block_lt_of_cell? w _ hw196_2)).trans hw196_2),((HB.out.cell (World.block_lt_of_cell? w _ hw196_3)).trans hw196_3),((HB.out.cell (World.block_lt_of_cell? w _ hw197_0)).trans hw197_0),((HB.out.cell (World.block_lt_of_cell? w _ hw197_1)).trans hw197_1),((HB.out.cell (World.block_lt_of_cell? w _ hw197_2)).trans hw197_2),((HB.out.cell (World.block_lt_of_cell? w _ hw197_3)).trans hw197_3)⟩ (fun hHeld=>?_)
                   clear hK K
                   refine norm_ (a':=?_) ?_ ?_
                   rotate_left
                   ·show Act.put _ (some 84) _=_
                    simp only [Act.put,List.setIfInBounds_toArray,List.set_cons_zero,List.set_cons_succ,i64_w,i32_w]
                    rfl
                   refine pure_ (i:=25) (N:=some 85) (v:=?_) (a':=?_) #[true,true,true,true,true,true,true,true,true,true,true,true,true,true,true,true,true,true,true,true,true,true,true,true,true,true] rfl rfl (any_of HT_.out (by kernel_rfl)) (fun _ _ _ h=>h) (Or.inl ⟨by rfl,?_⟩) ?_ ?_
                   rotate_left
                   ·intro w'
                    go_simp
                    with_reducible rfl
                   rotate_left
                   ·simp only [Act.put,List.setIfInBounds_toArray,List.set_cons_zero,List.set_cons_succ,i64_w,i32_w]
                    rfl
                   refine done_ (done_of HT_.out (by kernel_rfl)) ?_
                   try go_wp2
                   go_roundg k4
                   case measure=>have:=HJ1.out;have:=HK2.out;have:=HK3.out;have:=HK4.out;omega
                   case rel=>exact ⟨(wrap64 (x6_4+1)),(by first|rfl|(simp;done)|(simp [*];done)),H',⟨by have:=HJ1.out;have:=HK2.out;have:=HK3.out;have:=HK4.out;omega⟩,⟨by (with_reducible repeat (first|refine blk_drewN ?_ _|refine blk_drew ?_|refine blk_alloc ?_ _));exact BK183.out⟩,⟨by (with_reducible repeat (first|refine blk_drewN ?_ _|refine blk_drew ?_|refine blk_alloc ?_ _));exact BK187.out⟩,⟨by repeat (first|(with_reducible first|exact HB.out|apply below_alloc|apply pw_below_drewN|apply below_drew1|refine below_set ?_ GE183.out|refine below_set ?_ GE187.out)|exact HB.out)⟩⟩
                ·replace c27:=Bool.eq_false_iff.mpr c27
                 subst c27
                 have H1:(some 2)=some r:=by rw [if_neg (show ¬ (false=true) by decide)] at H;exact H
                 clear H
                 have H:=H1
                 clear H1
                 obtain rfl:=Option.some.inj H
                 have hnb51:=NB187_183.out
                 have hnc51:=NB183_187.out
                 have hcz52_0:wr.cell? ⟨gb187,0,none⟩=some (.int .i64 ((rd_T42 l0_0 x3_2).f0)):=(blk_cell BK187.out 0).trans rfl
                 have hcz52_1:wr.cell? ⟨gb187,1,none⟩=some (.bool ((rd_T42 l0_0 x3_2).f1)):=(blk_cell BK187.out 1).trans rfl
                 have hcz52_2:wr.cell? ⟨gb187,2,none⟩=some (.slice A186_2 ((rd_T42 l0_0 x3_2).f2).length c186_2):=(blk_cell BK187.out 2).trans rfl
                 have hfz52_0:=blk_frozen BK187.out 0
                 have hfz52_1:=blk_frozen BK187.out 1
                 have hfz52_2:=blk_frozen BK187.out 2
                 have p190:0≤(x6_4:Int):=of_decide_eq_true (by first|(with_reducible assumption)|assumption)
                 have q190:x6_4 < (((rd_T42 l0_0 x3_2).f2).length:Int):=of_decide_eq_true (by first|(with_reducible assumption)|assumption)
                 obtain ⟨ad190,A190_3,c190_3,e190,hx190_0,hx190_1,hx190_2,hx190_3,hl190_3,hi190_3⟩:=at_T39 HR186_2.out x6_4 p190 q190
                 cases e190
                 replace hx190_0:=(HB.out.cell (World.block_lt_of_cell? w _ hx190_0)).trans hx190_0
                 replace hx190_1:=(HB.out.cell (World.block_lt_of_cell? w _ hx190_1)).trans hx190_1
                 replace hx190_2:=(HB.out.cell (World.block_lt_of_cell? w _ hx190_2)).trans hx190_2
                 replace hx190_3:=(HB.out.cell (World.block_lt_of_cell? w _ hx190_3)).trans hx190_3
                 have HR190_3:=Aside0.mk hi190_3
                 have HC190_3:=Aside0.mk hl190_3
                 clear hi190_3 hl190_3
                 replace p190:=eq_true p190
                 replace q190:=eq_true q190
                 go_wp2_with (first|((with_reducible refine gate_callee (f:=29) rfl ?_);refine goesL_ (some 58) rfl rfl Try.func29 (by kernel_rfl) rfl #[.agg #[.bool ((rd_T39 ((rd_T42 l0_0 x3_2).f2) x6_4).f0),.int .i64 ((rd_T39 ((rd_T42 l0_0 x3_2).f2) x6_4).f1),.int .i64 ((rd_T39 ((rd_T42 l0_0 x3_2).f2) x6_4).f2),.slice A190_3 ((rd_T39 ((rd_T42 l0_0 x3_2).f2) x6_4).f3).length c190_3]] rfl (by (try simp only [List.map_toArray,List.map_cons,List.map_nil]);first|done|rfl|(simp only [List.length_drop,List.length_take];rfl)) ?_;(with_reducible refine (coronerref04_mayOp.calls k4 ((rd_T39 ((rd_T42 l0_0 x3_2).f2) x6_4).f0) ((rd_T39 ((rd_T42 l0_0 x3_2).f2) x6_4).f1) ((rd_T39 ((rd_T42 l0_0 x3_2).f2) x6_4).f2) _ _ ((rd_T39 ((rd_T42 l0_0 x3_2).f2) x6_4).f3) false _ ?side1 ?side2 A26.out).mono ?_);(case side1=>repeat (first|exact (Kd.C_below HR190_3.out HB.out)|(with_reducible refine Kd.C_alloc ?_ _)|(with_reducible refine Kd.C_drewN ?_ _)|(with_reducible refine Kd.C_drew ?_)));(case side2=>exact HC190_3.out);rintro e w53 ⟨rfl,hb⟩;refine ⟨_,rfl,?_⟩;have n0_:=Aside0.mk (blk_below (g:=gb183) (o:=.cells #[.slice (some ad186) l0_0.length c0_0] 24 (0,0)) (by (with_reducible repeat (first|refine blk_drewN ?_ _|refine blk_drew ?_|refine blk_alloc ?_ _));exact BK183.out) hb);have n1_:=Aside0.mk (blk_below (g:=gb187) (o:=.cells #[.int .i64 ((rd_T42 l0_0 x3_2).f0),.bool ((rd_T42 l0_0 x3_2).f1),.slice (some ad190) ((rd_T42 l0_0 x3_2).f2).length c186_2] 42 (0,0)) (by (with_reducible repeat (first|refine blk_drewN ?_ _|refine blk_drew ?_|refine blk_alloc ?_ _));exact BK187.out) hb);have n2_:=Aside0.mk (below_step (by repeat (first|(with_reducible first|exact HB.out|apply below_alloc|apply pw_below_drewN|apply below_drew1|refine below_set ?_ GE183.out|refine below_set ?_ GE187.out)|exact HB.out)) hb);clear BK183;clear BK187;clear HB;have BK183:=n0_;have BK187:=n1_;have HB:=n2_;clear n0_ n1_ n2_;(try clear hb);(try clear hb2);(try clear hk);(try clear hi)))
                 go_ret
                 exact ⟨by first|rfl|(simp [errW_none,errW_some] <;> rfl)|(simp [*,errW_none,errW_some] <;> rfl),by repeat (first|(with_reducible first|exact HB.out|apply below_alloc|apply pw_below_drewN|apply below_drew1|refine below_set ?_ GE183.out|refine below_set ?_ GE187.out)|exact HB.out)⟩
               ·rw [if_neg c25] at H
                exact absurd H (by simp)
              ·rw [if_neg c24] at H
               have c24b0:decide (x6_4 < (((rd_T42 l0_0 x3_2).f2).length:Int))=false:=decide_eq_false c24
               clear c24
               have H':=Aside0.mk H
               clear H
               have hnb54:=NB187_183.out
               have hnc54:=NB183_187.out
               have hcz55_0:wr.cell? ⟨gb187,0,none⟩=some (.int .i64 ((rd_T42 l0_0 x3_2).f0)):=(blk_cell BK187.out 0).trans rfl
               have hcz55_1:wr.cell? ⟨gb187,1,none⟩=some (.bool ((rd_T42 l0_0 x3_2).f1)):=(blk_cell BK187.out 1).trans rfl
               have hcz55_2:wr.cell? ⟨gb187,2,none⟩=some (.slice A186_2 ((rd_T42 l0_0 x3_2).f2).length c186_2):=(blk_cell BK187.out 2).trans rfl
               have hfz55_0:=blk_frozen BK187.out 0
               have hfz55_1:=blk_frozen BK187.out 1
               have hfz55_2:=blk_frozen BK187.out 2
               go_wp2
               go_roundg k4
               case measure=>have:=HJ1.out;have:=HK2.out;have:=HK3.out;have:=HK4.out;omega
               case rel=>exact ⟨(wrap64 (x3_2+1)),(by first|rfl|(simp;done)|(simp [*];done)),H',⟨by have:=HJ1.out;have:=HK2.out;have:=HK3.out;have:=HK4.out;omega⟩,⟨by (with_reducible repeat (first|refine blk_drewN ?_ _|refine blk_drew ?_|refine blk_alloc ?_ _));exact BK183.out⟩,⟨by repeat (first|(with_reducible first|exact HB.out|apply below_alloc|apply pw_below_drewN|apply below_drew1|refine below_set ?_ GE183.out|refine below_set ?_ GE187.out)|exact HB.out)⟩⟩
        ·replace c13:=Bool.eq_false_iff.mpr c13
         subst c13
         have H1:(some 2)=some r:=by rw [if_neg (show ¬ (false=true) by decide)] at H;exact H
         clear H
         have H:=H1
         clear H1
         obtain rfl:=Option.some.inj H
         have hcz56_0:wr.cell? ⟨gb183,0,none⟩=some (.slice A0_0 l0_0.length c0_0):=(blk_cell BK183.out 0).trans rfl
         have hfz56_0:=blk_frozen BK183.out 0
         have p186:0≤(x3_2:Int):=of_decide_eq_true (by first|(with_reducible assumption)|assumption)
         have q186:x3_2 < (l0_0.length:Int):=of_decide_eq_true (by first|(with_reducible assumption)|assumption)
         obtain ⟨ad186,A186_2,c186_2,e186,hx186_0,hx186_1,hx186_2,hl186_2,hi186_2⟩:=at_T42 HR0_0.out x3_2 p186 q186
         cases e186
         replace hx186_0:=(HB.out.cell (World.block_lt_of_cell? w _ hx186_0)).trans hx186_0
         replace hx186_1:=(HB.out.cell (World.block_lt_of_cell? w _ hx186_1)).trans hx186_1
         replace hx186_2:=(HB.out.cell (World.block_lt_of_cell? w _ hx186_2)).trans hx186_2
         have HR186_2:=Aside0.mk hi186_2
         have HC186_2:=Aside0.mk hl186_2
         clear hi186_2 hl186_2
         replace p186:=eq_true p186
         replace q186:=eq_true q186
         go_wp2_with (first|((with_reducible refine gate_dst (N:=4) rfl ?_);refine box_event ?hg (N:=4) ?hd (cs:=#[.int .i64 0,.bool false,.slice none 0 0]) (t:=42) ?hr ?_;(case hd=>rfl);(case hg=>rfl);(case hr=>first|(go_simp;done)|(go_simp;rfl));intro gb187 hg w57 hbox hb;have n0_:=Aside0.mk (blk_below (g:=gb183) (o:=.cells #[.slice (some ad186) l0_0.length c0_0] 24 (0,0)) (by (with_reducible repeat (first|refine blk_drewN ?_ _|refine blk_drew ?_|refine blk_alloc ?_ _));exact BK183.out) hb);have n1_:=Aside0.mk (below_step (by repeat (first|(with_reducible first|exact HB.out|apply below_alloc|apply pw_below_drewN|apply below_drew1|refine below_set ?_ GE183.out)|exact HB.out)) hb);have n2_:=Aside0.mk (hbox);have n3_:=Aside0.mk ((by rw [hg];exact (below_size (by repeat (first|(with_reducible first|exact HB.out|apply below_alloc|apply pw_below_drewN|apply below_drew1|refine below_set ?_ GE183.out)|exact HB.out))):w.heap.size≤gb187));have n4_:=Aside0.mk ((by rw [hg];exact (below_size (by repeat (first|(with_reducible first|exact HB.out|apply below_alloc|apply pw_below_drewN|apply below_drew1|refine below_set ?_ GE183.out)|exact HB.out))):w.heap.size≤gb187));have n5_:=Aside0.mk ((by rw [hg];exact Nat.ne_of_lt (blk_lt (g:=gb183) (o:=.cells #[.slice (some ad186) l0_0.length c0_0] 24 (0,0)) (by (with_reducible repeat (first|refine blk_drewN ?_ _|refine blk_drew ?_|refine blk_alloc ?_ _));exact BK183.out)):gb183 ≠ gb187));have n6_:=Aside0.mk ((by rw [hg];exact Nat.ne_of_gt (blk_lt (g:=gb183) (o:=.cells #[.slice (some ad186) l0_0.length c0_0] 24 (0,0)) (by (with_reducible repeat (first|refine blk_drewN ?_ _|refine blk_drew ?_|refine blk_alloc ?_ _));exact BK183.out)):gb187 ≠ gb183));clear BK183;clear HB;have BK183:=n0_;have HB:=n1_;have BK187:=n2_;have GW187:=n3_;have GE187:=n4_;have NB183_187:=n5_;have NB187_183:=n6_;clear n0_ n1_ n2_ n3_ n4_ n5_ n6_;clear hb hbox hg;have hnb58:=NB187_183.out;have hnc58:=NB183_187.out;have hcz59_0:w57.cell? ⟨gb187,0,none⟩=some (.int .i64 0):=(blk_cell BK187.out 0).trans rfl;have hcz59_1:w57.cell? ⟨gb187,1,none⟩=some (.bool false):=(blk_cell BK187.out 1).trans rfl;have hcz59_2:w57.cell? ⟨gb187,2,none⟩=some (.slice none 0 0):=(blk_cell BK187.out 2).trans rfl;have hfz59_0:=blk_frozen BK187.out 0;have hfz59_1:=blk_frozen BK187.out 1;have hfz59_2:=blk_frozen BK187.out 2)|((with_reducible refine gate_callee (f:=28) rfl ?_);refine goesL_ (some 30) rfl rfl Try.func28 (by kernel_rfl) rfl #[.int .i64 ((rd_T42 l0_0 x3_2).f0)] rfl (by (try simp only [List.map_toArray,List.map_cons,List.map_nil]);first|done|rfl|(simp only [List.length_drop,List.length_take];rfl)) ?_;(with_reducible refine (coronerref04_may.calls ((rd_T42 l0_0 x3_2).f0) false _ A12.out).mono ?_);rintro e w' ⟨rfl,⟨nd,rfl⟩⟩;refine ⟨_,rfl,?_⟩))
         go_ret
         exact ⟨by first|rfl|(simp [errW_none,errW_some] <;> rfl)|(simp [*,errW_none,errW_some] <;> rfl),by repeat (first|(with_reducible first|exact HB.out|apply below_alloc|apply pw_below_drewN|apply below_drew1|refine below_set ?_ GE183.out|refine below_set ?_ GE187.out)|exact HB.out)⟩
       ·rw [if_neg c11] at H
        exact absurd H (by simp)
      ·rw [if_neg c10] at H
       have c10b0:decide (x3_2 < (l0_0.length:Int))=false:=decide_eq_false c10
       clear c10
       replace H:=Option.bind_eq_some_iff.mp H
       obtain ⟨t185,A600,H⟩:=H
       replace H:(if (t185.size:Int) > 262144 then (some 3) else (some 0))=some r:=H
       have A60:=Aside0.mk A600
       clear A600
       by_cases c61:(t185.size:Int) > 262144
       ·rw [if_pos c61] at H
        have c61b0:decide (262144 < (t185.size:Int))=true:=decide_eq_true c61
        have c61b1:decide (262144 < t185.size)=true:=decide_eq_true (by omega)
        clear c61
        obtain rfl:=Option.some.inj H
        have hcz62_0:wr.cell? ⟨gb183,0,none⟩=some (.slice A0_0 l0_0.length c0_0):=(blk_cell BK183.out 0).trans rfl
        have hfz62_0:=blk_frozen BK183.out 0
        go_wp2_with (first|((with_reducible refine gate_callee (f:=18) rfl ?_);refine goesL_ (some 87) rfl rfl Try.func18 (by kernel_rfl) rfl #[.agg #[.slice A0_0 l0_0.length c0_0]] rfl (by (try simp only [List.map_toArray,List.map_cons,List.map_nil]);first|done|rfl|(simp only [List.length_drop,List.length_take];rfl)) ?_;(with_reducible refine (coronerref04_Text.calls k2 _ _ l0_0 t185 _ ?side1 ?side2 A60.out).mono ?_);(case side1=>repeat (first|exact (Kd.C_below HR0_0.out HB.out)|(with_reducible refine Kd.C_alloc ?_ _)|(with_reducible refine Kd.C_drewN ?_ _)|(with_reducible refine Kd.C_drew ?_)));(case side2=>exact HC0_0.out);rintro e w63 ⟨rfl,hb⟩;refine ⟨_,rfl,?_⟩;have n0_:=Aside0.mk (blk_below (g:=gb183) (o:=.cells #[.slice A0_0 l0_0.length c0_0] 24 (0,0)) (by (with_reducible repeat (first|refine blk_drewN ?_ _|refine blk_drew ?_|refine blk_alloc ?_ _));exact BK183.out) hb);have n1_:=Aside0.mk (below_step (by repeat (first|(with_reducible first|exact HB.out|apply below_alloc|apply pw_below_drewN|apply below_drew1|refine below_set ?_ GE183.out)|exact HB.out)) hb);clear BK183;clear HB;have BK183:=n0_;have HB:=n1_;clear n0_ n1_;(try clear hb);(try clear hb2);(try clear hk);(try clear hi)))
        go_ret
        exact ⟨by first|rfl|(simp [errW_none,errW_some] <;> rfl)|(simp [*,errW_none,errW_some] <;> rfl),by repeat (first|(with_reducible first|exact HB.out|apply below_alloc|apply pw_below_drewN|apply below_drew1|refine below_set ?_ GE183.out)|exact HB.out)⟩
       ·rw [if_neg c61] at H
        have c61b0:decide (262144 < (t185.size:Int))=false:=decide_eq_false c61
        have c61b1:decide (262144 < t185.size)=false:=decide_eq_false (by omega)
        clear c61
        obtain rfl:=Option.some.inj H
        have hcz64_0:wr.cell? ⟨gb183,0,none⟩=some (.slice A0_0 l0_0.length c0_0):=(blk_cell BK183.out 0).trans rfl
        have hfz64_0:=blk_frozen BK183.out 0
        go_wp2_with (first|((with_reducible refine gate_callee (f:=18) rfl ?_);refine goesL_ (some 87) rfl rfl Try.func18 (by kernel_rfl) rfl #[.agg #[.slice A0_0 l0_0.length c0_0]] rfl (by (try simp only [List.map_toArray,List.map_cons,List.map_nil]);first|done|rfl|(simp only [List.length_drop,List.length_take];rfl)) ?_;(with_reducible refine (coronerref04_Text.calls k2 _ _ l0_0 t185 _ ?side1 ?side2 A60.out).mono ?_);(case side1=>repeat (first|exact (Kd.C_below HR0_0.out HB.out)|(with_reducible refine Kd.C_alloc ?_ _)|(with_reducible refine Kd.C_drewN ?_ _)|(with_reducible refine Kd.C_drew ?_)));(case side2=>exact HC0_0.out);rintro e w65 ⟨rfl,hb⟩;refine ⟨_,rfl,?_⟩;have n0_:=Aside0.mk (blk_below (g:=gb183) (o:=.cells #[.slice A0_0 l0_0.length c0_0] 24 (0,0)) (by (with_reducible repeat (first|refine blk_drewN ?_ _|refine blk_drew ?_|refine blk_alloc ?_ _));exact BK183.out) hb);have n1_:=Aside0.mk (below_step (by repeat (first|(with_reducible first|exact HB.out|apply below_alloc|apply pw_below_drewN|apply below_drew1|refine below_set ?_ GE183.out)|exact HB.out)) hb);clear BK183;clear HB;have BK183:=n0_;have HB:=n1_;clear n0_ n1_;(try clear hb);(try clear hb2);(try clear hk);(try clear hi)))
        go_ret
        exact ⟨by first|rfl|(simp [errW_none,errW_some] <;> rfl)|(simp [*,errW_none,errW_some] <;> rfl),by repeat (first|(with_reducible first|exact HB.out|apply below_alloc|apply pw_below_drewN|apply below_drew1|refine below_set ?_ GE183.out)|exact HB.out)⟩
end Go.Proofs.Ytlcioegdmopppaa.PEncodeBack
