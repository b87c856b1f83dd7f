/- Printed by shake.py. -/
import Derived.Test.YtlcioegdmopppaaShE21
import Derived.Test.YtlcioegdmopppaaShE24
namespace Go.Proofs.Ytlcioegdmopppaa.PEncodeBack
open Go.RowKit Go.Proofs.YtlcioegdmopppaaW.PrintWords Go.Proofs.YtlcioegdmopppaaW.PrintLast Go.Proofs.YtlcioegdmopppaaW.PrintMore
attribute [local go_sem] max2_int min2_int max_two min_two max_three min_three max_four min_four
set_option linter.unusedVariables false
set_option linter.unusedSimpArgs false
mutual
def coronerref03_Same.l0:Nat→Int→List (S42)→List (S42)→Option (Bool)
 | 0,_,_,_=>none
 | k+1,x5,x338000,x339000=>if x5 < (x338000.length:Int) then (if 0≤x5 then (if x5 < (x339000.length:Int) then (if ((rd_T42 x338000 x5).f0)=((rd_T42 x339000 x5).f0) then (if (((rd_T42 x338000 x5).f1) != ((rd_T42 x339000 x5).f1))=true then (coronerref03_Same.j1 k x5 true x338000 x339000 ((rd_T42 x338000 x5).f0) ((rd_T42 x338000 x5).f1) ((rd_T42 x338000 x5).f2) ((rd_T42 x339000 x5).f0) ((rd_T42 x339000 x5).f1) ((rd_T42 x339000 x5).f2)) else (coronerref03_Same.j1 k x5 ((((rd_T42 x338000 x5).f2).length:Int) != (((rd_T42 x339000 x5).f2).length:Int)) x338000 x339000 ((rd_T42 x338000 x5).f0) ((rd_T42 x338000 x5).f1) ((rd_T42 x338000 x5).f2) ((rd_T42 x339000 x5).f0) ((rd_T42 x339000 x5).f1) ((rd_T42 x339000 x5).f2))) else (coronerref03_Same.j1 k x5 true x338000 x339000 ((rd_T42 x338000 x5).f0) ((rd_T42 x338000 x5).f1) ((rd_T42 x338000 x5).f2) ((rd_T42 x339000 x5).f0) ((rd_T42 x339000 x5).f1) ((rd_T42 x339000 x5).f2))) else (none)) else (none)) else (some true)
def coronerref03_Same.j1:Nat→Int→Bool→List (S42)→List (S42)→Int→Bool→List (S39)→Int→Bool→List (S39)→Option (Bool)
 | 0,_,_,_,_,_,_,_,_,_,_=>none
 | k+1,x5,x53,x338000,x339000,x342000,x342001,x342002,x343000,x343001,x343002=>if x53=true then (some false) else (coronerref03_Same.l1 k x5 0 x338000 x339000 x342000 x342001 x342002 x343000 x343001 x343002)
def coronerref03_Same.l1:Nat→Int→Int→List (S42)→List (S42)→Int→Bool→List (S39)→Int→Bool→List (S39)→Option (Bool)
 | 0,_,_,_,_,_,_,_,_,_,_=>none
 | k+1,x5,x8,x338000,x339000,x342000,x342001,x342002,x343000,x343001,x343002=>if x8 < (x342002.length:Int) then (if 0≤x8 then (if x8 < (x343002.length:Int) then ((coronerref03_sameOp.f k ((rd_T39 x342002 x8).f0) ((rd_T39 x342002 x8).f1) ((rd_T39 x342002 x8).f2) ((rd_T39 x342002 x8).f3) ((rd_T39 x343002 x8).f0) ((rd_T39 x343002 x8).f1) ((rd_T39 x343002 x8).f2) ((rd_T39 x343002 x8).f3)).bind fun t345=>(if t345=true then (coronerref03_Same.l1 k x5 (wrap64 (x8+1)) x338000 x339000 x342000 x342001 x342002 x343000 x343001 x343002) else (some false))) else (none)) else (none)) else (coronerref03_Same.l0 k (wrap64 (x5+1)) x338000 x339000)
end
def coronerref03_Same.f (k:Nat) (l0_0:List (S42)) (l1_0:List (S42)):Option (Bool):=if (l0_0.length:Int)=(l1_0.length:Int) then (coronerref03_Same.l0 k 0 l0_0 l1_0) else (some false)
def coronerref03_Same.T6:Bool × List (List Nat × List Nat):=(true,[([],[]),([0],[0]),([],[]),([1,2],[1,2]),([3],[3]),([],[]),([5],[5]),([],[]),([6,7],[6,7]),([8],[8]),([],[]),([],[]),([10,4,0,1,2,3,4,10,11],[4,10]),([11,9,12,0,1,2,3,4,5,6,7,8,9,10,11,12],[9,11])])
def coronerref03_Same.B6:List Nat:=[0,1,0,7,15,0,32,0,224,480,0,0,3103,8191]
theorem coronerref03_Same.tab6:rtab .any (opsOf Try.f22 6)=coronerref03_Same.T6:=by kernel_rfl
theorem coronerref03_Same.bits6:waitsOk coronerref03_Same.T6.2 coronerref03_Same.B6=true:=by kernel_rfl
def coronerref03_Same.T12:Bool × List (List Nat × List Nat):=(true,[([],[]),([0],[0]),([],[]),([1,2],[1,2]),([3],[3]),([],[]),([5],[5]),([],[]),([6,7],[6,7]),([8],[8]),([4,9],[4,9]),([10],[10])])
def coronerref03_Same.B12:List Nat:=[0,1,0,7,15,0,32,0,224,480,1023,2047]
theorem coronerref03_Same.tab12:rtab .any (opsOf Try.f22 12)=coronerref03_Same.T12:=by kernel_rfl
theorem coronerref03_Same.bits12:waitsOk coronerref03_Same.T12.2 coronerref03_Same.B12=true:=by kernel_rfl
set_option maxHeartbeats 8000000 in
set_option maxRecDepth 100000 in
theorem coronerref03_Same.calls (k:Nat) (A0_0:Option Addr) (c0_0:Nat) (l0_0:List (S42)) (A1_0:Option Addr) (c1_0:Nat) (l1_0:List (S42)) (r:Bool) (w:World) (hr0_0:Kd.C k42 w A0_0 l0_0.length l0_0) (hc0_0:l0_0.length≤c0_0) (hr1_0:Kd.C k42 w A1_0 l1_0.length l1_0) (hc1_0:l1_0.length≤c1_0) (h:coronerref03_Same.f k l0_0 l1_0=some r) :
 Calls Try.prog 22 #[.agg #[.slice A0_0 l0_0.length c0_0],.agg #[.slice A1_0 l1_0.length c1_0]] w fun e w'=>e=.returned (.bool r)∧Below w.heap.size w w':=by
 have hu24:=Try.underlying24
 have hu42:=Try.underlying42
 have hu39:=Try.underlying39
 have HR0_0:=Aside0.mk hr0_0
 have HC0_0:=Aside0.mk hc0_0
 clear hr0_0 hc0_0
 have HR1_0:=Aside0.mk hr1_0
 have HC1_0:=Aside0.mk hc1_0
 clear hr1_0 hc1_0
 have HB:=Aside0.mk (Below.refl w.heap.size w)
 have H:(if (l0_0.length:Int)=(l1_0.length:Int) then (coronerref03_Same.l0 k 0 l0_0 l1_0) else (some false))=some r:=h
 clear h
 by_cases c3:(l0_0.length:Int)=(l1_0.length:Int)
 ·rw [if_pos c3] at H
  have c3b0:((l0_0.length:Int) == (l1_0.length:Int))=true:=beq_iff_eq.mpr c3
  have c3b1:((l0_0.length:Int) != (l1_0.length:Int))=false:=bne_eq_false_iff_eq.mpr c3
  have c3b2:(l0_0.length == l1_0.length)=true:=by first|simpa using c3|(simp at c3 ⊢;omega)
  clear c3
  have H':=Aside0.mk H
  clear H
  go_enter Try.func22,Try.ntmps22
  go_wp2_with (first|((with_reducible refine gate_dst (N:=2) rfl ?_);(try (refine gate_guard (by rfl) ?_;dsimp only));refine box_event ?hg (N:=2) ?hd (cs:=#[.slice A0_0 l0_0.length c0_0]) (t:=24) ?hr ?_;(case hd=>rfl);(case hg=>rfl);(case hr=>first|(go_simp;done)|(go_simp;rfl));intro gb337 hg w4 hbox hb;have n0_:=Aside0.mk (below_step (by repeat (first|(with_reducible first|exact HB.out|apply below_alloc|apply pw_below_drewN|apply below_drew1)|exact HB.out)) hb);have n1_:=Aside0.mk (hbox);have n2_:=Aside0.mk ((by rw [hg];exact (below_size (by repeat (first|(with_reducible first|exact HB.out|apply below_alloc|apply pw_below_drewN|apply below_drew1)|exact HB.out))):w.heap.size≤gb337));have n3_:=Aside0.mk ((by rw [hg];exact (below_size (by repeat (first|(with_reducible first|exact HB.out|apply below_alloc|apply pw_below_drewN|apply below_drew1)|exact HB.out))):w.heap.size≤gb337));clear HB;have HB:=n0_;have BK337:=n1_;have GW337:=n2_;have GE337:=n3_;clear n0_ n1_ n2_ n3_;clear hb hbox hg)|((with_reducible refine gate_dst (N:=3) rfl ?_);(try (refine gate_guard (by rfl) ?_;dsimp only));refine box_event ?hg (N:=3) ?hd (cs:=#[.slice A1_0 l1_0.length c1_0]) (t:=24) ?hr ?_;(case hd=>rfl);(case hg=>rfl);(case hr=>first|(go_simp;done)|(go_simp;rfl));intro gb338 hg w5 hbox hb;have n0_:=Aside0.mk (blk_below (g:=gb337) (o:=.cells #[.slice A0_0 l0_0.length c0_0] 24 (0,0)) (by (with_reducible repeat (first|refine blk_drewN ?_ _|refine blk_drew ?_|refine blk_alloc ?_ _));exact BK337.out) hb);have n1_:=Aside0.mk (below_step (by repeat (first|(with_reducible first|exact HB.out|apply below_alloc|apply pw_below_drewN|apply below_drew1|refine below_set ?_ GE337.out)|exact HB.out)) hb);have n2_:=Aside0.mk (hbox);have n3_:=Aside0.mk ((by rw [hg];exact (below_size (by repeat (first|(with_reducible first|exact HB.out|apply below_alloc|apply pw_below_drewN|apply below_drew1|refine below_set ?_ GE337.out)|exact HB.out))):w.heap.size≤gb338));have n4_:=Aside0.mk ((by rw [hg];exact (below_size (by repeat (first|(with_reducible first|exact HB.out|apply below_alloc|apply pw_below_drewN|apply below_drew1|refine below_set ?_ GE337.out)|exact HB.out))):w.heap.size≤gb338));have n5_:=Aside0.mk ((by rw [hg];exact Nat.ne_of_lt (blk_lt (g:=gb337) (o:=.cells #[.slice A0_0 l0_0.length c0_0] 24 (0,0)) (by (with_reducible repeat (first|refine blk_drewN ?_ _|refine blk_drew ?_|refine blk_alloc ?_ _));exact BK337.out)):gb337 ≠ gb338));have n6_:=Aside0.mk ((by rw [hg];exact Nat.ne_of_gt (blk_lt (g:=gb337) (o:=.cells #[.slice A0_0 l0_0.length c0_0] 24 (0,0)) (by (with_reducible repeat (first|refine blk_drewN ?_ _|refine blk_drew ?_|refine blk_alloc ?_ _));exact BK337.out)):gb338 ≠ gb337));clear BK337;clear HB;have BK337:=n0_;have HB:=n1_;have BK338:=n2_;have GW338:=n3_;have GE338:=n4_;have NB337_338:=n5_;have NB338_337:=n6_;clear n0_ n1_ n2_ n3_ n4_ n5_ n6_;clear hb hbox hg;have hnb6:=NB337_338.out;have hnc6:=NB338_337.out;have hcz7_0:w5.cell? ⟨gb337,0,none⟩=some (.slice A0_0 l0_0.length c0_0):=(blk_cell BK337.out 0).trans rfl;have hfz7_0:=blk_frozen BK337.out 0;have hcz8_0:w5.cell? ⟨gb338,0,none⟩=some (.slice A1_0 l1_0.length c1_0):=(blk_cell BK338.out 0).trans rfl;have hfz8_0:=blk_frozen BK338.out 0))
  go_loopg [5] k (fun kq v5 w'=>∃ (x5_1:Int),v5=.int .i64 x5_1∧Aside0 (coronerref03_Same.l0 kq x5_1 l0_0 l1_0=some r)∧Aside0 (kq≤k)∧Aside0 (w'.heap[gb337]?=some (.cells #[(.slice A0_0 l0_0.length c0_0)] 24 (0,0)))∧Aside0 (w'.heap[gb338]?=some (.cells #[(.slice A1_0 l1_0.length c1_0)] 24 (0,0)))∧Aside0 (Below w.heap.size w w'))
  case atStart=>exact ⟨(0),(by first|rfl|(simp;done)|(simp [*];done)),H',⟨Nat.le_refl _⟩,⟨by (with_reducible repeat (first|refine blk_drewN ?_ _|refine blk_drew ?_|refine blk_alloc ?_ _));exact BK337.out⟩,⟨by (with_reducible repeat (first|refine blk_drewN ?_ _|refine blk_drew ?_|refine blk_alloc ?_ _));exact BK338.out⟩,⟨by repeat (first|(with_reducible first|exact HB.out|apply below_alloc|apply pw_below_drewN|apply below_drew1|refine below_set ?_ GE337.out|refine below_set ?_ GE338.out)|exact HB.out)⟩⟩
  case round =>
   clear H'
   try clear c1
   try clear c2
   try clear p2
   try clear c3
   try clear c3b0
   try clear c3b1
   try clear c3b2
   try clear c6
   try clear hcz7_0
   try clear hcz8_0
   try clear hfz7_0
   try clear hfz8_0
   obtain ⟨x5_1,rfl,HA,HK1,BK337,BK338,HB⟩:=hrel
   cases gk with
   | zero=>exact absurd HA.out (by simp [coronerref03_Same.l0])
   | succ k1 =>
    have H:=HA.out
    clear HA
    simp only [coronerref03_Same.l0] at H
    by_cases c9:x5_1 < (l0_0.length:Int)
    ·rw [if_pos c9] at H
     have c9b0:decide (x5_1 < (l0_0.length:Int))=true:=decide_eq_true c9
     clear c9
     by_cases c10:0≤x5_1
     ·rw [if_pos c10] at H
      have c10b0:decide (0≤x5_1)=true:=decide_eq_true c10
      clear c10
      by_cases c11:x5_1 < (l1_0.length:Int)
      ·rw [if_pos c11] at H
       have c11b0:decide (x5_1 < (l1_0.length:Int))=true:=decide_eq_true c11
       clear c11
       have HC12:=Aside0.mk H
       clear H
       have hnb13:=NB337_338.out
       have hnc13:=NB338_337.out
       have hcz14_0:wr.cell? ⟨gb337,0,none⟩=some (.slice A0_0 l0_0.length c0_0):=(blk_cell BK337.out 0).trans rfl
       have hfz14_0:=blk_frozen BK337.out 0
       try go_wp2
       have n0_:=Aside0.mk (blk_drew BK337.out)
       have n1_:=Aside0.mk (blk_drew BK338.out)
       have n2_:=Aside0.mk (below_drew1 HB.out)
       clear BK337
       clear BK338
       clear HB
       have BK337:=n0_
       have BK338:=n1_
       have HB:=n2_
       clear n0_ n1_ n2_
       have p339:0≤(x5_1:Int):=of_decide_eq_true (by first|(with_reducible assumption)|assumption)
       have q339:x5_1 < (l0_0.length:Int):=of_decide_eq_true (by first|(with_reducible assumption)|assumption)
       obtain ⟨ad339,A339_2,c339_2,e339,hx339_0,hx339_1,hx339_2,hl339_2,hi339_2⟩:=at_T42 HR0_0.out x5_1 p339 q339
       have hw339_2:=hx339_2
       have hw339_1:=hx339_1
       have hw339_0:=hx339_0
       cases e339
       replace hx339_0:=(HB.out.cell (World.block_lt_of_cell? w _ hx339_0)).trans hx339_0
       replace hx339_1:=(HB.out.cell (World.block_lt_of_cell? w _ hx339_1)).trans hx339_1
       replace hx339_2:=(HB.out.cell (World.block_lt_of_cell? w _ hx339_2)).trans hx339_2
       have HR339_2:=Aside0.mk hi339_2
       have HC339_2:=Aside0.mk hl339_2
       clear hi339_2 hl339_2
       replace p339:=eq_true p339
       replace q339:=eq_true q339
       have p340:0≤(x5_1:Int):=of_decide_eq_true (by first|(with_reducible assumption)|assumption)
       have q340:x5_1 < (l1_0.length:Int):=of_decide_eq_true (by first|(with_reducible assumption)|assumption)
       obtain ⟨ad340,A340_2,c340_2,e340,hx340_0,hx340_1,hx340_2,hl340_2,hi340_2⟩:=at_T42 HR1_0.out x5_1 p340 q340
       have hw340_2:=hx340_2
       have hw340_1:=hx340_1
       have hw340_0:=hx340_0
       cases e340
       replace hx340_0:=(HB.out.cell (World.block_lt_of_cell? w _ hx340_0)).trans hx340_0
       replace hx340_1:=(HB.out.cell (World.block_lt_of_cell? w _ hx340_1)).trans hx340_1
       replace hx340_2:=(HB.out.cell (World.block_lt_of_cell? w _ hx340_2)).trans hx340_2
       have HR340_2:=Aside0.mk hi340_2
       have HC340_2:=Aside0.mk hl340_2
       clear hi340_2 hl340_2
       replace p340:=eq_true p340
       replace q340:=eq_true q340
       refine start_ (n:=14) (S:=fun w'=>w'.cell? ⟨gb337,0,none⟩=some (.slice (some ad339) l0_0.length c0_0)∧w'.cell? ⟨gb338,0,none⟩=some (.slice (some ad340) l1_0.length c1_0)∧w'.cell? (ad339.add ((x5_1).toNat * 3))=some (.int .i64 ((rd_T42 l0_0 x5_1).f0))∧w'.cell? ⟨(ad339.add ((x5_1).toNat * 3)).block,(ad339.add ((x5_1).toNat * 3)).off+1,none⟩=some (.bool ((rd_T42 l0_0 x5_1).f1))∧w'.cell? ⟨(ad339.add ((x5_1).toNat * 3)).block,(ad339.add ((x5_1).toNat * 3)).off+2,none⟩=some (.slice A339_2 ((rd_T42 l0_0 x5_1).f2).length c339_2)∧w'.cell? (ad340.add ((x5_1).toNat * 3))=some (.int .i64 ((rd_T42 l1_0 x5_1).f0))∧w'.cell? ⟨(ad340.add ((x5_1).toNat * 3)).block,(ad340.add ((x5_1).toNat * 3)).off+1,none⟩=some (.bool ((rd_T42 l1_0 x5_1).f1))∧w'.cell? ⟨(ad340.add ((x5_1).toNat * 3)).block,(ad340.add ((x5_1).toNat * 3)).off+2,none⟩=some (.slice A340_2 ((rd_T42 l1_0 x5_1).f2).length c340_2)) (ds:=[]) #[false,false,false,false,false,false,false,false,false,false,false,false,false,false] (by kernel_rfl) rfl rfl ⟨(blk_cell BK337.out 0).trans rfl,(blk_cell BK338.out 0).trans rfl,((HB.out.cell (World.block_lt_of_cell? w _ hw339_0)).trans hw339_0),((HB.out.cell (World.block_lt_of_cell? w _ hw339_1)).trans hw339_1),((HB.out.cell (World.block_lt_of_cell? w _ hw339_2)).trans hw339_2),((HB.out.cell (World.block_lt_of_cell? w _ hw340_0)).trans hw340_0),((HB.out.cell (World.block_lt_of_cell? w _ hw340_1)).trans hw340_1),((HB.out.cell (World.block_lt_of_cell? w _ hw340_2)).trans hw340_2)⟩ (fun hHeld=>?_);refine with_tabW coronerref03_Same.tab6 coronerref03_Same.bits6 (fun HT_ HW_=>?_)
       generalize wr.drew=w15 at BK337 BK338 HB HR339_2 HR340_2 hx339_0 hx339_1 hx339_2 hx340_0 hx340_1 hx340_2 hHeld ⊢
       refine pure_ (i:=0) (N:=some 23) (v:=?_) (a':=?_) #[true,false,false,false,false,false,false,false,false,false,false,false,false,false] rfl rfl (any_of HT_.out (by kernel_rfl)) (fun _ _ _ h=>h) (Or.inl ⟨by rfl,?_⟩) ?_ ?_
       rotate_left
       ·intro w'
        go_simp
        with_reducible rfl
       rotate_left
       ·simp only [Act.put,List.setIfInBounds_toArray,List.set_cons_zero,List.set_cons_succ,i64_w,i32_w]
        rfl
       refine pure_ (i:=2) (N:=some 25) (v:=?_) (a':=?_) #[true,false,true,false,false,false,false,false,false,false,false,false,false,false] rfl rfl (any_of HT_.out (by kernel_rfl)) (fun _ _ _ h=>h) (Or.inl ⟨by rfl,?_⟩) ?_ ?_
       rotate_left
       ·intro w'
        go_simp
        with_reducible rfl
       rotate_left
       ·simp only [Act.put,List.setIfInBounds_toArray,List.set_cons_zero,List.set_cons_succ,i64_w,i32_w]
        rfl
       refine pure_ (i:=5) (N:=some 28) (v:=?_) (a':=?_) #[true,false,true,false,false,true,false,false,false,false,false,false,false,false] rfl rfl (any_of HT_.out (by kernel_rfl)) (fun _ _ _ h=>h) (Or.inl ⟨by rfl,?_⟩) ?_ ?_
       rotate_left
       ·intro w'
        go_simp
        with_reducible rfl
       rotate_left
       ·simp only [Act.put,List.setIfInBounds_toArray,List.set_cons_zero,List.set_cons_succ,i64_w,i32_w]
        rfl
       refine pure_ (i:=7) (N:=some 30) (v:=?_) (a':=?_) #[true,false,true,false,false,true,false,true,false,false,false,false,false,false] rfl rfl (any_of HT_.out (by kernel_rfl)) (fun _ _ _ h=>h) (Or.inl ⟨by rfl,?_⟩) ?_ ?_
       rotate_left
       ·intro w'
        go_simp
        with_reducible rfl
       rotate_left
       ·simp only [Act.put,List.setIfInBounds_toArray,List.set_cons_zero,List.set_cons_succ,i64_w,i32_w]
        rfl
       refine take_ (i:=1) (N:=some 24) (v:=?_) (a':=?_) #[true,true,true,false,false,true,false,true,false,false,false,false,false,false] rfl rfl (take_ofW HT_.out HW_.out (by kernel_rfl)) (fun _ _ _ h=>h) (Or.inl ⟨by rfl,?_⟩) hHeld ?_ ?_
       rotate_left
       ·rintro w' ⟨s0,s1,s2,s3,s4,s5,s6,s7⟩
        go_simp
        with_reducible rfl
       rotate_left
       ·simp only [Act.put,List.setIfInBounds_toArray,List.set_cons_zero,List.set_cons_succ,i64_w,i32_w]
        rfl
       refine pure_ (i:=3) (N:=some 26) (v:=?_) (a':=?_) #[true,true,true,true,false,true,false,true,false,false,false,false,false,false] rfl rfl (any_of HT_.out (by kernel_rfl)) (fun _ _ _ h=>h) (Or.inl ⟨by rfl,?_⟩) ?_ ?_
       rotate_left
       ·intro w'
        go_simp
        with_reducible rfl
       rotate_left
       ·simp only [Act.put,List.setIfInBounds_toArray,List.set_cons_zero,List.set_cons_succ,i64_w,i32_w]
        rfl
       refine take_ (i:=4) (N:=some 27) (v:=?_) (a':=?_) #[true,true,true,true,true,true,false,true,false,false,false,false,false,false] rfl rfl (take_ofW HT_.out HW_.out (by kernel_rfl)) (fun _ _ _ h=>h) (Or.inl ⟨by rfl,?_⟩) hHeld ?_ ?_
       rotate_left
       ·rintro w' ⟨s0,s1,s2,s3,s4,s5,s6,s7⟩
        go_simp
        with_reducible rfl
       rotate_left
       ·simp only [Act.put,List.setIfInBounds_toArray,List.set_cons_zero,List.set_cons_succ,i64_w,i32_w]
        rfl
       refine take_ (i:=6) (N:=some 29) (v:=?_) (a':=?_) #[true,true,true,true,true,true,true,true,false,false,false,false,false,false] rfl rfl (take_ofW HT_.out HW_.out (by kernel_rfl)) (fun _ _ _ h=>h) (Or.inl ⟨by rfl,?_⟩) hHeld ?_ ?_
       rotate_left
       ·rintro w' ⟨s0,s1,s2,s3,s4,s5,s6,s7⟩
        go_simp
        with_reducible rfl
       rotate_left
       ·simp only [Act.put,List.setIfInBounds_toArray,List.set_cons_zero,List.set_cons_succ,i64_w,i32_w]
        rfl
       refine pure_ (i:=8) (N:=some 31) (v:=?_) (a':=?_) #[true,true,true,true,true,true,true,true,true,false,false,false,false,false] rfl rfl (any_of HT_.out (by kernel_rfl)) (fun _ _ _ h=>h) (Or.inl ⟨by rfl,?_⟩) ?_ ?_
       rotate_left
       ·intro w'
        go_simp
        with_reducible rfl
       rotate_left
       ·simp only [Act.put,List.setIfInBounds_toArray,List.set_cons_zero,List.set_cons_succ,i64_w,i32_w]
        rfl
       refine take_ (i:=9) (N:=some 32) (v:=?_) (a':=?_) #[true,true,true,true,true,true,true,true,true,true,false,false,false,false] rfl rfl (take_ofW HT_.out HW_.out (by kernel_rfl)) (fun _ _ _ h=>h) (Or.inl ⟨by rfl,?_⟩) hHeld ?_ ?_
       rotate_left
       ·rintro w' ⟨s0,s1,s2,s3,s4,s5,s6,s7⟩
        go_simp
        with_reducible rfl
       rotate_left
       ·simp only [Act.put,List.setIfInBounds_toArray,List.set_cons_zero,List.set_cons_succ,i64_w,i32_w]
        rfl
       refine join_ (σ:=Nat × Nat) 2 #[true,true,true,true,true,true,true,true,true,true,true,true,false,false] (fun s_=>[(6,.pointer (some ⟨s_.1,0,none⟩)),(7,.pointer (some ⟨s_.2,0,none⟩))]) (fun s_ w'=>(w'.cell? ⟨gb337,0,none⟩=some (.slice (some ad339) l0_0.length c0_0)∧w'.cell? ⟨gb338,0,none⟩=some (.slice (some ad340) l1_0.length c1_0)∧w'.cell? (ad339.add ((x5_1).toNat * 3))=some (.int .i64 ((rd_T42 l0_0 x5_1).f0))∧w'.cell? ⟨(ad339.add ((x5_1).toNat * 3)).block,(ad339.add ((x5_1).toNat * 3)).off+1,none⟩=some (.bool ((rd_T42 l0_0 x5_1).f1))∧w'.cell? ⟨(ad339.add ((x5_1).toNat * 3)).block,(ad339.add ((x5_1).toNat * 3)).off+2,none⟩=some (.slice A339_2 ((rd_T42 l0_0 x5_1).f2).length c339_2)∧w'.cell? (ad340.add ((x5_1).toNat * 3))=some (.int .i64 ((rd_T42 l1_0 x5_1).f0))∧w'.cell? ⟨(ad340.add ((x5_1).toNat * 3)).block,(ad340.add ((x5_1).toNat * 3)).off+1,none⟩=some (.bool ((rd_T42 l1_0 x5_1).f1))∧w'.cell? ⟨(ad340.add ((x5_1).toNat * 3)).block,(ad340.add ((x5_1).toNat * 3)).off+2,none⟩=some (.slice A340_2 ((rd_T42 l1_0 x5_1).f2).length c340_2))∧(w'.heap[gb337]?=some (.cells #[.slice (some ad339) l0_0.length c0_0] 24 (0,0)))∧(w'.heap[gb338]?=some (.cells #[.slice (some ad340) l1_0.length c1_0] 24 (0,0)))∧(w'.heap[s_.1]?=some (.cells #[.int .i64 0,.bool false,.slice none 0 0] 42 (0,0)))∧(w'.heap[s_.2]?=some (.cells #[.int .i64 0,.bool false,.slice none 0 0] 42 (0,0)))∧(w.heap.size≤s_.1)∧(w.heap.size≤s_.1)∧(gb337 ≠ s_.1)∧(s_.1 ≠ gb337)∧(gb338 ≠ s_.1)∧(s_.1 ≠ gb338)∧(s_.2 ≠ s_.1)∧(s_.1 ≠ s_.2)∧(w.heap.size≤s_.2)∧(w.heap.size≤s_.2)∧(gb337 ≠ s_.2)∧(s_.2 ≠ gb337)∧(gb338 ≠ s_.2)∧(s_.2 ≠ gb338)∧(Below w.heap.size w w')) ?_ ?_
       rotate_left
       ·intro hCont
        refine two_ (i:=10) (j:=11) (Ni:=some 6) (Nj:=some 7) #[true,true,true,true,true,true,true,true,true,true,true,false,false,false] #[true,true,true,true,true,true,true,true,true,true,false,true,false,false] rfl rfl rfl rfl (two_of HT_.out (by kernel_rfl)) (by decide) (by decide) (fun K hK=>?_) (fun K hK=>?_)
        ·skip
         refine box_step ?hg (N:=6) ?hd (cs:=#[.int .i64 0,.bool false,.slice none 0 0]) (t:=42) ?hr ?_;(case hd=>rfl);(case hg=>rfl);(case hr=>first|(go_simp;done)|(go_simp;rfl))
         intro gb341 hg w16 hbox hb
         have n0_:=Aside0.mk (blk_below (g:=gb337) (o:=.cells #[.slice (some ad339) l0_0.length c0_0] 24 (0,0)) (by (with_reducible repeat (first|refine blk_drewN ?_ _|refine blk_drew ?_|refine blk_alloc ?_ _));exact BK337.out) hb)
         have n1_:=Aside0.mk (blk_below (g:=gb338) (o:=.cells #[.slice (some ad340) l1_0.length c1_0] 24 (0,0)) (by (with_reducible repeat (first|refine blk_drewN ?_ _|refine blk_drew ?_|refine blk_alloc ?_ _));exact BK338.out) hb)
         have n2_:=Aside0.mk (below_step (by repeat (first|(with_reducible first|exact HB.out|apply below_alloc|apply pw_below_drewN|apply below_drew1|refine below_set ?_ GE337.out|refine below_set ?_ GE338.out)|exact HB.out)) hb)
         have n3_:=Aside0.mk (hbox)
         have n4_:=Aside0.mk ((by rw [hg];exact (below_size (by repeat (first|(with_reducible first|exact HB.out|apply below_alloc|apply pw_below_drewN|apply below_drew1|refine below_set ?_ GE337.out|refine below_set ?_ GE338.out)|exact HB.out))):w.heap.size≤gb341))
         have n5_:=Aside0.mk ((by rw [hg];exact (below_size (by repeat (first|(with_reducible first|exact HB.out|apply below_alloc|apply pw_below_drewN|apply below_drew1|refine below_set ?_ GE337.out|refine below_set ?_ GE338.out)|exact HB.out))):w.heap.size≤gb341))
         have n6_:=Aside0.mk ((by rw [hg];exact Nat.ne_of_lt (blk_lt (g:=gb337) (o:=.cells #[.slice (some ad339) l0_0.length c0_0] 24 (0,0)) (by (with_reducible repeat (first|refine blk_drewN ?_ _|refine blk_drew ?_|refine blk_alloc ?_ _));exact BK337.out)):gb337 ≠ gb341))
         have n7_:=Aside0.mk ((by rw [hg];exact Nat.ne_of_gt (blk_lt (g:=gb337) (o:=.cells #[.slice (some ad339) l0_0.length c0_0] 24 (0,0)) (by (with_reducible repeat (first|refine blk_drewN ?_ _|refine blk_drew ?_|refine blk_alloc ?_ _));exact BK337.out)):gb341 ≠ gb337))
         have n8_:=Aside0.mk ((by rw [hg];exact Nat.ne_of_lt (blk_lt (g:=gb338) (o:=.cells #[.slice (some ad340) l1_0.length c1_0] 24 (0,0)) (by (with_reducible repeat (first|refine blk_drewN ?_ _|refine blk_drew ?_|refine blk_alloc ?_ _));exact BK338.out)):gb338 ≠ gb341))
         have n9_:=Aside0.mk ((by rw [hg];exact Nat.ne_of_gt (blk_lt (g:=gb338) (o:=.cells #[.slice (some ad340) l1_0.length c1_0] 24 (0,0)) (by (with_reducible repeat (first|refine blk_drewN ?_ _|refine blk_drew ?_|refine blk_alloc ?_ _));exact BK338.out)):gb341 ≠ gb338))
         clear BK337
         clear BK338
         clear HB
         have BK337:=n0_
         have BK338:=n1_
         have HB:=n2_
         have BK341:=n3_
         have GW341:=n4_
         have GE341:=n5_
         have NB337_341:=n6_
         have NB341_337:=n7_
         have NB338_341:=n8_
         have NB341_338:=n9_
         clear n0_ n1_ n2_ n3_ n4_ n5_ n6_ n7_ n8_ n9_
         clear hb hbox hg
         refine hK.out _ _ ⟨(blk_cell BK337.out 0).trans rfl,(blk_cell BK338.out 0).trans rfl,((HB.out.cell (World.block_lt_of_cell? w _ hw339_0)).trans hw339_0),((HB.out.cell (World.block_lt_of_cell? w _ hw339_1)).trans hw339_1),((HB.out.cell (World.block_lt_of_cell? w _ hw339_2)).trans hw339_2),((HB.out.cell (World.block_lt_of_cell? w _ hw340_0)).trans hw340_0),((HB.out.cell (World.block_lt_of_cell? w _ hw340_1)).trans hw340_1),((HB.out.cell (World.block_lt_of_cell? w _ hw340_2)).trans hw340_2)⟩ (fun hHeld=>?_)
         clear hK K
         refine norm_ (a':=?_) ?_ ?_
         rotate_left
         ·show Act.put _ (some 6) _=_
          simp only [Act.put,List.setIfInBounds_toArray,List.set_cons_zero,List.set_cons_succ,i64_w,i32_w]
          rfl
         refine one_ (i:=11) (N:=some 7) #[true,true,true,true,true,true,true,true,true,true,true,true,false,false] rfl rfl (one_of HT_.out (by kernel_rfl)) (by decide) (fun K hK=>?_)
         refine box_step ?hg (N:=7) ?hd (cs:=#[.int .i64 0,.bool false,.slice none 0 0]) (t:=42) ?hr ?_;(case hd=>rfl);(case hg=>rfl);(case hr=>first|(go_simp;done)|(go_simp;rfl))
         intro gb342 hg w17 hbox hb
         have n0_:=Aside0.mk (blk_below (g:=gb337) (o:=.cells #[.slice (some ad339) l0_0.length c0_0] 24 (0,0)) (by (with_reducible repeat (first|refine blk_drewN ?_ _|refine blk_drew ?_|refine blk_alloc ?_ _));exact BK337.out) hb)
         have n1_:=Aside0.mk (blk_below (g:=gb338) (o:=.cells #[.slice (some ad340) l1_0.length c1_0] 24 (0,0)) (by (with_reducible repeat (first|refine blk_drewN ?_ _|refine blk_drew ?_|refine blk_alloc ?_ _));exact BK338.out) hb)
         have n2_:=Aside0.mk (blk_below (g:=gb341) (o:=.cells #[.int .i64 0,.bool false,.slice none 0 0] 42 (0,0)) (by (with_reducible repeat (first|refine blk_drewN ?_ _|refine blk_drew ?_|refine blk_alloc ?_ _));exact BK341.out) hb)
         have n3_:=Aside0.mk (below_step (by repeat (first|(with_reducible first|exact HB.out|apply below_alloc|apply pw_below_drewN|apply below_drew1|refine below_set ?_ GE337.out|refine below_set ?_ GE338.out|refine below_set ?_ GE341.out)|exact HB.out)) hb)
         have n4_:=Aside0.mk (hbox)
         have n5_:=Aside0.mk ((by rw [hg];exact (below_size (by repeat (first|(with_reducible first|exact HB.out|apply below_alloc|apply pw_below_drewN|apply below_drew1|refine below_set ?_ GE337.out|refine below_set ?_ GE338.out|refine below_set ?_ GE341.out)|exact HB.out))):w.heap.size≤gb342))
         have n6_:=Aside0.mk ((by rw [hg];exact (below_size (by repeat (first|(with_reducible first|exact HB.out|apply below_alloc|apply pw_below_drewN|apply below_drew1|refine below_set ?_ GE337.out|refine below_set ?_ GE338.out|refine below_set ?_ GE341.out)|exact HB.out))):w.heap.size≤gb342))
         have n7_:=Aside0.mk ((by rw [hg];exact Nat.ne_of_lt (blk_lt (g:=gb337) (o:=.cells #[.slice (some ad339) l0_0.length c0_0] 24 (0,0)) (by (with_reducible repeat (first|refine blk_drewN ?_ _|refine blk_drew ?_|refine blk_alloc ?_ _));exact BK337.out)):gb337 ≠ gb342))
         have n8_:=Aside0.mk ((by rw [hg];exact Nat.ne_of_gt (blk_lt (g:=gb337) (o:=.cells #[.slice (some ad339) l0_0.length c0_0] 24 (0,0)) (by (with_reducible repeat (first|refine blk_drewN ?_ _|refine blk_drew ?_|refine blk_alloc ?_ _));exact BK337.out)):gb342 ≠ gb337))
         have n9_:=Aside0.mk ((by rw [hg];exact Nat.ne_of_lt (blk_lt (g:=gb338) (o:=.cells #[.slice (some ad340) l1_0.length c1_0] 24 (0,0)) (by (with_reducible repeat (first|refine blk_drewN ?_ _|refine blk_drew ?_|refine blk_alloc ?_ _));exact BK338.out)):gb338 ≠ gb342))
         have n10_:=Aside0.mk ((by rw [hg];exact Nat.ne_of_gt (blk_lt (g:=gb338) (o:=.cells #[.slice (some ad340) l1_0.length c1_0] 24 (0,0)) (by (with_reducible repeat (first|refine blk_drewN ?_ _|refine blk_drew ?_|refine blk_alloc ?_ _));exact BK338.out)):gb342 ≠ gb338))
         have n11_:=Aside0.mk ((by rw [hg];exact Nat.ne_of_lt (blk_lt (g:=gb341) (o:=.cells #[.int .i64 0,.bool false,.slice none 0 0] 42 (0,0)) (by (with_reducible repeat (first|refine blk_drewN ?_ _|refine blk_drew ?_|refine blk_alloc ?_ _));exact BK341.out)):gb341 ≠ gb342))
         have n12_:=Aside0.mk ((by rw [hg];exact Nat.ne_of_gt (blk_lt (g:=gb341) (o:=.cells #[.int .i64 0,.bool false,.slice none 0 0] 42 (0,0)) (by (with_reducible repeat (first|refine blk_drewN ?_ _|refine blk_drew ?_|refine blk_alloc ?_ _));exact BK341.out)):gb342 ≠ gb341))
         clear BK337
         clear BK338
         clear BK341
         clear HB
         have BK337:=n0_
         have BK338:=n1_
         have BK341:=n2_
         have HB:=n3_
         have BK342:=n4_
         have GW342:=n5_
         have GE342:=n6_
         have NB337_342:=n7_
         have NB342_337:=n8_
         have NB338_342:=n9_
         have NB342_338:=n10_
         have NB341_342:=n11_
         have NB342_341:=n12_
         clear n0_ n1_ n2_ n3_ n4_ n5_ n6_ n7_ n8_ n9_ n10_ n11_ n12_
         clear hb hbox hg
         refine hK.out _ _ ⟨(blk_cell BK337.out 0).trans rfl,(blk_cell BK338.out 0).trans rfl,((HB.out.cell (World.block_lt_of_cell? w _ hw339_0)).trans hw339_0),((HB.out.cell (World.block_lt_of_cell? w _ hw339_1)).trans hw339_1),((HB.out.cell (World.block_lt_of_cell? w _ hw339_2)).trans hw339_2),((HB.out.cell (World.block_lt_of_cell? w _ hw340_0)).trans hw340_0),((HB.out.cell (World.block_lt_of_cell? w _ hw340_1)).trans hw340_1),((HB.out.cell (World.block_lt_of_cell? w _ hw340_2)).trans hw340_2)⟩ (fun hHeld=>?_)
         clear hK K
         refine norm_ (a':=?_) ?_ ?_
         rotate_left
         ·show Act.put _ (some 7) _=_
          simp only [Act.put,List.setIfInBounds_toArray,List.set_cons_zero,List.set_cons_succ,i64_w,i32_w]
          rfl
         exact norm_ (by simp only [putAll,Act.put,List.setIfInBounds_toArray,List.set_cons_zero,List.set_cons_succ]) (hCont (gb341,gb342) _ ⟨hHeld,(by (with_reducible repeat (first|refine blk_drewN ?_ _|refine blk_drew ?_|refine blk_alloc ?_ _));exact BK337.out),(by (with_reducible repeat (first|refine blk_drewN ?_ _|refine blk_drew ?_|refine blk_alloc ?_ _));exact BK338.out),(by (with_reducible repeat (first|refine blk_drewN ?_ _|refine blk_drew ?_|refine blk_alloc ?_ _));exact BK341.out),(by (with_reducible repeat (first|refine blk_drewN ?_ _|refine blk_drew ?_|refine blk_alloc ?_ _));exact BK342.out),GW341.out,GE341.out,NB337_341.out,NB341_337.out,NB338_341.out,NB341_338.out,NB342_341.out,NB341_342.out,GW342.out,GE342.out,NB337_342.out,NB342_337.out,NB338_342.out,NB342_338.out,(by repeat (first|(with_reducible first|exact HB.out|apply below_alloc|apply pw_below_drewN|apply below_drew1|refine below_set ?_ GE337.out|refine below_set ?_ GE338.out|refine below_set ?_ GE341.out|refine below_set ?_ GE342.out)|exact HB.out))⟩)
        ·skip
         refine box_step ?hg (N:=7) ?hd (cs:=#[.int .i64 0,.bool false,.slice none 0 0]) (t:=42) ?hr ?_;(case hd=>rfl);(case hg=>rfl);(case hr=>first|(go_simp;done)|(go_simp;rfl))
         intro gb342 hg w16 hbox hb
         have n0_:=Aside0.mk (blk_below (g:=gb337) (o:=.cells #[.slice (some ad339) l0_0.length c0_0] 24 (0,0)) (by (with_reducible repeat (first|refine blk_drewN ?_ _|refine blk_drew ?_|refine blk_alloc ?_ _));exact BK337.out) hb)
         have n1_:=Aside0.mk (blk_below (g:=gb338) (o:=.cells #[.slice (some ad340) l1_0.length c1_0] 24 (0,0)) (by (with_reducible repeat (first|refine blk_drewN ?_ _|refine blk_drew ?_|refine blk_alloc ?_ _));exact BK338.out) hb)
         have n2_:=Aside0.mk (below_step (by repeat (first|(with_reducible first|exact HB.out|apply below_alloc|apply pw_below_drewN|apply below_drew1|refine below_set ?_ GE337.out|refine below_set ?_ GE338.out)|exact HB.out)) hb)
         have n3_:=Aside0.mk (hbox)
         have n4_:=Aside0.mk ((by rw [hg];exact (below_size (by repeat (first|(with_reducible first|exact HB.out|apply below_alloc|apply pw_below_drewN|apply below_drew1|refine below_set ?_ GE337.out|refine below_set ?_ GE338.out)|exact HB.out))):w.heap.size≤gb342))
         have n5_:=Aside0.mk ((by rw [hg];exact (below_size (by repeat (first|(with_reducible first|exact HB.out|apply below_alloc|apply pw_below_drewN|apply below_drew1|refine below_set ?_ GE337.out|refine below_set ?_ GE338.out)|exact HB.out))):w.heap.size≤gb342))
         have n6_:=Aside0.mk ((by rw [hg];exact Nat.ne_of_lt (blk_lt (g:=gb337) (o:=.cells #[.slice (some ad339) l0_0.length c0_0] 24 (0,0)) (by (with_reducible repeat (first|refine blk_drewN ?_ _|refine blk_drew ?_|refine blk_alloc ?_ _));exact BK337.out)):gb337 ≠ gb342))
         have n7_:=Aside0.mk ((by rw [hg];exact Nat.ne_of_gt (blk_lt (g:=gb337) (o:=.cells #[.slice (some ad339) l0_0.length c0_0] 24 (0,0)) (by (with_reducible repeat (first|refine blk_drewN ?_ _|refine blk_drew ?_|refine blk_alloc ?_ _));exact BK337.out)):gb342 ≠ gb337))
         have n8_:=Aside0.mk ((by rw [hg];exact Nat.ne_of_lt (blk_lt (g:=gb338) (o:=.cells #[.slice (some ad340) l1_0.length c1_0] 24 (0,0)) (by (with_reducible repeat (first|refine blk_drewN ?_ _|refine blk_drew ?_|refine blk_alloc ?_ _));exact BK338.out)):gb338 ≠ gb342))
         have n9_:=Aside0.mk ((by rw [hg];exact Nat.ne_of_gt (blk_lt (g:=gb338) (o:=.cells #[.slice (some ad340) l1_0.length c1_0] 24 (0,0)) (by (with_reducible repeat (first|refine blk_drewN ?_ _|refine blk_drew ?_|refine blk_alloc ?_ _));exact BK338.out)):gb342 ≠ gb338))
         clear BK337
         clear BK338
         clear HB
         have BK337:=n0_
         have BK338:=n1_
         have HB:=n2_
         have BK342:=n3_
         have GW342:=n4_
         have GE342:=n5_
         have NB337_342:=n6_
         have NB342_337:=n7_
         have NB338_342:=n8_
         have NB342_338:=n9_
         clear n0_ n1_ n2_ n3_ n4_ n5_ n6_ n7_ n8_ n9_
         clear hb hbox hg
         refine hK.out _ _ ⟨(blk_cell BK337.out 0).trans rfl,(blk_cell BK338.out 0).trans rfl,((HB.out.cell (World.block_lt_of_cell? w _ hw339_0)).trans hw339_0),((HB.out.cell (World.block_lt_of_cell? w _ hw339_1)).trans hw339_1),((HB.out.cell (World.block_lt_of_cell? w _ hw339_2)).trans hw339_2),((HB.out.cell (World.block_lt_of_cell? w _ hw340_0)).trans hw340_0),((HB.out.cell (World.block_lt_of_cell? w _ hw340_1)).trans hw340_1),((HB.out.cell (World.block_lt_of_cell? w _ hw340_2)).trans hw340_2)⟩ (fun hHeld=>?_)
         clear hK K
         refine norm_ (a':=?_) ?_ ?_
         rotate_left
         ·show Act.put _ (some 7) _=_
          simp only [Act.put,List.setIfInBounds_toArray,List.set_cons_zero,List.set_cons_succ,i64_w,i32_w]
          rfl
         refine one_ (i:=10) (N:=some 6) #[true,true,true,true,true,true,true,true,true,true,true,true,false,false] rfl rfl (one_of HT_.out (by kernel_rfl)) (by decide) (fun K hK=>?_)
         refine box_step ?hg (N:=6) ?hd (cs:=#[.int .i64 0,.bool false,.slice none 0 0]) (t:=42) ?hr ?_;(case hd=>rfl);(case hg=>rfl);(case hr=>first|(go_simp;done)|(go_simp;rfl))
         intro gb341 hg w17 hbox hb
         have n0_:=Aside0.mk (blk_below (g:=gb337) (o:=.cells #[.slice (some ad339) l0_0.length c0_0] 24 (0,0)) (by (with_reducible repeat (first|refine blk_drewN ?_ _|refine blk_drew ?_|refine blk_alloc ?_ _));exact BK337.out) hb)
         have n1_:=Aside0.mk (blk_below (g:=gb338) (o:=.cells #[.slice (some ad340) l1_0.length c1_0] 24 (0,0)) (by (with_reducible repeat (first|refine blk_drewN ?_ _|refine blk_drew ?_|refine blk_alloc ?_ _));exact BK338.out) hb)
         have n2_:=Aside0.mk (blk_below (g:=gb342) (o:=.cells #[.int .i64 0,.bool false,.slice none 0 0] 42 (0,0)) (by (with_reducible repeat (first|refine blk_drewN ?_ _|refine blk_drew ?_|refine blk_alloc ?_ _));exact BK342.out) hb)
         have n3_:=Aside0.mk (below_step (by repeat (first|(with_reducible first|exact HB.out|apply below_alloc|apply pw_below_drewN|apply below_drew1|refine below_set ?_ GE337.out|refine below_set ?_ GE338.out|refine below_set ?_ GE342.out)|exact HB.out)) hb)
         have n4_:=Aside0.mk (hbox)
         have n5_:=Aside0.mk ((by rw [hg];exact (below_size (by repeat (first|(with_reducible first|exact HB.out|apply below_alloc|apply pw_below_drewN|apply below_drew1|refine below_set ?_ GE337.out|refine below_set ?_ GE338.out|refine below_set ?_ GE342.out)|exact HB.out))):w.heap.size≤gb341))
         have n6_:=Aside0.mk ((by rw [hg];exact (below_size (by repeat (first|(with_reducible first|exact HB.out|apply below_alloc|apply pw_below_drewN|apply below_drew1|refine below_set ?_ GE337.out|refine below_set ?_ GE338.out|refine below_set ?_ GE342.out)|exact HB.out))):w.heap.size≤gb341))
         have n7_:=Aside0.mk ((by rw [hg];exact Nat.ne_of_lt (blk_lt (g:=gb337) (o:=.cells #[.slice (some ad339) l0_0.length c0_0] 24 (0,0)) (by (with_reducible repeat (first|refine blk_drewN ?_ _|refine blk_drew ?_|refine blk_alloc ?_ _));exact BK337.out)):gb337 ≠ gb341))
         have n8_:=Aside0.mk ((by rw [hg];exact Nat.ne_of_gt (blk_lt (g:=gb337) (o:=.cells #[.slice (some ad339) l0_0.length c0_0] 24 (0,0)) (by (with_reducible repeat (first|refine blk_drewN ?_ _|refine blk_drew ?_|refine blk_alloc ?_ _));exact BK337.out)):gb341 ≠ gb337))
         have n9_:=Aside0.mk ((by rw [hg];exact Nat.ne_of_lt (blk_lt (g:=gb338) (o:=.cells #[.slice (some ad340) l1_0.length c1_0] 24 (0,0)) (by (with_reducible repeat (first|refine blk_drewN ?_ _|refine blk_drew ?_|refine blk_alloc ?_ _));exact BK338.out)):gb338 ≠ gb341))
         have n10_:=Aside0.mk ((by rw [hg];exact Nat.ne_of_gt (blk_lt (g:=gb338) (o:=.cells #[.slice (some ad340) l1_0.length c1_0] 24 (0,0)) (by (with_reducible repeat (first|refine blk_drewN ?_ _|refine blk_drew ?_|refine blk_alloc ?_ _));exact BK338.out)):gb341 ≠ gb338))
         have n11_:=Aside0.mk ((by rw [hg];exact Nat.ne_of_lt (blk_lt (g:=gb342) (o:=.cells #[.int .i64 0,.bool false,.slice none 0 0] 42 (0,0)) (by (with_reducible repeat (first|refine blk_drewN ?_ _|refine blk_drew ?_|refine blk_alloc ?_ _));exact BK342.out)):gb342 ≠ gb341))
         have n12_:=Aside0.mk ((by rw [hg];exact Nat.ne_of_gt (blk_lt (g:=gb342) (o:=.cells #[.int .i64 0,.bool false,.slice none 0 0] 42 (0,0)) (by (with_reducible repeat (first|refine blk_drewN ?_ _|refine blk_drew ?_|refine blk_alloc ?_ _));exact BK342.out)):gb341 ≠ gb342))
         clear BK337
         clear BK338
         clear BK342
         clear HB
         have BK337:=n0_
         have BK338:=n1_
         have BK342:=n2_
         have HB:=n3_
         have BK341:=n4_
         have GW341:=n5_
         have GE341:=n6_
         have NB337_341:=n7_
         have NB341_337:=n8_
         have NB338_341:=n9_
         have NB341_338:=n10_
         have NB342_341:=n11_
         have NB341_342:=n12_
         clear n0_ n1_ n2_ n3_ n4_ n5_ n6_ n7_ n8_ n9_ n10_ n11_ n12_
         clear hb hbox hg
         refine hK.out _ _ ⟨(blk_cell BK337.out 0).trans rfl,(blk_cell BK338.out 0).trans rfl,((HB.out.cell (World.block_lt_of_cell? w _ hw339_0)).trans hw339_0),((HB.out.cell (World.block_lt_of_cell? w _ hw339_1)).trans hw339_1),((HB.out.cell (World.block_lt_of_cell? w _ hw339_2)).trans hw339_2),((HB.out.cell (World.block_lt_of_cell? w _ hw340_0)).trans hw340_0),((HB.out.cell (World.block_lt_of_cell? w _ hw340_1)).trans hw340_1),((HB.out.cell (World.block_lt_of_cell? w _ hw340_2)).trans hw340_2)⟩ (fun hHeld=>?_)
         clear hK K
         refine norm_ (a':=?_) ?_ ?_
         rotate_left
         ·show Act.put _ (some 6) _=_
          simp only [Act.put,List.setIfInBounds_toArray,List.set_cons_zero,List.set_cons_succ,i64_w,i32_w]
          rfl
         exact norm_ (by simp only [putAll,Act.put,List.setIfInBounds_toArray,List.set_cons_zero,List.set_cons_succ]) (hCont (gb341,gb342) _ ⟨hHeld,(by (with_reducible repeat (first|refine blk_drewN ?_ _|refine blk_drew ?_|refine blk_alloc ?_ _));exact BK337.out),(by (with_reducible repeat (first|refine blk_drewN ?_ _|refine blk_drew ?_|refine blk_alloc ?_ _));exact BK338.out),(by (with_reducible repeat (first|refine blk_drewN ?_ _|refine blk_drew ?_|refine blk_alloc ?_ _));exact BK341.out),(by (with_reducible repeat (first|refine blk_drewN ?_ _|refine blk_drew ?_|refine blk_alloc ?_ _));exact BK342.out),GW341.out,GE341.out,NB337_341.out,NB341_337.out,NB338_341.out,NB341_338.out,NB342_341.out,NB341_342.out,GW342.out,GE342.out,NB337_342.out,NB342_337.out,NB338_342.out,NB342_338.out,(by repeat (first|(with_reducible first|exact HB.out|apply below_alloc|apply pw_below_drewN|apply below_drew1|refine below_set ?_ GE337.out|refine below_set ?_ GE338.out|refine below_set ?_ GE342.out|refine below_set ?_ GE341.out)|exact HB.out))⟩)
       rintro ⟨gb341,gb342⟩ w18 ⟨hS_,h0_,h1_,h2_,h3_,h4_,h5_,h6_,h7_,h8_,h9_,h10_,h11_,h12_,h13_,h14_,h15_,h16_,h17_,h18_⟩
       have n0_:Aside0 (w18.heap[gb337]?=some (.cells #[.slice (some ad339) l0_0.length c0_0] 24 (0,0))):=⟨h0_⟩
       have n1_:Aside0 (w18.heap[gb338]?=some (.cells #[.slice (some ad340) l1_0.length c1_0] 24 (0,0))):=⟨h1_⟩
       have n2_:Aside0 (w18.heap[gb341]?=some (.cells #[.int .i64 0,.bool false,.slice none 0 0] 42 (0,0))):=⟨h2_⟩
       have n3_:Aside0 (w18.heap[gb342]?=some (.cells #[.int .i64 0,.bool false,.slice none 0 0] 42 (0,0))):=⟨h3_⟩
       have n4_:Aside0 (w.heap.size≤gb341):=⟨h4_⟩
       have n5_:Aside0 (w.heap.size≤gb341):=⟨h5_⟩
       have n6_:Aside0 (gb337 ≠ gb341):=⟨h6_⟩
       have n7_:Aside0 (gb341 ≠ gb337):=⟨h7_⟩
       have n8_:Aside0 (gb338 ≠ gb341):=⟨h8_⟩
       have n9_:Aside0 (gb341 ≠ gb338):=⟨h9_⟩
       have n10_:Aside0 (gb342 ≠ gb341):=⟨h10_⟩
       have n11_:Aside0 (gb341 ≠ gb342):=⟨h11_⟩
       have n12_:Aside0 (w.heap.size≤gb342):=⟨h12_⟩
       have n13_:Aside0 (w.heap.size≤gb342):=⟨h13_⟩
       have n14_:Aside0 (gb337 ≠ gb342):=⟨h14_⟩
       have n15_:Aside0 (gb342 ≠ gb337):=⟨h15_⟩
       have n16_:Aside0 (gb338 ≠ gb342):=⟨h16_⟩
       have n17_:Aside0 (gb342 ≠ gb338):=⟨h17_⟩
       have n18_:Aside0 (Below w.heap.size w w18):=⟨h18_⟩
       clear BK337
       clear BK338
       clear HB
       clear h0_ h1_ h2_ h3_ h4_ h5_ h6_ h7_ h8_ h9_ h10_ h11_ h12_ h13_ h14_ h15_ h16_ h17_ h18_
       have BK337:=n0_
       have BK338:=n1_
       have BK341:=n2_
       have BK342:=n3_
       have GW341:=n4_
       have GE341:=n5_
       have NB337_341:=n6_
       have NB341_337:=n7_
       have NB338_341:=n8_
       have NB341_338:=n9_
       have NB342_341:=n10_
       have NB341_342:=n11_
       have GW342:=n12_
       have GE342:=n13_
       have NB337_342:=n14_
       have NB342_337:=n15_
       have NB338_342:=n16_
       have NB342_338:=n17_
       have HB:=n18_
       clear n0_ n1_ n2_ n3_ n4_ n5_ n6_ n7_ n8_ n9_ n10_ n11_ n12_ n13_ n14_ n15_ n16_ n17_ n18_
       have hHeld:w18.cell? ⟨gb337,0,none⟩=some (.slice (some ad339) l0_0.length c0_0)∧w18.cell? ⟨gb338,0,none⟩=some (.slice (some ad340) l1_0.length c1_0)∧w18.cell? (ad339.add ((x5_1).toNat * 3))=some (.int .i64 ((rd_T42 l0_0 x5_1).f0))∧w18.cell? ⟨(ad339.add ((x5_1).toNat * 3)).block,(ad339.add ((x5_1).toNat * 3)).off+1,none⟩=some (.bool ((rd_T42 l0_0 x5_1).f1))∧w18.cell? ⟨(ad339.add ((x5_1).toNat * 3)).block,(ad339.add ((x5_1).toNat * 3)).off+2,none⟩=some (.slice A339_2 ((rd_T42 l0_0 x5_1).f2).length c339_2)∧w18.cell? (ad340.add ((x5_1).toNat * 3))=some (.int .i64 ((rd_T42 l1_0 x5_1).f0))∧w18.cell? ⟨(ad340.add ((x5_1).toNat * 3)).block,(ad340.add ((x5_1).toNat * 3)).off+1,none⟩=some (.bool ((rd_T42 l1_0 x5_1).f1))∧w18.cell? ⟨(ad340.add ((x5_1).toNat * 3)).block,(ad340.add ((x5_1).toNat * 3)).off+2,none⟩=some (.slice A340_2 ((rd_T42 l1_0 x5_1).f2).length c340_2):=hS_
       refine norm_ (a':=?_) ?_ ?_
       rotate_left
       ·simp only [putAll,Act.put,List.setIfInBounds_toArray,List.set_cons_zero,List.set_cons_succ]
        rfl
       refine one_ (i:=12) (N:=none) #[true,true,true,true,true,true,true,true,true,true,true,true,true,false] rfl rfl (one_of HT_.out (by kernel_rfl)) (by decide) (fun K hK=>?_)
       have hs19:w18.cell? ⟨gb341,0,none⟩=some (.int .i64 0):=(blk_cell BK341.out 0).trans rfl
       have hfs19:=blk_frozen BK341.out 0
       have hns19_0:=NB337_341.out
       have hns19_1:=NB338_341.out
       have hns19_3:=NB342_341.out
       have hms19_0:=NB341_337.out
       have hms19_1:=NB341_338.out
       have hms19_3:=NB341_342.out
       have hs20:w18.cell? ⟨gb341,1,none⟩=some (.bool false):=(blk_cell BK341.out 1).trans rfl
       have hfs20:=blk_frozen BK341.out 1
       have hns20_0:=NB337_341.out
       have hns20_1:=NB338_341.out
       have hns20_3:=NB342_341.out
       have hms20_0:=NB341_337.out
       have hms20_1:=NB341_338.out
       have hms20_3:=NB341_342.out
       have hs21:w18.cell? ⟨gb341,2,none⟩=some (.slice none 0 0):=(blk_cell BK341.out 2).trans rfl
       have hfs21:=blk_frozen BK341.out 2
       have hns21_0:=NB337_341.out
       have hns21_1:=NB338_341.out
       have hns21_3:=NB342_341.out
       have hms21_0:=NB341_337.out
       have hms21_1:=NB341_338.out
       have hms21_3:=NB341_342.out
       refine skip_ (w1:=?_) (by rfl) rfl ?_ ?_
       rotate_left
       ·go_simp
        rfl
       refine hK.out _ _ ⟨((cell_far (p:=⟨gb341,_,none⟩) NB337_341.out _).trans (((cell_far (p:=⟨gb341,_,none⟩) NB337_341.out _).trans (((cell_far (p:=⟨gb341,_,none⟩) NB337_341.out _).trans (hHeld.1)))))),((cell_far (p:=⟨gb341,_,none⟩) NB338_341.out _).trans (((cell_far (p:=⟨gb341,_,none⟩) NB338_341.out _).trans (((cell_far (p:=⟨gb341,_,none⟩) NB338_341.out _).trans (hHeld.2.1)))))),((cell_far (p:=⟨gb341,_,none⟩) (by first|exact Nat.ne_of_lt (Nat.lt_of_lt_of_le (by have:=World.block_lt_of_cell? _ _ hw339_0;first|rwa [add_block] at this|exact this) GW341.out)|(rw [add_block];exact Nat.ne_of_lt (Nat.lt_of_lt_of_le (by have:=World.block_lt_of_cell? _ _ hw339_0;first|rwa [add_block] at this|exact this) GW341.out))|(show (Addr.add _ _).block ≠ _;rw [add_block];exact Nat.ne_of_lt (Nat.lt_of_lt_of_le (by have:=World.block_lt_of_cell? _ _ hw339_0;first|rwa [add_block] at this|exact this) GW341.out))|(dsimp only;exact Nat.ne_of_lt (Nat.lt_of_lt_of_le (by have:=World.block_lt_of_cell? _ _ hw339_0;first|rwa [add_block] at this|exact this) GW341.out))) _).trans (((cell_far (p:=⟨gb341,_,none⟩) (by first|exact Nat.ne_of_lt (Nat.lt_of_lt_of_le (by have:=World.block_lt_of_cell? _ _ hw339_0;first|rwa [add_block] at this|exact this) GW341.out)|(rw [add_block];exact Nat.ne_of_lt (Nat.lt_of_lt_of_le (by have:=World.block_lt_of_cell? _ _ hw339_0;first|rwa [add_block] at this|exact this) GW341.out))|(show (Addr.add _ _).block ≠ _;rw [add_block];exact Nat.ne_of_lt (Nat.lt_of_lt_of_le (by have:=World.block_lt_of_cell? _ _ hw339_0;first|rwa [add_block] at this|exact this) GW341.out))|(dsimp only;exact Nat.ne_of_lt (Nat.lt_of_lt_of_le (by have:=World.block_lt_of_cell? _ _ hw339_0;first|rwa [add_block] at this|exact this) GW341.out))) _).trans (((cell_far (p:=⟨gb341,_,none⟩) (by first|exact Nat.ne_of_lt (Nat.lt_of_lt_of_le (by have:=World.block_lt_of_cell? _ _ hw339_0;first|rwa [add_block] at this|exact this) GW341.out)|(rw [add_block];exact Nat.ne_of_lt (Nat.lt_of_lt_of_le (by have:=World.block_lt_of_cell? _ _ hw339_0;first|rwa [add_block] at this|exact this) GW341.out))|(show (Addr.add _ _).block ≠ _;rw [add_block];exact Nat.ne_of_lt (Nat.lt_of_lt_of_le (by have:=World.block_lt_of_cell? _ _ hw339_0;first|rwa [add_block] at this|exact this) GW341.out))|(dsimp only;exact Nat.ne_of_lt (Nat.lt_of_lt_of_le (by have:=World.block_lt_of_cell? _ _ hw339_0;first|rwa [add_block] at this|exact this) GW341.out))) _).trans (hHeld.2.2.1)))))),((cell_far (p:=⟨gb341,_,none⟩) (by first|exact Nat.ne_of_lt (Nat.lt_of_lt_of_le (by have:=World.block_lt_of_cell? _ _ hw339_1;first|rwa [add_block] at this|exact this) GW341.out)|(rw [add_block];exact Nat.ne_of_lt (Nat.lt_of_lt_of_le (by have:=World.block_lt_of_cell? _ _ hw339_1;first|rwa [add_block] at this|exact this) GW341.out))|(show (Addr.add _ _).block ≠ _;rw [add_block];exact Nat.ne_of_lt (Nat.lt_of_lt_of_le (by have:=World.block_lt_of_cell? _ _ hw339_1;first|rwa [add_block] at this|exact this) GW341.out))|(dsimp only;exact Nat.ne_of_lt (Nat.lt_of_lt_of_le (by have:=World.block_lt_of_cell? _ _ hw339_1;first|rwa [add_block] at this|exact this) GW341.out))) _).trans (((cell_far (p:=⟨gb341,_,none⟩) (by first|exact Nat.ne_of_lt (Nat.lt_of_lt_of_le (by have:=World.block_lt_of_cell? _ _ hw339_1;first|rwa [add_block] at this|exact this) GW341.out)|(rw [add_block];exact Nat.ne_of_lt (Nat.lt_of_lt_of_le (by have:=World.block_lt_of_cell? _ _ hw339_1;first|rwa [add_block] at this|exact this) GW341.out))|(show (Addr.add _ _).block ≠ _;rw [add_block];exact Nat.ne_of_lt (Nat.lt_of_lt_of_le (by have:=World.block_lt_of_cell? _ _ hw339_1;first|rwa [add_block] at this|exact this) GW341.out))|(dsimp only;exact Nat.ne_of_lt (Nat.lt_of_lt_of_le (by have:=World.block_lt_of_cell? _ _ hw339_1;first|rwa [add_block] at this|exact this) GW341.out))) _).trans (((cell_far (p:=⟨gb341,_,none⟩) (by first|exact Nat.ne_of_lt (Nat.lt_of_lt_of_le (by have:=World.block_lt_of_cell? _ _ hw339_1;first|rwa [add_block] at this|exact this) GW341.out)|(rw [add_block];exact Nat.ne_of_lt (Nat.lt_of_lt_of_le (by have:=World.block_lt_of_cell? _ _ hw339_1;first|rwa [add_block] at this|exact this) GW341.out))|(show (Addr.add _ _).block ≠ _;rw [add_block];exact Nat.ne_of_lt (Nat.lt_of_lt_of_le (by have:=World.block_lt_of_cell? _ _ hw339_1;first|rwa [add_block] at this|exact this) GW341.out))|(dsimp only;exact Nat.ne_of_lt (Nat.lt_of_lt_of_le (by have:=World.block_lt_of_cell? _ _ hw339_1;first|rwa [add_block] at this|exact this) GW341.out))) _).trans (hHeld.2.2.2.1)))))),((cell_far (p:=⟨gb341,_,none⟩) (by first|exact Nat.ne_of_lt (Nat.lt_of_lt_of_le (by have:=World.block_lt_of_cell? _ _ hw339_2;first|rwa [add_block] at this|exact this) GW341.out)|(rw [add_block];exact Nat.ne_of_lt (Nat.lt_of_lt_of_le (by have:=World.block_lt_of_cell? _ _ hw339_2;first|rwa [add_block] at this|exact this) GW341.out))|(show (Addr.add _ _).block ≠ _;rw [add_block];exact Nat.ne_of_lt (Nat.lt_of_lt_of_le (by have:=World.block_lt_of_cell? _ _ hw339_2;first|rwa [add_block] at this|exact this) GW341.out))|(dsimp only;exact Nat.ne_of_lt (Nat.lt_of_lt_of_le (by have:=World.block_lt_of_cell? _ _ hw339_2;first|rwa [add_block] at this|exact this) GW341.out))) _).trans (((cell_far (p:=⟨gb341,_,none⟩) (by first|exact Nat.ne_of_lt (Nat.lt_of_lt_of_le (by have:=World.block_lt_of_cell? _ _ hw339_2;first|rwa [add_block] at this|exact this) GW341.out)|(rw [add_block];exact Nat.ne_of_lt (Nat.lt_of_lt_of_le (by have:=World.block_lt_of_cell? _ _ hw339_2;first|rwa [add_block] at this|exact this) GW341.out))|(show (Addr.add _ _).block ≠ _;rw [add_block];exact Nat.ne_of_lt (Nat.lt_of_lt_of_le (by have:=World.block_lt_of_cell? _ _ hw339_2;first|rwa [add_block] at this|exact this) GW341.out))|(dsimp only;exact Nat.ne_of_lt (Nat.lt_of_lt_of_le (by have:=World.block_lt_of_cell? _ _ hw339_2;first|rwa [add_block] at this|exact this) GW341.out))) _).trans (((cell_far (p:=⟨gb341,_,none⟩) (by first|exact Nat.ne_of_lt (Nat.lt_of_lt_of_le (by have:=World.block_lt_of_cell? _ _ hw339_2;first|rwa [add_block] at this|exact this) GW341.out)|(rw [add_block];exact Nat.ne_of_lt (Nat.lt_of_lt_of_le (by have:=World.block_lt_of_cell? _ _ hw339_2;first|rwa [add_block] at this|exact this) GW341.out))|(show (Addr.add _ _).block ≠ _;rw [add_block];exact Nat.ne_of_lt (Nat.lt_of_lt_of_le (by have:=World.block_lt_of_cell? _ _ hw339_2;first|rwa [add_block] at this|exact this) GW341.out))|(dsimp only;exact Nat.ne_of_lt (Nat.lt_of_lt_of_le (by have:=World.block_lt_of_cell? _ _ hw339_2;first|rwa [add_block] at this|exact this) GW341.out))) _).trans (hHeld.2.2.2.2.1)))))),((cell_far (p:=⟨gb341,_,none⟩) (by first|exact Nat.ne_of_lt (Nat.lt_of_lt_of_le (by have:=World.block_lt_of_cell? _ _ hw340_0;first|rwa [add_block] at this|exact this) GW341.out)|(rw [add_block];exact Nat.ne_of_lt (Nat.lt_of_lt_of_le (by have:=World.block_lt_of_cell? _ _ hw340_0;first|rwa [add_block] at this|exact this) GW341.out))|(show (Addr.add _ _).block ≠ _;rw [add_block];exact Nat.ne_of_lt (Nat.lt_of_lt_of_le (by have:=World.block_lt_of_cell? _ _ hw340_0;first|rwa [add_block] at this|exact this) GW341.out))|(dsimp only;exact Nat.ne_of_lt (Nat.lt_of_lt_of_le (by have:=World.block_lt_of_cell? _ _ hw340_0;first|rwa [add_block] at this|exact this) GW341.out))) _).trans (((cell_far (p:=⟨gb341,_,none⟩) (by first|exact Nat.ne_of_lt (Nat.lt_of_lt_of_le (by have:=World.block_lt_of_cell? _ _ hw340_0;first|rwa [add_block] at this|exact this) GW341.out)|(rw [add_block];exact Nat.ne_of_lt (Nat.lt_of_lt_of_le (by have:=World.block_lt_of_cell? _ _ hw340_0;first|rwa [add_block] at this|exact this) GW341.out))|(show (Addr.add _ _).block ≠ _;rw [add_block];exact Nat.ne_of_lt (Nat.lt_of_lt_of_le (by have:=World.block_lt_of_cell? _ _ hw340_0;first|rwa [add_block] at this|exact this) GW341.out))|(dsimp only;exact Nat.ne_of_lt (Nat.lt_of_lt_of_le (by have:=World.block_lt_of_cell? _ _ hw340_0;first|rwa [add_block] at this|exact this) GW341.out))) _).trans (((cell_far (p:=⟨gb341,_,none⟩) (by first|exact Nat.ne_of_lt (Nat.lt_of_lt_of_le (by have:=World.block_lt_of_cell? _ _ hw340_0;first|rwa [add_block] at this|exact this) GW341.out)|(rw [add_block];exact Nat.ne_of_lt (Nat.lt_of_lt_of_le (by have:=World.block_lt_of_cell? _ _ hw340_0;first|rwa [add_block] at this|exact this) GW341.out))|(show (Addr.add _ _).block ≠ _;rw [add_block];exact Nat.ne_of_lt (Nat.lt_of_lt_of_le (by have:=World.block_lt_of_cell? _ _ hw340_0;first|rwa [add_block] at this|exact this) GW341.out))|(dsimp only;exact Nat.ne_of_lt (Nat.lt_of_lt_of_le (by have:=World.block_lt_of_cell? _ _ hw340_0;first|rwa [add_block] at this|exact this) GW341.out))) _).trans (hHeld.2.2.2.2.2.1)))))),((cell_far (p:=⟨gb341,_,none⟩) (by first|exact Nat.ne_of_lt (Nat.lt_of_lt_of_le (by have:=World.block_lt_of_cell? _ _ hw340_1;first|rwa [add_block] at this|exact this) GW341.out)|(rw [add_block];exact Nat.ne_of_lt (Nat.lt_of_lt_of_le (by have:=World.block_lt_of_cell? _ _ hw340_1;first|rwa [add_block] at this|exact this) GW341.out))|(show (Addr.add _ _).block ≠ _;rw [add_block];exact Nat.ne_of_lt (Nat.lt_of_lt_of_le (by have:=World.block_lt_of_cell? _ _ hw340_1;first|rwa [add_block] at this|exact this) GW341.out))|(dsimp only;exact Nat.ne_of_lt (Nat.lt_of_lt_of_le (by have:=World.block_lt_of_cell? _ _ hw340_1;first|rwa [add_block] at this|exact this) GW341.out))) _).trans (((cell_far (p:=⟨gb341,_,none⟩) (by first|exact Nat.ne_of_lt (Nat.lt_of_lt_of_le (by have:=World.block_lt_of_cell? _ _ hw340_1;first|rwa [add_block] at this|exact this) GW341.out)|(rw [add_block];exact Nat.ne_of_lt (Nat.lt_of_lt_of_le (by have:=World.block_lt_of_cell? _ _ hw340_1;first|rwa [add_block] at this|exact this) GW341.out))|(show (Addr.add _ _).block ≠ _;rw [add_block];exact Nat.ne_of_lt (Nat.lt_of_lt_of_le (by have:=World.block_lt_of_cell? _ _ hw340_1;first|rwa [add_block] at this|exact this) GW341.out))|(dsimp only;exact Nat.ne_of_lt (Nat.lt_of_lt_of_le (by have:=World.block_lt_of_cell? _ _ hw340_1;first|rwa [add_block] at this|exact this) GW341.out))) _).trans (((cell_far (p:=⟨gb341,_,none⟩) (by first|exact Nat.ne_of_lt (Nat.lt_of_lt_of_le (by have:=World.block_lt_of_cell? _ _ hw340_1;first|rwa [add_block] at this|exact this) GW341.out)|(rw [add_block];exact Nat.ne_of_lt (Nat.lt_of_lt_of_le (by have:=World.block_lt_of_cell? _ _ hw340_1;first|rwa [add_block] at this|exact this) GW341.out))|(show (Addr.add _ _).block ≠ _;rw [add_block];exact Nat.ne_of_lt (Nat.lt_of_lt_of_le (by have:=World.block_lt_of_cell? _ _ hw340_1;first|rwa [add_block] at this|exact this) GW341.out))|(dsimp only;exact Nat.ne_of_lt (Nat.lt_of_lt_of_le (by have:=World.block_lt_of_cell? _ _ hw340_1;first|rwa [add_block] at this|exact this) GW341.out))) _).trans (hHeld.2.2.2.2.2.2.1)))))),((cell_far (p:=⟨gb341,_,none⟩) (by first|exact Nat.ne_of_lt (Nat.lt_of_lt_of_le (by have:=World.block_lt_of_cell? _ _ hw340_2;first|rwa [add_block] at this|exact this) GW341.out)|(rw [add_block];exact Nat.ne_of_lt (Nat.lt_of_lt_of_le (by have:=World.block_lt_of_cell? _ _ hw340_2;first|rwa [add_block] at this|exact this) GW341.out))|(show (Addr.add _ _).block ≠ _;rw [add_block];exact Nat.ne_of_lt (Nat.lt_of_lt_of_le (by have:=World.block_lt_of_cell? _ _ hw340_2;first|rwa [add_block] at this|exact this) GW341.out))|(dsimp only;exact Nat.ne_of_lt (Nat.lt_of_lt_of_le (by have:=World.block_lt_of_cell? _ _ hw340_2;first|rwa [add_block] at this|exact this) GW341.out))) _).trans (((cell_far (p:=⟨gb341,_,none⟩) (by first|exact Nat.ne_of_lt (Nat.lt_of_lt_of_le (by have:=World.block_lt_of_cell? _ _ hw340_2;first|rwa [add_block] at this|exact this) GW341.out)|(rw [add_block];exact Nat.ne_of_lt (Nat.lt_of_lt_of_le (by have:=World.block_lt_of_cell? _ _ hw340_2;first|rwa [add_block] at this|exact this) GW341.out))|(show (Addr.add _ _).block ≠ _;rw [add_block];exact Nat.ne_of_lt (Nat.lt_of_lt_of_le (by have:=World.block_lt_of_cell? _ _ hw340_2;first|rwa [add_block] at this|exact this) GW341.out))|(dsimp only;exact Nat.ne_of_lt (Nat.lt_of_lt_of_le (by have:=World.block_lt_of_cell? _ _ hw340_2;first|rwa [add_block] at this|exact this) GW341.out))) _).trans (((cell_far (p:=⟨gb341,_,none⟩) (by first|exact Nat.ne_of_lt (Nat.lt_of_lt_of_le (by have:=World.block_lt_of_cell? _ _ hw340_2;first|rwa [add_block] at this|exact this) GW341.out)|(rw [add_block];exact Nat.ne_of_lt (Nat.lt_of_lt_of_le (by have:=World.block_lt_of_cell? _ _ hw340_2;first|rwa [add_block] at this|exact this) GW341.out))|(show (Addr.add _ _).block ≠ _;rw [add_block];exact Nat.ne_of_lt (Nat.lt_of_lt_of_le (by have:=World.block_lt_of_cell? _ _ hw340_2;first|rwa [add_block] at this|exact this) GW341.out))|(dsimp only;exact Nat.ne_of_lt (Nat.lt_of_lt_of_le (by have:=World.block_lt_of_cell? _ _ hw340_2;first|rwa [add_block] at this|exact this) GW341.out))) _).trans (hHeld.2.2.2.2.2.2.2))))))⟩ (fun hHeld=>?_)
       clear hK K
       refine one_ (i:=13) (N:=none) #[true,true,true,true,true,true,true,true,true,true,true,true,true,true] rfl rfl (one_of HT_.out (by kernel_rfl)) (by decide) (fun K hK=>?_)
       have hs22:w18.cell? ⟨gb342,0,none⟩=some (.int .i64 0):=(blk_cell BK342.out 0).trans rfl
       have hfs22:=blk_frozen BK342.out 0
       have hns22_0:=NB337_342.out
       have hns22_1:=NB338_342.out
       have hns22_2:=NB341_342.out
       have hms22_0:=NB342_337.out
       have hms22_1:=NB342_338.out
       have hms22_2:=NB342_341.out
       have hs23:w18.cell? ⟨gb342,1,none⟩=some (.bool false):=(blk_cell BK342.out 1).trans rfl
       have hfs23:=blk_frozen BK342.out 1
       have hns23_0:=NB337_342.out
       have hns23_1:=NB338_342.out
       have hns23_2:=NB341_342.out
       have hms23_0:=NB342_337.out
       have hms23_1:=NB342_338.out
       have hms23_2:=NB342_341.out
       have hs24:w18.cell? ⟨gb342,2,none⟩=some (.slice none 0 0):=(blk_cell BK342.out 2).trans rfl
       have hfs24:=blk_frozen BK342.out 2
       have hns24_0:=NB337_342.out
       have hns24_1:=NB338_342.out
       have hns24_2:=NB341_342.out
       have hms24_0:=NB342_337.out
       have hms24_1:=NB342_338.out
       have hms24_2:=NB342_341.out
       refine skip_ (w1:=?_) (by rfl) rfl ?_ ?_
       rotate_left
       ·go_simp
        rfl
       refine hK.out _ _ ⟨((cell_far (p:=⟨gb342,_,none⟩) NB337_342.out _).trans (((cell_far (p:=⟨gb342,_,none⟩) NB337_342.out _).trans (((cell_far (p:=⟨gb342,_,none⟩) NB337_342.out _).trans (hHeld.1)))))),((cell_far (p:=⟨gb342,_,none⟩) NB338_342.out _).trans (((cell_far (p:=⟨gb342,_,none⟩) NB338_342.out _).trans (((cell_far (p:=⟨gb342,_,none⟩) NB338_342.out _).trans (hHeld.2.1)))))),((cell_far (p:=⟨gb342,_,none⟩) (by first|exact Nat.ne_of_lt (Nat.lt_of_lt_of_le (by have:=World.block_lt_of_cell? _ _ hw339_0;first|rwa [add_block] at this|exact this) GW342.out)|(rw [add_block];exact Nat.ne_of_lt (Nat.lt_of_lt_of_le (by have:=World.block_lt_of_cell? _ _ hw339_0;first|rwa [add_block] at this|exact this) GW342.out))|(show (Addr.add _ _).block ≠ _;rw [add_block];exact Nat.ne_of_lt (Nat.lt_of_lt_of_le (by have:=World.block_lt_of_cell? _ _ hw339_0;first|rwa [add_block] at this|exact this) GW342.out))|(dsimp only;exact Nat.ne_of_lt (Nat.lt_of_lt_of_le (by have:=World.block_lt_of_cell? _ _ hw339_0;first|rwa [add_block] at this|exact this) GW342.out))) _).trans (((cell_far (p:=⟨gb342,_,none⟩) (by first|exact Nat.ne_of_lt (Nat.lt_of_lt_of_le (by have:=World.block_lt_of_cell? _ _ hw339_0;first|rwa [add_block] at this|exact this) GW342.out)|(rw [add_block];exact Nat.ne_of_lt (Nat.lt_of_lt_of_le (by have:=World.block_lt_of_cell? _ _ hw339_0;first|rwa [add_block] at this|exact this) GW342.out))|(show (Addr.add _ _).block ≠ _;rw [add_block];exact Nat.ne_of_lt (Nat.lt_of_lt_of_le (by have:=World.block_lt_of_cell? _ _ hw339_0;first|rwa [add_block] at this|exact this) GW342.out))|(dsimp only;exact Nat.ne_of_lt (Nat.lt_of_lt_of_le (by have:=World.block_lt_of_cell? _ _ hw339_0;first|rwa [add_block] at this|exact this) GW342.out))) _).trans (((cell_far (p:=⟨gb342,_,none⟩) (by first|exact Nat.ne_of_lt (Nat.lt_of_lt_of_le (by have:=World.block_lt_of_cell? _ _ hw339_0;first|rwa [add_block] at this|exact this) GW342.out)|(rw [add_block];exact Nat.ne_of_lt (Nat.lt_of_lt_of_le (by have:=World.block_lt_of_cell? _ _ hw339_0;first|rwa [add_block] at this|exact this) GW342.out))|(show (Addr.add _ _).block ≠ _;rw [add_block];exact Nat.ne_of_lt (Nat.lt_of_lt_of_le (by have:=World.block_lt_of_cell? _ _ hw339_0;first|rwa [add_block] at this|exact this) GW342.out))|(dsimp only;exact Nat.ne_of_lt (Nat.lt_of_lt_of_le (by have:=World.block_lt_of_cell? _ _ hw339_0;first|rwa [add_block] at this|exact this) GW342.out))) _).trans (hHeld.2.2.1)))))),((cell_far (p:=⟨gb342,_,none⟩) (by first|exact Nat.ne_of_lt (Nat.lt_of_lt_of_le (by have:=World.block_lt_of_cell? _ _ hw339_1;first|rwa [add_block] at this|exact this) GW342.out)|(rw [add_block];exact Nat.ne_of_lt (Nat.lt_of_lt_of_le (by have:=World.block_lt_of_cell? _ _ hw339_1;first|rwa [add_block] at this|exact this) GW342.out))|(show (Addr.add _ _).block ≠ _;rw [add_block];exact Nat.ne_of_lt (Nat.lt_of_lt_of_le (by have:=World.block_lt_of_cell? _ _ hw339_1;first|rwa [add_block] at this|exact this) GW342.out))|(dsimp only;exact Nat.ne_of_lt (Nat.lt_of_lt_of_le (by have:=World.block_lt_of_cell? _ _ hw339_1;first|rwa [add_block] at this|exact this) GW342.out))) _).trans (((cell_far (p:=⟨gb342,_,none⟩) (by first|exact Nat.ne_of_lt (Nat.lt_of_lt_of_le (by have:=World.block_lt_of_cell? _ _ hw339_1;first|rwa [add_block] at this|exact this) GW342.out)|(rw [add_block];exact Nat.ne_of_lt (Nat.lt_of_lt_of_le (by have:=World.block_lt_of_cell? _ _ hw339_1;first|rwa [add_block] at this|exact this) GW342.out))|(show (Addr.add _ _).block ≠ _;rw [add_block];exact Nat.ne_of_lt (Nat.lt_of_lt_of_le (by have:=World.block_lt_of_cell? _ _ hw339_1;first|rwa [add_block] at this|exact this) GW342.out))|(dsimp only;exact Nat.ne_of_lt (Nat.lt_of_lt_of_le (by have:=World.block_lt_of_cell? _ _ hw339_1;first|rwa [add_block] at this|exact this) GW342.out))) _).trans (((cell_far (p:=⟨gb342,_,none⟩) (by first|exact Nat.ne_of_lt (Nat.lt_of_lt_of_le (by have:=World.block_lt_of_cell? _ _ hw339_1;first|rwa [add_block] at this|exact this) GW342.out)|(rw [add_block];exact Nat.ne_of_lt (Nat.lt_of_lt_of_le (by have:=World.block_lt_of_cell? _ _ hw339_1;first|rwa [add_block] at this|exact this) GW342.out))|(show (Addr.add _ _).block ≠ _;rw [add_block];exact Nat.ne_of_lt (Nat.lt_of_lt_of_le (by have:=World.block_lt_of_cell? _ _ hw339_1;first|rwa [add_block] at this|exact this) GW342.out))|(dsimp only;exact Nat.ne_of_lt (Nat.lt_of_lt_of_le (by have:=World.block_lt_of_cell? _ _ hw339_1;first|rwa [add_block] at this|exact this) GW342.out))) _).trans (hHeld.2.2.2.1)))))),((cell_far (p:=⟨gb342,_,none⟩) (by first|exact Nat.ne_of_lt (Nat.lt_of_lt_of_le (by have:=World.block_lt_of_cell? _ _ hw339_2;first|rwa [add_block] at this|exact this) GW342.out)|(rw [add_block];exact Nat.ne_of_lt (Nat.lt_of_lt_of_le (by have:=World.block_lt_of_cell? _ _ hw339_2;first|rwa [add_block] at this|exact this) GW342.out))|(show (Addr.add _ _).block ≠ _;rw [add_block];exact Nat.ne_of_lt (Nat.lt_of_lt_of_le (by have:=World.block_lt_of_cell? _ _ hw339_2;first|rwa [add_block] at this|exact this) GW342.out))|(dsimp only;exact Nat.ne_of_lt (Nat.lt_of_lt_of_le (by have:=World.block_lt_of_cell? _ _ hw339_2;first|rwa [add_block] at this|exact this) GW342.out))) _).trans (((cell_far (p:=⟨gb342,_,none⟩) (by first|exact Nat.ne_of_lt (Nat.lt_of_lt_of_le (by have:=World.block_lt_of_cell? _ _ hw339_2;first|rwa [add_block] at this|exact this) GW342.out)|(rw [add_block];exact Nat.ne_of_lt (Nat.lt_of_lt_of_le (by have:=World.block_lt_of_cell? _ _ hw339_2;first|rwa [add_block] at this|exact this) GW342.out))|(show (Addr.add _ _).block ≠ _;rw [add_block];exact Nat.ne_of_lt (Nat.lt_of_lt_of_le (by have:=World.block_lt_of_cell? _ _ hw339_2;first|rwa [add_block] at this|exact this) GW342.out))|(dsimp only;exact Nat.ne_of_lt (Nat.lt_of_lt_of_le (by have:=World.block_lt_of_cell? _ _ hw339_2;first|rwa [add_block] at this|exact this) GW342.out))) _).trans (((cell_far (p:=⟨gb342,_,none⟩) (by first|exact Nat.ne_of_lt (Nat.lt_of_lt_of_le (by have:=World.block_lt_of_cell? _ _ hw339_2;first|rwa [add_block] at this|exact this) GW342.out)|(rw [add_block];exact Nat.ne_of_lt (Nat.lt_of_lt_of_le (by have:=World.block_lt_of_cell? _ _ hw339_2;first|rwa [add_block] at this|exact this) GW342.out))|(show (Addr.add _ _).block ≠ _;rw [add_block];exact Nat.ne_of_lt (Nat.lt_of_lt_of_le (by have:=World.block_lt_of_cell? _ _ hw339_2;first|rwa [add_block] at this|exact this) GW342.out))|(dsimp only;exact Nat.ne_of_lt (Nat.lt_of_lt_of_le (by have:=World.block_lt_of_cell? _ _ hw339_2;first|rwa [add_block] at this|exact this) GW342.out))) _).trans (hHeld.2.2.2.2.1)))))),((cell_far (p:=⟨gb342,_,none⟩) (by first|exact Nat.ne_of_lt (Nat.lt_of_lt_of_le (by have:=World.block_lt_of_cell? _ _ hw340_0;first|rwa [add_block] at this|exact this) GW342.out)|(rw [add_block];exact Nat.ne_of_lt (Nat.lt_of_lt_of_le (by have:=World.block_lt_of_cell? _ _ hw340_0;first|rwa [add_block] at this|exact this) GW342.out))|(show (Addr.add _ _).block ≠ _;rw [add_block];exact Nat.ne_of_lt (Nat.lt_of_lt_of_le (by have:=World.block_lt_of_cell? _ _ hw340_0;first|rwa [add_block] at this|exact this) GW342.out))|(dsimp only;exact Nat.ne_of_lt (Nat.lt_of_lt_of_le (by have:=World.block_lt_of_cell? _ _ hw340_0;first|rwa [add_block] at this|exact this) GW342.out))) _).trans (((cell_far (p:=⟨gb342,_,none⟩) (by first|exact Nat.ne_of_lt (Nat.lt_of_lt_of_le (by have:=World.block_lt_of_cell? _ _ hw340_0;first|rwa [add_block] at this|exact this) GW342.out)|(rw [add_block];exact Nat.ne_of_lt (Nat.lt_of_lt_of_le (by have:=World.block_lt_of_cell? _ _ hw340_0;first|rwa [add_block] at this|exact this) GW342.out))|(show (Addr.add _ _).block ≠ _;rw [add_block];exact Nat.ne_of_lt (Nat.lt_of_lt_of_le (by have:=World.block_lt_of_cell? _ _ hw340_0;first|rwa [add_block] at this|exact this) GW342.out))|(dsimp only;exact Nat.ne_of_lt (Nat.lt_of_lt_of_le (by have:=World.block_lt_of_cell? _ _ hw340_0;first|rwa [add_block] at this|exact this) GW342.out))) _).trans (((cell_far (p:=⟨gb342,_,none⟩) (by first|exact Nat.ne_of_lt (Nat.lt_of_lt_of_le (by have:=World.block_lt_of_cell? _ _ hw340_0;first|rwa [add_block] at this|exact this) GW342.out)|(rw [add_block];exact Nat.ne_of_lt (Nat.lt_of_lt_of_le (by have:=World.block_lt_of_cell? _ _ hw340_0;first|rwa [add_block] at this|exact this) GW342.out))|(show (Addr.add _ _).block ≠ _;rw [add_block];exact Nat.ne_of_lt (Nat.lt_of_lt_of_le (by have:=World.block_lt_of_cell? _ _ hw340_0;first|rwa [add_block] at this|exact this) GW342.out))|(dsimp only;exact Nat.ne_of_lt (Nat.lt_of_lt_of_le (by have:=World.block_lt_of_cell? _ _ hw340_0;first|rwa [add_block] at this|exact this) GW342.out))) _).trans (hHeld.2.2.2.2.2.1)))))),((cell_far (p:=⟨gb342,_,none⟩) (by first|exact Nat.ne_of_lt (Nat.lt_of_lt_of_le (by have:=World.block_lt_of_cell? _ _ hw340_1;first|rwa [add_block] at this|exact this) GW342.out)|(rw [add_block];exact Nat.ne_of_lt (Nat.lt_of_lt_of_le (by have:=World.block_lt_of_cell? _ _ hw340_1;first|rwa [add_block] at this|exact this) GW342.out))|(show (Addr.add _ _).block ≠ _;rw [add_block];exact Nat.ne_of_lt (Nat.lt_of_lt_of_le (by have:=World.block_lt_of_cell? _ _ hw340_1;first|rwa [add_block] at this|exact this) GW342.out))|(dsimp only;exact Nat.ne_of_lt (Nat.lt_of_lt_of_le (by have:=World.block_lt_of_cell? _ _ hw340_1;first|rwa [add_block] at this|exact this) GW342.out))) _).trans (((cell_far (p:=⟨gb342,_,none⟩) (by first|exact Nat.ne_of_lt (Nat.lt_of_lt_of_le (by have:=World.block_lt_of_cell? _ _ hw340_1;first|rwa [add_block] at this|exact this) GW342.out)|(rw [add_block];exact Nat.ne_of_lt (Nat.lt_of_lt_of_le (by have:=World.block_lt_of_cell? _ _ hw340_1;first|rwa [add_block] at this|exact this) GW342.out))|(show (Addr.add _ _).block ≠ _;rw [add_block];exact Nat.ne_of_lt (Nat.lt_of_lt_of_le (by have:=World.block_lt_of_cell? _ _ hw340_1;first|rwa [add_block] at this|exact this) GW342.out))|(dsimp only;exact Nat.ne_of_lt (Nat.lt_of_lt_of_le (by have:=World.block_lt_of_cell? _ _ hw340_1;first|rwa [add_block] at this|exact this) GW342.out))) _).trans (((cell_far (p:=⟨gb342,_,none⟩) (by first|exact Nat.ne_of_lt (Nat.lt_of_lt_of_le (by have:=World.block_lt_of_cell? _ _ hw340_1;first|rwa [add_block] at this|exact this) GW342.out)|(rw [add_block];exact Nat.ne_of_lt (Nat.lt_of_lt_of_le (by have:=World.block_lt_of_cell? _ _ hw340_1;first|rwa [add_block] at this|exact this) GW342.out))|(show (Addr.add _ _).block ≠ _;rw [add_block];exact Nat.ne_of_lt (Nat.lt_of_lt_of_le (by have:=World.block_lt_of_cell? _ _ hw340_1;first|rwa [add_block] at this|exact this) GW342.out))|(dsimp only;exact Nat.ne_of_lt (Nat.lt_of_lt_of_le (by have:=World.block_lt_of_cell? _ _ hw340_1;first|rwa [add_block] at this|exact this) GW342.out))) _).trans (hHeld.2.2.2.2.2.2.1)))))),((cell_far (p:=⟨gb342,_,none⟩) (by first|exact Nat.ne_of_lt (Nat.lt_of_lt_of_le (by have:=World.block_lt_of_cell? _ _ hw340_2;first|rwa [add_block] at this|exact this) GW342.out)|(rw [add_block];exact Nat.ne_of_lt (Nat.lt_of_lt_of_le (by have:=World.block_lt_of_cell? _ _ hw340_2;first|rwa [add_block] at this|exact this) GW342.out))|(show (Addr.add _ _).block ≠ _;rw [add_block];exact Nat.ne_of_lt (Nat.lt_of_lt_of_le (by have:=World.block_lt_of_cell? _ _ hw340_2;first|rwa [add_block] at this|exact this) GW342.out))|(dsimp only;exact Nat.ne_of_lt (Nat.lt_of_lt_of_le (by have:=World.block_lt_of_cell? _ _ hw340_2;first|rwa [add_block] at this|exact this) GW342.out))) _).trans (((cell_far (p:=⟨gb342,_,none⟩) (by first|exact Nat.ne_of_lt (Nat.lt_of_lt_of_le (by have:=World.block_lt_of_cell? _ _ hw340_2;first|rwa [add_block] at this|exact this) GW342.out)|(rw [add_block];exact Nat.ne_of_lt (Nat.lt_of_lt_of_le (by have:=World.block_lt_of_cell? _ _ hw340_2;first|rwa [add_block] at this|exact this) GW342.out))|(show (Addr.add _ _).block ≠ _;rw [add_block];exact Nat.ne_of_lt (Nat.lt_of_lt_of_le (by have:=World.block_lt_of_cell? _ _ hw340_2;first|rwa [add_block] at this|exact this) GW342.out))|(dsimp only;exact Nat.ne_of_lt (Nat.lt_of_lt_of_le (by have:=World.block_lt_of_cell? _ _ hw340_2;first|rwa [add_block] at this|exact this) GW342.out))) _).trans (((cell_far (p:=⟨gb342,_,none⟩) (by first|exact Nat.ne_of_lt (Nat.lt_of_lt_of_le (by have:=World.block_lt_of_cell? _ _ hw340_2;first|rwa [add_block] at this|exact this) GW342.out)|(rw [add_block];exact Nat.ne_of_lt (Nat.lt_of_lt_of_le (by have:=World.block_lt_of_cell? _ _ hw340_2;first|rwa [add_block] at this|exact this) GW342.out))|(show (Addr.add _ _).block ≠ _;rw [add_block];exact Nat.ne_of_lt (Nat.lt_of_lt_of_le (by have:=World.block_lt_of_cell? _ _ hw340_2;first|rwa [add_block] at this|exact this) GW342.out))|(dsimp only;exact Nat.ne_of_lt (Nat.lt_of_lt_of_le (by have:=World.block_lt_of_cell? _ _ hw340_2;first|rwa [add_block] at this|exact this) GW342.out))) _).trans (hHeld.2.2.2.2.2.2.2))))))⟩ (fun hHeld=>?_)
       clear hK K
       refine done_ (done_of HT_.out (by kernel_rfl)) ?_
       go_upto_region 7 with (fail)
       go_cut [53] (fun v53 wc=>∃ (kq:Nat) (x53_11:Bool),v53=.bool x53_11∧Aside0 (coronerref03_Same.j1 kq x5_1 x53_11 l0_0 l1_0 ((rd_T42 l0_0 x5_1).f0) ((rd_T42 l0_0 x5_1).f1) ((rd_T42 l0_0 x5_1).f2) ((rd_T42 l1_0 x5_1).f0) ((rd_T42 l1_0 x5_1).f1) ((rd_T42 l1_0 x5_1).f2)=some r)∧Aside0 (kq≤k1)∧Aside0 (wc.heap[gb337]?=some (.cells #[(.slice (some ad339) l0_0.length c0_0)] 24 (0,0)))∧Aside0 (wc.heap[gb338]?=some (.cells #[(.slice (some ad340) l1_0.length c1_0)] 24 (0,0)))∧Aside0 (wc.heap[gb341]?=some (.cells #[.int .i64 ((rd_T42 l0_0 x5_1).f0),.bool ((rd_T42 l0_0 x5_1).f1),(.slice A339_2 ((rd_T42 l0_0 x5_1).f2).length c339_2)] 42 (0,0)))∧Aside0 (wc.heap[gb342]?=some (.cells #[.int .i64 ((rd_T42 l1_0 x5_1).f0),.bool ((rd_T42 l1_0 x5_1).f1),(.slice A340_2 ((rd_T42 l1_0 x5_1).f2).length c340_2)] 42 (0,0)))∧Aside0 (Below w.heap.size w wc))
       case first =>
        have H:=HC12.out
        clear HC12
        by_cases c25:((rd_T42 l0_0 x5_1).f0)=((rd_T42 l1_0 x5_1).f0)
        ·rw [if_pos c25] at H
         have c25b0:(((rd_T42 l0_0 x5_1).f0) == ((rd_T42 l1_0 x5_1).f0))=true:=beq_iff_eq.mpr c25
         have c25b1:(((rd_T42 l0_0 x5_1).f0) != ((rd_T42 l1_0 x5_1).f0))=false:=bne_eq_false_iff_eq.mpr c25
         clear c25
         (first|rw [c25b0]|(simp only [i64_w,i32_w];rw [c25b0])|skip)
         by_cases c26:(((rd_T42 l0_0 x5_1).f1) != ((rd_T42 l1_0 x5_1).f1))=true
         ·rw [if_pos c26] at H
          have c26b0:(((rd_T42 l0_0 x5_1).f1) != ((rd_T42 l1_0 x5_1).f1))=true:=c26
          (try (have c26b1:decide (((rd_T42 l0_0 x5_1).f1)=((rd_T42 l1_0 x5_1).f1))=false:=by simpa using c26))
          (try (have c26b2:(((rd_T42 l0_0 x5_1).f1) == ((rd_T42 l1_0 x5_1).f1))=false:=by simpa using c26))
          (try (have c26b3:¬ (((rd_T42 l0_0 x5_1).f1)=((rd_T42 l1_0 x5_1).f1)):=by simpa using c26))
          clear c26
          have H':=Aside0.mk H
          clear H
          have hnb27:=NB341_337.out
          have hnc27:=NB337_341.out
          have hnb28:=NB341_338.out
          have hnc28:=NB338_341.out
          have hnb29:=NB341_342.out
          have hnc29:=NB342_341.out
          have hcz30_0:w18.cell? ⟨gb341,0,none⟩=some (.int .i64 0):=(blk_cell BK341.out 0).trans rfl
          have hcz30_1:w18.cell? ⟨gb341,1,none⟩=some (.bool false):=(blk_cell BK341.out 1).trans rfl
          have hcz30_2:w18.cell? ⟨gb341,2,none⟩=some (.slice none 0 0):=(blk_cell BK341.out 2).trans rfl
          have hfz30_0:=blk_frozen BK341.out 0
          have hfz30_1:=blk_frozen BK341.out 1
          have hfz30_2:=blk_frozen BK341.out 2
          have hnb31:=NB342_337.out
          have hnc31:=NB337_342.out
          have hnb32:=NB342_338.out
          have hnc32:=NB338_342.out
          have hcz33_0:w18.cell? ⟨gb342,0,none⟩=some (.int .i64 0):=(blk_cell BK342.out 0).trans rfl
          have hcz33_1:w18.cell? ⟨gb342,1,none⟩=some (.bool false):=(blk_cell BK342.out 1).trans rfl
          have hcz33_2:w18.cell? ⟨gb342,2,none⟩=some (.slice none 0 0):=(blk_cell BK342.out 2).trans rfl
          have hfz33_0:=blk_frozen BK342.out 0
          have hfz33_1:=blk_frozen BK342.out 1
          have hfz33_2:=blk_frozen BK342.out 2
          go_wp2
          go_meet
          case rel=>exact ⟨_,(true),(by first|rfl|(simp;done)|(simp [*];done)),H',⟨by have:=HK1.out;first|omega|exact Nat.le_refl _⟩,⟨by (with_reducible repeat (first|refine blk_drewN ?_ _|refine blk_drew ?_|refine blk_alloc ?_ _));refine blk_far ?_ NB337_342.out _;(with_reducible repeat (first|refine blk_drewN ?_ _|refine blk_drew ?_|refine blk_alloc ?_ _));refine blk_far ?_ NB337_342.out _;(with_reducible repeat (first|refine blk_drewN ?_ _|refine blk_drew ?_|refine blk_alloc ?_ _));refine blk_far ?_ NB337_342.out _;(with_reducible repeat (first|refine blk_drewN ?_ _|refine blk_drew ?_|refine blk_alloc ?_ _));refine blk_far ?_ NB337_341.out _;(with_reducible repeat (first|refine blk_drewN ?_ _|refine blk_drew ?_|refine blk_alloc ?_ _));refine blk_far ?_ NB337_341.out _;(with_reducible repeat (first|refine blk_drewN ?_ _|refine blk_drew ?_|refine blk_alloc ?_ _));refine blk_far ?_ NB337_341.out _;(with_reducible repeat (first|refine blk_drewN ?_ _|refine blk_drew ?_|refine blk_alloc ?_ _));exact BK337.out⟩,⟨by (with_reducible repeat (first|refine blk_drewN ?_ _|refine blk_drew ?_|refine blk_alloc ?_ _));refine blk_far ?_ NB338_342.out _;(with_reducible repeat (first|refine blk_drewN ?_ _|refine blk_drew ?_|refine blk_alloc ?_ _));refine blk_far ?_ NB338_342.out _;(with_reducible repeat (first|refine blk_drewN ?_ _|refine blk_drew ?_|refine blk_alloc ?_ _));refine blk_far ?_ NB338_342.out _;(with_reducible repeat (first|refine blk_drewN ?_ _|refine blk_drew ?_|refine blk_alloc ?_ _));refine blk_far ?_ NB338_341.out _;(with_reducible repeat (first|refine blk_drewN ?_ _|refine blk_drew ?_|refine blk_alloc ?_ _));refine blk_far ?_ NB338_341.out _;(with_reducible repeat (first|refine blk_drewN ?_ _|refine blk_drew ?_|refine blk_alloc ?_ _));refine blk_far ?_ NB338_341.out _;(with_reducible repeat (first|refine blk_drewN ?_ _|refine blk_drew ?_|refine blk_alloc ?_ _));exact BK338.out⟩,⟨by (with_reducible repeat (first|refine blk_drewN ?_ _|refine blk_drew ?_|refine blk_alloc ?_ _));refine blk_far ?_ NB341_342.out _;(with_reducible repeat (first|refine blk_drewN ?_ _|refine blk_drew ?_|refine blk_alloc ?_ _));refine blk_far ?_ NB341_342.out _;(with_reducible repeat (first|refine blk_drewN ?_ _|refine blk_drew ?_|refine blk_alloc ?_ _));refine blk_far ?_ NB341_342.out _;(with_reducible repeat (first|refine blk_drewN ?_ _|refine blk_drew ?_|refine blk_alloc ?_ _));refine blk_put (cs:=#[.int .i64 ((rd_T42 l0_0 x5_1).f0),.bool ((rd_T42 l0_0 x5_1).f1),.slice none 0 0]) ?_ 2 _ rfl;(with_reducible repeat (first|refine blk_drewN ?_ _|refine blk_drew ?_|refine blk_alloc ?_ _));refine blk_put (cs:=#[.int .i64 ((rd_T42 l0_0 x5_1).f0),.bool false,.slice none 0 0]) ?_ 1 _ rfl;(with_reducible repeat (first|refine blk_drewN ?_ _|refine blk_drew ?_|refine blk_alloc ?_ _));refine blk_put (cs:=#[.int .i64 0,.bool false,.slice none 0 0]) ?_ 0 _ rfl;(with_reducible repeat (first|refine blk_drewN ?_ _|refine blk_drew ?_|refine blk_alloc ?_ _));exact BK341.out⟩,⟨by (with_reducible repeat (first|refine blk_drewN ?_ _|refine blk_drew ?_|refine blk_alloc ?_ _));refine blk_put (cs:=#[.int .i64 ((rd_T42 l1_0 x5_1).f0),.bool ((rd_T42 l1_0 x5_1).f1),.slice none 0 0]) ?_ 2 _ rfl;(with_reducible repeat (first|refine blk_drewN ?_ _|refine blk_drew ?_|refine blk_alloc ?_ _));refine blk_put (cs:=#[.int .i64 ((rd_T42 l1_0 x5_1).f0),.bool false,.slice none 0 0]) ?_ 1 _ rfl;(with_reducible repeat (first|refine blk_drewN ?_ _|refine blk_drew ?_|refine blk_alloc ?_ _));refine blk_put (cs:=#[.int .i64 0,.bool false,.slice none 0 0]) ?_ 0 _ rfl;(with_reducible repeat (first|refine blk_drewN ?_ _|refine blk_drew ?_|refine blk_alloc ?_ _));refine blk_far ?_ NB342_341.out _;(with_reducible repeat (first|refine blk_drewN ?_ _|refine blk_drew ?_|refine blk_alloc ?_ _));refine blk_far ?_ NB342_341.out _;(with_reducible repeat (first|refine blk_drewN ?_ _|refine blk_drew ?_|refine blk_alloc ?_ _));refine blk_far ?_ NB342_341.out _;(with_reducible repeat (first|refine blk_drewN ?_ _|refine blk_drew ?_|refine blk_alloc ?_ _));exact BK342.out⟩,⟨by repeat (first|(with_reducible first|exact HB.out|apply below_alloc|apply pw_below_drewN|apply below_drew1|refine below_set ?_ GE337.out|refine below_set ?_ GE338.out|refine below_set ?_ GE341.out|refine below_set ?_ GE342.out)|exact HB.out)⟩⟩
         ·rw [if_neg c26] at H
          have c26b0:(((rd_T42 l0_0 x5_1).f1) != ((rd_T42 l1_0 x5_1).f1))=false:=by simpa using c26
          (try (have c26b1:decide (((rd_T42 l0_0 x5_1).f1)=((rd_T42 l1_0 x5_1).f1))=true:=by simpa using c26))
          (try (have c26b2:(((rd_T42 l0_0 x5_1).f1) == ((rd_T42 l1_0 x5_1).f1))=true:=by simpa using c26))
          clear c26
          have H':=Aside0.mk H
          clear H
          have hnb34:=NB341_337.out
          have hnc34:=NB337_341.out
          have hnb35:=NB341_338.out
          have hnc35:=NB338_341.out
          have hnb36:=NB341_342.out
          have hnc36:=NB342_341.out
          have hcz37_0:w18.cell? ⟨gb341,0,none⟩=some (.int .i64 0):=(blk_cell BK341.out 0).trans rfl
          have hcz37_1:w18.cell? ⟨gb341,1,none⟩=some (.bool false):=(blk_cell BK341.out 1).trans rfl
          have hcz37_2:w18.cell? ⟨gb341,2,none⟩=some (.slice none 0 0):=(blk_cell BK341.out 2).trans rfl
          have hfz37_0:=blk_frozen BK341.out 0
          have hfz37_1:=blk_frozen BK341.out 1
          have hfz37_2:=blk_frozen BK341.out 2
          have hnb38:=NB342_337.out
          have hnc38:=NB337_342.out
          have hnb39:=NB342_338.out
          have hnc39:=NB338_342.out
          have hcz40_0:w18.cell? ⟨gb342,0,none⟩=some (.int .i64 0):=(blk_cell BK342.out 0).trans rfl
          have hcz40_1:w18.cell? ⟨gb342,1,none⟩=some (.bool false):=(blk_cell BK342.out 1).trans rfl
          have hcz40_2:w18.cell? ⟨gb342,2,none⟩=some (.slice none 0 0):=(blk_cell BK342.out 2).trans rfl
          have hfz40_0:=blk_frozen BK342.out 0
          have hfz40_1:=blk_frozen BK342.out 1
          have hfz40_2:=blk_frozen BK342.out 2
          go_wp2
          go_meet
          case rel=>exact ⟨_,(((((rd_T42 l0_0 x5_1).f2).length:Int) != (((rd_T42 l1_0 x5_1).f2).length:Int))),(by first|rfl|(simp;done)|(simp [*];done)),H',⟨by have:=HK1.out;first|omega|exact Nat.le_refl _⟩,⟨by (with_reducible repeat (first|refine blk_drewN ?_ _|refine blk_drew ?_|refine blk_alloc ?_ _));refine blk_far ?_ NB337_342.out _;(with_reducible repeat (first|refine blk_drewN ?_ _|refine blk_drew ?_|refine blk_alloc ?_ _));refine blk_far ?_ NB337_342.out _;(with_reducible repeat (first|refine blk_drewN ?_ _|refine blk_drew ?_|refine blk_alloc ?_ _));refine blk_far ?_ NB337_342.out _;(with_reducible repeat (first|refine blk_drewN ?_ _|refine blk_drew ?_|refine blk_alloc ?_ _));refine blk_far ?_ NB337_341.out _;(with_reducible repeat (first|refine blk_drewN ?_ _|refine blk_drew ?_|refine blk_alloc ?_ _));refine blk_far ?_ NB337_341.out _;(with_reducible repeat (first|refine blk_drewN ?_ _|refine blk_drew ?_|refine blk_alloc ?_ _));refine blk_far ?_ NB337_341.out _;(with_reducible repeat (first|refine blk_drewN ?_ _|refine blk_drew ?_|refine blk_alloc ?_ _));exact BK337.out⟩,⟨by (with_reducible repeat (first|refine blk_drewN ?_ _|refine blk_drew ?_|refine blk_alloc ?_ _));refine blk_far ?_ NB338_342.out _;(with_reducible repeat (first|refine blk_drewN ?_ _|refine blk_drew ?_|refine blk_alloc ?_ _));refine blk_far ?_ NB338_342.out _;(with_reducible repeat (first|refine blk_drewN ?_ _|refine blk_drew ?_|refine blk_alloc ?_ _));refine blk_far ?_ NB338_342.out _;(with_reducible repeat (first|refine blk_drewN ?_ _|refine blk_drew ?_|refine blk_alloc ?_ _));refine blk_far ?_ NB338_341.out _;(with_reducible repeat (first|refine blk_drewN ?_ _|refine blk_drew ?_|refine blk_alloc ?_ _));refine blk_far ?_ NB338_341.out _;(with_reducible repeat (first|refine blk_drewN ?_ _|refine blk_drew ?_|refine blk_alloc ?_ _));refine blk_far ?_ NB338_341.out _;(with_reducible repeat (first|refine blk_drewN ?_ _|refine blk_drew ?_|refine blk_alloc ?_ _));exact BK338.out⟩,⟨by (with_reducible repeat (first|refine blk_drewN ?_ _|refine blk_drew ?_|refine blk_alloc ?_ _));refine blk_far ?_ NB341_342.out _;(with_reducible repeat (first|refine blk_drewN ?_ _|refine blk_drew ?_|refine blk_alloc ?_ _));refine blk_far ?_ NB341_342.out _;(with_reducible repeat (first|refine blk_drewN ?_ _|refine blk_drew ?_|refine blk_alloc ?_ _));refine blk_far ?_ NB341_342.out _;(with_reducible repeat (first|refine blk_drewN ?_ _|refine blk_drew ?_|refine blk_alloc ?_ _));refine blk_put (cs:=#[.int .i64 ((rd_T42 l0_0 x5_1).f0),.bool ((rd_T42 l0_0 x5_1).f1),.slice none 0 0]) ?_ 2 _ rfl;(with_reducible repeat (first|refine blk_drewN ?_ _|refine blk_drew ?_|refine blk_alloc ?_ _));refine blk_put (cs:=#[.int .i64 ((rd_T42 l0_0 x5_1).f0),.bool false,.slice none 0 0]) ?_ 1 _ rfl;(with_reducible repeat (first|refine blk_drewN ?_ _|refine blk_drew ?_|refine blk_alloc ?_ _));refine blk_put (cs:=#[.int .i64 0,.bool false,.slice none 0 0]) ?_ 0 _ rfl;(with_reducible repeat (first|refine blk_drewN ?_ _|refine blk_drew ?_|refine blk_alloc ?_ _));exact BK341.out⟩,⟨by (with_reducible repeat (first|refine blk_drewN ?_ _|refine blk_drew ?_|refine blk_alloc ?_ _));refine blk_put (cs:=#[.int .i64 ((rd_T42 l1_0 x5_1).f0),.bool ((rd_T42 l1_0 x5_1).f1),.slice none 0 0]) ?_ 2 _ rfl;(with_reducible repeat (first|refine blk_drewN ?_ _|refine blk_drew ?_|refine blk_alloc ?_ _));refine blk_put (cs:=#[.int .i64 ((rd_T42 l1_0 x5_1).f0),.bool false,.slice none 0 0]) ?_ 1 _ rfl;(with_reducible repeat (first|refine blk_drewN ?_ _|refine blk_drew ?_|refine blk_alloc ?_ _));refine blk_put (cs:=#[.int .i64 0,.bool false,.slice none 0 0]) ?_ 0 _ rfl;(with_reducible repeat (first|refine blk_drewN ?_ _|refine blk_drew ?_|refine blk_alloc ?_ _));refine blk_far ?_ NB342_341.out _;(with_reducible repeat (first|refine blk_drewN ?_ _|refine blk_drew ?_|refine blk_alloc ?_ _));refine blk_far ?_ NB342_341.out _;(with_reducible repeat (first|refine blk_drewN ?_ _|refine blk_drew ?_|refine blk_alloc ?_ _));refine blk_far ?_ NB342_341.out _;(with_reducible repeat (first|refine blk_drewN ?_ _|refine blk_drew ?_|refine blk_alloc ?_ _));exact BK342.out⟩,⟨by repeat (first|(with_reducible first|exact HB.out|apply below_alloc|apply pw_below_drewN|apply below_drew1|refine below_set ?_ GE337.out|refine below_set ?_ GE338.out|refine below_set ?_ GE341.out|refine below_set ?_ GE342.out)|exact HB.out)⟩⟩
        ·rw [if_neg c25] at H
         have c25b0:(((rd_T42 l0_0 x5_1).f0) == ((rd_T42 l1_0 x5_1).f0))=false:=beq_eq_false_iff_ne.mpr c25
         have c25b1:(((rd_T42 l0_0 x5_1).f0) != ((rd_T42 l1_0 x5_1).f0))=true:=bne_iff_ne.mpr c25
         (first|rw [c25b0]|(simp only [i64_w,i32_w];rw [c25b0])|skip)
         have H':=Aside0.mk H
         clear H
         have hnb41:=NB341_337.out
         have hnc41:=NB337_341.out
         have hnb42:=NB341_338.out
         have hnc42:=NB338_341.out
         have hnb43:=NB341_342.out
         have hnc43:=NB342_341.out
         have hcz44_0:w18.cell? ⟨gb341,0,none⟩=some (.int .i64 0):=(blk_cell BK341.out 0).trans rfl
         have hcz44_1:w18.cell? ⟨gb341,1,none⟩=some (.bool false):=(blk_cell BK341.out 1).trans rfl
         have hcz44_2:w18.cell? ⟨gb341,2,none⟩=some (.slice none 0 0):=(blk_cell BK341.out 2).trans rfl
         have hfz44_0:=blk_frozen BK341.out 0
         have hfz44_1:=blk_frozen BK341.out 1
         have hfz44_2:=blk_frozen BK341.out 2
         have hnb45:=NB342_337.out
         have hnc45:=NB337_342.out
         have hnb46:=NB342_338.out
         have hnc46:=NB338_342.out
         have hcz47_0:w18.cell? ⟨gb342,0,none⟩=some (.int .i64 0):=(blk_cell BK342.out 0).trans rfl
         have hcz47_1:w18.cell? ⟨gb342,1,none⟩=some (.bool false):=(blk_cell BK342.out 1).trans rfl
         have hcz47_2:w18.cell? ⟨gb342,2,none⟩=some (.slice none 0 0):=(blk_cell BK342.out 2).trans rfl
         have hfz47_0:=blk_frozen BK342.out 0
         have hfz47_1:=blk_frozen BK342.out 1
         have hfz47_2:=blk_frozen BK342.out 2
         go_wp2
         go_meet
         case rel=>exact ⟨_,(true),(by first|rfl|(simp;done)|(simp [*];done)),H',⟨by have:=HK1.out;first|omega|exact Nat.le_refl _⟩,⟨by (with_reducible repeat (first|refine blk_drewN ?_ _|refine blk_drew ?_|refine blk_alloc ?_ _));refine blk_far ?_ NB337_342.out _;(with_reducible repeat (first|refine blk_drewN ?_ _|refine blk_drew ?_|refine blk_alloc ?_ _));refine blk_far ?_ NB337_342.out _;(with_reducible repeat (first|refine blk_drewN ?_ _|refine blk_drew ?_|refine blk_alloc ?_ _));refine blk_far ?_ NB337_342.out _;(with_reducible repeat (first|refine blk_drewN ?_ _|refine blk_drew ?_|refine blk_alloc ?_ _));refine blk_far ?_ NB337_341.out _;(with_reducible repeat (first|refine blk_drewN ?_ _|refine blk_drew ?_|refine blk_alloc ?_ _));refine blk_far ?_ NB337_341.out _;(with_reducible repeat (first|refine blk_drewN ?_ _|refine blk_drew ?_|refine blk_alloc ?_ _));refine blk_far ?_ NB337_341.out _;(with_reducible repeat (first|refine blk_drewN ?_ _|refine blk_drew ?_|refine blk_alloc ?_ _));exact BK337.out⟩,⟨by (with_reducible repeat (first|refine blk_drewN ?_ _|refine blk_drew ?_|refine blk_alloc ?_ _));refine blk_far ?_ NB338_342.out _;(with_reducible repeat (first|refine blk_drewN ?_ _|refine blk_drew ?_|refine blk_alloc ?_ _));refine blk_far ?_ NB338_342.out _;(with_reducible repeat (first|refine blk_drewN ?_ _|refine blk_drew ?_|refine blk_alloc ?_ _));refine blk_far ?_ NB338_342.out _;(with_reducible repeat (first|refine blk_drewN ?_ _|refine blk_drew ?_|refine blk_alloc ?_ _));refine blk_far ?_ NB338_341.out _;(with_reducible repeat (first|refine blk_drewN ?_ _|refine blk_drew ?_|refine blk_alloc ?_ _));refine blk_far ?_ NB338_341.out _;(with_reducible repeat (first|refine blk_drewN ?_ _|refine blk_drew ?_|refine blk_alloc ?_ _));refine blk_far ?_ NB338_341.out _;(with_reducible repeat (first|refine blk_drewN ?_ _|refine blk_drew ?_|refine blk_alloc ?_ _));exact BK338.out⟩,⟨by (with_reducible repeat (first|refine blk_drewN ?_ _|refine blk_drew ?_|refine blk_alloc ?_ _));refine blk_far ?_ NB341_342.out _;(with_reducible repeat (first|refine blk_drewN ?_ _|refine blk_drew ?_|refine blk_alloc ?_ _));refine blk_far ?_ NB341_342.out _;(with_reducible repeat (first|refine blk_drewN ?_ _|refine blk_drew ?_|refine blk_alloc ?_ _));refine blk_far ?_ NB341_342.out _;(with_reducible repeat (first|refine blk_drewN ?_ _|refine blk_drew ?_|refine blk_alloc ?_ _));refine blk_put (cs:=#[.int .i64 ((rd_T42 l0_0 x5_1).f0),.bool ((rd_T42 l0_0 x5_1).f1),.slice none 0 0]) ?_ 2 _ rfl;(with_reducible repeat (first|refine blk_drewN ?_ _|refine blk_drew ?_|refine blk_alloc ?_ _));refine blk_put (cs:=#[.int .i64 ((rd_T42 l0_0 x5_1).f0),.bool false,.slice none 0 0]) ?_ 1 _ rfl;(with_reducible repeat (first|refine blk_drewN ?_ _|refine blk_drew ?_|refine blk_alloc ?_ _));refine blk_put (cs:=#[.int .i64 0,.bool false,.slice none 0 0]) ?_ 0 _ rfl;(with_reducible repeat (first|refine blk_drewN ?_ _|refine blk_drew ?_|refine blk_alloc ?_ _));exact BK341.out⟩,⟨by (with_reducible repeat (first|refine blk_drewN ?_ _|refine blk_drew ?_|refine blk_alloc ?_ _));refine blk_put (cs:=#[.int .i64 ((rd_T42 l1_0 x5_1).f0),.bool ((rd_T42 l1_0 x5_1).f1),.slice none 0 0]) ?_ 2 _ rfl;(with_reducible repeat (first|refine blk_drewN ?_ _|refine blk_drew ?_|refine blk_alloc ?_ _));refine blk_put (cs:=#[.int .i64 ((rd_T42 l1_0 x5_1).f0),.bool false,.slice none 0 0]) ?_ 1 _ rfl;(with_reducible repeat (first|refine blk_drewN ?_ _|refine blk_drew ?_|refine blk_alloc ?_ _));refine blk_put (cs:=#[.int .i64 0,.bool false,.slice none 0 0]) ?_ 0 _ rfl;(with_reducible repeat (first|refine blk_drewN ?_ _|refine blk_drew ?_|refine blk_alloc ?_ _));refine blk_far ?_ NB342_341.out _;(with_reducible repeat (first|refine blk_drewN ?_ _|refine blk_drew ?_|refine blk_alloc ?_ _));refine blk_far ?_ NB342_341.out _;(with_reducible repeat (first|refine blk_drewN ?_ _|refine blk_drew ?_|refine blk_alloc ?_ _));refine blk_far ?_ NB342_341.out _;(with_reducible repeat (first|refine blk_drewN ?_ _|refine blk_drew ?_|refine blk_alloc ?_ _));exact BK342.out⟩,⟨by repeat (first|(with_reducible first|exact HB.out|apply below_alloc|apply pw_below_drewN|apply below_drew1|refine below_set ?_ GE337.out|refine below_set ?_ GE338.out|refine below_set ?_ GE341.out|refine below_set ?_ GE342.out)|exact HB.out)⟩⟩
       case rest =>
        clear HC12
        try clear c1
        try clear c2
        try clear p2
        try clear c3
        try clear c3b0
        try clear c3b1
        try clear c3b2
        try clear p3
        try clear q3
        try clear hx3
        try clear c4
        try clear c6
        try clear c9
        try clear c9b0
        try clear c10
        try clear c10b0
        try clear c11
        try clear c11b0
        try clear c13
        try clear c22
        try clear c25
        try clear c25b0
        try clear c25b1
        try clear c26
        try clear c26b0
        try clear c26b1
        try clear c26b2
        try clear c27
        try clear c28
        try clear c29
        try clear c31
        try clear c32
        try clear c33
        try clear p33
        try clear q33
        try clear hx33
        try clear c34
        try clear p34
        try clear q34
        try clear hx34
        try clear c35
        try clear c36
        try clear c38
        try clear c39
        try clear c41
        try clear c42
        try clear c43
        try clear c45
        try clear c46
        try clear hcz14_0
        try clear hcz30_0
        try clear hcz30_1
        try clear hcz30_2
        try clear hcz33_0
        try clear hcz33_1
        try clear hcz33_2
        try clear hcz37_0
        try clear hcz37_1
        try clear hcz37_2
        try clear hcz40_0
        try clear hcz40_1
        try clear hcz40_2
        try clear hcz44_0
        try clear hcz44_1
        try clear hcz44_2
        try clear hcz47_0
        try clear hcz47_1
        try clear hcz47_2
        try clear hcz7_0
        try clear hcz8_0
        try clear hfz14_0
        try clear hfz30_0
        try clear hfz30_1
        try clear hfz30_2
        try clear hfz33_0
        try clear hfz33_1
        try clear hfz33_2
        try clear hfz37_0
        try clear hfz37_1
        try clear hfz37_2
        try clear hfz40_0
        try clear hfz40_1
        try clear hfz40_2
        try clear hfz44_0
        try clear hfz44_1
        try clear hfz44_2
        try clear hfz47_0
        try clear hfz47_1
        try clear hfz47_2
        try clear hfz7_0
        try clear hfz8_0
        try clear hx339_0
        try clear hx339_1
        try clear hx339_2
        try clear hx340_0
        try clear hx340_1
        try clear hx340_2
        try clear p2
        try clear p339
        try clear p340
        try clear q339
        try clear q340
        obtain ⟨kq,x53_11,rfl,HA,HJ11,BK337,BK338,BK341,BK342,HB⟩:=hcut
        cases kq with
        | zero=>exact absurd HA.out (by simp [coronerref03_Same.j1])
        | succ kj11 =>
         have H:=HA.out
         clear HA
         simp only [coronerref03_Same.j1] at H
         by_cases c48:x53_11=true
         ·subst c48
          have H1:(some false)=some r:=by rw [if_pos rfl] at H;exact H
          clear H
          have H:=H1
          clear H1
          obtain rfl:=Option.some.inj H
          go_wp2
          go_ret
          exact ⟨by first|rfl|(simp [errW_none,errW_some] <;> rfl)|(simp [*,errW_none,errW_some] <;> rfl),by repeat (first|(with_reducible first|exact HB.out|apply below_alloc|apply pw_below_drewN|apply below_drew1|refine below_set ?_ GE337.out|refine below_set ?_ GE338.out|refine below_set ?_ GE341.out|refine below_set ?_ GE342.out)|exact HB.out)⟩
         ·replace c48:=Bool.eq_false_iff.mpr c48
          subst c48
          have H1:(coronerref03_Same.l1 kj11 x5_1 0 l0_0 l1_0 ((rd_T42 l0_0 x5_1).f0) ((rd_T42 l0_0 x5_1).f1) ((rd_T42 l0_0 x5_1).f2) ((rd_T42 l1_0 x5_1).f0) ((rd_T42 l1_0 x5_1).f1) ((rd_T42 l1_0 x5_1).f2))=some r:=by rw [if_neg (show ¬ (false=true) by decide)] at H;exact H
          clear H
          have H:=H1
          clear H1
          have H':=Aside0.mk H
          clear H
          go_wp2
          go_loopg [8] kj11 (fun kq v8 w'=>∃ (x8_3:Int),v8=.int .i64 x8_3∧Aside0 (coronerref03_Same.l1 kq x5_1 x8_3 l0_0 l1_0 ((rd_T42 l0_0 x5_1).f0) ((rd_T42 l0_0 x5_1).f1) ((rd_T42 l0_0 x5_1).f2) ((rd_T42 l1_0 x5_1).f0) ((rd_T42 l1_0 x5_1).f1) ((rd_T42 l1_0 x5_1).f2)=some r)∧Aside0 (kq≤kj11)∧Aside0 (w'.heap[gb337]?=some (.cells #[(.slice (some ad339) l0_0.length c0_0)] 24 (0,0)))∧Aside0 (w'.heap[gb338]?=some (.cells #[(.slice (some ad340) l1_0.length c1_0)] 24 (0,0)))∧Aside0 (w'.heap[gb341]?=some (.cells #[.int .i64 ((rd_T42 l0_0 x5_1).f0),.bool ((rd_T42 l0_0 x5_1).f1),(.slice A339_2 ((rd_T42 l0_0 x5_1).f2).length c339_2)] 42 (0,0)))∧Aside0 (w'.heap[gb342]?=some (.cells #[.int .i64 ((rd_T42 l1_0 x5_1).f0),.bool ((rd_T42 l1_0 x5_1).f1),(.slice A340_2 ((rd_T42 l1_0 x5_1).f2).length c340_2)] 42 (0,0)))∧Aside0 (Below w.heap.size w w'))
          case atStart=>exact ⟨(0),(by first|rfl|(simp;done)|(simp [*];done)),H',⟨Nat.le_refl _⟩,⟨by (with_reducible repeat (first|refine blk_drewN ?_ _|refine blk_drew ?_|refine blk_alloc ?_ _));exact BK337.out⟩,⟨by (with_reducible repeat (first|refine blk_drewN ?_ _|refine blk_drew ?_|refine blk_alloc ?_ _));exact BK338.out⟩,⟨by (with_reducible repeat (first|refine blk_drewN ?_ _|refine blk_drew ?_|refine blk_alloc ?_ _));exact BK341.out⟩,⟨by (with_reducible repeat (first|refine blk_drewN ?_ _|refine blk_drew ?_|refine blk_alloc ?_ _));exact BK342.out⟩,⟨by repeat (first|(with_reducible first|exact HB.out|apply below_alloc|apply pw_below_drewN|apply below_drew1|refine below_set ?_ GE337.out|refine below_set ?_ GE338.out|refine below_set ?_ GE341.out|refine below_set ?_ GE342.out)|exact HB.out)⟩⟩
          case round =>
           clear H'
           try clear c1
           try clear c2
           try clear p2
           try clear c3
           try clear c3b0
           try clear c3b1
           try clear c3b2
           try clear p3
           try clear q3
           try clear hx3
           try clear c4
           try clear c6
           try clear c9
           try clear c9b0
           try clear c10
           try clear c10b0
           try clear c11
           try clear c11b0
           try clear c13
           try clear c22
           try clear c25
           try clear c25b0
           try clear c25b1
           try clear c26
           try clear c26b0
           try clear c26b1
           try clear c26b2
           try clear c27
           try clear c28
           try clear c29
           try clear c31
           try clear c32
           try clear c33
           try clear p33
           try clear q33
           try clear hx33
           try clear c34
           try clear p34
           try clear q34
           try clear hx34
           try clear c35
           try clear c36
           try clear c38
           try clear c39
           try clear c41
           try clear c42
           try clear c43
           try clear c45
           try clear c46
           try clear c48
           try clear hcz14_0
           try clear hcz30_0
           try clear hcz30_1
           try clear hcz30_2
           try clear hcz33_0
           try clear hcz33_1
           try clear hcz33_2
           try clear hcz37_0
           try clear hcz37_1
           try clear hcz37_2
           try clear hcz40_0
           try clear hcz40_1
           try clear hcz40_2
           try clear hcz44_0
           try clear hcz44_1
           try clear hcz44_2
           try clear hcz47_0
           try clear hcz47_1
           try clear hcz47_2
           try clear hcz7_0
           try clear hcz8_0
           try clear hfz14_0
           try clear hfz30_0
           try clear hfz30_1
           try clear hfz30_2
           try clear hfz33_0
           try clear hfz33_1
           try clear hfz33_2
           try clear hfz37_0
           try clear hfz37_1
           try clear hfz37_2
           try clear hfz40_0
           try clear hfz40_1
           try clear hfz40_2
           try clear hfz44_0
           try clear hfz44_1
           try clear hfz44_2
           try clear hfz47_0
           try clear hfz47_1
           try clear hfz47_2
           try clear hfz7_0
           try clear hfz8_0
           try clear hx339_0
           try clear hx339_1
           try clear hx339_2
           try clear hx340_0
           try clear hx340_1
           try clear hx340_2
           try clear p2
           try clear p3
           try clear p33
           try clear p339
           try clear p34
           try clear p340
           try clear q3
           try clear q33
           try clear q339
           try clear q34
           try clear q340
           obtain ⟨x8_3,rfl,HA,HK3,BK337,BK338,BK341,BK342,HB⟩:=hrel
           cases gk with
           | zero=>exact absurd HA.out (by simp [coronerref03_Same.l1])
           | succ k3 =>
            have H:=HA.out
            clear HA
            simp only [coronerref03_Same.l1] at H
            by_cases c49:x8_3 < (((rd_T42 l0_0 x5_1).f2).length:Int)
            ·rw [if_pos c49] at H
             have c49b0:decide (x8_3 < (((rd_T42 l0_0 x5_1).f2).length:Int))=true:=decide_eq_true c49
             clear c49
             by_cases c50:0≤x8_3
             ·rw [if_pos c50] at H
              have c50b0:decide (0≤x8_3)=true:=decide_eq_true c50
              clear c50
              by_cases c51:x8_3 < (((rd_T42 l1_0 x5_1).f2).length:Int)
              ·rw [if_pos c51] at H
               have c51b0:decide (x8_3 < (((rd_T42 l1_0 x5_1).f2).length:Int))=true:=decide_eq_true c51
               clear c51
               replace H:=Option.bind_eq_some_iff.mp H
               obtain ⟨t345,A520,H⟩:=H
               replace H:(if t345=true then (coronerref03_Same.l1 k3 x5_1 (wrap64 (x8_3+1)) l0_0 l1_0 ((rd_T42 l0_0 x5_1).f0) ((rd_T42 l0_0 x5_1).f1) ((rd_T42 l0_0 x5_1).f2) ((rd_T42 l1_0 x5_1).f0) ((rd_T42 l1_0 x5_1).f1) ((rd_T42 l1_0 x5_1).f2)) else (some false))=some r:=H
               have A52:=Aside0.mk A520
               clear A520
               by_cases c53:t345=true
               ·subst c53
                have H1:(coronerref03_Same.l1 k3 x5_1 (wrap64 (x8_3+1)) l0_0 l1_0 ((rd_T42 l0_0 x5_1).f0) ((rd_T42 l0_0 x5_1).f1) ((rd_T42 l0_0 x5_1).f2) ((rd_T42 l1_0 x5_1).f0) ((rd_T42 l1_0 x5_1).f1) ((rd_T42 l1_0 x5_1).f2))=some r:=by rw [if_pos rfl] at H;exact H
                clear H
                have H:=H1
                clear H1
                have H':=Aside0.mk H
                clear H
                have hnb54:=NB341_337.out
                have hnc54:=NB337_341.out
                have hnb55:=NB341_338.out
                have hnc55:=NB338_341.out
                have hnb56:=NB341_342.out
                have hnc56:=NB342_341.out
                have hcz57_0:wr.cell? ⟨gb341,0,none⟩=some (.int .i64 ((rd_T42 l0_0 x5_1).f0)):=(blk_cell BK341.out 0).trans rfl
                have hcz57_1:wr.cell? ⟨gb341,1,none⟩=some (.bool ((rd_T42 l0_0 x5_1).f1)):=(blk_cell BK341.out 1).trans rfl
                have hcz57_2:wr.cell? ⟨gb341,2,none⟩=some (.slice A339_2 ((rd_T42 l0_0 x5_1).f2).length c339_2):=(blk_cell BK341.out 2).trans rfl
                have hfz57_0:=blk_frozen BK341.out 0
                have hfz57_1:=blk_frozen BK341.out 1
                have hfz57_2:=blk_frozen BK341.out 2
                try go_wp2
                have n0_:=Aside0.mk (blk_drew BK337.out)
                have n1_:=Aside0.mk (blk_drew BK338.out)
                have n2_:=Aside0.mk (blk_drew BK341.out)
                have n3_:=Aside0.mk (blk_drew BK342.out)
                have n4_:=Aside0.mk (below_drew1 HB.out)
                clear BK337
                clear BK338
                clear BK341
                clear BK342
                clear HB
                have BK337:=n0_
                have BK338:=n1_
                have BK341:=n2_
                have BK342:=n3_
                have HB:=n4_
                clear n0_ n1_ n2_ n3_ n4_
                have p343:0≤(x8_3:Int):=of_decide_eq_true (by first|(with_reducible assumption)|assumption)
                have q343:x8_3 < (((rd_T42 l0_0 x5_1).f2).length:Int):=of_decide_eq_true (by first|(with_reducible assumption)|assumption)
                obtain ⟨ad343,A343_3,c343_3,e343,hx343_0,hx343_1,hx343_2,hx343_3,hl343_3,hi343_3⟩:=at_T39 HR339_2.out x8_3 p343 q343
                have hw343_3:=hx343_3
                have hw343_2:=hx343_2
                have hw343_1:=hx343_1
                have hw343_0:=hx343_0
                cases e343
                replace hx343_0:=(HB.out.cell (World.block_lt_of_cell? w _ hx343_0)).trans hx343_0
                replace hx343_1:=(HB.out.cell (World.block_lt_of_cell? w _ hx343_1)).trans hx343_1
                replace hx343_2:=(HB.out.cell (World.block_lt_of_cell? w _ hx343_2)).trans hx343_2
                replace hx343_3:=(HB.out.cell (World.block_lt_of_cell? w _ hx343_3)).trans hx343_3
                have HR343_3:=Aside0.mk hi343_3
                have HC343_3:=Aside0.mk hl343_3
                clear hi343_3 hl343_3
                replace p343:=eq_true p343
                replace q343:=eq_true q343
                have p344:0≤(x8_3:Int):=of_decide_eq_true (by first|(with_reducible assumption)|assumption)
                have q344:x8_3 < (((rd_T42 l1_0 x5_1).f2).length:Int):=of_decide_eq_true (by first|(with_reducible assumption)|assumption)
                obtain ⟨ad344,A344_3,c344_3,e344,hx344_0,hx344_1,hx344_2,hx344_3,hl344_3,hi344_3⟩:=at_T39 HR340_2.out x8_3 p344 q344
                have hw344_3:=hx344_3
                have hw344_2:=hx344_2
                have hw344_1:=hx344_1
                have hw344_0:=hx344_0
                cases e344
                replace hx344_0:=(HB.out.cell (World.block_lt_of_cell? w _ hx344_0)).trans hx344_0
                replace hx344_1:=(HB.out.cell (World.block_lt_of_cell? w _ hx344_1)).trans hx344_1
                replace hx344_2:=(HB.out.cell (World.block_lt_of_cell? w _ hx344_2)).trans hx344_2
                replace hx344_3:=(HB.out.cell (World.block_lt_of_cell? w _ hx344_3)).trans hx344_3
                have HR344_3:=Aside0.mk hi344_3
                have HC344_3:=Aside0.mk hl344_3
                clear hi344_3 hl344_3
                replace p344:=eq_true p344
                replace q344:=eq_true q344
                refine start_ (n:=12) (S:=fun w'=>w'.cell? ⟨gb341,0,none⟩=some (.int .i64 ((rd_T42 l0_0 x5_1).f0))∧w'.cell? ⟨gb341,1,none⟩=some (.bool ((rd_T42 l0_0 x5_1).f1))∧w'.cell? ⟨gb341,2,none⟩=some (.slice (some ad343) ((rd_T42 l0_0 x5_1).f2).length c339_2)∧w'.cell? ⟨gb342,0,none⟩=some (.int .i64 ((rd_T42 l1_0 x5_1).f0))∧w'.cell? ⟨gb342,1,none⟩=some (.bool ((rd_T42 l1_0 x5_1).f1))∧w'.cell? ⟨gb342,2,none⟩=some (.slice (some ad344) ((rd_T42 l1_0 x5_1).f2).length c340_2)∧w'.cell? (ad343.add ((x8_3).toNat * 4))=some (.bool ((rd_T39 ((rd_T42 l0_0 x5_1).f2) x8_3).f0))∧w'.cell? ⟨(ad343.add ((x8_3).toNat * 4)).block,(ad343.add ((x8_3).toNat * 4)).off+1,none⟩=some (.int .i64 ((rd_T39 ((rd_T42 l0_0 x5_1).f2) x8_3).f1))∧w'.cell? ⟨(ad343.add ((x8_3).toNat * 4)).block,(ad343.add ((x8_3).toNat * 4)).off+2,none⟩=some (.int .i64 ((rd_T39 ((rd_T42 l0_0 x5_1).f2) x8_3).f2))∧w'.cell? ⟨(ad343.add ((x8_3).toNat * 4)).block,(ad343.add ((x8_3).toNat * 4)).off+3,none⟩=some (.slice A343_3 ((rd_T39 ((rd_T42 l0_0 x5_1).f2) x8_3).f3).length c343_3)∧w'.cell? (ad344.add ((x8_3).toNat * 4))=some (.bool ((rd_T39 ((rd_T42 l1_0 x5_1).f2) x8_3).f0))∧w'.cell? ⟨(ad344.add ((x8_3).toNat * 4)).block,(ad344.add ((x8_3).toNat * 4)).off+1,none⟩=some (.int .i64 ((rd_T39 ((rd_T42 l1_0 x5_1).f2) x8_3).f1))∧w'.cell? ⟨(ad344.add ((x8_3).toNat * 4)).block,(ad344.add ((x8_3).toNat * 4)).off+2,none⟩=some (.int .i64 ((rd_T39 ((rd_T42 l1_0 x5_1).f2) x8_3).f2))∧w'.cell? ⟨(ad344.add ((x8_3).toNat * 4)).block,(ad344.add ((x8_3).toNat * 4)).off+3,none⟩=some (.slice A344_3 ((rd_T39 ((rd_T42 l1_0 x5_1).f2) x8_3).f3).length c344_3)) (ds:=[]) #[false,false,false,false,false,false,false,false,false,false,false,false] (by kernel_rfl) rfl rfl ⟨(blk_cell BK341.out 0).trans rfl,(blk_cell BK341.out 1).trans rfl,(blk_cell BK341.out 2).trans rfl,(blk_cell BK342.out 0).trans rfl,(blk_cell BK342.out 1).trans rfl,(blk_cell BK342.out 2).trans rfl,((HB.out.cell (World.block_lt_of_cell? w _ hw343_0)).trans hw343_0),((HB.out.cell (World.block_lt_of_cell? w _ hw343_1)).trans hw343_1),((HB.out.cell (World.block_lt_of_cell? w _ hw343_2)).trans hw343_2),((HB.out.cell (World.block_lt_of_cell? w _ hw343_3)).trans hw343_3),((HB.out.cell (World.block_lt_of_cell? w _ hw344_0)).trans hw344_0),((HB.out.cell (World.block_lt_of_cell? w _ hw344_1)).trans hw344_1),((HB.out.cell (World.block_lt_of_cell? w _ hw344_2)).trans hw344_2),((HB.out.cell (World.block_lt_of_cell? w _ hw344_3)).trans hw344_3)⟩ (fun hHeld=>?_);refine with_tabW coronerref03_Same.tab12 coronerref03_Same.bits12 (fun HT_ HW_=>?_)
                generalize wr.drew=w58 at BK337 BK338 BK341 BK342 HB HR343_3 HR344_3 hx343_0 hx343_1 hx343_2 hx343_3 hx344_0 hx344_1 hx344_2 hx344_3 hHeld ⊢
                refine pure_ (i:=0) (N:=some 61) (v:=?_) (a':=?_) #[true,false,false,false,false,false,false,false,false,false,false,false] rfl rfl (any_of HT_.out (by kernel_rfl)) (fun _ _ _ h=>h) (Or.inl ⟨by rfl,?_⟩) ?_ ?_
                rotate_left
                ·intro w'
                 go_simp
                 with_reducible rfl
                rotate_left
                ·simp only [Act.put,List.setIfInBounds_toArray,List.set_cons_zero,List.set_cons_succ,i64_w,i32_w]
                 rfl
                refine pure_ (i:=2) (N:=some 63) (v:=?_) (a':=?_) #[true,false,true,false,false,false,false,false,false,false,false,false] rfl rfl (any_of HT_.out (by kernel_rfl)) (fun _ _ _ h=>h) (Or.inl ⟨by rfl,?_⟩) ?_ ?_
                rotate_left
                ·intro w'
                 go_simp
                 with_reducible rfl
                rotate_left
                ·simp only [Act.put,List.setIfInBounds_toArray,List.set_cons_zero,List.set_cons_succ,i64_w,i32_w]
                 rfl
                refine pure_ (i:=5) (N:=some 66) (v:=?_) (a':=?_) #[true,false,true,false,false,true,false,false,false,false,false,false] rfl rfl (any_of HT_.out (by kernel_rfl)) (fun _ _ _ h=>h) (Or.inl ⟨by rfl,?_⟩) ?_ ?_
                rotate_left
                ·intro w'
                 go_simp
                 with_reducible rfl
                rotate_left
                ·simp only [Act.put,List.setIfInBounds_toArray,List.set_cons_zero,List.set_cons_succ,i64_w,i32_w]
                 rfl
                refine pure_ (i:=7) (N:=some 68) (v:=?_) (a':=?_) #[true,false,true,false,false,true,false,true,false,false,false,false] rfl rfl (any_of HT_.out (by kernel_rfl)) (fun _ _ _ h=>h) (Or.inl ⟨by rfl,?_⟩) ?_ ?_
                rotate_left
                ·intro w'
                 go_simp
                 with_reducible rfl
                rotate_left
                ·simp only [Act.put,List.setIfInBounds_toArray,List.set_cons_zero,List.set_cons_succ,i64_w,i32_w]
                 rfl
                refine take_ (i:=1) (N:=some 62) (v:=?_) (a':=?_) #[true,true,true,false,false,true,false,true,false,false,false,false] rfl rfl (take_ofW HT_.out HW_.out (by kernel_rfl)) (fun _ _ _ h=>h) (Or.inl ⟨by rfl,?_⟩) hHeld ?_ ?_
                rotate_left
                ·rintro w' ⟨s0,s1,s2,s3,s4,s5,s6,s7,s8,s9,s10,s11,s12,s13⟩
                 go_simp
                 with_reducible rfl
                rotate_left
                ·simp only [Act.put,List.setIfInBounds_toArray,List.set_cons_zero,List.set_cons_succ,i64_w,i32_w]
                 rfl
                refine pure_ (i:=3) (N:=some 64) (v:=?_) (a':=?_) #[true,true,true,true,false,true,false,true,false,false,false,false] rfl rfl (any_of HT_.out (by kernel_rfl)) (fun _ _ _ h=>h) (Or.inl ⟨by rfl,?_⟩) ?_ ?_
                rotate_left
                ·intro w'
                 go_simp
                 with_reducible rfl
                rotate_left
                ·simp only [Act.put,List.setIfInBounds_toArray,List.set_cons_zero,List.set_cons_succ,i64_w,i32_w]
                 rfl
                refine take_ (i:=4) (N:=some 65) (v:=?_) (a':=?_) #[true,true,true,true,true,true,false,true,false,false,false,false] rfl rfl (take_ofW HT_.out HW_.out (by kernel_rfl)) (fun _ _ _ h=>h) (Or.inl ⟨by rfl,?_⟩) hHeld ?_ ?_
                rotate_left
                ·rintro w' ⟨s0,s1,s2,s3,s4,s5,s6,s7,s8,s9,s10,s11,s12,s13⟩
                 go_simp
                 with_reducible rfl
                rotate_left
                ·simp only [Act.put,List.setIfInBounds_toArray,List.set_cons_zero,List.set_cons_succ,i64_w,i32_w]
                 rfl
                refine take_ (i:=6) (N:=some 67) (v:=?_) (a':=?_) #[true,true,true,true,true,true,true,true,false,false,false,false] rfl rfl (take_ofW HT_.out HW_.out (by kernel_rfl)) (fun _ _ _ h=>h) (Or.inl ⟨by rfl,?_⟩) hHeld ?_ ?_
                rotate_left
                ·rintro w' ⟨s0,s1,s2,s3,s4,s5,s6,s7,s8,s9,s10,s11,s12,s13⟩
                 go_simp
                 with_reducible rfl
                rotate_left
                ·simp only [Act.put,List.setIfInBounds_toArray,List.set_cons_zero,List.set_cons_succ,i64_w,i32_w]
                 rfl
                refine pure_ (i:=8) (N:=some 69) (v:=?_) (a':=?_) #[true,true,true,true,true,true,true,true,true,false,false,false] rfl rfl (any_of HT_.out (by kernel_rfl)) (fun _ _ _ h=>h) (Or.inl ⟨by rfl,?_⟩) ?_ ?_
                rotate_left
                ·intro w'
                 go_simp
                 with_reducible rfl
                rotate_left
                ·simp only [Act.put,List.setIfInBounds_toArray,List.set_cons_zero,List.set_cons_succ,i64_w,i32_w]
                 rfl
                refine take_ (i:=9) (N:=some 70) (v:=?_) (a':=?_) #[true,true,true,true,true,true,true,true,true,true,false,false] rfl rfl (take_ofW HT_.out HW_.out (by kernel_rfl)) (fun _ _ _ h=>h) (Or.inl ⟨by rfl,?_⟩) hHeld ?_ ?_
                rotate_left
                ·rintro w' ⟨s0,s1,s2,s3,s4,s5,s6,s7,s8,s9,s10,s11,s12,s13⟩
                 go_simp
                 with_reducible rfl
                rotate_left
                ·simp only [Act.put,List.setIfInBounds_toArray,List.set_cons_zero,List.set_cons_succ,i64_w,i32_w]
                 rfl
                refine one_ (i:=10) (N:=some 71) #[true,true,true,true,true,true,true,true,true,true,true,false] rfl rfl (one_of HT_.out (by kernel_rfl)) (by decide) (fun K hK=>?_)
                refine goes_ Try.func38 (by kernel_rfl) rfl #[.agg #[.bool ((rd_T39 ((rd_T42 l0_0 x5_1).f2) x8_3).f0),.int .i64 ((rd_T39 ((rd_T42 l0_0 x5_1).f2) x8_3).f1),.int .i64 ((rd_T39 ((rd_T42 l0_0 x5_1).f2) x8_3).f2),.slice A343_3 ((rd_T39 ((rd_T42 l0_0 x5_1).f2) x8_3).f3).length c343_3],.agg #[.bool ((rd_T39 ((rd_T42 l1_0 x5_1).f2) x8_3).f0),.int .i64 ((rd_T39 ((rd_T42 l1_0 x5_1).f2) x8_3).f1),.int .i64 ((rd_T39 ((rd_T42 l1_0 x5_1).f2) x8_3).f2),.slice A344_3 ((rd_T39 ((rd_T42 l1_0 x5_1).f2) x8_3).f3).length c344_3]] (by rfl) rfl rfl (by (try simp only [List.map_toArray,List.map_cons,List.map_nil]);first|done|rfl|(simp only [List.length_drop,List.length_take];rfl)) ?_
                with_reducible refine (coronerref03_sameOp.calls k3 ((rd_T39 ((rd_T42 l0_0 x5_1).f2) x8_3).f0) ((rd_T39 ((rd_T42 l0_0 x5_1).f2) x8_3).f1) ((rd_T39 ((rd_T42 l0_0 x5_1).f2) x8_3).f2) _ _ ((rd_T39 ((rd_T42 l0_0 x5_1).f2) x8_3).f3) ((rd_T39 ((rd_T42 l1_0 x5_1).f2) x8_3).f0) ((rd_T39 ((rd_T42 l1_0 x5_1).f2) x8_3).f1) ((rd_T39 ((rd_T42 l1_0 x5_1).f2) x8_3).f2) _ _ ((rd_T39 ((rd_T42 l1_0 x5_1).f2) x8_3).f3) true _ ?side1 ?side2 ?side3 ?side4 A52.out).mono ?_
                (case side1=>repeat (first|exact (Kd.C_below HR343_3.out HB.out)|(with_reducible refine Kd.C_alloc ?_ _)|(with_reducible refine Kd.C_drewN ?_ _)|(with_reducible refine Kd.C_drew ?_)))
                (case side2=>exact HC343_3.out)
                (case side3=>repeat (first|exact (Kd.C_below HR344_3.out HB.out)|(with_reducible refine Kd.C_alloc ?_ _)|(with_reducible refine Kd.C_drewN ?_ _)|(with_reducible refine Kd.C_drew ?_)))
                (case side4=>exact HC344_3.out)
                rintro e w59 ⟨rfl,hb⟩
                refine ⟨_,rfl,?_⟩
                have n0_:=Aside0.mk (blk_below (g:=gb337) (o:=.cells #[.slice (some ad339) l0_0.length c0_0] 24 (0,0)) (by (with_reducible repeat (first|refine blk_drewN ?_ _|refine blk_drew ?_|refine blk_alloc ?_ _));exact BK337.out) hb)
                have n1_:=Aside0.mk (blk_below (g:=gb338) (o:=.cells #[.slice (some ad340) l1_0.length c1_0] 24 (0,0)) (by (with_reducible repeat (first|refine blk_drewN ?_ _|refine blk_drew ?_|refine blk_alloc ?_ _));exact BK338.out) hb)
                have n2_:=Aside0.mk (blk_below (g:=gb341) (o:=.cells #[.int .i64 ((rd_T42 l0_0 x5_1).f0),.bool ((rd_T42 l0_0 x5_1).f1),.slice (some ad343) ((rd_T42 l0_0 x5_1).f2).length c339_2] 42 (0,0)) (by (with_reducible repeat (first|refine blk_drewN ?_ _|refine blk_drew ?_|refine blk_alloc ?_ _));exact BK341.out) hb)
                have n3_:=Aside0.mk (blk_below (g:=gb342) (o:=.cells #[.int .i64 ((rd_T42 l1_0 x5_1).f0),.bool ((rd_T42 l1_0 x5_1).f1),.slice (some ad344) ((rd_T42 l1_0 x5_1).f2).length c340_2] 42 (0,0)) (by (with_reducible repeat (first|refine blk_drewN ?_ _|refine blk_drew ?_|refine blk_alloc ?_ _));exact BK342.out) hb)
                have n4_:=Aside0.mk (below_step (by repeat (first|(with_reducible first|exact HB.out|apply below_alloc|apply pw_below_drewN|apply below_drew1|refine below_set ?_ GE337.out|refine below_set ?_ GE338.out|refine below_set ?_ GE341.out|refine below_set ?_ GE342.out)|exact HB.out)) hb)
                clear BK337
                clear BK338
                clear BK341
                clear BK342
                clear HB
                have BK337:=n0_
                have BK338:=n1_
                have BK341:=n2_
                have BK342:=n3_
                have HB:=n4_
                clear n0_ n1_ n2_ n3_ n4_
                (try clear hb)
                (try clear hb2)
                (try clear hk)
                (try clear hi)
                refine hK.out _ _ ⟨(blk_cell BK341.out 0).trans rfl,(blk_cell BK341.out 1).trans rfl,(blk_cell BK341.out 2).trans rfl,(blk_cell BK342.out 0).trans rfl,(blk_cell BK342.out 1).trans rfl,(blk_cell BK342.out 2).trans rfl,((HB.out.cell (World.block_lt_of_cell? w _ hw343_0)).trans hw343_0),((HB.out.cell (World.block_lt_of_cell? w _ hw343_1)).trans hw343_1),((HB.out.cell (World.block_lt_of_cell? w _ hw343_2)).trans hw343_2),((HB.out.cell (World.block_lt_of_cell? w _ hw343_3)).trans hw343_3),((HB.out.cell (World.block_lt_of_cell? w _ hw344_0)).trans hw344_0),((HB.out.cell (World.block_lt_of_cell? w _ hw344_1)).trans hw344_1),((HB.out.cell (World.block_lt_of_cell? w _ hw344_2)).trans hw344_2),((HB.out.cell (World.block_lt_of_cell? w _ hw344_3)).trans hw344_3)⟩ (fun hHeld=>?_)
                clear hK K
                refine norm_ (a':=?_) ?_ ?_
                rotate_left
                ·show Act.put _ (some 71) _=_
                 simp only [Act.put,List.setIfInBounds_toArray,List.set_cons_zero,List.set_cons_succ,i64_w,i32_w]
                 rfl
                refine pure_ (i:=11) (N:=some 72) (v:=?_) (a':=?_) #[true,true,true,true,true,true,true,true,true,true,true,true] rfl rfl (any_of HT_.out (by kernel_rfl)) (fun _ _ _ h=>h) (Or.inl ⟨by rfl,?_⟩) ?_ ?_
                rotate_left
                ·intro w'
                 go_simp
                 with_reducible rfl
                rotate_left
                ·simp only [Act.put,List.setIfInBounds_toArray,List.set_cons_zero,List.set_cons_succ,i64_w,i32_w]
                 rfl
                refine done_ (done_of HT_.out (by kernel_rfl)) ?_
                try go_wp2
                go_roundg k3
                case measure=>have:=HK1.out;have:=HJ11.out;have:=HK3.out;omega
                case rel=>exact ⟨(wrap64 (x8_3+1)),(by first|rfl|(simp;done)|(simp [*];done)),H',⟨by have:=HK1.out;have:=HJ11.out;have:=HK3.out;omega⟩,⟨by (with_reducible repeat (first|refine blk_drewN ?_ _|refine blk_drew ?_|refine blk_alloc ?_ _));exact BK337.out⟩,⟨by (with_reducible repeat (first|refine blk_drewN ?_ _|refine blk_drew ?_|refine blk_alloc ?_ _));exact BK338.out⟩,⟨by (with_reducible repeat (first|refine blk_drewN ?_ _|refine blk_drew ?_|refine blk_alloc ?_ _));exact BK341.out⟩,⟨by (with_reducible repeat (first|refine blk_drewN ?_ _|refine blk_drew ?_|refine blk_alloc ?_ _));exact BK342.out⟩,⟨by repeat (first|(with_reducible first|exact HB.out|apply below_alloc|apply pw_below_drewN|apply below_drew1|refine below_set ?_ GE337.out|refine below_set ?_ GE338.out|refine below_set ?_ GE341.out|refine below_set ?_ GE342.out)|exact HB.out)⟩⟩
               ·replace c53:=Bool.eq_false_iff.mpr c53
                subst c53
                have H1:(some false)=some r:=by rw [if_neg (show ¬ (false=true) by decide)] at H;exact H
                clear H
                have H:=H1
                clear H1
                obtain rfl:=Option.some.inj H
                have hnb60:=NB341_337.out
                have hnc60:=NB337_341.out
                have hnb61:=NB341_338.out
                have hnc61:=NB338_341.out
                have hnb62:=NB341_342.out
                have hnc62:=NB342_341.out
                have hcz63_0:wr.cell? ⟨gb341,0,none⟩=some (.int .i64 ((rd_T42 l0_0 x5_1).f0)):=(blk_cell BK341.out 0).trans rfl
                have hcz63_1:wr.cell? ⟨gb341,1,none⟩=some (.bool ((rd_T42 l0_0 x5_1).f1)):=(blk_cell BK341.out 1).trans rfl
                have hcz63_2:wr.cell? ⟨gb341,2,none⟩=some (.slice A339_2 ((rd_T42 l0_0 x5_1).f2).length c339_2):=(blk_cell BK341.out 2).trans rfl
                have hfz63_0:=blk_frozen BK341.out 0
                have hfz63_1:=blk_frozen BK341.out 1
                have hfz63_2:=blk_frozen BK341.out 2
                try go_wp2
                have n0_:=Aside0.mk (blk_drew BK337.out)
                have n1_:=Aside0.mk (blk_drew BK338.out)
                have n2_:=Aside0.mk (blk_drew BK341.out)
                have n3_:=Aside0.mk (blk_drew BK342.out)
                have n4_:=Aside0.mk (below_drew1 HB.out)
                clear BK337
                clear BK338
                clear BK341
                clear BK342
                clear HB
                have BK337:=n0_
                have BK338:=n1_
                have BK341:=n2_
                have BK342:=n3_
                have HB:=n4_
                clear n0_ n1_ n2_ n3_ n4_
                have p343:0≤(x8_3:Int):=of_decide_eq_true (by first|(with_reducible assumption)|assumption)
                have q343:x8_3 < (((rd_T42 l0_0 x5_1).f2).length:Int):=of_decide_eq_true (by first|(with_reducible assumption)|assumption)
                obtain ⟨ad343,A343_3,c343_3,e343,hx343_0,hx343_1,hx343_2,hx343_3,hl343_3,hi343_3⟩:=at_T39 HR339_2.out x8_3 p343 q343
                have hw343_3:=hx343_3
                have hw343_2:=hx343_2
                have hw343_1:=hx343_1
                have hw343_0:=hx343_0
                cases e343
                replace hx343_0:=(HB.out.cell (World.block_lt_of_cell? w _ hx343_0)).trans hx343_0
                replace hx343_1:=(HB.out.cell (World.block_lt_of_cell? w _ hx343_1)).trans hx343_1
                replace hx343_2:=(HB.out.cell (World.block_lt_of_cell? w _ hx343_2)).trans hx343_2
                replace hx343_3:=(HB.out.cell (World.block_lt_of_cell? w _ hx343_3)).trans hx343_3
                have HR343_3:=Aside0.mk hi343_3
                have HC343_3:=Aside0.mk hl343_3
                clear hi343_3 hl343_3
                replace p343:=eq_true p343
                replace q343:=eq_true q343
                have p344:0≤(x8_3:Int):=of_decide_eq_true (by first|(with_reducible assumption)|assumption)
                have q344:x8_3 < (((rd_T42 l1_0 x5_1).f2).length:Int):=of_decide_eq_true (by first|(with_reducible assumption)|assumption)
                obtain ⟨ad344,A344_3,c344_3,e344,hx344_0,hx344_1,hx344_2,hx344_3,hl344_3,hi344_3⟩:=at_T39 HR340_2.out x8_3 p344 q344
                have hw344_3:=hx344_3
                have hw344_2:=hx344_2
                have hw344_1:=hx344_1
                have hw344_0:=hx344_0
                cases e344
                replace hx344_0:=(HB.out.cell (World.block_lt_of_cell? w _ hx344_0)).trans hx344_0
                replace hx344_1:=(HB.out.cell (World.block_lt_of_cell? w _ hx344_1)).trans hx344_1
                replace hx344_2:=(HB.out.cell (World.block_lt_of_cell? w _ hx344_2)).trans hx344_2
                replace hx344_3:=(HB.out.cell (World.block_lt_of_cell? w _ hx344_3)).trans hx344_3
                have HR344_3:=Aside0.mk hi344_3
                have HC344_3:=Aside0.mk hl344_3
                clear hi344_3 hl344_3
                replace p344:=eq_true p344
                replace q344:=eq_true q344
                refine start_ (n:=12) (S:=fun w'=>w'.cell? ⟨gb341,0,none⟩=some (.int .i64 ((rd_T42 l0_0 x5_1).f0))∧w'.cell? ⟨gb341,1,none⟩=some (.bool ((rd_T42 l0_0 x5_1).f1))∧w'.cell? ⟨gb341,2,none⟩=some (.slice (some ad343) ((rd_T42 l0_0 x5_1).f2).length c339_2)∧w'.cell? ⟨gb342,0,none⟩=some (.int .i64 ((rd_T42 l1_0 x5_1).f0))∧w'.cell? ⟨gb342,1,none⟩=some (.bool ((rd_T42 l1_0 x5_1).f1))∧w'.cell? ⟨gb342,2,none⟩=some (.slice (some ad344) ((rd_T42 l1_0 x5_1).f2).length c340_2)∧w'.cell? (ad343.add ((x8_3).toNat * 4))=some (.bool ((rd_T39 ((rd_T42 l0_0 x5_1).f2) x8_3).f0))∧w'.cell? ⟨(ad343.add ((x8_3).toNat * 4)).block,(ad343.add ((x8_3).toNat * 4)).off+1,none⟩=some (.int .i64 ((rd_T39 ((rd_T42 l0_0 x5_1).f2) x8_3).f1))∧w'.cell? ⟨(ad343.add ((x8_3).toNat * 4)).block,(ad343.add ((x8_3).toNat * 4)).off+2,none⟩=some (.int .i64 ((rd_T39 ((rd_T42 l0_0 x5_1).f2) x8_3).f2))∧w'.cell? ⟨(ad343.add ((x8_3).toNat * 4)).block,(ad343.add ((x8_3).toNat * 4)).off+3,none⟩=some (.slice A343_3 ((rd_T39 ((rd_T42 l0_0 x5_1).f2) x8_3).f3).length c343_3)∧w'.cell? (ad344.add ((x8_3).toNat * 4))=some (.bool ((rd_T39 ((rd_T42 l1_0 x5_1).f2) x8_3).f0))∧w'.cell? ⟨(ad344.add ((x8_3).toNat * 4)).block,(ad344.add ((x8_3).toNat * 4)).off+1,none⟩=some (.int .i64 ((rd_T39 ((rd_T42 l1_0 x5_1).f2) x8_3).f1))∧w'.cell? ⟨(ad344.add ((x8_3).toNat * 4)).block,(ad344.add ((x8_3).toNat * 4)).off+2,none⟩=some (.int .i64 ((rd_T39 ((rd_T42 l1_0 x5_1).f2) x8_3).f2))∧w'.cell? ⟨(ad344.add ((x8_3).toNat * 4)).block,(ad344.add ((x8_3).toNat * 4)).off+3,none⟩=some (.slice A344_3 ((rd_T39 ((rd_T42 l1_0 x5_1).f2) x8_3).f3).length c344_3)) (ds:=[]) #[false,false,false,false,false,false,false,false,false,false,false,false] (by kernel_rfl) rfl rfl ⟨(blk_cell BK341.out 0).trans rfl,(blk_cell BK341.out 1).trans rfl,(blk_cell BK341.out 2).trans rfl,(blk_cell BK342.out 0).trans rfl,(blk_cell BK342.out 1).trans rfl,(blk_cell BK342.out 2).trans rfl,((HB.out.cell (World.block_lt_of_cell? w _ hw343_0)).trans hw343_0),((HB.out.cell (World.block_lt_of_cell? w _ hw343_1)).trans hw343_1),((HB.out.cell (World.block_lt_of_cell? w _ hw343_2)).trans hw343_2),((HB.out.cell (World.block_lt_of_cell? w _ hw343_3)).trans hw343_3),((HB.out.cell (World.block_lt_of_cell? w _ hw344_0)).trans hw344_0),((HB.out.cell (World.block_lt_of_cell? w _ hw344_1)).trans hw344_1),((HB.out.cell (World.block_lt_of_cell? w _ hw344_2)).trans hw344_2),((HB.out.cell (World.block_lt_of_cell? w _ hw344_3)).trans hw344_3)⟩ (fun hHeld=>?_);refine with_tabW coronerref03_Same.tab12 coronerref03_Same.bits12 (fun HT_ HW_=>?_)
                generalize wr.drew=w64 at BK337 BK338 BK341 BK342 HB HR343_3 HR344_3 hx343_0 hx343_1 hx343_2 hx343_3 hx344_0 hx344_1 hx344_2 hx344_3 hHeld ⊢
                refine pure_ (i:=0) (N:=some 61) (v:=?_) (a':=?_) #[true,false,false,false,false,false,false,false,false,false,false,false] rfl rfl (any_of HT_.out (by kernel_rfl)) (fun _ _ _ h=>h) (Or.inl ⟨by rfl,?_⟩) ?_ ?_
                rotate_left
                ·intro w'
                 go_simp
                 with_reducible rfl
                rotate_left
                ·simp only [Act.put,List.setIfInBounds_toArray,List.set_cons_zero,List.set_cons_succ,i64_w,i32_w]
                 rfl
                refine pure_ (i:=2) (N:=some 63) (v:=?_) (a':=?_) #[true,false,true,false,false,false,false,false,false,false,false,false] rfl rfl (any_of HT_.out (by kernel_rfl)) (fun _ _ _ h=>h) (Or.inl ⟨by rfl,?_⟩) ?_ ?_
                rotate_left
                ·intro w'
                 go_simp
                 with_reducible rfl
                rotate_left
                ·simp only [Act.put,List.setIfInBounds_toArray,List.set_cons_zero,List.set_cons_succ,i64_w,i32_w]
                 rfl
                refine pure_ (i:=5) (N:=some 66) (v:=?_) (a':=?_) #[true,false,true,false,false,true,false,false,false,false,false,false] rfl rfl (any_of HT_.out (by kernel_rfl)) (fun _ _ _ h=>h) (Or.inl ⟨by rfl,?_⟩) ?_ ?_
                rotate_left
                ·intro w'
                 go_simp
                 with_reducible rfl
                rotate_left
                ·simp only [Act.put,List.setIfInBounds_toArray,List.set_cons_zero,List.set_cons_succ,i64_w,i32_w]
                 rfl
                refine pure_ (i:=7) (N:=some 68) (v:=?_) (a':=?_) #[true,false,true,false,false,true,false,true,false,false,false,false] rfl rfl (any_of HT_.out (by kernel_rfl)) (fun _ _ _ h=>h) (Or.inl ⟨by rfl,?_⟩) ?_ ?_
                rotate_left
                ·intro w'
                 go_simp
                 with_reducible rfl
                rotate_left
                ·simp only [Act.put,List.setIfInBounds_toArray,List.set_cons_zero,List.set_cons_succ,i64_w,i32_w]
                 rfl
                refine take_ (i:=1) (N:=some 62) (v:=?_) (a':=?_) #[true,true,true,false,false,true,false,true,false,false,false,false] rfl rfl (take_ofW HT_.out HW_.out (by kernel_rfl)) (fun _ _ _ h=>h) (Or.inl ⟨by rfl,?_⟩) hHeld ?_ ?_
                rotate_left
                ·rintro w' ⟨s0,s1,s2,s3,s4,s5,s6,s7,s8,s9,s10,s11,s12,s13⟩
                 go_simp
                 with_reducible rfl
                rotate_left
                ·simp only [Act.put,List.setIfInBounds_toArray,List.set_cons_zero,List.set_cons_succ,i64_w,i32_w]
                 rfl
                refine pure_ (i:=3) (N:=some 64) (v:=?_) (a':=?_) #[true,true,true,true,false,true,false,true,false,false,false,false] rfl rfl (any_of HT_.out (by kernel_rfl)) (fun _ _ _ h=>h) (Or.inl ⟨by rfl,?_⟩) ?_ ?_
                rotate_left
                ·intro w'
                 go_simp
                 with_reducible rfl
                rotate_left
                ·simp only [Act.put,List.setIfInBounds_toArray,List.set_cons_zero,List.set_cons_succ,i64_w,i32_w]
                 rfl
                refine take_ (i:=4) (N:=some 65) (v:=?_) (a':=?_) #[true,true,true,true,true,true,false,true,false,false,false,false] rfl rfl (take_ofW HT_.out HW_.out (by kernel_rfl)) (fun _ _ _ h=>h) (Or.inl ⟨by rfl,?_⟩) hHeld ?_ ?_
                rotate_left
                ·rintro w' ⟨s0,s1,s2,s3,s4,s5,s6,s7,s8,s9,s10,s11,s12,s13⟩
                 go_simp
                 with_reducible rfl
                rotate_left
                ·simp only [Act.put,List.setIfInBounds_toArray,List.set_cons_zero,List.set_cons_succ,i64_w,i32_w]
                 rfl
                refine take_ (i:=6) (N:=some 67) (v:=?_) (a':=?_) #[true,true,true,true,true,true,true,true,false,false,false,false] rfl rfl (take_ofW HT_.out HW_.out (by kernel_rfl)) (fun _ _ _ h=>h) (Or.inl ⟨by rfl,?_⟩) hHeld ?_ ?_
                rotate_left
                ·rintro w' ⟨s0,s1,s2,s3,s4,s5,s6,s7,s8,s9,s10,s11,s12,s13⟩
                 go_simp
                 with_reducible rfl
                rotate_left
                ·simp only [Act.put,List.setIfInBounds_toArray,List.set_cons_zero,List.set_cons_succ,i64_w,i32_w]
                 rfl
                refine pure_ (i:=8) (N:=some 69) (v:=?_) (a':=?_) #[true,true,true,true,true,true,true,true,true,false,false,false] rfl rfl (any_of HT_.out (by kernel_rfl)) (fun _ _ _ h=>h) (Or.inl ⟨by rfl,?_⟩) ?_ ?_
                rotate_left
                ·intro w'
                 go_simp
                 with_reducible rfl
                rotate_left
                ·simp only [Act.put,List.setIfInBounds_toArray,List.set_cons_zero,List.set_cons_succ,i64_w,i32_w]
                 rfl
                refine take_ (i:=9) (N:=some 70) (v:=?_) (a':=?_) #[true,true,true,true,true,true,true,true,true,true,false,false] rfl rfl (take_ofW HT_.out HW_.out (by kernel_rfl)) (fun _ _ _ h=>h) (Or.inl ⟨by rfl,?_⟩) hHeld ?_ ?_
                rotate_left
                ·rintro w' ⟨s0,s1,s2,s3,s4,s5,s6,s7,s8,s9,s10,s11,s12,s13⟩
                 go_simp
                 with_reducible rfl
                rotate_left
                ·simp only [Act.put,List.setIfInBounds_toArray,List.set_cons_zero,List.set_cons_succ,i64_w,i32_w]
                 rfl
                refine one_ (i:=10) (N:=some 71) #[true,true,true,true,true,true,true,true,true,true,true,false] rfl rfl (one_of HT_.out (by kernel_rfl)) (by decide) (fun K hK=>?_)
                refine goes_ Try.func38 (by kernel_rfl) rfl #[.agg #[.bool ((rd_T39 ((rd_T42 l0_0 x5_1).f2) x8_3).f0),.int .i64 ((rd_T39 ((rd_T42 l0_0 x5_1).f2) x8_3).f1),.int .i64 ((rd_T39 ((rd_T42 l0_0 x5_1).f2) x8_3).f2),.slice A343_3 ((rd_T39 ((rd_T42 l0_0 x5_1).f2) x8_3).f3).length c343_3],.agg #[.bool ((rd_T39 ((rd_T42 l1_0 x5_1).f2) x8_3).f0),.int .i64 ((rd_T39 ((rd_T42 l1_0 x5_1).f2) x8_3).f1),.int .i64 ((rd_T39 ((rd_T42 l1_0 x5_1).f2) x8_3).f2),.slice A344_3 ((rd_T39 ((rd_T42 l1_0 x5_1).f2) x8_3).f3).length c344_3]] (by rfl) rfl rfl (by (try simp only [List.map_toArray,List.map_cons,List.map_nil]);first|done|rfl|(simp only [List.length_drop,List.length_take];rfl)) ?_
                with_reducible refine (coronerref03_sameOp.calls k3 ((rd_T39 ((rd_T42 l0_0 x5_1).f2) x8_3).f0) ((rd_T39 ((rd_T42 l0_0 x5_1).f2) x8_3).f1) ((rd_T39 ((rd_T42 l0_0 x5_1).f2) x8_3).f2) _ _ ((rd_T39 ((rd_T42 l0_0 x5_1).f2) x8_3).f3) ((rd_T39 ((rd_T42 l1_0 x5_1).f2) x8_3).f0) ((rd_T39 ((rd_T42 l1_0 x5_1).f2) x8_3).f1) ((rd_T39 ((rd_T42 l1_0 x5_1).f2) x8_3).f2) _ _ ((rd_T39 ((rd_T42 l1_0 x5_1).f2) x8_3).f3) false _ ?side1 ?side2 ?side3 ?side4 A52.out).mono ?_
                (case side1=>repeat (first|exact (Kd.C_below HR343_3.out HB.out)|(with_reducible refine Kd.C_alloc ?_ _)|(with_reducible refine Kd.C_drewN ?_ _)|(with_reducible refine Kd.C_drew ?_)))
                (case side2=>exact HC343_3.out)
                (case side3=>repeat (first|exact (Kd.C_below HR344_3.out HB.out)|(with_reducible refine Kd.C_alloc ?_ _)|(with_reducible refine Kd.C_drewN ?_ _)|(with_reducible refine Kd.C_drew ?_)))
                (case side4=>exact HC344_3.out)
                rintro e w65 ⟨rfl,hb⟩
                refine ⟨_,rfl,?_⟩
                have n0_:=Aside0.mk (blk_below (g:=gb337) (o:=.cells #[.slice (some ad339) l0_0.length c0_0] 24 (0,0)) (by (with_reducible repeat (first|refine blk_drewN ?_ _|refine blk_drew ?_|refine blk_alloc ?_ _));exact BK337.out) hb)
                have n1_:=Aside0.mk (blk_below (g:=gb338) (o:=.cells #[.slice (some ad340) l1_0.length c1_0] 24 (0,0)) (by (with_reducible repeat (first|refine blk_drewN ?_ _|refine blk_drew ?_|refine blk_alloc ?_ _));exact BK338.out) hb)
                have n2_:=Aside0.mk (blk_below (g:=gb341) (o:=.cells #[.int .i64 ((rd_T42 l0_0 x5_1).f0),.bool ((rd_T42 l0_0 x5_1).f1),.slice (some ad343) ((rd_T42 l0_0 x5_1).f2).length c339_2] 42 (0,0)) (by (with_reducible repeat (first|refine blk_drewN ?_ _|refine blk_drew ?_|refine blk_alloc ?_ _));exact BK341.out) hb)
                have n3_:=Aside0.mk (blk_below (g:=gb342) (o:=.cells #[.int .i64 ((rd_T42 l1_0 x5_1).f0),.bool ((rd_T42 l1_0 x5_1).f1),.slice (some ad344) ((rd_T42 l1_0 x5_1).f2).length c340_2] 42 (0,0)) (by (with_reducible repeat (first|refine blk_drewN ?_ _|refine blk_drew ?_|refine blk_alloc ?_ _));exact BK342.out) hb)
                have n4_:=Aside0.mk (below_step (by repeat (first|(with_reducible first|exact HB.out|apply below_alloc|apply pw_below_drewN|apply below_drew1|refine below_set ?_ GE337.out|refine below_set ?_ GE338.out|refine below_set ?_ GE341.out|refine below_set ?_ GE342.out)|exact HB.out)) hb)
                clear BK337
                clear BK338
                clear BK341
                clear BK342
                clear HB
                have BK337:=n0_
                have BK338:=n1_
                have BK341:=n2_
                have BK342:=n3_
                have HB:=n4_
                clear n0_ n1_ n2_ n3_ n4_
                (try clear hb)
                (try clear hb2)
                (try clear hk)
                (try clear hi)
                refine hK.out _ _ ⟨(blk_cell BK341.out 0).trans rfl,(blk_cell BK341.out 1).trans rfl,(blk_cell BK341.out 2).trans rfl,(blk_cell BK342.out 0).trans rfl,(blk_cell BK342.out 1).trans rfl,(blk_cell BK342.out 2).trans rfl,((HB.out.cell (World.block_lt_of_cell? w _ hw343_0)).trans hw343_0),((HB.out.cell (World.block_lt_of_cell? w _ hw343_1)).trans hw343_1),((HB.out.cell (World.block_lt_of_cell? w _ hw343_2)).trans hw343_2),((HB.out.cell (World.block_lt_of_cell? w _ hw343_3)).trans hw343_3),((HB.out.cell (World.block_lt_of_cell? w _ hw344_0)).trans hw344_0),((HB.out.cell (World.block_lt_of_cell? w _ hw344_1)).trans hw344_1),((HB.out.cell (World.block_lt_of_cell? w _ hw344_2)).trans hw344_2),((HB.out.cell (World.block_lt_of_cell? w _ hw344_3)).trans hw344_3)⟩ (fun hHeld=>?_)
                clear hK K
                refine norm_ (a':=?_) ?_ ?_
                rotate_left
                ·show Act.put _ (some 71) _=_
                 simp only [Act.put,List.setIfInBounds_toArray,List.set_cons_zero,List.set_cons_succ,i64_w,i32_w]
                 rfl
                refine pure_ (i:=11) (N:=some 72) (v:=?_) (a':=?_) #[true,true,true,true,true,true,true,true,true,true,true,true] rfl rfl (any_of HT_.out (by kernel_rfl)) (fun _ _ _ h=>h) (Or.inl ⟨by rfl,?_⟩) ?_ ?_
                rotate_left
                ·intro w'
                 go_simp
                 with_reducible rfl
                rotate_left
                ·simp only [Act.put,List.setIfInBounds_toArray,List.set_cons_zero,List.set_cons_succ,i64_w,i32_w]
                 rfl
                refine done_ (done_of HT_.out (by kernel_rfl)) ?_
                try go_wp2
                go_ret
                exact ⟨by first|rfl|(simp [errW_none,errW_some] <;> rfl)|(simp [*,errW_none,errW_some] <;> rfl),by repeat (first|(with_reducible first|exact HB.out|apply below_alloc|apply pw_below_drewN|apply below_drew1|refine below_set ?_ GE337.out|refine below_set ?_ GE338.out|refine below_set ?_ GE341.out|refine below_set ?_ GE342.out)|exact HB.out)⟩
              ·rw [if_neg c51] at H
               exact absurd H (by simp)
             ·rw [if_neg c50] at H
              exact absurd H (by simp)
            ·rw [if_neg c49] at H
             have c49b0:decide (x8_3 < (((rd_T42 l0_0 x5_1).f2).length:Int))=false:=decide_eq_false c49
             clear c49
             have H':=Aside0.mk H
             clear H
             have hnb66:=NB341_337.out
             have hnc66:=NB337_341.out
             have hnb67:=NB341_338.out
             have hnc67:=NB338_341.out
             have hnb68:=NB341_342.out
             have hnc68:=NB342_341.out
             have hcz69_0:wr.cell? ⟨gb341,0,none⟩=some (.int .i64 ((rd_T42 l0_0 x5_1).f0)):=(blk_cell BK341.out 0).trans rfl
             have hcz69_1:wr.cell? ⟨gb341,1,none⟩=some (.bool ((rd_T42 l0_0 x5_1).f1)):=(blk_cell BK341.out 1).trans rfl
             have hcz69_2:wr.cell? ⟨gb341,2,none⟩=some (.slice A339_2 ((rd_T42 l0_0 x5_1).f2).length c339_2):=(blk_cell BK341.out 2).trans rfl
             have hfz69_0:=blk_frozen BK341.out 0
             have hfz69_1:=blk_frozen BK341.out 1
             have hfz69_2:=blk_frozen BK341.out 2
             go_wp2
             go_roundg k3
             case measure=>have:=HK1.out;have:=HJ11.out;have:=HK3.out;omega
             case rel=>exact ⟨(wrap64 (x5_1+1)),(by first|rfl|(simp;done)|(simp [*];done)),H',⟨by have:=HK1.out;have:=HJ11.out;have:=HK3.out;omega⟩,⟨by (with_reducible repeat (first|refine blk_drewN ?_ _|refine blk_drew ?_|refine blk_alloc ?_ _));exact BK337.out⟩,⟨by (with_reducible repeat (first|refine blk_drewN ?_ _|refine blk_drew ?_|refine blk_alloc ?_ _));exact BK338.out⟩,⟨by repeat (first|(with_reducible first|exact HB.out|apply below_alloc|apply pw_below_drewN|apply below_drew1|refine below_set ?_ GE337.out|refine below_set ?_ GE338.out|refine below_set ?_ GE341.out|refine below_set ?_ GE342.out)|exact HB.out)⟩⟩
      ·rw [if_neg c11] at H
       exact absurd H (by simp)
     ·rw [if_neg c10] at H
      exact absurd H (by simp)
    ·rw [if_neg c9] at H
     have c9b0:decide (x5_1 < (l0_0.length:Int))=false:=decide_eq_false c9
     clear c9
     obtain rfl:=Option.some.inj H
     have hnb70:=NB337_338.out
     have hnc70:=NB338_337.out
     have hcz71_0:wr.cell? ⟨gb337,0,none⟩=some (.slice A0_0 l0_0.length c0_0):=(blk_cell BK337.out 0).trans rfl
     have hfz71_0:=blk_frozen BK337.out 0
     go_wp2
     go_ret
     exact ⟨by first|rfl|(simp [errW_none,errW_some] <;> rfl)|(simp [*,errW_none,errW_some] <;> rfl),by repeat (first|(with_reducible first|exact HB.out|apply below_alloc|apply pw_below_drewN|apply below_drew1|refine below_set ?_ GE337.out|refine below_set ?_ GE338.out)|exact HB.out)⟩
 ·rw [if_neg c3] at H
  have c3b0:((l0_0.length:Int) == (l1_0.length:Int))=false:=beq_eq_false_iff_ne.mpr c3
  have c3b1:((l0_0.length:Int) != (l1_0.length:Int))=true:=bne_iff_ne.mpr c3
  have c3b2:(l0_0.length == l1_0.length)=false:=by first|simpa using c3|(simp at c3 ⊢;omega)
  obtain rfl:=Option.some.inj H
  go_enter Try.func22,Try.ntmps22
  go_wp2_with (first|((with_reducible refine gate_dst (N:=2) rfl ?_);(try (refine gate_guard (by rfl) ?_;dsimp only));refine box_event ?hg (N:=2) ?hd (cs:=#[.slice A0_0 l0_0.length c0_0]) (t:=24) ?hr ?_;(case hd=>rfl);(case hg=>rfl);(case hr=>first|(go_simp;done)|(go_simp;rfl));intro gb337 hg w72 hbox hb;have n0_:=Aside0.mk (below_step (by repeat (first|(with_reducible first|exact HB.out|apply below_alloc|apply pw_below_drewN|apply below_drew1)|exact HB.out)) hb);have n1_:=Aside0.mk (hbox);have n2_:=Aside0.mk ((by rw [hg];exact (below_size (by repeat (first|(with_reducible first|exact HB.out|apply below_alloc|apply pw_below_drewN|apply below_drew1)|exact HB.out))):w.heap.size≤gb337));have n3_:=Aside0.mk ((by rw [hg];exact (below_size (by repeat (first|(with_reducible first|exact HB.out|apply below_alloc|apply pw_below_drewN|apply below_drew1)|exact HB.out))):w.heap.size≤gb337));clear HB;have HB:=n0_;have BK337:=n1_;have GW337:=n2_;have GE337:=n3_;clear n0_ n1_ n2_ n3_;clear hb hbox hg)|((with_reducible refine gate_dst (N:=3) rfl ?_);(try (refine gate_guard (by rfl) ?_;dsimp only));refine box_event ?hg (N:=3) ?hd (cs:=#[.slice A1_0 l1_0.length c1_0]) (t:=24) ?hr ?_;(case hd=>rfl);(case hg=>rfl);(case hr=>first|(go_simp;done)|(go_simp;rfl));intro gb338 hg w73 hbox hb;have n0_:=Aside0.mk (blk_below (g:=gb337) (o:=.cells #[.slice A0_0 l0_0.length c0_0] 24 (0,0)) (by (with_reducible repeat (first|refine blk_drewN ?_ _|refine blk_drew ?_|refine blk_alloc ?_ _));exact BK337.out) hb);have n1_:=Aside0.mk (below_step (by repeat (first|(with_reducible first|exact HB.out|apply below_alloc|apply pw_below_drewN|apply below_drew1|refine below_set ?_ GE337.out)|exact HB.out)) hb);have n2_:=Aside0.mk (hbox);have n3_:=Aside0.mk ((by rw [hg];exact (below_size (by repeat (first|(with_reducible first|exact HB.out|apply below_alloc|apply pw_below_drewN|apply below_drew1|refine below_set ?_ GE337.out)|exact HB.out))):w.heap.size≤gb338));have n4_:=Aside0.mk ((by rw [hg];exact (below_size (by repeat (first|(with_reducible first|exact HB.out|apply below_alloc|apply pw_below_drewN|apply below_drew1|refine below_set ?_ GE337.out)|exact HB.out))):w.heap.size≤gb338));have n5_:=Aside0.mk ((by rw [hg];exact Nat.ne_of_lt (blk_lt (g:=gb337) (o:=.cells #[.slice A0_0 l0_0.length c0_0] 24 (0,0)) (by (with_reducible repeat (first|refine blk_drewN ?_ _|refine blk_drew ?_|refine blk_alloc ?_ _));exact BK337.out)):gb337 ≠ gb338));have n6_:=Aside0.mk ((by rw [hg];exact Nat.ne_of_gt (blk_lt (g:=gb337) (o:=.cells #[.slice A0_0 l0_0.length c0_0] 24 (0,0)) (by (with_reducible repeat (first|refine blk_drewN ?_ _|refine blk_drew ?_|refine blk_alloc ?_ _));exact BK337.out)):gb338 ≠ gb337));clear BK337;clear HB;have BK337:=n0_;have HB:=n1_;have BK338:=n2_;have GW338:=n3_;have GE338:=n4_;have NB337_338:=n5_;have NB338_337:=n6_;clear n0_ n1_ n2_ n3_ n4_ n5_ n6_;clear hb hbox hg;have hnb74:=NB337_338.out;have hnc74:=NB338_337.out;have hcz75_0:w73.cell? ⟨gb337,0,none⟩=some (.slice A0_0 l0_0.length c0_0):=(blk_cell BK337.out 0).trans rfl;have hfz75_0:=blk_frozen BK337.out 0;have hcz76_0:w73.cell? ⟨gb338,0,none⟩=some (.slice A1_0 l1_0.length c1_0):=(blk_cell BK338.out 0).trans rfl;have hfz76_0:=blk_frozen BK338.out 0))
  go_ret
  exact ⟨by first|rfl|(simp [errW_none,errW_some] <;> rfl)|(simp [*,errW_none,errW_some] <;> rfl),by repeat (first|(with_reducible first|exact HB.out|apply below_alloc|apply pw_below_drewN|apply below_drew1|refine below_set ?_ GE337.out|refine below_set ?_ GE338.out)|exact HB.out)⟩
end Go.Proofs.Ytlcioegdmopppaa.PEncodeBack
