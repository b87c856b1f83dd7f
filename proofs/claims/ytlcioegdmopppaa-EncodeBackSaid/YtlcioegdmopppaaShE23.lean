/- Printed by shake.py. -/
import Derived.Test.YtlcioegdmopppaaShE21
import Derived.Test.YtlcioegdmopppaaShE22
namespace Go.Proofs.Ytlcioegdmopppaa.PEncodeBack
open Go.RowKit Go.Proofs.YtlcioegdmopppaaW.PrintWords Go.Proofs.YtlcioegdmopppaaW.PrintLast Go.Proofs.YtlcioegdmopppaaW.PrintMore
attribute [local go_sem] max2_int min2_int max_two min_two max_three min_three max_four min_four
set_option linter.unusedVariables false
set_option linter.unusedSimpArgs false
mutual
def coronerref01_Value.j0:Nat→List Int→Bool→Option (Int)
 | 0,_,_=>none
 | k+1,x0,x23=>if x23=true then (some (-1)) else (coronerref01_Value.l0 k x0 0 0)
def coronerref01_Value.l0:Nat→List Int→Int→Int→Option (Int)
 | 0,_,_,_=>none
 | k+1,x0,x3,x4=>if x4 < (x0.length:Int) then (if 0≤x4 then ((coronerref01_Digit.f (rd x0 x4)).bind fun t219=>(if t219=true then (coronerref01_Value.l0 k x0 (wrap64 ((wrap64 ((wrap64 (10 * x3))+(wrap64 (rd x0 x4)))) - 48)) (wrap64 (x4+1))) else (some (-1)))) else (none)) else (if x3 > 2147483647 then (some (-1)) else (some x3))
end
def coronerref01_Value.f (k:Nat) (l0:List Int):Option (Int):=if (l0.length:Int)=0 then (coronerref01_Value.j0 k l0 true) else (if (l0.length:Int) > 10 then (coronerref01_Value.j0 k l0 true) else (if (l0.length:Int) > 1 then (if 0 < (l0.length:Int) then (coronerref01_Value.j0 k l0 ((rd l0 0) == 48)) else (none)) else (coronerref01_Value.j0 k l0 false)))
set_option maxHeartbeats 8000000 in
set_option maxRecDepth 100000 in
theorem coronerref01_Value.calls (k:Nat) (A0:Option Addr) (c0:Nat) (l0:List Int) (r:Int) (w:World) (hr0:Kd.C (Kd.int .u8) w A0 l0.length l0) (hc0:l0.length≤c0) (h:coronerref01_Value.f k l0=some r) :
 Calls Try.prog 71 #[.slice A0 l0.length c0] w fun e w'=>e=.returned (.int .i64 r)∧Drawn0 w w':=by
 have HR0:=Aside0.mk hr0
 have HC0:=Aside0.mk hc0
 clear hr0 hc0
 have H:(if (l0.length:Int)=0 then (coronerref01_Value.j0 k l0 true) else (if (l0.length:Int) > 10 then (coronerref01_Value.j0 k l0 true) else (if (l0.length:Int) > 1 then (if 0 < (l0.length:Int) then (coronerref01_Value.j0 k l0 ((rd l0 0) == 48)) else (none)) else (coronerref01_Value.j0 k l0 false))))=some r:=h
 clear h
 have HC2:=Aside0.mk H
 clear H
 go_enter Try.func71,Try.ntmps71
 go_upto_region 1 with (fail)
 go_cut [23] (fun v23 wc=>∃ (kq:Nat) (x23_1:Bool),v23=.bool x23_1∧Aside0 (coronerref01_Value.j0 kq l0 x23_1=some r)∧Aside0 (kq≤k)∧Drawn0 w wc)
 case first =>
  have H:=HC2.out
  clear HC2
  by_cases c3:(l0.length:Int)=0
  ·rw [if_pos c3] at H
   have c3b0:((l0.length:Int) == 0)=true:=beq_iff_eq.mpr c3
   have c3b1:((l0.length:Int) != 0)=false:=bne_eq_false_iff_eq.mpr c3
   clear c3
   (first|rw [c3b0]|(simp only [i64_w,i32_w];rw [c3b0])|skip)
   have H':=Aside0.mk H
   clear H
   go_wp2
   go_meet
   case rel=>exact ⟨_,(true),(by first|rfl|(simp;done)|(simp [*];done)),H',⟨by first|omega|exact Nat.le_refl _⟩,by repeat (first|exact Drawn0.refl _|apply Drawn0.step)⟩
  ·rw [if_neg c3] at H
   have c3b0:((l0.length:Int) == 0)=false:=beq_eq_false_iff_ne.mpr c3
   have c3b1:((l0.length:Int) != 0)=true:=bne_iff_ne.mpr c3
   have c3b2:¬ (l0=[]):=fun h_=>c3 (by rw [h_];rfl)
   (first|rw [c3b0]|(simp only [i64_w,i32_w];rw [c3b0])|skip)
   by_cases c4:(l0.length:Int) > 10
   ·rw [if_pos c4] at H
    have c4b0:decide (10 < (l0.length:Int))=true:=decide_eq_true c4
    have c4b1:decide (10 < l0.length)=true:=decide_eq_true (by omega)
    clear c4
    have H':=Aside0.mk H
    clear H
    go_wp2
    go_meet
    case rel=>exact ⟨_,(true),(by first|rfl|(simp;done)|(simp [*];done)),H',⟨by first|omega|exact Nat.le_refl _⟩,by repeat (first|exact Drawn0.refl _|apply Drawn0.step)⟩
   ·rw [if_neg c4] at H
    have c4b0:decide (10 < (l0.length:Int))=false:=decide_eq_false c4
    have c4b1:decide (10 < l0.length)=false:=decide_eq_false (by omega)
    clear c4
    by_cases c5:(l0.length:Int) > 1
    ·rw [if_pos c5] at H
     have c5b0:decide (1 < (l0.length:Int))=true:=decide_eq_true c5
     have c5b1:decide (1 < l0.length)=true:=decide_eq_true (by omega)
     clear c5
     by_cases c6:0 < (l0.length:Int)
     ·rw [if_pos c6] at H
      have c6b0:decide (0 < (l0.length:Int))=true:=decide_eq_true c6
      have c6b1:decide (0 < l0.length)=true:=decide_eq_true (by omega)
      clear c6
      have H':=Aside0.mk H
      clear H
      have p217:0≤(0:Int):=(by omega)
      have q217:0 < (l0.length:Int):=of_decide_eq_true (by first|(with_reducible assumption)|assumption)
      obtain ⟨ad217,e217,hx217_0⟩:=Kd.at_int HR0.out 0 p217 q217
      cases e217
      have qi217:(0 < l0.length)=True:=eq_true (by omega)
      (try rw [show ((0:Int)).toNat=0 from rfl] at hx217_0)
      (try rw [Addr.add_zero'] at hx217_0)
      replace p217:=eq_true p217
      replace q217:=eq_true q217
      go_wp2
      go_meet
      case rel=>exact ⟨_,(((rd l0 0) == 48)),(by first|rfl|(simp;done)|(simp [*];done)),H',⟨by first|omega|exact Nat.le_refl _⟩,by repeat (first|exact Drawn0.refl _|apply Drawn0.step)⟩
     ·rw [if_neg c6] at H
      exact absurd H (by simp)
    ·rw [if_neg c5] at H
     have c5b0:decide (1 < (l0.length:Int))=false:=decide_eq_false c5
     have c5b1:decide (1 < l0.length)=false:=decide_eq_false (by omega)
     clear c5
     have H':=Aside0.mk H
     clear H
     go_wp2
     go_meet
     case rel=>exact ⟨_,(false),(by first|rfl|(simp;done)|(simp [*];done)),H',⟨by first|omega|exact Nat.le_refl _⟩,by repeat (first|exact Drawn0.refl _|apply Drawn0.step)⟩
 case rest =>
  clear HC2
  try clear p2
  try clear q2
  try clear hx2
  try clear qi2
  try clear c3
  try clear c3b0
  try clear c3b1
  try clear c3b2
  try clear c4
  try clear c4b0
  try clear c4b1
  try clear c5
  try clear c5b0
  try clear c5b1
  try clear c6
  try clear c6b0
  try clear c6b1
  try clear hx217_0
  try clear p217
  try clear q217
  obtain ⟨kq,x23_1,rfl,HA,HJ1,⟨mc1,rfl⟩⟩:=hcut
  cases kq with
  | zero=>exact absurd HA.out (by simp [coronerref01_Value.j0])
  | succ kj1 =>
   have H:=HA.out
   clear HA
   simp only [coronerref01_Value.j0] at H
   by_cases c7:x23_1=true
   ·subst c7
    have H1:(some (-1))=some r:=by rw [if_pos rfl] at H;exact H
    clear H
    have H:=H1
    clear H1
    obtain rfl:=Option.some.inj H
    go_wp2
    go_ret
    exact ⟨by first|rfl|(simp;done)|(simp [*];done),by repeat (first|exact Drawn0.refl _|apply Drawn0.step)⟩
   ·replace c7:=Bool.eq_false_iff.mpr c7
    subst c7
    have H1:(coronerref01_Value.l0 kj1 l0 0 0)=some r:=by rw [if_neg (show ¬ (false=true) by decide)] at H;exact H
    clear H
    have H:=H1
    clear H1
    have H':=Aside0.mk H
    clear H
    go_wp2
    go_loopg [3,4] kj1 (fun kq v3 v4 w'=>∃ (x3_2:Int) (x4_2:Int),v3=.int .i64 x3_2∧v4=.int .i64 x4_2∧Aside0 (coronerref01_Value.l0 kq l0 x3_2 x4_2=some r)∧Aside0 (kq≤kj1)∧Drawn0 w w')
    case atStart=>exact ⟨(0),(0),(by first|rfl|(simp;done)|(simp [*];done)),(by first|rfl|(simp;done)|(simp [*];done)),H',⟨Nat.le_refl _⟩,by repeat (first|exact Drawn0.refl _|apply Drawn0.step)⟩
    case round =>
     clear H'
     try clear c1
     try clear p2
     try clear q2
     try clear hx2
     try clear qi2
     try clear c3
     try clear c3b0
     try clear c3b1
     try clear c3b2
     try clear c4
     try clear c4b0
     try clear c4b1
     try clear c5
     try clear c5b0
     try clear c5b1
     try clear c6
     try clear c6b0
     try clear c6b1
     try clear c7
     try clear hx217_0
     try clear p2
     try clear p217
     try clear q2
     try clear q217
     obtain ⟨x3_2,x4_2,rfl,rfl,HA,HK2,⟨m2,rfl⟩⟩:=hrel
     cases gk with
     | zero=>exact absurd HA.out (by simp [coronerref01_Value.l0])
     | succ k2 =>
      have H:=HA.out
      clear HA
      simp only [coronerref01_Value.l0] at H
      by_cases c8:x4_2 < (l0.length:Int)
      ·rw [if_pos c8] at H
       have c8b0:decide (x4_2 < (l0.length:Int))=true:=decide_eq_true c8
       clear c8
       by_cases c9:0≤x4_2
       ·rw [if_pos c9] at H
        have c9b0:decide (0≤x4_2)=true:=decide_eq_true c9
        clear c9
        replace H:=Option.bind_eq_some_iff.mp H
        obtain ⟨t219,A100,H⟩:=H
        replace H:(if t219=true then (coronerref01_Value.l0 k2 l0 (wrap64 ((wrap64 ((wrap64 (10 * x3_2))+(wrap64 (rd l0 x4_2)))) - 48)) (wrap64 (x4_2+1))) else (some (-1)))=some r:=H
        have A10:=Aside0.mk A100
        clear A100
        by_cases c11:t219=true
        ·subst c11
         have H1:(coronerref01_Value.l0 k2 l0 (wrap64 ((wrap64 ((wrap64 (10 * x3_2))+(wrap64 (rd l0 x4_2)))) - 48)) (wrap64 (x4_2+1)))=some r:=by rw [if_pos rfl] at H;exact H
         clear H
         have H:=H1
         clear H1
         have H':=Aside0.mk H
         clear H
         have p218:0≤(x4_2:Int):=of_decide_eq_true (by first|(with_reducible assumption)|assumption)
         have q218:x4_2 < (l0.length:Int):=of_decide_eq_true (by first|(with_reducible assumption)|assumption)
         obtain ⟨ad218,e218,hx218_0⟩:=Kd.at_int HR0.out x4_2 p218 q218
         cases e218
         replace p218:=eq_true p218
         replace q218:=eq_true q218
         go_wp2_with (first|((with_reducible refine gate_callee (f:=70) rfl ?_);refine goesL_ (some 34) rfl rfl Try.func70 (by kernel_rfl) rfl #[.int .u8 (rd l0 x4_2)] rfl (by (try simp only [List.map_toArray,List.map_cons,List.map_nil]);first|done|rfl|(simp only [List.length_drop,List.length_take];rfl)) ?_;(with_reducible refine (coronerref01_Digit.calls (rd l0 x4_2) true _ A10.out).mono ?_);rintro e w' ⟨rfl,⟨nd,rfl⟩⟩;refine ⟨_,rfl,?_⟩;have p220:0≤(x4_2:Int):=of_decide_eq_true (by first|(with_reducible assumption)|assumption);have q220:x4_2 < (l0.length:Int):=of_decide_eq_true (by first|(with_reducible assumption)|assumption);obtain ⟨ad220,e220,hx220_0⟩:=Kd.at_int HR0.out x4_2 p220 q220;obtain rfl:ad218=ad220:=(by injection e220);replace p220:=eq_true p220;replace q220:=eq_true q220))
         go_roundg k2
         case measure=>have:=HJ1.out;have:=HK2.out;omega
         case rel=>exact ⟨(wrap64 ((wrap64 ((wrap64 (10 * x3_2))+(wrap64 (rd l0 x4_2)))) - 48)),(wrap64 (x4_2+1)),(by first|rfl|(simp;done)|(simp [*];done)),(by first|rfl|(simp;done)|(simp [*];done)),H',⟨by have:=HJ1.out;have:=HK2.out;omega⟩,by repeat (first|exact Drawn0.refl _|apply Drawn0.step)⟩
        ·replace c11:=Bool.eq_false_iff.mpr c11
         subst c11
         have H1:(some (-1))=some r:=by rw [if_neg (show ¬ (false=true) by decide)] at H;exact H
         clear H
         have H:=H1
         clear H1
         obtain rfl:=Option.some.inj H
         have p218:0≤(x4_2:Int):=of_decide_eq_true (by first|(with_reducible assumption)|assumption)
         have q218:x4_2 < (l0.length:Int):=of_decide_eq_true (by first|(with_reducible assumption)|assumption)
         obtain ⟨ad218,e218,hx218_0⟩:=Kd.at_int HR0.out x4_2 p218 q218
         cases e218
         replace p218:=eq_true p218
         replace q218:=eq_true q218
         go_wp2_with (first|((with_reducible refine gate_callee (f:=70) rfl ?_);refine goesL_ (some 34) rfl rfl Try.func70 (by kernel_rfl) rfl #[.int .u8 (rd l0 x4_2)] rfl (by (try simp only [List.map_toArray,List.map_cons,List.map_nil]);first|done|rfl|(simp only [List.length_drop,List.length_take];rfl)) ?_;(with_reducible refine (coronerref01_Digit.calls (rd l0 x4_2) false _ A10.out).mono ?_);rintro e w' ⟨rfl,⟨nd,rfl⟩⟩;refine ⟨_,rfl,?_⟩))
         go_ret
         exact ⟨by first|rfl|(simp;done)|(simp [*];done),by repeat (first|exact Drawn0.refl _|apply Drawn0.step)⟩
       ·rw [if_neg c9] at H
        exact absurd H (by simp)
      ·rw [if_neg c8] at H
       have c8b0:decide (x4_2 < (l0.length:Int))=false:=decide_eq_false c8
       clear c8
       by_cases c12:x3_2 > 2147483647
       ·rw [if_pos c12] at H
        have c12b0:decide (2147483647 < x3_2)=true:=decide_eq_true c12
        clear c12
        obtain rfl:=Option.some.inj H
        go_wp2
        go_ret
        exact ⟨by first|rfl|(simp;done)|(simp [*];done),by repeat (first|exact Drawn0.refl _|apply Drawn0.step)⟩
       ·rw [if_neg c12] at H
        have c12b0:decide (2147483647 < x3_2)=false:=decide_eq_false c12
        clear c12
        obtain rfl:=Option.some.inj H
        go_wp2
        go_ret
        exact ⟨by first|rfl|(simp;done)|(simp [*];done),by repeat (first|exact Drawn0.refl _|apply Drawn0.step)⟩
mutual
def coronerref01_Parse.j0:Nat→List Int→Int→Bool→Option (Int × Int × Bool)
 | 0,_,_,_=>none
 | k+1,x0,x1,x16=>if x16=true then (some (0,0,false)) else (coronerref01_Parse.l0 k x0 x1 x1)
def coronerref01_Parse.j2:Nat→List Int→Int→Int→Option (Int × Int × Bool)
 | 0,_,_,_=>none
 | k+1,x0,x1,x7=>coronerref01_Parse.l1 k x0 x1 x7 (wrap64 (x1+1))
def coronerref01_Parse.l1:Nat→List Int→Int→Int→Int→Option (Int × Int × Bool)
 | 0,_,_,_,_=>none
 | k+1,x0,x1,x7,x8=>if x8≤x7 then (if 0≤x1 then (if x1≤x8 then (if x8≤(x0.length:Int) then ((coronerref01_Value.f k ((x0.take (x8:Int).toNat).drop (x1:Int).toNat)).bind fun t224=>(if t224 < 0 then (some (0,wrap64 (x8 - 1),false)) else (coronerref01_Parse.l1 k x0 x1 x7 (wrap64 (x8+1))))) else (none)) else (none)) else (none)) else (if x7=x1 then (some (0,x1,false)) else (if 0≤x1 then (if x1≤x7 then (if x7≤(x0.length:Int) then ((coronerref01_Value.f k ((x0.take (x7:Int).toNat).drop (x1:Int).toNat)).bind fun t226=>(some (t226,x7,true))) else (none)) else (none)) else (none)))
def coronerref01_Parse.l0:Nat→List Int→Int→Int→Option (Int × Int × Bool)
 | 0,_,_,_=>none
 | k+1,x0,x1,x7=>if x7 < (x0.length:Int) then (if 0≤x7 then ((coronerref01_Digit.f (rd x0 x7)).bind fun t222=>(if t222=true then (coronerref01_Parse.l0 k x0 x1 (wrap64 (x7+1))) else (coronerref01_Parse.j2 k x0 x1 x7))) else (none)) else (coronerref01_Parse.j2 k x0 x1 x7)
end
def coronerref01_Parse.f (k:Nat) (l0:List Int) (a1:Int):Option (Int × Int × Bool):=if a1 < 0 then (coronerref01_Parse.j0 k l0 a1 true) else (coronerref01_Parse.j0 k l0 a1 (decide (a1 > (l0.length:Int))))
set_option maxHeartbeats 8000000 in
set_option maxRecDepth 100000 in
theorem coronerref01_Parse.calls (k:Nat) (A0:Option Addr) (c0:Nat) (l0:List Int) (a1:Int) (r1:Int) (r2:Int) (r3:Bool) (w:World) (hr0:Kd.C (Kd.int .u8) w A0 l0.length l0) (hc0:l0.length≤c0) (h:coronerref01_Parse.f k l0 a1=some (r1,r2,r3)) :
 Calls Try.prog 56 #[.slice A0 l0.length c0,.int .i64 a1] w fun e w'=>e=.returned (.tuple #[.int .i64 r1,.int .i64 r2,.bool r3])∧Drawn0 w w':=by
 have HR0:=Aside0.mk hr0
 have HC0:=Aside0.mk hc0
 clear hr0 hc0
 have H:(if a1 < 0 then (coronerref01_Parse.j0 k l0 a1 true) else (coronerref01_Parse.j0 k l0 a1 (decide (a1 > (l0.length:Int)))))=some (r1,r2,r3):=h
 clear h
 have HC3:=Aside0.mk H
 clear H
 go_enter Try.func56,Try.ntmps56
 go_upto_region 1 with (fail)
 go_cut [16] (fun v16 wc=>∃ (kq:Nat) (x16_2:Bool),v16=.bool x16_2∧Aside0 (coronerref01_Parse.j0 kq l0 a1 x16_2=some (r1,r2,r3))∧Aside0 (kq≤k)∧Drawn0 w wc)
 case first =>
  have H:=HC3.out
  clear HC3
  by_cases c4:a1 < 0
  ·rw [if_pos c4] at H
   have c4b0:decide (a1 < 0)=true:=decide_eq_true c4
   clear c4
   (first|rw [c4b0]|(simp only [i64_w,i32_w];rw [c4b0])|skip)
   have H':=Aside0.mk H
   clear H
   go_wp2
   go_meet
   case rel=>exact ⟨_,(true),(by first|rfl|(simp;done)|(simp [*];done)),H',⟨by first|omega|exact Nat.le_refl _⟩,by repeat (first|exact Drawn0.refl _|apply Drawn0.step)⟩
  ·rw [if_neg c4] at H
   have c4b0:decide (a1 < 0)=false:=decide_eq_false c4
   clear c4
   (first|rw [c4b0]|(simp only [i64_w,i32_w];rw [c4b0])|skip)
   have H':=Aside0.mk H
   clear H
   go_wp2
   go_meet
   case rel=>exact ⟨_,(decide (a1 > (l0.length:Int))),(by first|rfl|(simp;done)|(simp [*];done)),H',⟨by first|omega|exact Nat.le_refl _⟩,by repeat (first|exact Drawn0.refl _|apply Drawn0.step)⟩
 case rest =>
  clear HC3
  try clear p2
  try clear c4
  try clear c4b0
  obtain ⟨kq,x16_2,rfl,HA,HJ2,⟨mc2,rfl⟩⟩:=hcut
  cases kq with
  | zero=>exact absurd HA.out (by simp [coronerref01_Parse.j0])
  | succ kj2 =>
   have H:=HA.out
   clear HA
   simp only [coronerref01_Parse.j0] at H
   by_cases c5:x16_2=true
   ·subst c5
    have H1:(some (0,0,false))=some (r1,r2,r3):=by rw [if_pos rfl] at H;exact H
    clear H
    have H:=H1
    clear H1
    simp only [Option.some.injEq,Prod.mk.injEq] at H
    obtain ⟨rfl,rfl,rfl⟩:=H
    go_wp2
    go_ret3
    exact ⟨by first|rfl|(simp;done)|(simp [*];done),by repeat (first|exact Drawn0.refl _|apply Drawn0.step)⟩
   ·replace c5:=Bool.eq_false_iff.mpr c5
    subst c5
    have H1:(coronerref01_Parse.l0 kj2 l0 a1 a1)=some (r1,r2,r3):=by rw [if_neg (show ¬ (false=true) by decide)] at H;exact H
    clear H
    have H:=H1
    clear H1
    have HC6:=Aside0.mk H
    clear H
    go_upto_block 0 with (fail)
    go_cut [7] (fun v7 wc=>∃ (kq:Nat) (x7_5:Int),v7=.int .i64 x7_5∧Aside0 (coronerref01_Parse.j2 kq l0 a1 x7_5=some (r1,r2,r3))∧Aside0 (kq≤kj2)∧Drawn0 w wc)
    case first =>
     have H:=HC6.out
     clear HC6
     have H':=Aside0.mk H
     clear H
     go_wp2
     go_loopg [7] kj2 (fun kq v7 w'=>∃ (x7_2:Int),v7=.int .i64 x7_2∧Aside0 (coronerref01_Parse.l0 kq l0 a1 x7_2=some (r1,r2,r3))∧Aside0 (kq≤kj2)∧Drawn0 w w')
     case atStart=>exact ⟨(a1),(by first|rfl|(simp;done)|(simp [*];done)),H',⟨Nat.le_refl _⟩,by repeat (first|exact Drawn0.refl _|apply Drawn0.step)⟩
     case round =>
      clear H'
      try clear c2
      try clear p2
      try clear c4
      try clear c4b0
      try clear c5
      try clear p2
      obtain ⟨x7_2,rfl,HA,HK2,⟨m2,rfl⟩⟩:=hrel
      cases gk with
      | zero=>exact absurd HA.out (by simp [coronerref01_Parse.l0])
      | succ k2 =>
       have H:=HA.out
       clear HA
       simp only [coronerref01_Parse.l0] at H
       by_cases c7:x7_2 < (l0.length:Int)
       ·rw [if_pos c7] at H
        have c7b0:decide (x7_2 < (l0.length:Int))=true:=decide_eq_true c7
        clear c7
        (first|rw [c7b0]|(simp only [i64_w,i32_w];rw [c7b0])|skip)
        by_cases c8:0≤x7_2
        ·rw [if_pos c8] at H
         have c8b0:decide (0≤x7_2)=true:=decide_eq_true c8
         clear c8
         replace H:=Option.bind_eq_some_iff.mp H
         obtain ⟨t222,A90,H⟩:=H
         replace H:(if t222=true then (coronerref01_Parse.l0 k2 l0 a1 (wrap64 (x7_2+1))) else (coronerref01_Parse.j2 k2 l0 a1 x7_2))=some (r1,r2,r3):=H
         have A9:=Aside0.mk A90
         clear A90
         by_cases c10:t222=true
         ·subst c10
          have H1:(coronerref01_Parse.l0 k2 l0 a1 (wrap64 (x7_2+1)))=some (r1,r2,r3):=by rw [if_pos rfl] at H;exact H
          clear H
          have H:=H1
          clear H1
          have H':=Aside0.mk H
          clear H
          have p221:0≤(x7_2:Int):=of_decide_eq_true (by first|(with_reducible assumption)|assumption)
          have q221:x7_2 < (l0.length:Int):=of_decide_eq_true (by first|(with_reducible assumption)|assumption)
          obtain ⟨ad221,e221,hx221_0⟩:=Kd.at_int HR0.out x7_2 p221 q221
          cases e221
          replace p221:=eq_true p221
          replace q221:=eq_true q221
          go_wp2_with (first|(go_at_call 70;(with_reducible refine (coronerref01_Digit.calls (rd l0 x7_2) true _ A9.out).mono ?_);rintro e w' ⟨rfl,⟨nd,rfl⟩⟩))
          go_roundg k2
          case measure=>have:=HJ2.out;have:=HK2.out;omega
          case rel=>exact ⟨(wrap64 (x7_2+1)),(by first|rfl|(simp;done)|(simp [*];done)),H',⟨by have:=HJ2.out;have:=HK2.out;omega⟩,by repeat (first|exact Drawn0.refl _|apply Drawn0.step)⟩
         ·replace c10:=Bool.eq_false_iff.mpr c10
          subst c10
          have H1:(coronerref01_Parse.j2 k2 l0 a1 x7_2)=some (r1,r2,r3):=by rw [if_neg (show ¬ (false=true) by decide)] at H;exact H
          clear H
          have H:=H1
          clear H1
          have H':=Aside0.mk H
          clear H
          have p221:0≤(x7_2:Int):=of_decide_eq_true (by first|(with_reducible assumption)|assumption)
          have q221:x7_2 < (l0.length:Int):=of_decide_eq_true (by first|(with_reducible assumption)|assumption)
          obtain ⟨ad221,e221,hx221_0⟩:=Kd.at_int HR0.out x7_2 p221 q221
          cases e221
          replace p221:=eq_true p221
          replace q221:=eq_true q221
          go_wp2_with (first|(go_at_call 70;(with_reducible refine (coronerref01_Digit.calls (rd l0 x7_2) false _ A9.out).mono ?_);rintro e w' ⟨rfl,⟨nd,rfl⟩⟩))
          go_meet
          case rel=>exact ⟨_,(x7_2),(by first|rfl|(simp;done)|(simp [*];done)),H',⟨by have:=HJ2.out;have:=HK2.out;first|omega|exact Nat.le_refl _⟩,by repeat (first|exact Drawn0.refl _|apply Drawn0.step)⟩
        ·rw [if_neg c8] at H
         exact absurd H (by simp)
       ·rw [if_neg c7] at H
        have c7b0:decide (x7_2 < (l0.length:Int))=false:=decide_eq_false c7
        clear c7
        (first|rw [c7b0]|(simp only [i64_w,i32_w];rw [c7b0])|skip)
        have H':=Aside0.mk H
        clear H
        go_wp2
        go_meet
        case rel=>exact ⟨_,(x7_2),(by first|rfl|(simp;done)|(simp [*];done)),H',⟨by have:=HJ2.out;have:=HK2.out;first|omega|exact Nat.le_refl _⟩,by repeat (first|exact Drawn0.refl _|apply Drawn0.step)⟩
    case rest =>
     clear HC6
     try clear c1
     try clear c2
     try clear p2
     try clear q2
     try clear hx2
     try clear c4
     try clear c4b0
     try clear c5
     try clear p6
     try clear c7
     try clear c7b0
     try clear c8
     try clear c8b0
     try clear c10
     try clear hx221_0
     try clear p2
     try clear p221
     try clear q221
     obtain ⟨kq,x7_5,rfl,HA,HJ5,⟨mc5,rfl⟩⟩:=hcut
     cases kq with
     | zero=>exact absurd HA.out (by simp [coronerref01_Parse.j2])
     | succ kj5 =>
      have H:=HA.out
      clear HA
      simp only [coronerref01_Parse.j2] at H
      have H':=Aside0.mk H
      clear H
      go_wp2
      go_loopg [8] kj5 (fun kq v8 w'=>∃ (x8_3:Int),v8=.int .i64 x8_3∧Aside0 (coronerref01_Parse.l1 kq l0 a1 x7_5 x8_3=some (r1,r2,r3))∧Aside0 (kq≤kj5)∧Drawn0 w w')
      case atStart=>exact ⟨(wrap64 (a1+1)),(by first|rfl|(simp;done)|(simp [*];done)),H',⟨Nat.le_refl _⟩,by repeat (first|exact Drawn0.refl _|apply Drawn0.step)⟩
      case round =>
       clear H'
       try clear c1
       try clear c2
       try clear p2
       try clear q2
       try clear hx2
       try clear c4
       try clear c4b0
       try clear c5
       try clear p6
       try clear c7
       try clear c7b0
       try clear c8
       try clear c8b0
       try clear c10
       try clear hx221_0
       try clear p2
       try clear p221
       try clear p6
       try clear q2
       try clear q221
       obtain ⟨x8_3,rfl,HA,HK3,⟨m3,rfl⟩⟩:=hrel
       cases gk with
       | zero=>exact absurd HA.out (by simp [coronerref01_Parse.l1])
       | succ k3 =>
        have H:=HA.out
        clear HA
        simp only [coronerref01_Parse.l1] at H
        by_cases c11:x8_3≤x7_5
        ·rw [if_pos c11] at H
         have c11b0:decide (x8_3≤x7_5)=true:=decide_eq_true c11
         clear c11
         by_cases c12:0≤a1
         ·rw [if_pos c12] at H
          have c12b0:=eq_true c12
          have c12b1:decide (0≤a1)=true:=decide_eq_true c12
          clear c12
          by_cases c13:a1≤x8_3
          ·rw [if_pos c13] at H
           have c13b0:=eq_true c13
           have c13b1:decide (a1≤x8_3)=true:=decide_eq_true c13
           clear c13
           by_cases c14:x8_3≤(l0.length:Int)
           ·rw [if_pos c14] at H
            have c14b0:=eq_true c14
            have c14b1:decide (x8_3≤(l0.length:Int))=true:=decide_eq_true c14
            clear c14
            replace H:=Option.bind_eq_some_iff.mp H
            obtain ⟨t224,A150,H⟩:=H
            replace H:(if t224 < 0 then (some (0,wrap64 (x8_3 - 1),false)) else (coronerref01_Parse.l1 k3 l0 a1 x7_5 (wrap64 (x8_3+1))))=some (r1,r2,r3):=H
            have A15:=Aside0.mk A150
            clear A150
            by_cases c16:t224 < 0
            ·rw [if_pos c16] at H
             have c16b0:decide (t224 < 0)=true:=decide_eq_true c16
             clear c16
             simp only [Option.some.injEq,Prod.mk.injEq] at H
             obtain ⟨rfl,rfl,rfl⟩:=H
             obtain ⟨i017,hi017,_,hsz17,_⟩:=info_parts info5
             obtain ⟨A17,hcut17,hA17,hC17⟩:=print_mid_of (P:=Try.prog) (Value.int .u8) 0 27 5 .i64 .i64 Try.underlying27 hi017 hsz17 A0 c0 l0 a1 x8_3 (of_decide_eq_true (by first|(with_reducible assumption)|assumption)) (by first|omega|exact of_decide_eq_true (by first|(with_reducible assumption)|assumption)) (of_decide_eq_true (by first|(with_reducible assumption)|assumption)) HC0.out
             have HR223:=Aside0.mk (Kd.C_of_reads (h1:=fun _=>rfl) (hA17 _ (Kd.reads_of_C HR0.out)))
             have HC223:=Aside0.mk hC17
             clear hA17 hC17 hi017 hsz17
             go_wp2_with (first|((with_reducible refine gate_callee (f:=71) rfl ?_);refine goesL_ (some 42) rfl rfl Try.func71 (by kernel_rfl) rfl #[.slice A17 ((l0.take (x8_3:Int).toNat).drop (a1:Int).toNat).length (c0 - a1.toNat)] rfl (by (try simp only [List.map_toArray,List.map_cons,List.map_nil]);first|done|(rw [show ((l0.take (x8_3:Int).toNat).drop (a1:Int).toNat).length=(x8_3.toNat - a1.toNat) from (by rw [List.length_drop,List.length_take];have h_:(x8_3:Int)≤(l0.length:Int):=of_decide_eq_true (by first|(with_reducible assumption)|assumption);omega)] <;> rfl)|rfl|(simp only [List.length_drop,List.length_take];rfl)) ?_;(with_reducible refine (coronerref01_Value.calls k3 _ _ ((l0.take (x8_3:Int).toNat).drop (a1:Int).toNat) t224 _ ?side1 ?side2 A15.out).mono ?_);(case side1=>repeat (first|exact HR223.out|(with_reducible refine Kd.C_alloc ?_ _)|(with_reducible refine Kd.C_drewN ?_ _)|(with_reducible refine Kd.C_drew ?_)));(case side2=>exact HC223.out);rintro e w' ⟨rfl,⟨nd,rfl⟩⟩;refine ⟨_,rfl,?_⟩))
             go_ret3
             exact ⟨by first|rfl|(simp;done)|(simp [*];done),by repeat (first|exact Drawn0.refl _|apply Drawn0.step)⟩
            ·rw [if_neg c16] at H
             have c16b0:decide (t224 < 0)=false:=decide_eq_false c16
             clear c16
             have H':=Aside0.mk H
             clear H
             obtain ⟨i018,hi018,_,hsz18,_⟩:=info_parts info5
             obtain ⟨A18,hcut18,hA18,hC18⟩:=print_mid_of (P:=Try.prog) (Value.int .u8) 0 27 5 .i64 .i64 Try.underlying27 hi018 hsz18 A0 c0 l0 a1 x8_3 (of_decide_eq_true (by first|(with_reducible assumption)|assumption)) (by first|omega|exact of_decide_eq_true (by first|(with_reducible assumption)|assumption)) (of_decide_eq_true (by first|(with_reducible assumption)|assumption)) HC0.out
             have HR223:=Aside0.mk (Kd.C_of_reads (h1:=fun _=>rfl) (hA18 _ (Kd.reads_of_C HR0.out)))
             have HC223:=Aside0.mk hC18
             clear hA18 hC18 hi018 hsz18
             go_wp2_with (first|((with_reducible refine gate_callee (f:=71) rfl ?_);refine goesL_ (some 42) rfl rfl Try.func71 (by kernel_rfl) rfl #[.slice A18 ((l0.take (x8_3:Int).toNat).drop (a1:Int).toNat).length (c0 - a1.toNat)] rfl (by (try simp only [List.map_toArray,List.map_cons,List.map_nil]);first|done|(rw [show ((l0.take (x8_3:Int).toNat).drop (a1:Int).toNat).length=(x8_3.toNat - a1.toNat) from (by rw [List.length_drop,List.length_take];have h_:(x8_3:Int)≤(l0.length:Int):=of_decide_eq_true (by first|(with_reducible assumption)|assumption);omega)] <;> rfl)|rfl|(simp only [List.length_drop,List.length_take];rfl)) ?_;(with_reducible refine (coronerref01_Value.calls k3 _ _ ((l0.take (x8_3:Int).toNat).drop (a1:Int).toNat) t224 _ ?side1 ?side2 A15.out).mono ?_);(case side1=>repeat (first|exact HR223.out|(with_reducible refine Kd.C_alloc ?_ _)|(with_reducible refine Kd.C_drewN ?_ _)|(with_reducible refine Kd.C_drew ?_)));(case side2=>exact HC223.out);rintro e w' ⟨rfl,⟨nd,rfl⟩⟩;refine ⟨_,rfl,?_⟩))
             go_roundg k3
             case measure=>have:=HJ2.out;have:=HJ5.out;have:=HK3.out;omega
             case rel=>exact ⟨(wrap64 (x8_3+1)),(by first|rfl|(simp;done)|(simp [*];done)),H',⟨by have:=HJ2.out;have:=HJ5.out;have:=HK3.out;omega⟩,by repeat (first|exact Drawn0.refl _|apply Drawn0.step)⟩
           ·rw [if_neg c14] at H
            exact absurd H (by simp)
          ·rw [if_neg c13] at H
           exact absurd H (by simp)
         ·rw [if_neg c12] at H
          exact absurd H (by simp)
        ·rw [if_neg c11] at H
         have c11b0:decide (x8_3≤x7_5)=false:=decide_eq_false c11
         clear c11
         by_cases c19:x7_5=a1
         ·rw [if_pos c19] at H
          have c19b0:(x7_5 == a1)=true:=beq_iff_eq.mpr c19
          have c19b1:(x7_5 != a1)=false:=bne_eq_false_iff_eq.mpr c19
          clear c19
          simp only [Option.some.injEq,Prod.mk.injEq] at H
          obtain ⟨rfl,rfl,rfl⟩:=H
          go_wp2
          go_ret3
          exact ⟨by first|rfl|(simp;done)|(simp [*];done),by repeat (first|exact Drawn0.refl _|apply Drawn0.step)⟩
         ·rw [if_neg c19] at H
          have c19b0:(x7_5 == a1)=false:=beq_eq_false_iff_ne.mpr c19
          have c19b1:(x7_5 != a1)=true:=bne_iff_ne.mpr c19
          by_cases c20:0≤a1
          ·rw [if_pos c20] at H
           have c20b0:=eq_true c20
           have c20b1:decide (0≤a1)=true:=decide_eq_true c20
           clear c20
           by_cases c21:a1≤x7_5
           ·rw [if_pos c21] at H
            have c21b0:=eq_true c21
            have c21b1:decide (a1≤x7_5)=true:=decide_eq_true c21
            clear c21
            by_cases c22:x7_5≤(l0.length:Int)
            ·rw [if_pos c22] at H
             have c22b0:=eq_true c22
             have c22b1:decide (x7_5≤(l0.length:Int))=true:=decide_eq_true c22
             clear c22
             replace H:=Option.bind_eq_some_iff.mp H
             obtain ⟨t226,A230,H⟩:=H
             replace H:(some (t226,x7_5,true))=some (r1,r2,r3):=H
             have A23:=Aside0.mk A230
             clear A230
             simp only [Option.some.injEq,Prod.mk.injEq] at H
             obtain ⟨rfl,rfl,rfl⟩:=H
             obtain ⟨i024,hi024,_,hsz24,_⟩:=info_parts info5
             obtain ⟨A24,hcut24,hA24,hC24⟩:=print_mid_of (P:=Try.prog) (Value.int .u8) 0 27 5 .i64 .i64 Try.underlying27 hi024 hsz24 A0 c0 l0 a1 x7_5 (of_decide_eq_true (by first|(with_reducible assumption)|assumption)) (by first|omega|exact of_decide_eq_true (by first|(with_reducible assumption)|assumption)) (of_decide_eq_true (by first|(with_reducible assumption)|assumption)) HC0.out
             have HR225:=Aside0.mk (Kd.C_of_reads (h1:=fun _=>rfl) (hA24 _ (Kd.reads_of_C HR0.out)))
             have HC225:=Aside0.mk hC24
             clear hA24 hC24 hi024 hsz24
             go_wp2_with (first|((with_reducible refine gate_callee (f:=71) rfl ?_);refine goesL_ (some 54) rfl rfl Try.func71 (by kernel_rfl) rfl #[.slice A24 ((l0.take (x7_5:Int).toNat).drop (a1:Int).toNat).length (c0 - a1.toNat)] rfl (by (try simp only [List.map_toArray,List.map_cons,List.map_nil]);first|done|(rw [show ((l0.take (x7_5:Int).toNat).drop (a1:Int).toNat).length=(x7_5.toNat - a1.toNat) from (by rw [List.length_drop,List.length_take];have h_:(x7_5:Int)≤(l0.length:Int):=of_decide_eq_true (by first|(with_reducible assumption)|assumption);omega)] <;> rfl)|rfl|(simp only [List.length_drop,List.length_take];rfl)) ?_;(with_reducible refine (coronerref01_Value.calls k3 _ _ ((l0.take (x7_5:Int).toNat).drop (a1:Int).toNat) t226 _ ?side1 ?side2 A23.out).mono ?_);(case side1=>repeat (first|exact HR225.out|(with_reducible refine Kd.C_alloc ?_ _)|(with_reducible refine Kd.C_drewN ?_ _)|(with_reducible refine Kd.C_drew ?_)));(case side2=>exact HC225.out);rintro e w' ⟨rfl,⟨nd,rfl⟩⟩;refine ⟨_,rfl,?_⟩))
             go_ret3
             exact ⟨by first|rfl|(simp;done)|(simp [*];done),by repeat (first|exact Drawn0.refl _|apply Drawn0.step)⟩
            ·rw [if_neg c22] at H
             exact absurd H (by simp)
           ·rw [if_neg c21] at H
            exact absurd H (by simp)
          ·rw [if_neg c20] at H
           exact absurd H (by simp)
def coronerref03_twin.l0:Nat→Int→Int→List (S42)→Option (Bool)
 | 0,_,_,_=>none
 | k+1,x1,x5,x228000=>if x5 < (x228000.length:Int) then (if 0≤x5 then (if ((rd_T42 x228000 x5).f0)=x1 then (some true) else (coronerref03_twin.l0 k x1 (wrap64 (x5+1)) x228000)) else (none)) else (some false)
def coronerref03_twin.f (k:Nat) (l0_0:List (S42)) (a1:Int):Option (Bool):=coronerref03_twin.l0 k a1 0 l0_0
set_option maxHeartbeats 8000000 in
set_option maxRecDepth 100000 in
theorem coronerref03_twin.calls (k:Nat) (A0_0:Option Addr) (c0_0:Nat) (l0_0:List (S42)) (a1:Int) (r:Bool) (w:World) (hr0_0:Kd.C k42 w A0_0 l0_0.length l0_0) (hc0_0:l0_0.length≤c0_0) (h:coronerref03_twin.f k l0_0 a1=some r) :
 Calls Try.prog 57 #[.agg #[.slice A0_0 l0_0.length c0_0],.int .i64 a1] w fun e w'=>e=.returned (.bool r)∧Below w.heap.size w w':=by
 have hu24:=Try.underlying24
 have HR0_0:=Aside0.mk hr0_0
 have HC0_0:=Aside0.mk hc0_0
 clear hr0_0 hc0_0
 have HB:=Aside0.mk (Below.refl w.heap.size w)
 have H:(coronerref03_twin.l0 k a1 0 l0_0)=some r:=h
 clear h
 have H':=Aside0.mk H
 clear H
 go_enter Try.func57,Try.ntmps57
 go_wp2_with (first|((with_reducible refine gate_dst (N:=2) rfl ?_);refine box_event ?hg (N:=2) ?hd (cs:=#[.slice A0_0 l0_0.length c0_0]) (t:=24) ?hr ?_;(case hd=>rfl);(case hg=>rfl);(case hr=>first|(go_simp;done)|(go_simp;rfl));intro gb227 hg w3 hbox hb;have n0_:=Aside0.mk (below_step (by repeat (first|(with_reducible first|exact HB.out|apply below_alloc|apply pw_below_drewN|apply below_drew1)|exact HB.out)) hb);have n1_:=Aside0.mk (hbox);have n2_:=Aside0.mk ((by rw [hg];exact (below_size (by repeat (first|(with_reducible first|exact HB.out|apply below_alloc|apply pw_below_drewN|apply below_drew1)|exact HB.out))):w.heap.size≤gb227));have n3_:=Aside0.mk ((by rw [hg];exact (below_size (by repeat (first|(with_reducible first|exact HB.out|apply below_alloc|apply pw_below_drewN|apply below_drew1)|exact HB.out))):w.heap.size≤gb227));clear HB;have HB:=n0_;have BK227:=n1_;have GW227:=n2_;have GE227:=n3_;clear n0_ n1_ n2_ n3_;clear hb hbox hg))
 go_loopg [5] k (fun kq v5 w'=>∃ (x5_1:Int),v5=.int .i64 x5_1∧Aside0 (coronerref03_twin.l0 kq a1 x5_1 l0_0=some r)∧Aside0 (kq≤k)∧Aside0 (w'.heap[gb227]?=some (.cells #[(.slice A0_0 l0_0.length c0_0)] 24 (0,0)))∧Aside0 (Below w.heap.size w w'))
 case atStart=>exact ⟨(0),(by first|rfl|(simp;done)|(simp [*];done)),H',⟨Nat.le_refl _⟩,⟨by (with_reducible repeat (first|refine blk_drewN ?_ _|refine blk_drew ?_|refine blk_alloc ?_ _));exact BK227.out⟩,⟨by repeat (first|(with_reducible first|exact HB.out|apply below_alloc|apply pw_below_drewN|apply below_drew1|refine below_set ?_ GE227.out)|exact HB.out)⟩⟩
 case round =>
  clear H'
  try clear p2
  obtain ⟨x5_1,rfl,HA,HK1,BK227,HB⟩:=hrel
  cases gk with
  | zero=>exact absurd HA.out (by simp [coronerref03_twin.l0])
  | succ k1 =>
   have H:=HA.out
   clear HA
   simp only [coronerref03_twin.l0] at H
   by_cases c4:x5_1 < (l0_0.length:Int)
   ·rw [if_pos c4] at H
    have c4b0:decide (x5_1 < (l0_0.length:Int))=true:=decide_eq_true c4
    clear c4
    by_cases c5:0≤x5_1
    ·rw [if_pos c5] at H
     have c5b0:decide (0≤x5_1)=true:=decide_eq_true c5
     clear c5
     by_cases c6:((rd_T42 l0_0 x5_1).f0)=a1
     ·rw [if_pos c6] at H
      have c6b0:(((rd_T42 l0_0 x5_1).f0) == a1)=true:=beq_iff_eq.mpr c6
      have c6b1:(((rd_T42 l0_0 x5_1).f0) != a1)=false:=bne_eq_false_iff_eq.mpr c6
      clear c6
      obtain rfl:=Option.some.inj H
      have hcz7_0:wr.cell? ⟨gb227,0,none⟩=some (.slice A0_0 l0_0.length c0_0):=(blk_cell BK227.out 0).trans rfl
      have hfz7_0:=blk_frozen BK227.out 0
      have p228:0≤(x5_1:Int):=of_decide_eq_true (by first|(with_reducible assumption)|assumption)
      have q228:x5_1 < (l0_0.length:Int):=of_decide_eq_true (by first|(with_reducible assumption)|assumption)
      obtain ⟨ad228,A228_2,c228_2,e228,hx228_0,hx228_1,hx228_2,hl228_2,hi228_2⟩:=at_T42 HR0_0.out x5_1 p228 q228
      cases e228
      replace hx228_0:=(HB.out.cell (World.block_lt_of_cell? w _ hx228_0)).trans hx228_0
      replace hx228_1:=(HB.out.cell (World.block_lt_of_cell? w _ hx228_1)).trans hx228_1
      replace hx228_2:=(HB.out.cell (World.block_lt_of_cell? w _ hx228_2)).trans hx228_2
      have HR228_2:=Aside0.mk hi228_2
      have HC228_2:=Aside0.mk hl228_2
      clear hi228_2 hl228_2
      replace p228:=eq_true p228
      replace q228:=eq_true q228
      go_wp2
      go_ret
      exact ⟨by first|rfl|(simp [errW_none,errW_some] <;> rfl)|(simp [*,errW_none,errW_some] <;> rfl),by repeat (first|(with_reducible first|exact HB.out|apply below_alloc|apply pw_below_drewN|apply below_drew1|refine below_set ?_ GE227.out)|exact HB.out)⟩
     ·rw [if_neg c6] at H
      have c6b0:(((rd_T42 l0_0 x5_1).f0) == a1)=false:=beq_eq_false_iff_ne.mpr c6
      have c6b1:(((rd_T42 l0_0 x5_1).f0) != a1)=true:=bne_iff_ne.mpr c6
      have H':=Aside0.mk H
      clear H
      have hcz8_0:wr.cell? ⟨gb227,0,none⟩=some (.slice A0_0 l0_0.length c0_0):=(blk_cell BK227.out 0).trans rfl
      have hfz8_0:=blk_frozen BK227.out 0
      have p228:0≤(x5_1:Int):=of_decide_eq_true (by first|(with_reducible assumption)|assumption)
      have q228:x5_1 < (l0_0.length:Int):=of_decide_eq_true (by first|(with_reducible assumption)|assumption)
      obtain ⟨ad228,A228_2,c228_2,e228,hx228_0,hx228_1,hx228_2,hl228_2,hi228_2⟩:=at_T42 HR0_0.out x5_1 p228 q228
      cases e228
      replace hx228_0:=(HB.out.cell (World.block_lt_of_cell? w _ hx228_0)).trans hx228_0
      replace hx228_1:=(HB.out.cell (World.block_lt_of_cell? w _ hx228_1)).trans hx228_1
      replace hx228_2:=(HB.out.cell (World.block_lt_of_cell? w _ hx228_2)).trans hx228_2
      have HR228_2:=Aside0.mk hi228_2
      have HC228_2:=Aside0.mk hl228_2
      clear hi228_2 hl228_2
      replace p228:=eq_true p228
      replace q228:=eq_true q228
      go_wp2
      go_roundg k1
      case measure=>have:=HK1.out;omega
      case rel=>exact ⟨(wrap64 (x5_1+1)),(by first|rfl|(simp;done)|(simp [*];done)),H',⟨by have:=HK1.out;omega⟩,⟨by (with_reducible repeat (first|refine blk_drewN ?_ _|refine blk_drew ?_|refine blk_alloc ?_ _));exact BK227.out⟩,⟨by repeat (first|(with_reducible first|exact HB.out|apply below_alloc|apply pw_below_drewN|apply below_drew1|refine below_set ?_ GE227.out)|exact HB.out)⟩⟩
    ·rw [if_neg c5] at H
     exact absurd H (by simp)
   ·rw [if_neg c4] at H
    have c4b0:decide (x5_1 < (l0_0.length:Int))=false:=decide_eq_false c4
    clear c4
    obtain rfl:=Option.some.inj H
    have hcz9_0:wr.cell? ⟨gb227,0,none⟩=some (.slice A0_0 l0_0.length c0_0):=(blk_cell BK227.out 0).trans rfl
    have hfz9_0:=blk_frozen BK227.out 0
    go_wp2
    go_ret
    exact ⟨by first|rfl|(simp [errW_none,errW_some] <;> rfl)|(simp [*,errW_none,errW_some] <;> rfl),by repeat (first|(with_reducible first|exact HB.out|apply below_alloc|apply pw_below_drewN|apply below_drew1|refine below_set ?_ GE227.out)|exact HB.out)⟩
end Go.Proofs.Ytlcioegdmopppaa.PEncodeBack
