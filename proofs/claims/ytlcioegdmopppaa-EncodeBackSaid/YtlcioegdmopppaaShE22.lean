/- Printed by shake.py. -/
import Derived.Test.YtlcioegdmopppaaShE21
namespace Go.Proofs.Ytlcioegdmopppaa.PEncodeBack
open Go.RowKit Go.Proofs.YtlcioegdmopppaaW.PrintWords Go.Proofs.YtlcioegdmopppaaW.PrintLast Go.Proofs.YtlcioegdmopppaaW.PrintMore
attribute [local go_sem] max2_int min2_int max_two min_two max_three min_three max_four min_four
set_option linter.unusedVariables false
set_option linter.unusedSimpArgs false
def IsS87 (w0 W:World) (g:Nat) (f0:Bool) (f1:List Int) (f2:Int) (f3:Int) (f4:Int):Prop:=∃ A1 c1,W.heap[g]?=some (.cells #[.bool f0,.slice A1 f1.length c1,.int .i64 f2,.int .i64 f3,.int .i64 f4] 87 (0,0))∧w0.heap.size≤g∧Kd.C (Kd.int .u8) w0 A1 f1.length f1
theorem IsS87.apart {w0 W:World} {g:Nat} {f0:Bool} {f1:List Int} {f2:Int} {f3:Int} {f4:Int} {α:Type} {d:Kd α} {e:Nat} {base:Nat} {ok:Nat→Prop} {v:Value} {xs:List α} (h:IsS87 w0 W g f0 f1 f2 f3 f4) (ho:d.R e W base ok v xs) (ht:∀ q,q ∈ e :: d.E→q ≠ 87):d.R e W base (fun k=>ok k∧k ≠ g) v xs:=by
 obtain ⟨A1,c1,hb,hg,hr1⟩:=h
 exact Kd.R_types ho hb ht
def cursor_New.f (l0:List Int):Option (Bool × List Int × Int × Int × Int):=some (true,l0,0,0,0)
def digits_digit.f (a0:Int):Option (Int):=if a0 < 48 then (some (-1)) else (if a0 > 57 then (some (-1)) else (some (wrap64 (wrap32 (a0 - 48)))))
set_option maxHeartbeats 8000000 in
set_option maxRecDepth 100000 in
theorem digits_digit.calls (a0:Int) (r:Int) (w:World) (h:digits_digit.f a0=some r) :
 Calls Try.prog 78 #[.int .i32 a0] w fun e w'=>e=.returned (.int .i64 r)∧Drawn0 w w':=by
 have H:(if a0 < 48 then (some (-1)) else (if a0 > 57 then (some (-1)) else (some (wrap64 (wrap32 (a0 - 48))))))=some r:=h
 clear h
 by_cases c2:a0 < 48
 ·rw [if_pos c2] at H
  have c2b0:decide (a0 < 48)=true:=decide_eq_true c2
  clear c2
  obtain rfl:=Option.some.inj H
  go_enter Try.func78,Try.ntmps78
  go_wp2
  go_ret
  exact ⟨by first|rfl|(simp;done)|(simp [*];done),by repeat (first|exact Drawn0.refl _|apply Drawn0.step)⟩
 ·rw [if_neg c2] at H
  have c2b0:decide (a0 < 48)=false:=decide_eq_false c2
  clear c2
  by_cases c3:a0 > 57
  ·rw [if_pos c3] at H
   have c3b0:decide (57 < a0)=true:=decide_eq_true c3
   clear c3
   obtain rfl:=Option.some.inj H
   go_enter Try.func78,Try.ntmps78
   go_wp2
   go_ret
   exact ⟨by first|rfl|(simp;done)|(simp [*];done),by repeat (first|exact Drawn0.refl _|apply Drawn0.step)⟩
  ·rw [if_neg c3] at H
   have c3b0:decide (57 < a0)=false:=decide_eq_false c3
   clear c3
   obtain rfl:=Option.some.inj H
   go_enter Try.func78,Try.ntmps78
   go_wp2
   go_ret
   exact ⟨by first|rfl|(simp;done)|(simp [*];done),by repeat (first|exact Drawn0.refl _|apply Drawn0.step)⟩
mutual
def digits_Parse.j0:Nat→List Int→Int→Bool→Option (Int × Int × Bool)
 | 0,_,_,_=>none
 | k+1,x0,x1,x17=>if x17=true then (some (0,0,false)) else (digits_Parse.l0 k x0 x1 0 x1)
def digits_Parse.l0:Nat→List Int→Int→Int→Int→Option (Int × Int × Bool)
 | 0,_,_,_,_=>none
 | k+1,x0,x1,x7,x8=>if x8 < (x0.length:Int) then (if 0≤x8 then ((digits_digit.f (wrap32 (rd x0 x8))).bind fun t201=>(if t201 < 0 then (if x8=x1 then (some (0,x1,false)) else (some (x7,x8,true))) else (if x8 > x1 then (if x7=0 then (some (0,x8,false)) else (if x7 > (wrap64 (Int.tdiv (wrap64 (2147483647 - t201)) 10)) then (some (0,x8,false)) else (digits_Parse.l0 k x0 x1 (wrap64 ((wrap64 (x7 * 10))+t201)) (wrap64 (x8+1))))) else (if x7 > (wrap64 (Int.tdiv (wrap64 (2147483647 - t201)) 10)) then (some (0,x8,false)) else (digits_Parse.l0 k x0 x1 (wrap64 ((wrap64 (x7 * 10))+t201)) (wrap64 (x8+1))))))) else (none)) else (if x8=x1 then (some (0,x1,false)) else (some (x7,x8,true)))
end
def digits_Parse.f (k:Nat) (l0:List Int) (a1:Int):Option (Int × Int × Bool):=if a1 < 0 then (digits_Parse.j0 k l0 a1 true) else (digits_Parse.j0 k l0 a1 (decide (a1 > (l0.length:Int))))
set_option maxHeartbeats 8000000 in
set_option maxRecDepth 100000 in
theorem digits_Parse.calls (k:Nat) (A0:Option Addr) (c0:Nat) (l0:List Int) (a1:Int) (r1:Int) (r2:Int) (r3:Bool) (w:World) (hr0:Kd.C (Kd.int .u8) w A0 l0.length l0) (hc0:l0.length≤c0) (h:digits_Parse.f k l0 a1=some (r1,r2,r3)) :
 Calls Try.prog 74 #[.slice A0 l0.length c0,.int .i64 a1] w fun e w'=>e=.returned (.tuple #[.int .i64 r1,.int .i64 r2,.bool r3])∧Drawn0 w w':=by
 have HR0:=Aside0.mk hr0
 have HC0:=Aside0.mk hc0
 clear hr0 hc0
 have H:(if a1 < 0 then (digits_Parse.j0 k l0 a1 true) else (digits_Parse.j0 k l0 a1 (decide (a1 > (l0.length:Int)))))=some (r1,r2,r3):=h
 clear h
 have HC3:=Aside0.mk H
 clear H
 go_enter Try.func74,Try.ntmps74
 go_upto_region 1 with (fail)
 go_cut [17] (fun v17 wc=>∃ (kq:Nat) (x17_2:Bool),v17=.bool x17_2∧Aside0 (digits_Parse.j0 kq l0 a1 x17_2=some (r1,r2,r3))∧Aside0 (kq≤k)∧Drawn0 w wc)
 case first =>
  have H:=HC3.out
  clear HC3
  by_cases c4:a1 < 0
  ·rw [if_pos c4] at H
   have c4b0:decide (a1 < 0)=true:=decide_eq_true c4
   clear c4
   (first|rw [c4b0]|(simp only [i64_w,i32_w];rw [c4b0])|skip)
   have H':=Aside0.mk H
   clear H
   go_wp2
   go_meet
   case rel=>exact ⟨_,(true),(by first|rfl|(simp;done)|(simp [*];done)),H',⟨by first|omega|exact Nat.le_refl _⟩,by repeat (first|exact Drawn0.refl _|apply Drawn0.step)⟩
  ·rw [if_neg c4] at H
   have c4b0:decide (a1 < 0)=false:=decide_eq_false c4
   clear c4
   (first|rw [c4b0]|(simp only [i64_w,i32_w];rw [c4b0])|skip)
   have H':=Aside0.mk H
   clear H
   go_wp2
   go_meet
   case rel=>exact ⟨_,(decide (a1 > (l0.length:Int))),(by first|rfl|(simp;done)|(simp [*];done)),H',⟨by first|omega|exact Nat.le_refl _⟩,by repeat (first|exact Drawn0.refl _|apply Drawn0.step)⟩
 case rest =>
  clear HC3
  try clear p2
  try clear c4
  try clear c4b0
  obtain ⟨kq,x17_2,rfl,HA,HJ2,⟨mc2,rfl⟩⟩:=hcut
  cases kq with
  | zero=>exact absurd HA.out (by simp [digits_Parse.j0])
  | succ kj2 =>
   have H:=HA.out
   clear HA
   simp only [digits_Parse.j0] at H
   by_cases c5:x17_2=true
   ·subst c5
    have H1:(some (0,0,false))=some (r1,r2,r3):=by rw [if_pos rfl] at H;exact H
    clear H
    have H:=H1
    clear H1
    simp only [Option.some.injEq,Prod.mk.injEq] at H
    obtain ⟨rfl,rfl,rfl⟩:=H
    go_wp2
    go_ret3
    exact ⟨by first|rfl|(simp;done)|(simp [*];done),by repeat (first|exact Drawn0.refl _|apply Drawn0.step)⟩
   ·replace c5:=Bool.eq_false_iff.mpr c5
    subst c5
    have H1:(digits_Parse.l0 kj2 l0 a1 0 a1)=some (r1,r2,r3):=by rw [if_neg (show ¬ (false=true) by decide)] at H;exact H
    clear H
    have H:=H1
    clear H1
    have H':=Aside0.mk H
    clear H
    go_wp2
    go_loopg [7,8] kj2 (fun kq v7 v8 w'=>∃ (x7_2:Int) (x8_2:Int),v7=.int .i64 x7_2∧v8=.int .i64 x8_2∧Aside0 (digits_Parse.l0 kq l0 a1 x7_2 x8_2=some (r1,r2,r3))∧Aside0 (kq≤kj2)∧Drawn0 w w')
    case atStart=>exact ⟨(0),(a1),(by first|rfl|(simp;done)|(simp [*];done)),(by first|rfl|(simp;done)|(simp [*];done)),H',⟨Nat.le_refl _⟩,by repeat (first|exact Drawn0.refl _|apply Drawn0.step)⟩
    case round =>
     clear H'
     try clear c2
     try clear p2
     try clear c4
     try clear c4b0
     try clear c5
     try clear p2
     obtain ⟨x7_2,x8_2,rfl,rfl,HA,HK2,⟨m2,rfl⟩⟩:=hrel
     cases gk with
     | zero=>exact absurd HA.out (by simp [digits_Parse.l0])
     | succ k2 =>
      have H:=HA.out
      clear HA
      simp only [digits_Parse.l0] at H
      by_cases c6:x8_2 < (l0.length:Int)
      ·rw [if_pos c6] at H
       have c6b0:decide (x8_2 < (l0.length:Int))=true:=decide_eq_true c6
       clear c6
       by_cases c7:0≤x8_2
       ·rw [if_pos c7] at H
        have c7b0:decide (0≤x8_2)=true:=decide_eq_true c7
        clear c7
        replace H:=Option.bind_eq_some_iff.mp H
        obtain ⟨t201,A80,H⟩:=H
        replace H:(if t201 < 0 then (if x8_2=a1 then (some (0,a1,false)) else (some (x7_2,x8_2,true))) else (if x8_2 > a1 then (if x7_2=0 then (some (0,x8_2,false)) else (if x7_2 > (wrap64 (Int.tdiv (wrap64 (2147483647 - t201)) 10)) then (some (0,x8_2,false)) else (digits_Parse.l0 k2 l0 a1 (wrap64 ((wrap64 (x7_2 * 10))+t201)) (wrap64 (x8_2+1))))) else (if x7_2 > (wrap64 (Int.tdiv (wrap64 (2147483647 - t201)) 10)) then (some (0,x8_2,false)) else (digits_Parse.l0 k2 l0 a1 (wrap64 ((wrap64 (x7_2 * 10))+t201)) (wrap64 (x8_2+1))))))=some (r1,r2,r3):=H
        have A8:=Aside0.mk A80
        clear A80
        by_cases c9:t201 < 0
        ·rw [if_pos c9] at H
         have c9b0:decide (t201 < 0)=true:=decide_eq_true c9
         clear c9
         by_cases c10:x8_2=a1
         ·rw [if_pos c10] at H
          have c10b0:(x8_2 == a1)=true:=beq_iff_eq.mpr c10
          have c10b1:(x8_2 != a1)=false:=bne_eq_false_iff_eq.mpr c10
          clear c10
          simp only [Option.some.injEq,Prod.mk.injEq] at H
          obtain ⟨rfl,rfl,rfl⟩:=H
          have p200:0≤(x8_2:Int):=of_decide_eq_true (by first|(with_reducible assumption)|assumption)
          have q200:x8_2 < (l0.length:Int):=of_decide_eq_true (by first|(with_reducible assumption)|assumption)
          obtain ⟨ad200,e200,hx200_0⟩:=Kd.at_int HR0.out x8_2 p200 q200
          cases e200
          replace p200:=eq_true p200
          replace q200:=eq_true q200
          go_wp2_with (first|((with_reducible refine gate_callee (f:=78) rfl ?_);refine goesL_ (some 30) rfl rfl Try.func78 (by kernel_rfl) rfl #[.int .i32 (wrap32 (rd l0 x8_2))] rfl (by (try simp only [List.map_toArray,List.map_cons,List.map_nil]);first|done|rfl|(simp only [List.length_drop,List.length_take];rfl)) ?_;(with_reducible refine (digits_digit.calls (wrap32 (rd l0 x8_2)) t201 _ A8.out).mono ?_);rintro e w' ⟨rfl,⟨nd,rfl⟩⟩;refine ⟨_,rfl,?_⟩))
          go_ret3
          exact ⟨by first|rfl|(simp;done)|(simp [*];done),by repeat (first|exact Drawn0.refl _|apply Drawn0.step)⟩
         ·rw [if_neg c10] at H
          have c10b0:(x8_2 == a1)=false:=beq_eq_false_iff_ne.mpr c10
          have c10b1:(x8_2 != a1)=true:=bne_iff_ne.mpr c10
          simp only [Option.some.injEq,Prod.mk.injEq] at H
          obtain ⟨rfl,rfl,rfl⟩:=H
          have p200:0≤(x8_2:Int):=of_decide_eq_true (by first|(with_reducible assumption)|assumption)
          have q200:x8_2 < (l0.length:Int):=of_decide_eq_true (by first|(with_reducible assumption)|assumption)
          obtain ⟨ad200,e200,hx200_0⟩:=Kd.at_int HR0.out x8_2 p200 q200
          cases e200
          replace p200:=eq_true p200
          replace q200:=eq_true q200
          go_wp2_with (first|((with_reducible refine gate_callee (f:=78) rfl ?_);refine goesL_ (some 30) rfl rfl Try.func78 (by kernel_rfl) rfl #[.int .i32 (wrap32 (rd l0 x8_2))] rfl (by (try simp only [List.map_toArray,List.map_cons,List.map_nil]);first|done|rfl|(simp only [List.length_drop,List.length_take];rfl)) ?_;(with_reducible refine (digits_digit.calls (wrap32 (rd l0 x8_2)) t201 _ A8.out).mono ?_);rintro e w' ⟨rfl,⟨nd,rfl⟩⟩;refine ⟨_,rfl,?_⟩))
          go_ret3
          exact ⟨by first|rfl|(simp;done)|(simp [*];done),by repeat (first|exact Drawn0.refl _|apply Drawn0.step)⟩
        ·rw [if_neg c9] at H
         have c9b0:decide (t201 < 0)=false:=decide_eq_false c9
         clear c9
         by_cases c11:x8_2 > a1
         ·rw [if_pos c11] at H
          have c11b0:decide (a1 < x8_2)=true:=decide_eq_true c11
          clear c11
          by_cases c12:x7_2=0
          ·rw [if_pos c12] at H
           have c12b0:(x7_2 == 0)=true:=beq_iff_eq.mpr c12
           have c12b1:(x7_2 != 0)=false:=bne_eq_false_iff_eq.mpr c12
           clear c12
           simp only [Option.some.injEq,Prod.mk.injEq] at H
           obtain ⟨rfl,rfl,rfl⟩:=H
           have p200:0≤(x8_2:Int):=of_decide_eq_true (by first|(with_reducible assumption)|assumption)
           have q200:x8_2 < (l0.length:Int):=of_decide_eq_true (by first|(with_reducible assumption)|assumption)
           obtain ⟨ad200,e200,hx200_0⟩:=Kd.at_int HR0.out x8_2 p200 q200
           cases e200
           replace p200:=eq_true p200
           replace q200:=eq_true q200
           go_wp2_with (first|((with_reducible refine gate_callee (f:=78) rfl ?_);refine goesL_ (some 30) rfl rfl Try.func78 (by kernel_rfl) rfl #[.int .i32 (wrap32 (rd l0 x8_2))] rfl (by (try simp only [List.map_toArray,List.map_cons,List.map_nil]);first|done|rfl|(simp only [List.length_drop,List.length_take];rfl)) ?_;(with_reducible refine (digits_digit.calls (wrap32 (rd l0 x8_2)) t201 _ A8.out).mono ?_);rintro e w' ⟨rfl,⟨nd,rfl⟩⟩;refine ⟨_,rfl,?_⟩))
           go_ret3
           exact ⟨by first|rfl|(simp;done)|(simp [*];done),by repeat (first|exact Drawn0.refl _|apply Drawn0.step)⟩
          ·rw [if_neg c12] at H
           have c12b0:(x7_2 == 0)=false:=beq_eq_false_iff_ne.mpr c12
           have c12b1:(x7_2 != 0)=true:=bne_iff_ne.mpr c12
           by_cases c13:x7_2 > (wrap64 (Int.tdiv (wrap64 (2147483647 - t201)) 10))
           ·rw [if_pos c13] at H
            have c13b0:decide ((wrap64 (Int.tdiv (wrap64 (2147483647 - t201)) 10)) < x7_2)=true:=decide_eq_true c13
            clear c13
            simp only [Option.some.injEq,Prod.mk.injEq] at H
            obtain ⟨rfl,rfl,rfl⟩:=H
            have p200:0≤(x8_2:Int):=of_decide_eq_true (by first|(with_reducible assumption)|assumption)
            have q200:x8_2 < (l0.length:Int):=of_decide_eq_true (by first|(with_reducible assumption)|assumption)
            obtain ⟨ad200,e200,hx200_0⟩:=Kd.at_int HR0.out x8_2 p200 q200
            cases e200
            replace p200:=eq_true p200
            replace q200:=eq_true q200
            go_wp2_with (first|((with_reducible refine gate_callee (f:=78) rfl ?_);refine goesL_ (some 30) rfl rfl Try.func78 (by kernel_rfl) rfl #[.int .i32 (wrap32 (rd l0 x8_2))] rfl (by (try simp only [List.map_toArray,List.map_cons,List.map_nil]);first|done|rfl|(simp only [List.length_drop,List.length_take];rfl)) ?_;(with_reducible refine (digits_digit.calls (wrap32 (rd l0 x8_2)) t201 _ A8.out).mono ?_);rintro e w' ⟨rfl,⟨nd,rfl⟩⟩;refine ⟨_,rfl,?_⟩))
            go_ret3
            exact ⟨by first|rfl|(simp;done)|(simp [*];done),by repeat (first|exact Drawn0.refl _|apply Drawn0.step)⟩
           ·rw [if_neg c13] at H
            have c13b0:decide ((wrap64 (Int.tdiv (wrap64 (2147483647 - t201)) 10)) < x7_2)=false:=decide_eq_false c13
            clear c13
            have H':=Aside0.mk H
            clear H
            have p200:0≤(x8_2:Int):=of_decide_eq_true (by first|(with_reducible assumption)|assumption)
            have q200:x8_2 < (l0.length:Int):=of_decide_eq_true (by first|(with_reducible assumption)|assumption)
            obtain ⟨ad200,e200,hx200_0⟩:=Kd.at_int HR0.out x8_2 p200 q200
            cases e200
            replace p200:=eq_true p200
            replace q200:=eq_true q200
            go_wp2_with (first|((with_reducible refine gate_callee (f:=78) rfl ?_);refine goesL_ (some 30) rfl rfl Try.func78 (by kernel_rfl) rfl #[.int .i32 (wrap32 (rd l0 x8_2))] rfl (by (try simp only [List.map_toArray,List.map_cons,List.map_nil]);first|done|rfl|(simp only [List.length_drop,List.length_take];rfl)) ?_;(with_reducible refine (digits_digit.calls (wrap32 (rd l0 x8_2)) t201 _ A8.out).mono ?_);rintro e w' ⟨rfl,⟨nd,rfl⟩⟩;refine ⟨_,rfl,?_⟩))
            go_roundg k2
            case measure=>have:=HJ2.out;have:=HK2.out;omega
            case rel=>exact ⟨(wrap64 ((wrap64 (x7_2 * 10))+t201)),(wrap64 (x8_2+1)),(by first|rfl|(simp;done)|(simp [*];done)),(by first|rfl|(simp;done)|(simp [*];done)),H',⟨by have:=HJ2.out;have:=HK2.out;omega⟩,by repeat (first|exact Drawn0.refl _|apply Drawn0.step)⟩
         ·rw [if_neg c11] at H
          have c11b0:decide (a1 < x8_2)=false:=decide_eq_false c11
          clear c11
          by_cases c14:x7_2 > (wrap64 (Int.tdiv (wrap64 (2147483647 - t201)) 10))
          ·rw [if_pos c14] at H
           have c14b0:decide ((wrap64 (Int.tdiv (wrap64 (2147483647 - t201)) 10)) < x7_2)=true:=decide_eq_true c14
           clear c14
           simp only [Option.some.injEq,Prod.mk.injEq] at H
           obtain ⟨rfl,rfl,rfl⟩:=H
           have p200:0≤(x8_2:Int):=of_decide_eq_true (by first|(with_reducible assumption)|assumption)
           have q200:x8_2 < (l0.length:Int):=of_decide_eq_true (by first|(with_reducible assumption)|assumption)
           obtain ⟨ad200,e200,hx200_0⟩:=Kd.at_int HR0.out x8_2 p200 q200
           cases e200
           replace p200:=eq_true p200
           replace q200:=eq_true q200
           go_wp2_with (first|((with_reducible refine gate_callee (f:=78) rfl ?_);refine goesL_ (some 30) rfl rfl Try.func78 (by kernel_rfl) rfl #[.int .i32 (wrap32 (rd l0 x8_2))] rfl (by (try simp only [List.map_toArray,List.map_cons,List.map_nil]);first|done|rfl|(simp only [List.length_drop,List.length_take];rfl)) ?_;(with_reducible refine (digits_digit.calls (wrap32 (rd l0 x8_2)) t201 _ A8.out).mono ?_);rintro e w' ⟨rfl,⟨nd,rfl⟩⟩;refine ⟨_,rfl,?_⟩))
           go_ret3
           exact ⟨by first|rfl|(simp;done)|(simp [*];done),by repeat (first|exact Drawn0.refl _|apply Drawn0.step)⟩
          ·rw [if_neg c14] at H
           have c14b0:decide ((wrap64 (Int.tdiv (wrap64 (2147483647 - t201)) 10)) < x7_2)=false:=decide_eq_false c14
           clear c14
           have H':=Aside0.mk H
           clear H
           have p200:0≤(x8_2:Int):=of_decide_eq_true (by first|(with_reducible assumption)|assumption)
           have q200:x8_2 < (l0.length:Int):=of_decide_eq_true (by first|(with_reducible assumption)|assumption)
           obtain ⟨ad200,e200,hx200_0⟩:=Kd.at_int HR0.out x8_2 p200 q200
           cases e200
           replace p200:=eq_true p200
           replace q200:=eq_true q200
           go_wp2_with (first|((with_reducible refine gate_callee (f:=78) rfl ?_);refine goesL_ (some 30) rfl rfl Try.func78 (by kernel_rfl) rfl #[.int .i32 (wrap32 (rd l0 x8_2))] rfl (by (try simp only [List.map_toArray,List.map_cons,List.map_nil]);first|done|rfl|(simp only [List.length_drop,List.length_take];rfl)) ?_;(with_reducible refine (digits_digit.calls (wrap32 (rd l0 x8_2)) t201 _ A8.out).mono ?_);rintro e w' ⟨rfl,⟨nd,rfl⟩⟩;refine ⟨_,rfl,?_⟩))
           go_roundg k2
           case measure=>have:=HJ2.out;have:=HK2.out;omega
           case rel=>exact ⟨(wrap64 ((wrap64 (x7_2 * 10))+t201)),(wrap64 (x8_2+1)),(by first|rfl|(simp;done)|(simp [*];done)),(by first|rfl|(simp;done)|(simp [*];done)),H',⟨by have:=HJ2.out;have:=HK2.out;omega⟩,by repeat (first|exact Drawn0.refl _|apply Drawn0.step)⟩
       ·rw [if_neg c7] at H
        exact absurd H (by simp)
      ·rw [if_neg c6] at H
       have c6b0:decide (x8_2 < (l0.length:Int))=false:=decide_eq_false c6
       clear c6
       by_cases c15:x8_2=a1
       ·rw [if_pos c15] at H
        have c15b0:(x8_2 == a1)=true:=beq_iff_eq.mpr c15
        have c15b1:(x8_2 != a1)=false:=bne_eq_false_iff_eq.mpr c15
        clear c15
        simp only [Option.some.injEq,Prod.mk.injEq] at H
        obtain ⟨rfl,rfl,rfl⟩:=H
        go_wp2
        go_ret3
        exact ⟨by first|rfl|(simp;done)|(simp [*];done),by repeat (first|exact Drawn0.refl _|apply Drawn0.step)⟩
       ·rw [if_neg c15] at H
        have c15b0:(x8_2 == a1)=false:=beq_eq_false_iff_ne.mpr c15
        have c15b1:(x8_2 != a1)=true:=bne_iff_ne.mpr c15
        simp only [Option.some.injEq,Prod.mk.injEq] at H
        obtain ⟨rfl,rfl,rfl⟩:=H
        go_wp2
        go_ret3
        exact ⟨by first|rfl|(simp;done)|(simp [*];done),by repeat (first|exact Drawn0.refl _|apply Drawn0.step)⟩
mutual
def digits_List.j0:Nat→List Int→Int→Bool→Option (List Int × Int × Bool)
 | 0,_,_,_=>none
 | k+1,x0,x1,x18=>if x18=true then (some (([]:List Int),0,false)) else (digits_List.l0 k x0 x1 ([]:List Int))
def digits_List.l0:Nat→List Int→Int→List Int→Option (List Int × Int × Bool)
 | 0,_,_,_=>none
 | k+1,x0,x1,x7=>if x1 < (x0.length:Int) then (if 0≤x1 then (digits_List.j2 k x0 x1 x7 ((rd x0 x1) == 32)) else (none)) else (digits_List.j2 k x0 x1 x7 false)
def digits_List.j2:Nat→List Int→Int→List Int→Bool→Option (List Int × Int × Bool)
 | 0,_,_,_,_=>none
 | k+1,x0,x1,x7,x29=>if x29=true then ((digits_Parse.f k x0 (wrap64 (x1+1))).bind fun bt203=>(if bt203.2.2=true then (if x7.length < 17592186044416 then (digits_List.l0 k x0 bt203.2.1 (x7 ++ [bt203.1])) else (none)) else (some (([]:List Int),bt203.2.1,false)))) else (some (x7,x1,true))
end
def digits_List.f (k:Nat) (l0:List Int) (a1:Int):Option (List Int × Int × Bool):=if a1 < 0 then (digits_List.j0 k l0 a1 true) else (digits_List.j0 k l0 a1 (decide (a1 > (l0.length:Int))))
set_option maxHeartbeats 8000000 in
set_option maxRecDepth 100000 in
theorem digits_List.calls (k:Nat) (A0:Option Addr) (c0:Nat) (l0:List Int) (a1:Int) (r1:List Int) (r2:Int) (r3:Bool) (w:World) (hr0:Kd.C (Kd.int .u8) w A0 l0.length l0) (hc0:l0.length≤c0) (h:digits_List.f k l0 a1=some (r1,r2,r3)) :
 Calls Try.prog 75 #[.slice A0 l0.length c0,.int .i64 a1] w fun e w'=>∃ v0_:Value,e=.returned (.tuple #[v0_,.int .i64 r2,.bool r3])∧Kd.R (Kd.int .i64) 3 w' w.heap.size (fun _=>True) v0_ r1∧Below w.heap.size w w':=by
 have HR0:=Aside0.mk hr0
 have HC0:=Aside0.mk hc0
 clear hr0 hc0
 have HB:=Aside0.mk (Below.refl w.heap.size w)
 have H:(if a1 < 0 then (digits_List.j0 k l0 a1 true) else (digits_List.j0 k l0 a1 (decide (a1 > (l0.length:Int)))))=some (r1,r2,r3):=h
 clear h
 have HC3:=Aside0.mk H
 clear H
 go_enter Try.func75,Try.ntmps75
 go_upto_region 1 with (fail)
 go_cut [18] (fun v18 wc=>∃ (kq:Nat) (x18_2:Bool),v18=.bool x18_2∧Aside0 (digits_List.j0 kq l0 a1 x18_2=some (r1,r2,r3))∧Aside0 (kq≤k)∧Aside0 (Below w.heap.size w wc))
 case first =>
  have H:=HC3.out
  clear HC3
  by_cases c4:a1 < 0
  ·rw [if_pos c4] at H
   have c4b0:decide (a1 < 0)=true:=decide_eq_true c4
   clear c4
   (first|rw [c4b0]|(simp only [i64_w,i32_w];rw [c4b0])|skip)
   have H':=Aside0.mk H
   clear H
   go_wp2
   go_meet
   case rel=>exact ⟨_,(true),(by first|rfl|(simp;done)|(simp [*];done)),H',⟨by first|omega|exact Nat.le_refl _⟩,⟨by repeat (first|(with_reducible first|exact HB.out|apply below_alloc|apply pw_below_drewN|apply below_drew1)|exact HB.out)⟩⟩
  ·rw [if_neg c4] at H
   have c4b0:decide (a1 < 0)=false:=decide_eq_false c4
   clear c4
   (first|rw [c4b0]|(simp only [i64_w,i32_w];rw [c4b0])|skip)
   have H':=Aside0.mk H
   clear H
   go_wp2
   go_meet
   case rel=>exact ⟨_,(decide (a1 > (l0.length:Int))),(by first|rfl|(simp;done)|(simp [*];done)),H',⟨by first|omega|exact Nat.le_refl _⟩,⟨by repeat (first|(with_reducible first|exact HB.out|apply below_alloc|apply pw_below_drewN|apply below_drew1)|exact HB.out)⟩⟩
 case rest =>
  clear HC3
  try clear p2
  try clear c4
  try clear c4b0
  obtain ⟨kq,x18_2,rfl,HA,HJ2,HB⟩:=hcut
  cases kq with
  | zero=>exact absurd HA.out (by simp [digits_List.j0])
  | succ kj2 =>
   have H:=HA.out
   clear HA
   simp only [digits_List.j0] at H
   by_cases c5:x18_2=true
   ·subst c5
    have H1:(some (([]:List Int),0,false))=some (r1,r2,r3):=by rw [if_pos rfl] at H;exact H
    clear H
    have H:=H1
    clear H1
    simp only [Option.some.injEq,Prod.mk.injEq] at H
    obtain ⟨rfl,rfl,rfl⟩:=H
    go_wp2
    go_ret3
    exact ⟨_,by first|rfl|(simp [errW_none,errW_some] <;> rfl)|(simp [*,errW_none,errW_some] <;> rfl),by first|exact Kd.R_nil _ _ _ _ _|exact Kd.N_nil _ _ _ _ _|exact Kd.V_nil _ _ _ _ _|exact Kd.Q_nil _ _ _ _ _|exact Kd.S_nil _ _ _ _ _,by repeat (first|(with_reducible first|exact HB.out|apply below_alloc|apply pw_below_drewN|apply below_drew1)|exact HB.out)⟩
   ·replace c5:=Bool.eq_false_iff.mpr c5
    subst c5
    have H1:(digits_List.l0 kj2 l0 a1 ([]:List Int))=some (r1,r2,r3):=by rw [if_neg (show ¬ (false=true) by decide)] at H;exact H
    clear H
    have H:=H1
    clear H1
    have H':=Aside0.mk H
    clear H
    go_wp2
    go_loopg [1,7] kj2 (fun kq v1 v7 w'=>∃ (x1_2:Int) (x7_2:List Int),v1=.int .i64 x1_2∧Aside0 (digits_List.l0 kq l0 x1_2 x7_2=some (r1,r2,r3))∧Aside0 (kq≤kj2)∧Aside0 (Kd.R (Kd.int .i64) 3 w' w.heap.size (fun _=>True) v7 x7_2)∧Aside0 (Below w.heap.size w w'))
    case atStart=>exact ⟨(a1),(([]:List Int)),(by first|rfl|(simp;done)|(simp [*];done)),H',⟨Nat.le_refl _⟩,⟨by first|exact Kd.R_nil _ _ _ _ _|exact Kd.N_nil _ _ _ _ _|exact Kd.V_nil _ _ _ _ _|exact Kd.Q_nil _ _ _ _ _|exact Kd.S_nil _ _ _ _ _⟩,⟨by repeat (first|(with_reducible first|exact HB.out|apply below_alloc|apply pw_below_drewN|apply below_drew1)|exact HB.out)⟩⟩
    case round =>
     clear H'
     try clear p2
     try clear c4
     try clear c4b0
     try clear c5
     try clear p2
     obtain ⟨x1_2,x7_2,rfl,HA,HK2,HO_7,HB⟩:=hrel
     cases gk with
     | zero=>exact absurd HA.out (by simp [digits_List.l0])
     | succ k2 =>
      have H:=HA.out
      clear HA
      simp only [digits_List.l0] at H
      have HC6:=Aside0.mk H
      clear H
      go_upto_region 4 with (fail)
      go_cut [29] (fun v29 wc=>∃ (kq:Nat) (x29_5:Bool),v29=.bool x29_5∧Aside0 (digits_List.j2 kq l0 x1_2 x7_2 x29_5=some (r1,r2,r3))∧Aside0 (kq≤k2)∧Aside0 (Kd.R (Kd.int .i64) 3 wc w.heap.size (fun _=>True) u7 x7_2)∧Aside0 (Below w.heap.size w wc))
      case first =>
       have H:=HC6.out
       clear HC6
       by_cases c7:x1_2 < (l0.length:Int)
       ·rw [if_pos c7] at H
        have c7b0:decide (x1_2 < (l0.length:Int))=true:=decide_eq_true c7
        clear c7
        (first|rw [c7b0]|(simp only [i64_w,i32_w];rw [c7b0])|skip)
        by_cases c8:0≤x1_2
        ·rw [if_pos c8] at H
         have c8b0:decide (0≤x1_2)=true:=decide_eq_true c8
         clear c8
         have H':=Aside0.mk H
         clear H
         have p202:0≤(x1_2:Int):=of_decide_eq_true (by first|(with_reducible assumption)|assumption)
         have q202:x1_2 < (l0.length:Int):=of_decide_eq_true (by first|(with_reducible assumption)|assumption)
         obtain ⟨ad202,e202,hx202_0⟩:=Kd.at_int HR0.out x1_2 p202 q202
         cases e202
         replace hx202_0:=(HB.out.cell (World.block_lt_of_cell? w _ hx202_0)).trans hx202_0
         replace p202:=eq_true p202
         replace q202:=eq_true q202
         go_wp2
         go_meet
         case rel=>exact ⟨_,(((rd l0 x1_2) == 32)),(by first|rfl|(simp;done)|(simp [*];done)),H',⟨by have:=HJ2.out;have:=HK2.out;first|omega|exact Nat.le_refl _⟩,⟨by (with_reducible repeat (first|apply Kd.R_alloc|apply Kd.R_drewN|apply Kd.R_drew));exact HO_7.out⟩,⟨by repeat (first|(with_reducible first|exact HB.out|apply below_alloc|apply pw_below_drewN|apply below_drew1)|exact HB.out)⟩⟩
        ·rw [if_neg c8] at H
         exact absurd H (by simp)
       ·rw [if_neg c7] at H
        have c7b0:decide (x1_2 < (l0.length:Int))=false:=decide_eq_false c7
        clear c7
        (first|rw [c7b0]|(simp only [i64_w,i32_w];rw [c7b0])|skip)
        have H':=Aside0.mk H
        clear H
        go_wp2
        go_meet
        case rel=>exact ⟨_,(false),(by first|rfl|(simp;done)|(simp [*];done)),H',⟨by have:=HJ2.out;have:=HK2.out;first|omega|exact Nat.le_refl _⟩,⟨by (with_reducible repeat (first|apply Kd.R_alloc|apply Kd.R_drewN|apply Kd.R_drew));exact HO_7.out⟩,⟨by repeat (first|(with_reducible first|exact HB.out|apply below_alloc|apply pw_below_drewN|apply below_drew1)|exact HB.out)⟩⟩
      case rest =>
       clear HC6
       try clear p2
       try clear q2
       try clear hx2
       try clear c4
       try clear c4b0
       try clear c5
       try clear c7
       try clear c7b0
       try clear c8
       try clear c8b0
       try clear hx202_0
       try clear p2
       try clear p202
       try clear q202
       obtain ⟨kq,x29_5,rfl,HA,HJ5,HO_7,HB⟩:=hcut
       cases kq with
       | zero=>exact absurd HA.out (by simp [digits_List.j2])
       | succ kj5 =>
        have H:=HA.out
        clear HA
        simp only [digits_List.j2] at H
        by_cases c9:x29_5=true
        ·subst c9
         have H1:((digits_Parse.f kj5 l0 (wrap64 (x1_2+1))).bind fun bt203=>(if bt203.2.2=true then (if x7_2.length < 17592186044416 then (digits_List.l0 kj5 l0 bt203.2.1 (x7_2 ++ [bt203.1])) else (none)) else (some (([]:List Int),bt203.2.1,false))))=some (r1,r2,r3):=by rw [if_pos rfl] at H;exact H
         clear H
         have H:=H1
         clear H1
         replace H:=Option.bind_eq_some_iff.mp H
         obtain ⟨⟨t203,t204,t205⟩,A100,H⟩:=H
         replace H:(if t205=true then (if x7_2.length < 17592186044416 then (digits_List.l0 kj5 l0 t204 (x7_2 ++ [t203])) else (none)) else (some (([]:List Int),t204,false)))=some (r1,r2,r3):=H
         have A10:=Aside0.mk A100
         clear A100
         by_cases c11:t205=true
         ·subst c11
          have H1:(if x7_2.length < 17592186044416 then (digits_List.l0 kj5 l0 t204 (x7_2 ++ [t203])) else (none))=some (r1,r2,r3):=by rw [if_pos rfl] at H;exact H
          clear H
          have H:=H1
          clear H1
          by_cases c12:x7_2.length < 17592186044416
          ·rw [if_pos c12] at H
           have LMc12:=Aside0.mk c12
           clear c12
           obtain ⟨y206,hy206⟩:∃ y_:List Int,y_=(x7_2 ++ [t203]):=⟨_,rfl⟩
           replace H:(digits_List.l0 kj5 l0 t204 y206)=some (r1,r2,r3):=by first|(rw [hy206];with_reducible exact H)|(have H2_:=(Option.bind_some _ _).symm.trans H;rw [hy206];with_reducible exact H2_)|(have H2_:=(Option.bind_some _ _).symm.trans H;with_reducible exact H2_)|with_reducible exact H|(rw [hy206];exact H)|exact H
           have Ny206:=Aside0.mk hy206
           clear hy206
           have H':=Aside0.mk H
           clear H
           go_wp2_with (first|((with_reducible refine gate_callee (f:=74) rfl ?_);refine goesL_ (some 34) rfl rfl Try.func74 (by kernel_rfl) rfl #[.slice A0 l0.length c0,.int .i64 (wrap64 (x1_2+1))] rfl (by (try simp only [List.map_toArray,List.map_cons,List.map_nil]);first|done|rfl|(simp only [List.length_drop,List.length_take];rfl)) ?_;(with_reducible refine (digits_Parse.calls kj5 _ _ l0 (wrap64 (x1_2+1)) t203 t204 true _ ?side1 ?side2 A10.out).mono ?_);(case side1=>repeat (first|exact (Kd.C_below HR0.out HB.out)|(with_reducible refine Kd.C_alloc ?_ _)|(with_reducible refine Kd.C_drewN ?_ _)|(with_reducible refine Kd.C_drew ?_)));(case side2=>exact HC0.out);rintro e w' ⟨rfl,⟨nd,rfl⟩⟩;refine ⟨_,rfl,?_⟩)|((with_reducible refine gate_builtin (b:=.append) (xs:=#[.tmp 41,.tmp 43]) rfl ?_);(try (refine gate_guard (by rfl) ?_;dsimp only));at_builtin;refine Kd.R_append (Kd.int .i64) (w0:=w) w.heap.size rfl (.tmp 41) (.tmp 43) 37 3 (.int .i64 0) 8 rfl Try.underlying37 info3 rfl (by decide) (by omega) u7 x7_2 t203 [.int .i64 t203] (fun _=>True) (fun _=>False) rfl rfl ?aP (fun _ hk=>hk.elim) ?aF ?aO ?aB ?aS ?aL ?_;(case aP=>exact rfl);(case aB=>exact (by repeat (first|(with_reducible first|exact HB.out|apply below_alloc|apply pw_below_drewN|apply below_drew1)|exact HB.out)));(case aF=>exact (fun _ _=>trivial));(case aO=>exact (by (with_reducible repeat (first|apply Kd.R_alloc|apply Kd.R_drewN|apply Kd.R_drew));exact HO_7.out));(case aS=>exact (below_size (by repeat (first|(with_reducible first|exact HB.out|apply below_alloc|apply pw_below_drewN|apply below_drew1)|exact HB.out))));(case aL=>have:=LMc12.out;omega);intro v207 w13 ho hb hg hat;rw [← Ny206.out] at ho;have n0_:=Aside0.mk (hb);have n1_:=Aside0.mk (ho);clear HB;clear HO_7;have HB:=n0_;have HO208:=n1_;clear n0_ n1_;clear ho hb hg hat))
           go_roundg kj5
           case measure=>have:=HJ2.out;have:=HK2.out;have:=HJ5.out;omega
           case rel=>exact ⟨(t204),(y206),(by first|rfl|(simp;done)|(simp [*];done)),H',⟨by have:=HJ2.out;have:=HK2.out;have:=HJ5.out;omega⟩,⟨by (with_reducible repeat (first|apply Kd.R_alloc|apply Kd.R_drewN|apply Kd.R_drew));exact HO208.out⟩,⟨by repeat (first|(with_reducible first|exact HB.out|apply below_alloc|apply pw_below_drewN|apply below_drew1)|exact HB.out)⟩⟩
          ·rw [if_neg c12] at H
           exact absurd H (by simp)
         ·replace c11:=Bool.eq_false_iff.mpr c11
          subst c11
          have H1:(some (([]:List Int),t204,false))=some (r1,r2,r3):=by rw [if_neg (show ¬ (false=true) by decide)] at H;exact H
          clear H
          have H:=H1
          clear H1
          simp only [Option.some.injEq,Prod.mk.injEq] at H
          obtain ⟨rfl,rfl,rfl⟩:=H
          go_wp2_with (first|((with_reducible refine gate_callee (f:=74) rfl ?_);refine goesL_ (some 34) rfl rfl Try.func74 (by kernel_rfl) rfl #[.slice A0 l0.length c0,.int .i64 (wrap64 (x1_2+1))] rfl (by (try simp only [List.map_toArray,List.map_cons,List.map_nil]);first|done|rfl|(simp only [List.length_drop,List.length_take];rfl)) ?_;(with_reducible refine (digits_Parse.calls kj5 _ _ l0 (wrap64 (x1_2+1)) t203 t204 false _ ?side1 ?side2 A10.out).mono ?_);(case side1=>repeat (first|exact (Kd.C_below HR0.out HB.out)|(with_reducible refine Kd.C_alloc ?_ _)|(with_reducible refine Kd.C_drewN ?_ _)|(with_reducible refine Kd.C_drew ?_)));(case side2=>exact HC0.out);rintro e w' ⟨rfl,⟨nd,rfl⟩⟩;refine ⟨_,rfl,?_⟩))
          go_ret3
          exact ⟨_,by first|rfl|(simp [errW_none,errW_some] <;> rfl)|(simp [*,errW_none,errW_some] <;> rfl),by first|exact Kd.R_nil _ _ _ _ _|exact Kd.N_nil _ _ _ _ _|exact Kd.V_nil _ _ _ _ _|exact Kd.Q_nil _ _ _ _ _|exact Kd.S_nil _ _ _ _ _,by repeat (first|(with_reducible first|exact HB.out|apply below_alloc|apply pw_below_drewN|apply below_drew1)|exact HB.out)⟩
        ·replace c9:=Bool.eq_false_iff.mpr c9
         subst c9
         have H1:(some (x7_2,x1_2,true))=some (r1,r2,r3):=by rw [if_neg (show ¬ (false=true) by decide)] at H;exact H
         clear H
         have H:=H1
         clear H1
         simp only [Option.some.injEq,Prod.mk.injEq] at H
         obtain ⟨rfl,rfl,rfl⟩:=H
         go_wp2
         go_ret3
         exact ⟨_,by first|rfl|(simp [errW_none,errW_some] <;> rfl)|(simp [*,errW_none,errW_some] <;> rfl),by (with_reducible repeat (first|apply Kd.R_alloc|apply Kd.R_drewN|apply Kd.R_drew));exact HO_7.out,by repeat (first|(with_reducible first|exact HB.out|apply below_alloc|apply pw_below_drewN|apply below_drew1)|exact HB.out)⟩
def coronerref03_is.f (l0:List Int) (a1:Int) (a2:Int):Option (Bool):=if a1 < (l0.length:Int) then (if 0≤a1 then (some ((rd l0 a1) == a2)) else (none)) else (some false)
set_option maxHeartbeats 8000000 in
set_option maxRecDepth 100000 in
theorem coronerref03_is.calls (A0:Option Addr) (c0:Nat) (l0:List Int) (a1:Int) (a2:Int) (r:Bool) (w:World) (hr0:Kd.C (Kd.int .u8) w A0 l0.length l0) (hc0:l0.length≤c0) (h:coronerref03_is.f l0 a1 a2=some r) :
 Calls Try.prog 55 #[.slice A0 l0.length c0,.int .i64 a1,.int .u8 a2] w fun e w'=>e=.returned (.bool r)∧Drawn0 w w':=by
 have HR0:=Aside0.mk hr0
 have HC0:=Aside0.mk hc0
 clear hr0 hc0
 have H:(if a1 < (l0.length:Int) then (if 0≤a1 then (some ((rd l0 a1) == a2)) else (none)) else (some false))=some r:=h
 clear h
 by_cases c4:a1 < (l0.length:Int)
 ·rw [if_pos c4] at H
  have c4b0:decide (a1 < (l0.length:Int))=true:=decide_eq_true c4
  clear c4
  by_cases c5:0≤a1
  ·rw [if_pos c5] at H
   have c5b0:decide (0≤a1)=true:=decide_eq_true c5
   clear c5
   obtain rfl:=Option.some.inj H
   have p216:0≤(a1:Int):=of_decide_eq_true (by first|(with_reducible assumption)|assumption)
   have q216:a1 < (l0.length:Int):=of_decide_eq_true (by first|(with_reducible assumption)|assumption)
   obtain ⟨ad216,e216,hx216_0⟩:=Kd.at_int HR0.out a1 p216 q216
   cases e216
   replace p216:=eq_true p216
   replace q216:=eq_true q216
   go_enter Try.func55,Try.ntmps55
   go_wp2
   go_ret
   exact ⟨by first|rfl|(simp;done)|(simp [*];done),by repeat (first|exact Drawn0.refl _|apply Drawn0.step)⟩
  ·rw [if_neg c5] at H
   exact absurd H (by simp)
 ·rw [if_neg c4] at H
  have c4b0:decide (a1 < (l0.length:Int))=false:=decide_eq_false c4
  clear c4
  obtain rfl:=Option.some.inj H
  go_enter Try.func55,Try.ntmps55
  go_wp2
  go_ret
  exact ⟨by first|rfl|(simp;done)|(simp [*];done),by repeat (first|exact Drawn0.refl _|apply Drawn0.step)⟩
def coronerref01_Digit.f (a0:Int):Option (Bool):=if a0 ≥ 48 then (some (decide (a0≤57))) else (some false)
set_option maxHeartbeats 8000000 in
set_option maxRecDepth 100000 in
theorem coronerref01_Digit.calls (a0:Int) (r:Bool) (w:World) (h:coronerref01_Digit.f a0=some r) :
 Calls Try.prog 70 #[.int .u8 a0] w fun e w'=>e=.returned (.bool r)∧Drawn0 w w':=by
 have H:(if a0 ≥ 48 then (some (decide (a0≤57))) else (some false))=some r:=h
 clear h
 by_cases c2:a0 ≥ 48
 ·rw [if_pos c2] at H
  have c2b0:decide (48≤a0)=true:=decide_eq_true c2
  clear c2
  obtain rfl:=Option.some.inj H
  go_enter Try.func70,Try.ntmps70
  go_wp2
  go_ret
  exact ⟨by first|rfl|(simp;done)|(simp [*];done),by repeat (first|exact Drawn0.refl _|apply Drawn0.step)⟩
 ·rw [if_neg c2] at H
  have c2b0:decide (48≤a0)=false:=decide_eq_false c2
  clear c2
  obtain rfl:=Option.some.inj H
  go_enter Try.func70,Try.ntmps70
  go_wp2
  go_ret
  exact ⟨by first|rfl|(simp;done)|(simp [*];done),by repeat (first|exact Drawn0.refl _|apply Drawn0.step)⟩
end Go.Proofs.Ytlcioegdmopppaa.PEncodeBack
