/- Printed by shake.py. -/
import Derived.Test.YtlcioegdmopppaaShE31
import Derived.Test.YtlcioegdmopppaaShE32
set_option linter.unusedSimpArgs false
namespace Go.Proofs.Ytlcioegdmopppaa.Hs
open Go.RowKit Go.Lib Go.Proofs.Ytlcioegdmopppaa.PEncodeBack Go.Proofs.YtlcioegdmopppaaW.PrintWords Go.Proofs.YtlcioegdmopppaaW.PrintLast
set_option linter.unusedVariables false
abbrev W2 (w:World) (A:Option Addr) (n c:Nat):World:=(w.alloc (.cells #[.slice A n c] 24)).alloc (.cells #[.slice none 0 0] 24)
theorem is_lt {l:List Int} {x y:Int} (h:isB l x y=true):x < l.length:=by
 unfold isB at h
 simp only [Bool.and_eq_true,decide_eq_true_eq] at h
 exact h.1
theorem is_rd {l:List Int} {x y:Int} (h:isB l x y=true):rd l x=y:=by
 unfold isB at h
 simp only [Bool.and_eq_true,beq_iff_eq] at h
 exact h.2
theorem w2_facts (w:World) (A:Option Addr) (h:List S42) (c:Nat) (hC:Kd.C k42 w A h.length h) (hc:h.length≤c) (W:World) (hb:Below (w.heap.size+2) (W2 w A h.length c) W) :
 W.cell? ⟨w.heap.size,0,none⟩=some (.slice A h.length c)∧W.cell? ⟨w.heap.size+1,0,none⟩=some (.slice none 0 0)∧W.frozen? ⟨w.heap.size+1,0,none⟩=false∧Kd.C k42 W A h.length h ∧
 (∀ v,Blk (W.setCell ⟨w.heap.size+1,0,none⟩ v) (w.heap.size+1) [v] 24)∧Below w.heap.size w W ∧
 ∀ e x,ROut w (h,0,e,x) (.returned (.tuple #[.agg #[.slice A h.length c],.int .i64 0,.int .i64 e,.int .i64 x])) (W.setCell ⟨w.heap.size+1,0,none⟩ (.slice A h.length c)):=by
 have hs:(W2 w A h.length c).heap.size=w.heap.size+2:=by unfold W2;rw [World.size_alloc,World.size_alloc]
 have h0:Below w.heap.size w (W2 w A h.length c):=below_alloc (below_alloc (Below.refl _ _) _) _
 have hbw:Below w.heap.size w W:=h0.trans (hb.mono (by omega))
 have z0:Blk W w.heap.size [.slice A h.length c] 24:=((Blk.new w [.slice A h.length c] 24).alloc _).below hb (by omega)
 have z1:Blk W (w.heap.size+1) [.slice none 0 0] 24:=by
  have:=Blk.new (w.alloc (.cells #[.slice A h.length c] 24)) [.slice none 0 0] 24
  rw [World.size_alloc] at this
  exact this.below hb (by omega)
 have hCW:=Kd.C_below hC hbw
 refine ⟨z0.cell 0,z1.cell 0,z1.free 0,hCW,fun v=>z1.set 0 v,hbw,fun e x=>⟨A,c,rfl,hc,?_,bset (by omega) hbw⟩⟩
 have hlt:=z1.lt
 exact Kd.C_below hC (bset (by omega) hbw)
theorem w2_blk (w:World) (A:Option Addr) (n c:Nat) (W:World) (hb:Below (w.heap.size+2) (W2 w A n c) W):Blk W w.heap.size [.slice A n c] 24∧Blk W (w.heap.size+1) [.slice none 0 0] 24:=by
 refine ⟨((Blk.new w [.slice A n c] 24).alloc _).below hb (by omega),?_⟩
 have:=Blk.new (w.alloc (.cells #[.slice A n c] 24)) [.slice none 0 0] 24
 rw [World.size_alloc] at this
 exact this.below hb (by omega)
theorem own_emptyT (W:World) (base:Nat) (hb:base≤W.heap.size):(W.alloc (.cells #[] 42)).ownsRow base 42 3 (.slice (some ⟨W.heap.size,0,none⟩) 0 0) 0 [] :=
 World.ownsRow_made W #[] 0 hb (by decide) rfl
def RgTxn.T:Bool × List (List Nat × List Nat):=(true,[([],[]),([],[]),([1],[1]),([0,2],[0,2]),([],[]),([],[]),([],[]),([6],[6]),([5,7],[5,7]),([8],[8]),([9],[9]),([4,10],[4,10]),([11],[11]),([3,12,3],[3,12]),([0,1,2,3,4,5,6,7,8,9,10,11,12,13],[]),([14,13,13,0,1,2,3,4,5,6,7,8,9,10,11,12,13],[13,14])])
def RgTxn.B:List Nat:=[0,0,2,7,0,0,0,64,224,480,992,2032,4080,8191,16383,32767]
theorem RgTxn.tab:rtab .any (opsOf Try.f36 16)=RgTxn.T:=by kernel_rfl
theorem RgTxn.bits:waitsOk RgTxn.T.2 RgTxn.B=true:=by kernel_rfl
set_option maxHeartbeats 4000000 in
set_option maxRecDepth 100000 in
theorem rtxn_c (w:World) (h:List S42) (A:Option Addr) (c:Nat) (l:List Int) (B:Option Addr) (d:Nat) (a:Int) (hC:Kd.C k42 w A h.length h) (hc:h.length≤c) (hL:Kd.C (Kd.int .u8) w B l.length l) (hd:l.length≤d) (hl:l.length≤262144) (hh:h.length≤2000) (a0:0≤a) (a1:a < l.length) :
 Calls Try.prog 36 #[.agg #[.slice A h.length c],.slice B l.length d,.int .i64 a] w (ROut w (rtx l h a)):=by
 have hs0:(W2 w A h.length c).heap.size=w.heap.size+2:=by unfold W2;rw [World.size_alloc,World.size_alloc]
 have FX:=Lib.hid (fun (W:World) (hb:Below (w.heap.size+2) (W2 w A h.length c) W)=>w2_facts w A h c hC hc W hb)
 have HIS:=Lib.hid (fun (W:World) (hb:Below (w.heap.size+2) (W2 w A h.length c) W) (x y:Int) (hx:0≤x)=>(is_c W l B d x y (Kd.C_below hL (FX.out W hb).2.2.2.2.2.1) hd hx).mono fun e w' ⟨h1,h2⟩=>(⟨h1,hb.trans (h2.mono (by have:=hb.size;omega))⟩:_∧Below (w.heap.size+2) (W2 w A h.length c) w'))
 have HTW:=Lib.hid (fun (W:World) (hb:Below (w.heap.size+2) (W2 w A h.length c) W) (id:Int)=>(twin_c W h A c id (FX.out W hb).2.2.2.1 hc (by unfold big;omega)).mono fun e w' ⟨h1,h2⟩=>(⟨h1,hb.trans (h2.mono (by have:=hb.size;omega))⟩:_∧Below (w.heap.size+2) (W2 w A h.length c) w'))
 have HPA:=Lib.hid (fun (W:World) (hb:Below (w.heap.size+2) (W2 w A h.length c) W) (x:Int)=>(refparse_calls l x B d W (Kd.C_below hL (FX.out W hb).2.2.2.2.2.1) hd (by omega)).mono fun e w' ⟨h1,h2⟩=>(⟨h1,hb.trans (h2.below.mono (by have:=hb.size;omega))⟩:_∧Below (w.heap.size+2) (W2 w A h.length c) w'))
 obtain ⟨cs,hcs1,hcs2⟩:=rk_of hC
 have HCS:=Lib.hid hcs1
 have HRK:=Lib.hid hcs2
 have FB:=Lib.hid (fun (W:World) (hb:Below (w.heap.size+2) (W2 w A h.length c) W)=>w2_blk w A h.length c W hb)
 have HLL:=Lib.hid (fun (W:World) (hb:Below w.heap.size w W)=>Kd.C_below hL hb)
 clear hcs1 hcs2
 have hB0:Below (w.heap.size+2) (W2 w A h.length c) (W2 w A h.length c):=Below.refl _ _
 have HB0:=Lib.hid hB0
 have F0:=FX.out _ hB0
 have q0:=F0.1
 have q1:=F0.2.1
 have q2:=F0.2.2.1
 have G0:=Lib.hid F0
 clear hB0 F0 hC hL hs0
 have hq:∃ q,rtx l h a=q:=⟨_,rfl⟩
 obtain ⟨q,hq⟩:=hq
 have HQ:=Lib.hid hq
 rw [hq]
 clear hq
 generalize hN:h.length=N at *
 have HN:=Lib.hid hN
 clear hN
 go_enter Try.func36,Try.ntmps36
 go_upto_region 1 with (fail)
 unfold W2 at *
 generalize (w.alloc (.cells #[.slice A N c] 24)).alloc (.cells #[.slice none 0 0] 24)=W0 at *
 by_cases h1024:1024≤N
 ·have hi:(1024:Int)≤N:=by omega
  have HQ2:Hid (q=(h,0,3,a)):=Lib.hid (by rw [← HQ.out];unfold rtx;rw [if_pos (by rw [HN.out];exact h1024)])
  go_wp2
  exact bodyPost_ret (results_row_tmp3 (u:=7) (u2:=8) (u3:=9) rfl _ _ (w.heap.size+1) _ _ (0,0) _ rfl (G0.out.2.2.2.2.1 _) rfl Try.underlying24 hist_info) rfl (by rw [HQ2.out];exact G0.out.2.2.2.2.2.2 _ _)
 ·have hi:decide (1024≤N)=false:=decide_eq_false h1024
  have hi2:¬ (1024:Int)≤N:=by omega
  have H1:=Lib.hid (HIS.out _ HB0.out (a+1) 32 (by omega))
  obtain ⟨b1,hb1⟩:∃ b,isB l (a+1) 32=b:=⟨_,rfl⟩
  rw [hb1] at H1
  have E1:=Lib.hid hb1
  clear hb1
  go_wp2_with fail
  refine (H1.out).mono ?_
  rintro e w1 ⟨rfl,hb1⟩
  have HB1:=Lib.hid hb1
  have F1:=FX.out _ hb1
  clear q0 q1 q2
  have q0:=F1.1
  have q1:=F1.2.1
  have q2:=F1.2.2.1
  have G1:=Lib.hid F1
  clear hb1 F1
  clear H1
  cases b1 with
  | false =>
   have HQ2:Hid (q=(h,0,4,a+1)):=Lib.hid (by rw [← HQ.out];unfold rtx;rw [if_neg (by rw [HN.out];exact h1024)];rw [if_pos E1.out])
   go_wp2
   exact bodyPost_ret (results_row_tmp3 (u:=7) (u2:=8) (u3:=9) rfl _ _ (w.heap.size+1) _ _ (0,0) _ rfl (G1.out.2.2.2.2.1 _) rfl Try.underlying24 hist_info) rfl (by rw [HQ2.out];exact G1.out.2.2.2.2.2.2 _ _)
  | true =>
   have hb1:=is_lt E1.out
   have hto:=parse_to l (a+2) (by omega) (by omega)
   have H2:=Lib.hid (HPA.out _ HB1.out (a+2))
   obtain ⟨id,tt,ok,hp⟩:∃ id tt ok,parse l (a+2)=(id,tt,ok):=⟨_,_,_,rfl⟩
   rw [hp] at hto H2
   have EP:=Lib.hid hp
   clear hp
   simp only at hto H2
   go_wp2_with fail
   refine (H2.out).mono ?_
   rintro e w2 ⟨rfl,hb2⟩
   have HB2:=Lib.hid hb2
   have F2:=FX.out _ hb2
   clear q0 q1 q2
   have q0:=F2.1
   have q1:=F2.2.1
   have q2:=F2.2.2.1
   have G2:=Lib.hid F2
   clear hb2 F2
   clear H2
   cases ok with
   | false =>
    have HQ2:Hid (q=(h,0,4,tt)):=Lib.hid (by rw [← HQ.out];unfold rtx;rw [if_neg (by rw [HN.out];exact h1024)];rw [if_neg (by rw [E1.out];decide),EP.out];simp only;rw [if_pos trivial])
    go_wp2
    exact bodyPost_ret (results_row_tmp3 (u:=7) (u2:=8) (u3:=9) rfl _ _ (w.heap.size+1) _ _ (0,0) _ rfl (G2.out.2.2.2.2.1 _) rfl Try.underlying24 hist_info) rfl (by rw [HQ2.out];exact G2.out.2.2.2.2.2.2 _ _)
   | true =>
    have H3:=Lib.hid (HTW.out _ HB2.out id)
    obtain ⟨b3,hb3⟩:∃ b,twinP h id=b:=⟨_,rfl⟩
    rw [hb3] at H3
    have E3:=Lib.hid hb3
    clear hb3
    go_wp2_with fail
    refine (H3.out).mono ?_
    rintro e w3 ⟨rfl,hb3⟩
    have HB3:=Lib.hid hb3
    have F3:=FX.out _ hb3
    clear q0 q1 q2
    have q0:=F3.1
    have q1:=F3.2.1
    have q2:=F3.2.2.1
    have G3:=Lib.hid F3
    clear hb3 F3
    clear H3
    cases b3 with
    | true =>
     have HQ2:Hid (q=(h,0,5,a+2)):=Lib.hid (by rw [← HQ.out];unfold rtx;rw [if_neg (by rw [HN.out];exact h1024)];rw [if_neg (by rw [E1.out];decide),EP.out];simp only;rw [if_neg (by decide)];rw [if_pos E3.out])
     go_wp2
     exact bodyPost_ret (results_row_tmp3 (u:=7) (u2:=8) (u3:=9) rfl _ _ (w.heap.size+1) _ _ (0,0) _ rfl (G3.out.2.2.2.2.1 _) rfl Try.underlying24 hist_info) rfl (by rw [HQ2.out];exact G3.out.2.2.2.2.2.2 _ _)
    | false =>
     have H4:=Lib.hid (HIS.out _ HB3.out tt 32 (by omega))
     obtain ⟨b4,hb4⟩:∃ b,isB l tt 32=b:=⟨_,rfl⟩
     rw [hb4] at H4
     have E4:=Lib.hid hb4
     clear hb4
     go_wp2_with fail
     refine (H4.out).mono ?_
     rintro e w4 ⟨rfl,hb4⟩
     have HB4:=Lib.hid hb4
     have F4:=FX.out _ hb4
     clear q0 q1 q2
     have q0:=F4.1
     have q1:=F4.2.1
     have q2:=F4.2.2.1
     have G4:=Lib.hid F4
     clear hb4 F4
     clear H4
     cases b4 with
     | false =>
      have HQ2:Hid (q=(h,0,4,tt)):=Lib.hid (by rw [← HQ.out];unfold rtx;rw [if_neg (by rw [HN.out];exact h1024)];rw [if_neg (by rw [E1.out];decide),EP.out];simp only;rw [if_neg (by decide)];rw [if_neg (by rw [E3.out];decide)];rw [if_pos E4.out])
      go_wp2
      exact bodyPost_ret (results_row_tmp3 (u:=7) (u2:=8) (u3:=9) rfl _ _ (w.heap.size+1) _ _ (0,0) _ rfl (G4.out.2.2.2.2.1 _) rfl Try.underlying24 hist_info) rfl (by rw [HQ2.out];exact G4.out.2.2.2.2.2.2 _ _)
     | true =>
      have hb4:=is_lt E4.out
      have H5:=Lib.hid (HIS.out _ HB4.out (tt+1) 97 (by omega))
      obtain ⟨b5,hb5⟩:∃ b,isB l (tt+1) 97=b:=⟨_,rfl⟩
      rw [hb5] at H5
      have E5:=Lib.hid hb5
      clear hb5
      go_wp2_with fail
      refine (H5.out).mono ?_
      rintro e w5 ⟨rfl,hb5⟩
      have HB5:=Lib.hid hb5
      have F5:=FX.out _ hb5
      clear q0 q1 q2
      have q0:=F5.1
      have q1:=F5.2.1
      have q2:=F5.2.2.1
      have G5:=Lib.hid F5
      clear hb5 F5
      clear H5
      cases b5 with
      | true =>
       have hlt:=is_lt E5.out
       have hrd:=is_rd E5.out
       have H7:=Lib.hid (HIS.out _ HB5.out (tt+2) 10 (by omega))
       obtain ⟨b7,hb7⟩:∃ b,isB l (tt+2) 10=b:=⟨_,rfl⟩
       rw [hb7] at H7
       have E7:=Lib.hid hb7
       clear hb7
       go_wp2_with fail
       refine (H7.out).mono ?_
       rintro e w7 ⟨rfl,hb7⟩
       have HB7:=Lib.hid hb7
       have F7:=FX.out _ hb7
       clear q0 q1 q2
       have q0:=F7.1
       have q1:=F7.2.1
       have q2:=F7.2.2.1
       have G7:=Lib.hid F7
       clear hb7 F7
       clear H7
       cases b7 with
       | false =>
        have HQ2:Hid (q=(h,0,4,tt+2)):=Lib.hid (by rw [← HQ.out];unfold rtx;rw [if_neg (by rw [HN.out];exact h1024)];rw [if_neg (by rw [E1.out];decide),EP.out];simp only;rw [if_neg (by decide)];rw [if_neg (by rw [E3.out];decide)];rw [if_neg (by rw [E4.out];decide)];rw [if_neg (by rw [E5.out];simp)];rw [if_pos E7.out])
        go_wp2
        exact bodyPost_ret (results_row_tmp3 (u:=7) (u2:=8) (u3:=9) rfl _ _ (w.heap.size+1) _ _ (0,0) _ rfl (G7.out.2.2.2.2.1 _) rfl Try.underlying24 hist_info) rfl (by rw [HQ2.out];exact G7.out.2.2.2.2.2.2 _ _)
       | true =>
        have HQ2:Hid (q=(h ++ [⟨id,true,[]⟩],tt+3,0,0)):=Lib.hid (by rw [← HQ.out];unfold rtx;rw [if_neg (by rw [HN.out];exact h1024)];rw [if_neg (by rw [E1.out];decide),EP.out];simp only;rw [if_neg (by decide)];rw [if_neg (by rw [E3.out];decide)];rw [if_neg (by rw [E4.out];decide)];rw [if_neg (by rw [E5.out];simp)];rw [if_neg (by rw [E7.out];decide),E5.out])
        obtain ⟨bd,rfl,hby⟩:=Kd.at_int (HLL.out _ G7.out.2.2.2.2.2.1) (tt+1) (by omega) hlt
        rw [hrd] at hby
        have hsz7:w.heap.size+2≤w7.heap.size:=by have:=(FB.out _ HB7.out).2.lt;omega
        have FXD:Hid (∀ W:World,Below w7.heap.size w7 W→(W.cell? ⟨w.heap.size,0,none⟩=some (.slice A N c)∧W.cell? (bd.add (tt+1).toNat)=some (.int .u8 97))∧Blk W w.heap.size [.slice A N c] 24∧Blk W (w.heap.size+1) [.slice none 0 0] 24∧Cells W A cs∧Below w.heap.size w W):=Lib.hid (fun W hb=>by
         have hb2:=HB7.out.trans (hb.mono hsz7)
         have hbw:=(FX.out _ hb2).2.2.2.2.2.1
         exact ⟨⟨(FX.out _ hb2).1,pw_cell_below hb hby⟩,(FB.out _ hb2).1,(FB.out _ hb2).2,HCS.out.below hbw,hbw⟩)
        have HLN:Hid (cs.length=N * 3):=Lib.hid (by rw [rk_len HRK.out,HN.out])
        have HONE:=Lib.hid (rk_one HRK.out)
        have HV1:Hid (∀ u ∈ [.int .i64 id,.bool true,.slice none 0 0],Value.oneCell' u=true):=Lib.hid (by
         intro u hu
         simp only [List.mem_cons,List.not_mem_nil,or_false] at hu
         rcases hu with rfl|rfl|rfl <;> rfl)
        have HRKF:Hid (∀ W:World,Below w.heap.size w W→Rk W (h ++ [⟨id,true,[]⟩]) (cs ++ [.int .i64 id,.bool true,.slice none 0 0])):=Lib.hid (fun W hb=>rk_snoc (k42_mk W ⟨id,true,[]⟩ (Nat.le_refl 0) ⟨rfl,by simp,fun hx=>by simp at hx⟩) (rk_below hb HRK.out))
        have hbD:=(Below.refl w7.heap.size w7).drew
        clear hby hrd
        have hNb:N≤2000:=hh
        have hwr_:wrap64 (tt+1)=tt+1:=by unfold wrap64;omega
        have h0t_:0≤tt+1:=by omega
        go_wp2_with fail
        refine start_ (n:=16) (S:=fun W=>Below w7.heap.size w7 W) (ds:=[15]) #[false,false,false,false,false,false,false,false,false,false,false,false,false,false,false,false] (by kernel_rfl) rfl rfl hbD (fun hHeld=>?_)
        refine with_tabW RgTxn.tab RgTxn.bits (fun HT_ HW_=>?_)
        generalize w7.drew=w8a at *
        refine pure_ (i:=1) (N:=some 75) (v:=?_) (a':=?_) #[false,true,false,false,false,false,false,false,false,false,false,false,false,false,false,false] rfl rfl (any_of HT_.out (by kernel_rfl)) (fun _ _ _ h=>h) (Or.inl ⟨by rfl,?_⟩) ?_ ?_
        rotate_left
        ·intro w'
         go_simp
         with_reducible rfl
        rotate_left
        ·simp only [Act.put,List.setIfInBounds_toArray,List.set_cons_zero,List.set_cons_succ,i64_w,i32_w,hwr_]
         rfl
        refine take_ (i:=2) (N:=some 76) (v:=?_) (a':=?_) #[false,true,true,false,false,false,false,false,false,false,false,false,false,false,false,false] rfl rfl (take_ofW HT_.out HW_.out (by kernel_rfl)) (fun _ _ _ h=>h) (Or.inl ⟨by rfl,?_⟩) hHeld ?_ ?_
        rotate_left
        ·intro w' hW
         obtain ⟨⟨x0_,x1_⟩,-⟩:=FXD.out w' hW
         go_simp
         with_reducible rfl
        rotate_left
        ·simp only [Act.put,List.setIfInBounds_toArray,List.set_cons_zero,List.set_cons_succ,i64_w,i32_w,hwr_]
         rfl
        refine pure_ (i:=4) (N:=some 78) (v:=?_) (a':=?_) #[false,true,true,false,true,false,false,false,false,false,false,false,false,false,false,false] rfl rfl (any_of HT_.out (by kernel_rfl)) (fun _ _ _ h=>h) (Or.inl ⟨by rfl,?_⟩) ?_ ?_
        rotate_left
        ·intro w'
         go_simp
         with_reducible rfl
        rotate_left
        ·simp only [Act.put,List.setIfInBounds_toArray,List.set_cons_zero,List.set_cons_succ,i64_w,i32_w,hwr_]
         rfl
        refine pure_ (i:=5) (N:=some 79) (v:=?_) (a':=?_) #[false,true,true,false,true,true,false,false,false,false,false,false,false,false,false,false] rfl rfl (any_of HT_.out (by kernel_rfl)) (fun _ _ _ h=>h) (Or.inl ⟨by rfl,?_⟩) ?_ ?_
        rotate_left
        ·intro w'
         go_simp
         with_reducible rfl
        rotate_left
        ·simp only [Act.put,List.setIfInBounds_toArray,List.set_cons_zero,List.set_cons_succ,i64_w,i32_w,hwr_]
         rfl
        refine pure_ (i:=6) (N:=some 80) (v:=?_) (a':=?_) #[false,true,true,false,true,true,true,false,false,false,false,false,false,false,false,false] rfl rfl (any_of HT_.out (by kernel_rfl)) (fun _ _ _ h=>h) (Or.inl ⟨by rfl,?_⟩) ?_ ?_
        rotate_left
        ·intro w'
         go_simp
         with_reducible rfl
        rotate_left
        ·simp only [Act.put,List.setIfInBounds_toArray,List.set_cons_zero,List.set_cons_succ,i64_w,i32_w,hwr_]
         rfl
        refine pure_ (i:=7) (N:=some 81) (v:=?_) (a':=?_) #[false,true,true,false,true,true,true,true,false,false,false,false,false,false,false,false] rfl rfl (any_of HT_.out (by kernel_rfl)) (fun _ _ _ h=>h) (Or.inl ⟨by rfl,?_⟩) ?_ ?_
        rotate_left
        ·intro w'
         go_simp
         with_reducible rfl
        rotate_left
        ·simp only [Act.put,List.setIfInBounds_toArray,List.set_cons_zero,List.set_cons_succ,i64_w,i32_w,hwr_]
         rfl
        refine pure_ (i:=8) (N:=some 82) (v:=?_) (a':=?_) #[false,true,true,false,true,true,true,true,true,false,false,false,false,false,false,false] rfl rfl (any_of HT_.out (by kernel_rfl)) (fun _ _ _ h=>h) (Or.inl ⟨by rfl,?_⟩) ?_ ?_
        rotate_left
        ·intro w'
         go_simp
         with_reducible rfl
        rotate_left
        ·simp only [Act.put,List.setIfInBounds_toArray,List.set_cons_zero,List.set_cons_succ,i64_w,i32_w,hwr_]
         rfl
        refine take_ (i:=9) (N:=some 83) (v:=?_) (a':=?_) #[false,true,true,false,true,true,true,true,true,true,false,false,false,false,false,false] rfl rfl (take_ofW HT_.out HW_.out (by kernel_rfl)) (fun _ _ _ h=>h) (Or.inl ⟨by rfl,?_⟩) hHeld ?_ ?_
        rotate_left
        ·intro w' hW
         obtain ⟨⟨x0_,x1_⟩,-⟩:=FXD.out w' hW
         go_simp
         with_reducible rfl
        rotate_left
        ·simp only [Act.put,List.setIfInBounds_toArray,List.set_cons_zero,List.set_cons_succ,i64_w,i32_w,hwr_]
         rfl
        refine pure_ (i:=10) (N:=some 84) (v:=?_) (a':=?_) #[false,true,true,false,true,true,true,true,true,true,true,false,false,false,false,false] rfl rfl (any_of HT_.out (by kernel_rfl)) (fun _ _ _ h=>h) (Or.inl ⟨by rfl,?_⟩) ?_ ?_
        rotate_left
        ·intro w'
         go_simp
         with_reducible rfl
        rotate_left
        ·simp only [Act.put,List.setIfInBounds_toArray,List.set_cons_zero,List.set_cons_succ,i64_w,i32_w,hwr_]
         rfl
        refine pure_ (i:=11) (N:=some 85) (v:=?_) (a':=?_) #[false,true,true,false,true,true,true,true,true,true,true,true,false,false,false,false] rfl rfl (any_of HT_.out (by kernel_rfl)) (fun _ _ _ h=>h) (Or.inl ⟨by rfl,?_⟩) ?_ ?_
        rotate_left
        ·intro w'
         go_simp
         with_reducible rfl
        rotate_left
        ·simp only [Act.put,List.setIfInBounds_toArray,List.set_cons_zero,List.set_cons_succ,i64_w,i32_w,hwr_]
         rfl
        refine two_ (i:=0) (j:=12) (Ni:=some 74) (Nj:=some 86) #[true,true,true,false,true,true,true,true,true,true,true,true,false,false,false,false] #[false,true,true,false,true,true,true,true,true,true,true,true,true,false,false,false] rfl rfl rfl rfl (two_of HT_.out (by kernel_rfl)) (by decide) (by decide) (fun K hK=>?_) (fun K hK=>?_)
        ·refine value_ (v:=.slice (some ⟨w8a.heap.size,0,none⟩) 0 0) (w1:=w8a.alloc (.cells #[] 42)) (by rfl) rfl (by first|(go_simp;done)|(go_simp;rfl)) ?_
         have hn_:=below_alloc hHeld (.cells #[] 42)
         have hsw8b:(w8a.alloc (.cells #[] 42)).heap.size=w8a.heap.size+1:=World.size_alloc _ _
         have ho:=own_emptyT w8a w7.heap.size hHeld.size
         refine hK.out _ _ hn_ (fun hHeld=>?_)
         clear hK K hn_
         generalize w8a.alloc (.cells #[] 42)=w8b at *
         refine norm_ (a':=?_) ?_ ?_
         rotate_left
         ·show Act.put _ (some 74) _=_
          simp only [Act.put,List.setIfInBounds_toArray,List.set_cons_zero,List.set_cons_succ,i64_w,i32_w]
          rfl
         refine two_ (i:=3) (j:=12) (Ni:=some 77) (Nj:=some 86) #[true,true,true,true,true,true,true,true,true,true,true,true,false,false,false,false] #[true,true,true,false,true,true,true,true,true,true,true,true,true,false,false,false] rfl rfl rfl rfl (two_of HT_.out (by kernel_rfl)) (by decide) (by decide) (fun K hK=>?_) (fun K hK=>?_)
         ·refine step_appK (w0:=w7) w7.heap.size (by rfl) (.tmp 74) (.tmp 76) 22 42 (.agg #[.int .i64 0,.bool false,.slice none 0 0]) 3 40 rfl Try.underlying22 txn_info rfl (by decide) (by decide) _ [] cs A 0 N c rfl rfl HLN.out ho (FXD.out _ hHeld).2.2.2.1 HONE.out hHeld hHeld.size (by omega) ?_
          intro A2 c2 w8c hown hn_ hg hat hc2
          rw [Nat.zero_add]
          simp only [Nat.zero_add,List.nil_append] at hown hc2
          refine hK.out _ _ hn_ (fun hHeld=>?_)
          clear hK K hn_ hg hat ho
          refine norm_ (a':=?_) ?_ ?_
          rotate_left
          ·show Act.put _ (some 77) _=_
           simp only [Act.put,List.setIfInBounds_toArray,List.set_cons_zero,List.set_cons_succ,i64_w,i32_w]
           rfl
          refine one_ (i:=12) (N:=some 86) #[true,true,true,true,true,true,true,true,true,true,true,true,true,false,false,false] rfl rfl (one_of HT_.out (by kernel_rfl)) (by decide) (fun K hK=>?_)
          refine value_ (v:=.slice (some ⟨w8c.heap.size,0,none⟩) 1 1) (w1:=w8c.alloc (.cells #[.int .i64 id,.bool true,.slice none 0 0] 42)) (by rfl) rfl (by first|(go_simp;done)|(go_simp;rfl)) ?_
          have hn_:=below_alloc hHeld (.cells #[.int .i64 id,.bool true,.slice none 0 0] 42)
          have hsw8d:(w8c.alloc (.cells #[.int .i64 id,.bool true,.slice none 0 0] 42)).heap.size=w8c.heap.size+1:=World.size_alloc _ _
          have hcl:=Cells.new w8c [.int .i64 id,.bool true,.slice none 0 0] 42
          have hown:=hown.alloc (.cells #[.int .i64 id,.bool true,.slice none 0 0] 42)
          refine hK.out _ _ hn_ (fun hHeld=>?_)
          clear hK K hn_
          generalize w8c.alloc (.cells #[.int .i64 id,.bool true,.slice none 0 0] 42)=w8d at *
          refine norm_ (a':=?_) ?_ ?_
          rotate_left
          ·show Act.put _ (some 86) _=_
           simp only [Act.put,List.setIfInBounds_toArray,List.set_cons_zero,List.set_cons_succ,i64_w,i32_w]
           rfl
          refine one_ (i:=13) (N:=some 87) #[true,true,true,true,true,true,true,true,true,true,true,true,true,true,false,false] rfl rfl (one_of HT_.out (by kernel_rfl)) (by decide) (fun K hK=>?_)
          refine step_appK (w0:=w7) w7.heap.size (by rfl) (.tmp 77) (.tmp 86) 22 42 (.agg #[.int .i64 0,.bool false,.slice none 0 0]) 3 40 rfl Try.underlying22 txn_info rfl (by decide) (by decide) _ cs [.int .i64 id,.bool true,.slice none 0 0] _ N 1 1 rfl rfl rfl hown hcl HV1.out hHeld hHeld.size (by omega) ?_
          intro A3 c3 w8e hown3 hn_ hg hat hc3
          refine hK.out _ _ hn_ (fun hHeld=>?_)
          clear hK K hn_ hg hat hown hcl
          refine norm_ (a':=?_) ?_ ?_
          rotate_left
          ·show Act.put _ (some 87) _=_
           simp only [Act.put,List.setIfInBounds_toArray,List.set_cons_zero,List.set_cons_succ,i64_w,i32_w]
           rfl
          refine pure_ (i:=14) (N:=some 88) (v:=?_) (a':=?_) #[true,true,true,true,true,true,true,true,true,true,true,true,true,true,true,false] rfl rfl (any_of HT_.out (by kernel_rfl)) (fun _ _ _ h=>h) (Or.inl ⟨by rfl,?_⟩) ?_ ?_
          rotate_left
          ·intro w'
           go_simp
           with_reducible rfl
          rotate_left
          ·simp only [Act.put,List.setIfInBounds_toArray,List.set_cons_zero,List.set_cons_succ,i64_w,i32_w,hwr_]
           rfl
          refine last_ (i:=15) (N:=none) #[true,true,true,true,true,true,true,true,true,true,true,true,true,true,true,true] rfl rfl (one_of HT_.out (by kernel_rfl)) (by decide) (fun K hK=>?_)
          obtain ⟨⟨x0_,x1_⟩,z0_,z1_,-,hbw_⟩:=FXD.out _ hHeld
          have x2_:=z0_.free 0
          refine skip_ (w1:=w8e.setCell ⟨w.heap.size,0,none⟩ (.slice A3 (N+1) c3)) (by rfl) rfl (by first|(go_simp;done)|(go_simp;rfl)) ?_
          refine hK.out _ _ ?_
          clear hK K
          refine done_ (done_of HT_.out (by kernel_rfl)) ?_
          have x3_:=z1_.cell 0
          have x4_:=z1_.free 0
          simp only [List.getElem?_cons_zero] at x3_
          have hfin:ROut w (h ++ [⟨id,true,[]⟩],tt+3,0,0) (.returned (.tuple #[.agg #[.slice A3 (N+1) c3],.int .i64 (tt+3),.int .i64 0,.int .i64 0])) ((w8e.setCell ⟨w.heap.size,0,none⟩ (.slice A3 (N+1) c3)).setCell ⟨w.heap.size+1,0,none⟩ (.slice A3 (N+1) c3)):=by
           have hbf:=bset (b:=w.heap.size+1) (j:=0) (u:=.slice A3 (N+1) c3) (by omega) (bset (b:=w.heap.size) (j:=0) (u:=.slice A3 (N+1) c3) (Nat.le_refl _) hbw_)
           have hl1:(h ++ [⟨id,true,[]⟩]:List S42).length=N+1:=by rw [List.length_append,HN.out];rfl
           have hof:=ownsRow_setCell_below (ownsRow_setCell_below hown3 (a:=⟨w.heap.size,0,none⟩) (by simp only;omega) (.slice A3 (N+1) c3)) (a:=⟨w.heap.size+1,0,none⟩) (by simp only;omega) (.slice A3 (N+1) c3)
           have hCf:=rk_C (Cells.of_ownK hof) (HRKF.out _ hbf) (by rw [hl1];omega)
           exact ⟨A3,c3,by simp only [hl1],by simp only [hl1];exact hc3,hCf,hbf⟩
          have hblk:=(z1_.other (a:=⟨w.heap.size,0,none⟩) (by simp) (.slice A3 (N+1) c3)).set 0 (.slice A3 (N+1) c3)
          have HFIN:=Lib.hid hfin
          have HBLK:=Lib.hid hblk
          clear hfin hblk hown3 z0_ z1_
          go_wp2
          exact bodyPost_ret (results_row_tmp3 (u:=7) (u2:=8) (u3:=9) rfl _ _ (w.heap.size+1) _ _ (0,0) _ rfl HBLK.out rfl Try.underlying24 hist_info) rfl (by rw [HQ2.out];exact HFIN.out)
         ·refine value_ (v:=.slice (some ⟨w8b.heap.size,0,none⟩) 1 1) (w1:=w8b.alloc (.cells #[.int .i64 id,.bool true,.slice none 0 0] 42)) (by rfl) rfl (by first|(go_simp;done)|(go_simp;rfl)) ?_
          have hn_:=below_alloc hHeld (.cells #[.int .i64 id,.bool true,.slice none 0 0] 42)
          have hsw8c:(w8b.alloc (.cells #[.int .i64 id,.bool true,.slice none 0 0] 42)).heap.size=w8b.heap.size+1:=World.size_alloc _ _
          have hcl:=Cells.new w8b [.int .i64 id,.bool true,.slice none 0 0] 42
          have ho:=ho.alloc (.cells #[.int .i64 id,.bool true,.slice none 0 0] 42)
          refine hK.out _ _ hn_ (fun hHeld=>?_)
          clear hK K hn_
          generalize w8b.alloc (.cells #[.int .i64 id,.bool true,.slice none 0 0] 42)=w8c at *
          refine norm_ (a':=?_) ?_ ?_
          rotate_left
          ·show Act.put _ (some 86) _=_
           simp only [Act.put,List.setIfInBounds_toArray,List.set_cons_zero,List.set_cons_succ,i64_w,i32_w]
           rfl
          refine one_ (i:=3) (N:=some 77) #[true,true,true,true,true,true,true,true,true,true,true,true,true,false,false,false] rfl rfl (one_of HT_.out (by kernel_rfl)) (by decide) (fun K hK=>?_)
          refine step_appK (w0:=w7) w7.heap.size (by rfl) (.tmp 74) (.tmp 76) 22 42 (.agg #[.int .i64 0,.bool false,.slice none 0 0]) 3 40 rfl Try.underlying22 txn_info rfl (by decide) (by decide) _ [] cs A 0 N c rfl rfl HLN.out ho (FXD.out _ hHeld).2.2.2.1 HONE.out hHeld hHeld.size (by omega) ?_
          intro A2 c2 w8d hown hn_ hg hat hc2
          rw [Nat.zero_add]
          simp only [Nat.zero_add,List.nil_append] at hown hc2
          have hcl:=hcl.grown hg (by omega) (by intro e_;have e2_:w8b.heap.size=w8a.heap.size:=Option.some.inj e_;omega)
          refine hK.out _ _ hn_ (fun hHeld=>?_)
          clear hK K hn_ hg hat ho
          refine norm_ (a':=?_) ?_ ?_
          rotate_left
          ·show Act.put _ (some 77) _=_
           simp only [Act.put,List.setIfInBounds_toArray,List.set_cons_zero,List.set_cons_succ,i64_w,i32_w]
           rfl
          refine one_ (i:=13) (N:=some 87) #[true,true,true,true,true,true,true,true,true,true,true,true,true,true,false,false] rfl rfl (one_of HT_.out (by kernel_rfl)) (by decide) (fun K hK=>?_)
          refine step_appK (w0:=w7) w7.heap.size (by rfl) (.tmp 77) (.tmp 86) 22 42 (.agg #[.int .i64 0,.bool false,.slice none 0 0]) 3 40 rfl Try.underlying22 txn_info rfl (by decide) (by decide) _ cs [.int .i64 id,.bool true,.slice none 0 0] _ N 1 1 rfl rfl rfl hown hcl HV1.out hHeld hHeld.size (by omega) ?_
          intro A3 c3 w8e hown3 hn_ hg hat hc3
          refine hK.out _ _ hn_ (fun hHeld=>?_)
          clear hK K hn_ hg hat hown hcl
          refine norm_ (a':=?_) ?_ ?_
          rotate_left
          ·show Act.put _ (some 87) _=_
           simp only [Act.put,List.setIfInBounds_toArray,List.set_cons_zero,List.set_cons_succ,i64_w,i32_w]
           rfl
          refine pure_ (i:=14) (N:=some 88) (v:=?_) (a':=?_) #[true,true,true,true,true,true,true,true,true,true,true,true,true,true,true,false] rfl rfl (any_of HT_.out (by kernel_rfl)) (fun _ _ _ h=>h) (Or.inl ⟨by rfl,?_⟩) ?_ ?_
          rotate_left
          ·intro w'
           go_simp
           with_reducible rfl
          rotate_left
          ·simp only [Act.put,List.setIfInBounds_toArray,List.set_cons_zero,List.set_cons_succ,i64_w,i32_w,hwr_]
           rfl
          refine last_ (i:=15) (N:=none) #[true,true,true,true,true,true,true,true,true,true,true,true,true,true,true,true] rfl rfl (one_of HT_.out (by kernel_rfl)) (by decide) (fun K hK=>?_)
          obtain ⟨⟨x0_,x1_⟩,z0_,z1_,-,hbw_⟩:=FXD.out _ hHeld
          have x2_:=z0_.free 0
          refine skip_ (w1:=w8e.setCell ⟨w.heap.size,0,none⟩ (.slice A3 (N+1) c3)) (by rfl) rfl (by first|(go_simp;done)|(go_simp;rfl)) ?_
          refine hK.out _ _ ?_
          clear hK K
          refine done_ (done_of HT_.out (by kernel_rfl)) ?_
          have x3_:=z1_.cell 0
          have x4_:=z1_.free 0
          simp only [List.getElem?_cons_zero] at x3_
          have hfin:ROut w (h ++ [⟨id,true,[]⟩],tt+3,0,0) (.returned (.tuple #[.agg #[.slice A3 (N+1) c3],.int .i64 (tt+3),.int .i64 0,.int .i64 0])) ((w8e.setCell ⟨w.heap.size,0,none⟩ (.slice A3 (N+1) c3)).setCell ⟨w.heap.size+1,0,none⟩ (.slice A3 (N+1) c3)):=by
           have hbf:=bset (b:=w.heap.size+1) (j:=0) (u:=.slice A3 (N+1) c3) (by omega) (bset (b:=w.heap.size) (j:=0) (u:=.slice A3 (N+1) c3) (Nat.le_refl _) hbw_)
           have hl1:(h ++ [⟨id,true,[]⟩]:List S42).length=N+1:=by rw [List.length_append,HN.out];rfl
           have hof:=ownsRow_setCell_below (ownsRow_setCell_below hown3 (a:=⟨w.heap.size,0,none⟩) (by simp only;omega) (.slice A3 (N+1) c3)) (a:=⟨w.heap.size+1,0,none⟩) (by simp only;omega) (.slice A3 (N+1) c3)
           have hCf:=rk_C (Cells.of_ownK hof) (HRKF.out _ hbf) (by rw [hl1];omega)
           exact ⟨A3,c3,by simp only [hl1],by simp only [hl1];exact hc3,hCf,hbf⟩
          have hblk:=(z1_.other (a:=⟨w.heap.size,0,none⟩) (by simp) (.slice A3 (N+1) c3)).set 0 (.slice A3 (N+1) c3)
          have HFIN:=Lib.hid hfin
          have HBLK:=Lib.hid hblk
          clear hfin hblk hown3 z0_ z1_
          go_wp2
          exact bodyPost_ret (results_row_tmp3 (u:=7) (u2:=8) (u3:=9) rfl _ _ (w.heap.size+1) _ _ (0,0) _ rfl HBLK.out rfl Try.underlying24 hist_info) rfl (by rw [HQ2.out];exact HFIN.out)
        ·refine value_ (v:=.slice (some ⟨w8a.heap.size,0,none⟩) 1 1) (w1:=w8a.alloc (.cells #[.int .i64 id,.bool true,.slice none 0 0] 42)) (by rfl) rfl (by first|(go_simp;done)|(go_simp;rfl)) ?_
         have hn_:=below_alloc hHeld (.cells #[.int .i64 id,.bool true,.slice none 0 0] 42)
         have hsw8b:(w8a.alloc (.cells #[.int .i64 id,.bool true,.slice none 0 0] 42)).heap.size=w8a.heap.size+1:=World.size_alloc _ _
         have hcl:=Cells.new w8a [.int .i64 id,.bool true,.slice none 0 0] 42
         refine hK.out _ _ hn_ (fun hHeld=>?_)
         clear hK K hn_
         generalize w8a.alloc (.cells #[.int .i64 id,.bool true,.slice none 0 0] 42)=w8b at *
         refine norm_ (a':=?_) ?_ ?_
         rotate_left
         ·show Act.put _ (some 86) _=_
          simp only [Act.put,List.setIfInBounds_toArray,List.set_cons_zero,List.set_cons_succ,i64_w,i32_w]
          rfl
         refine one_ (i:=0) (N:=some 74) #[true,true,true,false,true,true,true,true,true,true,true,true,true,false,false,false] rfl rfl (one_of HT_.out (by kernel_rfl)) (by decide) (fun K hK=>?_)
         refine value_ (v:=.slice (some ⟨w8b.heap.size,0,none⟩) 0 0) (w1:=w8b.alloc (.cells #[] 42)) (by rfl) rfl (by first|(go_simp;done)|(go_simp;rfl)) ?_
         have hn_:=below_alloc hHeld (.cells #[] 42)
         have hsw8c:(w8b.alloc (.cells #[] 42)).heap.size=w8b.heap.size+1:=World.size_alloc _ _
         have ho:=own_emptyT w8b w7.heap.size hHeld.size
         have hcl:=hcl.below (below_alloc (Below.refl _ _) (.cells #[] 42))
         refine hK.out _ _ hn_ (fun hHeld=>?_)
         clear hK K hn_
         generalize w8b.alloc (.cells #[] 42)=w8c at *
         refine norm_ (a':=?_) ?_ ?_
         rotate_left
         ·show Act.put _ (some 74) _=_
          simp only [Act.put,List.setIfInBounds_toArray,List.set_cons_zero,List.set_cons_succ,i64_w,i32_w]
          rfl
         refine one_ (i:=3) (N:=some 77) #[true,true,true,true,true,true,true,true,true,true,true,true,true,false,false,false] rfl rfl (one_of HT_.out (by kernel_rfl)) (by decide) (fun K hK=>?_)
         refine step_appK (w0:=w7) w7.heap.size (by rfl) (.tmp 74) (.tmp 76) 22 42 (.agg #[.int .i64 0,.bool false,.slice none 0 0]) 3 40 rfl Try.underlying22 txn_info rfl (by decide) (by decide) _ [] cs A 0 N c rfl rfl HLN.out ho (FXD.out _ hHeld).2.2.2.1 HONE.out hHeld hHeld.size (by omega) ?_
         intro A2 c2 w8d hown hn_ hg hat hc2
         rw [Nat.zero_add]
         simp only [Nat.zero_add,List.nil_append] at hown hc2
         have hcl:=hcl.grown hg (by omega) (by intro e_;have e2_:w8a.heap.size=w8b.heap.size:=Option.some.inj e_;omega)
         refine hK.out _ _ hn_ (fun hHeld=>?_)
         clear hK K hn_ hg hat ho
         refine norm_ (a':=?_) ?_ ?_
         rotate_left
         ·show Act.put _ (some 77) _=_
          simp only [Act.put,List.setIfInBounds_toArray,List.set_cons_zero,List.set_cons_succ,i64_w,i32_w]
          rfl
         refine one_ (i:=13) (N:=some 87) #[true,true,true,true,true,true,true,true,true,true,true,true,true,true,false,false] rfl rfl (one_of HT_.out (by kernel_rfl)) (by decide) (fun K hK=>?_)
         refine step_appK (w0:=w7) w7.heap.size (by rfl) (.tmp 77) (.tmp 86) 22 42 (.agg #[.int .i64 0,.bool false,.slice none 0 0]) 3 40 rfl Try.underlying22 txn_info rfl (by decide) (by decide) _ cs [.int .i64 id,.bool true,.slice none 0 0] _ N 1 1 rfl rfl rfl hown hcl HV1.out hHeld hHeld.size (by omega) ?_
         intro A3 c3 w8e hown3 hn_ hg hat hc3
         refine hK.out _ _ hn_ (fun hHeld=>?_)
         clear hK K hn_ hg hat hown hcl
         refine norm_ (a':=?_) ?_ ?_
         rotate_left
         ·show Act.put _ (some 87) _=_
          simp only [Act.put,List.setIfInBounds_toArray,List.set_cons_zero,List.set_cons_succ,i64_w,i32_w]
          rfl
         refine pure_ (i:=14) (N:=some 88) (v:=?_) (a':=?_) #[true,true,true,true,true,true,true,true,true,true,true,true,true,true,true,false] rfl rfl (any_of HT_.out (by kernel_rfl)) (fun _ _ _ h=>h) (Or.inl ⟨by rfl,?_⟩) ?_ ?_
         rotate_left
         ·intro w'
          go_simp
          with_reducible rfl
         rotate_left
         ·simp only [Act.put,List.setIfInBounds_toArray,List.set_cons_zero,List.set_cons_succ,i64_w,i32_w,hwr_]
          rfl
         refine last_ (i:=15) (N:=none) #[true,true,true,true,true,true,true,true,true,true,true,true,true,true,true,true] rfl rfl (one_of HT_.out (by kernel_rfl)) (by decide) (fun K hK=>?_)
         obtain ⟨⟨x0_,x1_⟩,z0_,z1_,-,hbw_⟩:=FXD.out _ hHeld
         have x2_:=z0_.free 0
         refine skip_ (w1:=w8e.setCell ⟨w.heap.size,0,none⟩ (.slice A3 (N+1) c3)) (by rfl) rfl (by first|(go_simp;done)|(go_simp;rfl)) ?_
         refine hK.out _ _ ?_
         clear hK K
         refine done_ (done_of HT_.out (by kernel_rfl)) ?_
         have x3_:=z1_.cell 0
         have x4_:=z1_.free 0
         simp only [List.getElem?_cons_zero] at x3_
         have hfin:ROut w (h ++ [⟨id,true,[]⟩],tt+3,0,0) (.returned (.tuple #[.agg #[.slice A3 (N+1) c3],.int .i64 (tt+3),.int .i64 0,.int .i64 0])) ((w8e.setCell ⟨w.heap.size,0,none⟩ (.slice A3 (N+1) c3)).setCell ⟨w.heap.size+1,0,none⟩ (.slice A3 (N+1) c3)):=by
          have hbf:=bset (b:=w.heap.size+1) (j:=0) (u:=.slice A3 (N+1) c3) (by omega) (bset (b:=w.heap.size) (j:=0) (u:=.slice A3 (N+1) c3) (Nat.le_refl _) hbw_)
          have hl1:(h ++ [⟨id,true,[]⟩]:List S42).length=N+1:=by rw [List.length_append,HN.out];rfl
          have hof:=ownsRow_setCell_below (ownsRow_setCell_below hown3 (a:=⟨w.heap.size,0,none⟩) (by simp only;omega) (.slice A3 (N+1) c3)) (a:=⟨w.heap.size+1,0,none⟩) (by simp only;omega) (.slice A3 (N+1) c3)
          have hCf:=rk_C (Cells.of_ownK hof) (HRKF.out _ hbf) (by rw [hl1];omega)
          exact ⟨A3,c3,by simp only [hl1],by simp only [hl1];exact hc3,hCf,hbf⟩
         have hblk:=(z1_.other (a:=⟨w.heap.size,0,none⟩) (by simp) (.slice A3 (N+1) c3)).set 0 (.slice A3 (N+1) c3)
         have HFIN:=Lib.hid hfin
         have HBLK:=Lib.hid hblk
         clear hfin hblk hown3 z0_ z1_
         go_wp2
         exact bodyPost_ret (results_row_tmp3 (u:=7) (u2:=8) (u3:=9) rfl _ _ (w.heap.size+1) _ _ (0,0) _ rfl HBLK.out rfl Try.underlying24 hist_info) rfl (by rw [HQ2.out];exact HFIN.out)
      | false =>
       have H6:=Lib.hid (HIS.out _ HB5.out (tt+1) 99 (by omega))
       obtain ⟨b6,hb6⟩:∃ b,isB l (tt+1) 99=b:=⟨_,rfl⟩
       rw [hb6] at H6
       have E6:=Lib.hid hb6
       clear hb6
       go_wp2_with fail
       refine (H6.out).mono ?_
       rintro e w6 ⟨rfl,hb6⟩
       have HB6:=Lib.hid hb6
       have F6:=FX.out _ hb6
       clear q0 q1 q2
       have q0:=F6.1
       have q1:=F6.2.1
       have q2:=F6.2.2.1
       have G6:=Lib.hid F6
       clear hb6 F6
       clear H6
       cases b6 with
       | false =>
        have HQ2:Hid (q=(h,0,4,tt+1)):=Lib.hid (by rw [← HQ.out];unfold rtx;rw [if_neg (by rw [HN.out];exact h1024)];rw [if_neg (by rw [E1.out];decide),EP.out];simp only;rw [if_neg (by decide)];rw [if_neg (by rw [E3.out];decide)];rw [if_neg (by rw [E4.out];decide)];rw [if_pos ⟨E5.out,E6.out⟩])
        go_wp2
        exact bodyPost_ret (results_row_tmp3 (u:=7) (u2:=8) (u3:=9) rfl _ _ (w.heap.size+1) _ _ (0,0) _ rfl (G6.out.2.2.2.2.1 _) rfl Try.underlying24 hist_info) rfl (by rw [HQ2.out];exact G6.out.2.2.2.2.2.2 _ _)
       | true =>
        have hlt:=is_lt E6.out
        have hrd:=is_rd E6.out
        have H7:=Lib.hid (HIS.out _ HB6.out (tt+2) 10 (by omega))
        obtain ⟨b7,hb7⟩:∃ b,isB l (tt+2) 10=b:=⟨_,rfl⟩
        rw [hb7] at H7
        have E7:=Lib.hid hb7
        clear hb7
        go_wp2_with fail
        refine (H7.out).mono ?_
        rintro e w7 ⟨rfl,hb7⟩
        have HB7:=Lib.hid hb7
        have F7:=FX.out _ hb7
        clear q0 q1 q2
        have q0:=F7.1
        have q1:=F7.2.1
        have q2:=F7.2.2.1
        have G7:=Lib.hid F7
        clear hb7 F7
        clear H7
        cases b7 with
        | false =>
         have HQ2:Hid (q=(h,0,4,tt+2)):=Lib.hid (by rw [← HQ.out];unfold rtx;rw [if_neg (by rw [HN.out];exact h1024)];rw [if_neg (by rw [E1.out];decide),EP.out];simp only;rw [if_neg (by decide)];rw [if_neg (by rw [E3.out];decide)];rw [if_neg (by rw [E4.out];decide)];rw [if_neg (by rw [E5.out,E6.out];simp)];rw [if_pos E7.out])
         go_wp2
         exact bodyPost_ret (results_row_tmp3 (u:=7) (u2:=8) (u3:=9) rfl _ _ (w.heap.size+1) _ _ (0,0) _ rfl (G7.out.2.2.2.2.1 _) rfl Try.underlying24 hist_info) rfl (by rw [HQ2.out];exact G7.out.2.2.2.2.2.2 _ _)
        | true =>
         have HQ2:Hid (q=(h ++ [⟨id,false,[]⟩],tt+3,0,0)):=Lib.hid (by rw [← HQ.out];unfold rtx;rw [if_neg (by rw [HN.out];exact h1024)];rw [if_neg (by rw [E1.out];decide),EP.out];simp only;rw [if_neg (by decide)];rw [if_neg (by rw [E3.out];decide)];rw [if_neg (by rw [E4.out];decide)];rw [if_neg (by rw [E5.out,E6.out];simp)];rw [if_neg (by rw [E7.out];decide),E5.out])
         obtain ⟨bd,rfl,hby⟩:=Kd.at_int (HLL.out _ G7.out.2.2.2.2.2.1) (tt+1) (by omega) hlt
         rw [hrd] at hby
         have hsz7:w.heap.size+2≤w7.heap.size:=by have:=(FB.out _ HB7.out).2.lt;omega
         have FXD:Hid (∀ W:World,Below w7.heap.size w7 W→(W.cell? ⟨w.heap.size,0,none⟩=some (.slice A N c)∧W.cell? (bd.add (tt+1).toNat)=some (.int .u8 99))∧Blk W w.heap.size [.slice A N c] 24∧Blk W (w.heap.size+1) [.slice none 0 0] 24∧Cells W A cs∧Below w.heap.size w W):=Lib.hid (fun W hb=>by
          have hb2:=HB7.out.trans (hb.mono hsz7)
          have hbw:=(FX.out _ hb2).2.2.2.2.2.1
          exact ⟨⟨(FX.out _ hb2).1,pw_cell_below hb hby⟩,(FB.out _ hb2).1,(FB.out _ hb2).2,HCS.out.below hbw,hbw⟩)
         have HLN:Hid (cs.length=N * 3):=Lib.hid (by rw [rk_len HRK.out,HN.out])
         have HONE:=Lib.hid (rk_one HRK.out)
         have HV1:Hid (∀ u ∈ [.int .i64 id,.bool false,.slice none 0 0],Value.oneCell' u=true):=Lib.hid (by
          intro u hu
          simp only [List.mem_cons,List.not_mem_nil,or_false] at hu
          rcases hu with rfl|rfl|rfl <;> rfl)
         have HRKF:Hid (∀ W:World,Below w.heap.size w W→Rk W (h ++ [⟨id,false,[]⟩]) (cs ++ [.int .i64 id,.bool false,.slice none 0 0])):=Lib.hid (fun W hb=>rk_snoc (k42_mk W ⟨id,false,[]⟩ (Nat.le_refl 0) ⟨rfl,by simp,fun hx=>by simp at hx⟩) (rk_below hb HRK.out))
         have hbD:=(Below.refl w7.heap.size w7).drew
         clear hby hrd
         have hNb:N≤2000:=hh
         have hwr_:wrap64 (tt+1)=tt+1:=by unfold wrap64;omega
         have h0t_:0≤tt+1:=by omega
         go_wp2_with fail
         refine start_ (n:=16) (S:=fun W=>Below w7.heap.size w7 W) (ds:=[15]) #[false,false,false,false,false,false,false,false,false,false,false,false,false,false,false,false] (by kernel_rfl) rfl rfl hbD (fun hHeld=>?_)
         refine with_tabW RgTxn.tab RgTxn.bits (fun HT_ HW_=>?_)
         generalize w7.drew=w8a at *
         refine pure_ (i:=1) (N:=some 75) (v:=?_) (a':=?_) #[false,true,false,false,false,false,false,false,false,false,false,false,false,false,false,false] rfl rfl (any_of HT_.out (by kernel_rfl)) (fun _ _ _ h=>h) (Or.inl ⟨by rfl,?_⟩) ?_ ?_
         rotate_left
         ·intro w'
          go_simp
          with_reducible rfl
         rotate_left
         ·simp only [Act.put,List.setIfInBounds_toArray,List.set_cons_zero,List.set_cons_succ,i64_w,i32_w,hwr_]
          rfl
         refine take_ (i:=2) (N:=some 76) (v:=?_) (a':=?_) #[false,true,true,false,false,false,false,false,false,false,false,false,false,false,false,false] rfl rfl (take_ofW HT_.out HW_.out (by kernel_rfl)) (fun _ _ _ h=>h) (Or.inl ⟨by rfl,?_⟩) hHeld ?_ ?_
         rotate_left
         ·intro w' hW
          obtain ⟨⟨x0_,x1_⟩,-⟩:=FXD.out w' hW
          go_simp
          with_reducible rfl
         rotate_left
         ·simp only [Act.put,List.setIfInBounds_toArray,List.set_cons_zero,List.set_cons_succ,i64_w,i32_w,hwr_]
          rfl
         refine pure_ (i:=4) (N:=some 78) (v:=?_) (a':=?_) #[false,true,true,false,true,false,false,false,false,false,false,false,false,false,false,false] rfl rfl (any_of HT_.out (by kernel_rfl)) (fun _ _ _ h=>h) (Or.inl ⟨by rfl,?_⟩) ?_ ?_
         rotate_left
         ·intro w'
          go_simp
          with_reducible rfl
         rotate_left
         ·simp only [Act.put,List.setIfInBounds_toArray,List.set_cons_zero,List.set_cons_succ,i64_w,i32_w,hwr_]
          rfl
         refine pure_ (i:=5) (N:=some 79) (v:=?_) (a':=?_) #[false,true,true,false,true,true,false,false,false,false,false,false,false,false,false,false] rfl rfl (any_of HT_.out (by kernel_rfl)) (fun _ _ _ h=>h) (Or.inl ⟨by rfl,?_⟩) ?_ ?_
         rotate_left
         ·intro w'
          go_simp
          with_reducible rfl
         rotate_left
         ·simp only [Act.put,List.setIfInBounds_toArray,List.set_cons_zero,List.set_cons_succ,i64_w,i32_w,hwr_]
          rfl
         refine pure_ (i:=6) (N:=some 80) (v:=?_) (a':=?_) #[false,true,true,false,true,true,true,false,false,false,false,false,false,false,false,false] rfl rfl (any_of HT_.out (by kernel_rfl)) (fun _ _ _ h=>h) (Or.inl ⟨by rfl,?_⟩) ?_ ?_
         rotate_left
         ·intro w'
          go_simp
          with_reducible rfl
         rotate_left
         ·simp only [Act.put,List.setIfInBounds_toArray,List.set_cons_zero,List.set_cons_succ,i64_w,i32_w,hwr_]
          rfl
         refine pure_ (i:=7) (N:=some 81) (v:=?_) (a':=?_) #[false,true,true,false,true,true,true,true,false,false,false,false,false,false,false,false] rfl rfl (any_of HT_.out (by kernel_rfl)) (fun _ _ _ h=>h) (Or.inl ⟨by rfl,?_⟩) ?_ ?_
         rotate_left
         ·intro w'
          go_simp
          with_reducible rfl
         rotate_left
         ·simp only [Act.put,List.setIfInBounds_toArray,List.set_cons_zero,List.set_cons_succ,i64_w,i32_w,hwr_]
          rfl
         refine pure_ (i:=8) (N:=some 82) (v:=?_) (a':=?_) #[false,true,true,false,true,true,true,true,true,false,false,false,false,false,false,false] rfl rfl (any_of HT_.out (by kernel_rfl)) (fun _ _ _ h=>h) (Or.inl ⟨by rfl,?_⟩) ?_ ?_
         rotate_left
         ·intro w'
          go_simp
          with_reducible rfl
         rotate_left
         ·simp only [Act.put,List.setIfInBounds_toArray,List.set_cons_zero,List.set_cons_succ,i64_w,i32_w,hwr_]
          rfl
         refine take_ (i:=9) (N:=some 83) (v:=?_) (a':=?_) #[false,true,true,false,true,true,true,true,true,true,false,false,false,false,false,false] rfl rfl (take_ofW HT_.out HW_.out (by kernel_rfl)) (fun _ _ _ h=>h) (Or.inl ⟨by rfl,?_⟩) hHeld ?_ ?_
         rotate_left
         ·intro w' hW
          obtain ⟨⟨x0_,x1_⟩,-⟩:=FXD.out w' hW
          go_simp
          with_reducible rfl
         rotate_left
         ·simp only [Act.put,List.setIfInBounds_toArray,List.set_cons_zero,List.set_cons_succ,i64_w,i32_w,hwr_]
          rfl
         refine pure_ (i:=10) (N:=some 84) (v:=?_) (a':=?_) #[false,true,true,false,true,true,true,true,true,true,true,false,false,false,false,false] rfl rfl (any_of HT_.out (by kernel_rfl)) (fun _ _ _ h=>h) (Or.inl ⟨by rfl,?_⟩) ?_ ?_
         rotate_left
         ·intro w'
          go_simp
          with_reducible rfl
         rotate_left
         ·simp only [Act.put,List.setIfInBounds_toArray,List.set_cons_zero,List.set_cons_succ,i64_w,i32_w,hwr_]
          rfl
         refine pure_ (i:=11) (N:=some 85) (v:=?_) (a':=?_) #[false,true,true,false,true,true,true,true,true,true,true,true,false,false,false,false] rfl rfl (any_of HT_.out (by kernel_rfl)) (fun _ _ _ h=>h) (Or.inl ⟨by rfl,?_⟩) ?_ ?_
         rotate_left
         ·intro w'
          go_simp
          with_reducible rfl
         rotate_left
         ·simp only [Act.put,List.setIfInBounds_toArray,List.set_cons_zero,List.set_cons_succ,i64_w,i32_w,hwr_]
          rfl
         refine two_ (i:=0) (j:=12) (Ni:=some 74) (Nj:=some 86) #[true,true,true,false,true,true,true,true,true,true,true,true,false,false,false,false] #[false,true,true,false,true,true,true,true,true,true,true,true,true,false,false,false] rfl rfl rfl rfl (two_of HT_.out (by kernel_rfl)) (by decide) (by decide) (fun K hK=>?_) (fun K hK=>?_)
         ·refine value_ (v:=.slice (some ⟨w8a.heap.size,0,none⟩) 0 0) (w1:=w8a.alloc (.cells #[] 42)) (by rfl) rfl (by first|(go_simp;done)|(go_simp;rfl)) ?_
          have hn_:=below_alloc hHeld (.cells #[] 42)
          have hsw8b:(w8a.alloc (.cells #[] 42)).heap.size=w8a.heap.size+1:=World.size_alloc _ _
          have ho:=own_emptyT w8a w7.heap.size hHeld.size
          refine hK.out _ _ hn_ (fun hHeld=>?_)
          clear hK K hn_
          generalize w8a.alloc (.cells #[] 42)=w8b at *
          refine norm_ (a':=?_) ?_ ?_
          rotate_left
          ·show Act.put _ (some 74) _=_
           simp only [Act.put,List.setIfInBounds_toArray,List.set_cons_zero,List.set_cons_succ,i64_w,i32_w]
           rfl
          refine two_ (i:=3) (j:=12) (Ni:=some 77) (Nj:=some 86) #[true,true,true,true,true,true,true,true,true,true,true,true,false,false,false,false] #[true,true,true,false,true,true,true,true,true,true,true,true,true,false,false,false] rfl rfl rfl rfl (two_of HT_.out (by kernel_rfl)) (by decide) (by decide) (fun K hK=>?_) (fun K hK=>?_)
          ·refine step_appK (w0:=w7) w7.heap.size (by rfl) (.tmp 74) (.tmp 76) 22 42 (.agg #[.int .i64 0,.bool false,.slice none 0 0]) 3 40 rfl Try.underlying22 txn_info rfl (by decide) (by decide) _ [] cs A 0 N c rfl rfl HLN.out ho (FXD.out _ hHeld).2.2.2.1 HONE.out hHeld hHeld.size (by omega) ?_
           intro A2 c2 w8c hown hn_ hg hat hc2
           rw [Nat.zero_add]
           simp only [Nat.zero_add,List.nil_append] at hown hc2
           refine hK.out _ _ hn_ (fun hHeld=>?_)
           clear hK K hn_ hg hat ho
           refine norm_ (a':=?_) ?_ ?_
           rotate_left
           ·show Act.put _ (some 77) _=_
            simp only [Act.put,List.setIfInBounds_toArray,List.set_cons_zero,List.set_cons_succ,i64_w,i32_w]
            rfl
           refine one_ (i:=12) (N:=some 86) #[true,true,true,true,true,true,true,true,true,true,true,true,true,false,false,false] rfl rfl (one_of HT_.out (by kernel_rfl)) (by decide) (fun K hK=>?_)
           refine value_ (v:=.slice (some ⟨w8c.heap.size,0,none⟩) 1 1) (w1:=w8c.alloc (.cells #[.int .i64 id,.bool false,.slice none 0 0] 42)) (by rfl) rfl (by first|(go_simp;done)|(go_simp;rfl)) ?_
           have hn_:=below_alloc hHeld (.cells #[.int .i64 id,.bool false,.slice none 0 0] 42)
           have hsw8d:(w8c.alloc (.cells #[.int .i64 id,.bool false,.slice none 0 0] 42)).heap.size=w8c.heap.size+1:=World.size_alloc _ _
           have hcl:=Cells.new w8c [.int .i64 id,.bool false,.slice none 0 0] 42
           have hown:=hown.alloc (.cells #[.int .i64 id,.bool false,.slice none 0 0] 42)
           refine hK.out _ _ hn_ (fun hHeld=>?_)
           clear hK K hn_
           generalize w8c.alloc (.cells #[.int .i64 id,.bool false,.slice none 0 0] 42)=w8d at *
           refine norm_ (a':=?_) ?_ ?_
           rotate_left
           ·show Act.put _ (some 86) _=_
            simp only [Act.put,List.setIfInBounds_toArray,List.set_cons_zero,List.set_cons_succ,i64_w,i32_w]
            rfl
           refine one_ (i:=13) (N:=some 87) #[true,true,true,true,true,true,true,true,true,true,true,true,true,true,false,false] rfl rfl (one_of HT_.out (by kernel_rfl)) (by decide) (fun K hK=>?_)
           refine step_appK (w0:=w7) w7.heap.size (by rfl) (.tmp 77) (.tmp 86) 22 42 (.agg #[.int .i64 0,.bool false,.slice none 0 0]) 3 40 rfl Try.underlying22 txn_info rfl (by decide) (by decide) _ cs [.int .i64 id,.bool false,.slice none 0 0] _ N 1 1 rfl rfl rfl hown hcl HV1.out hHeld hHeld.size (by omega) ?_
           intro A3 c3 w8e hown3 hn_ hg hat hc3
           refine hK.out _ _ hn_ (fun hHeld=>?_)
           clear hK K hn_ hg hat hown hcl
           refine norm_ (a':=?_) ?_ ?_
           rotate_left
           ·show Act.put _ (some 87) _=_
            simp only [Act.put,List.setIfInBounds_toArray,List.set_cons_zero,List.set_cons_succ,i64_w,i32_w]
            rfl
           refine pure_ (i:=14) (N:=some 88) (v:=?_) (a':=?_) #[true,true,true,true,true,true,true,true,true,true,true,true,true,true,true,false] rfl rfl (any_of HT_.out (by kernel_rfl)) (fun _ _ _ h=>h) (Or.inl ⟨by rfl,?_⟩) ?_ ?_
           rotate_left
           ·intro w'
            go_simp
            with_reducible rfl
           rotate_left
           ·simp only [Act.put,List.setIfInBounds_toArray,List.set_cons_zero,List.set_cons_succ,i64_w,i32_w,hwr_]
            rfl
           refine last_ (i:=15) (N:=none) #[true,true,true,true,true,true,true,true,true,true,true,true,true,true,true,true] rfl rfl (one_of HT_.out (by kernel_rfl)) (by decide) (fun K hK=>?_)
           obtain ⟨⟨x0_,x1_⟩,z0_,z1_,-,hbw_⟩:=FXD.out _ hHeld
           have x2_:=z0_.free 0
           refine skip_ (w1:=w8e.setCell ⟨w.heap.size,0,none⟩ (.slice A3 (N+1) c3)) (by rfl) rfl (by first|(go_simp;done)|(go_simp;rfl)) ?_
           refine hK.out _ _ ?_
           clear hK K
           refine done_ (done_of HT_.out (by kernel_rfl)) ?_
           have x3_:=z1_.cell 0
           have x4_:=z1_.free 0
           simp only [List.getElem?_cons_zero] at x3_
           have hfin:ROut w (h ++ [⟨id,false,[]⟩],tt+3,0,0) (.returned (.tuple #[.agg #[.slice A3 (N+1) c3],.int .i64 (tt+3),.int .i64 0,.int .i64 0])) ((w8e.setCell ⟨w.heap.size,0,none⟩ (.slice A3 (N+1) c3)).setCell ⟨w.heap.size+1,0,none⟩ (.slice A3 (N+1) c3)):=by
            have hbf:=bset (b:=w.heap.size+1) (j:=0) (u:=.slice A3 (N+1) c3) (by omega) (bset (b:=w.heap.size) (j:=0) (u:=.slice A3 (N+1) c3) (Nat.le_refl _) hbw_)
            have hl1:(h ++ [⟨id,false,[]⟩]:List S42).length=N+1:=by rw [List.length_append,HN.out];rfl
            have hof:=ownsRow_setCell_below (ownsRow_setCell_below hown3 (a:=⟨w.heap.size,0,none⟩) (by simp only;omega) (.slice A3 (N+1) c3)) (a:=⟨w.heap.size+1,0,none⟩) (by simp only;omega) (.slice A3 (N+1) c3)
            have hCf:=rk_C (Cells.of_ownK hof) (HRKF.out _ hbf) (by rw [hl1];omega)
            exact ⟨A3,c3,by simp only [hl1],by simp only [hl1];exact hc3,hCf,hbf⟩
           have hblk:=(z1_.other (a:=⟨w.heap.size,0,none⟩) (by simp) (.slice A3 (N+1) c3)).set 0 (.slice A3 (N+1) c3)
           have HFIN:=Lib.hid hfin
           have HBLK:=Lib.hid hblk
           clear hfin hblk hown3 z0_ z1_
           go_wp2
           exact bodyPost_ret (results_row_tmp3 (u:=7) (u2:=8) (u3:=9) rfl _ _ (w.heap.size+1) _ _ (0,0) _ rfl HBLK.out rfl Try.underlying24 hist_info) rfl (by rw [HQ2.out];exact HFIN.out)
          ·refine value_ (v:=.slice (some ⟨w8b.heap.size,0,none⟩) 1 1) (w1:=w8b.alloc (.cells #[.int .i64 id,.bool false,.slice none 0 0] 42)) (by rfl) rfl (by first|(go_simp;done)|(go_simp;rfl)) ?_
           have hn_:=below_alloc hHeld (.cells #[.int .i64 id,.bool false,.slice none 0 0] 42)
           have hsw8c:(w8b.alloc (.cells #[.int .i64 id,.bool false,.slice none 0 0] 42)).heap.size=w8b.heap.size+1:=World.size_alloc _ _
           have hcl:=Cells.new w8b [.int .i64 id,.bool false,.slice none 0 0] 42
           have ho:=ho.alloc (.cells #[.int .i64 id,.bool false,.slice none 0 0] 42)
           refine hK.out _ _ hn_ (fun hHeld=>?_)
           clear hK K hn_
           generalize w8b.alloc (.cells #[.int .i64 id,.bool false,.slice none 0 0] 42)=w8c at *
           refine norm_ (a':=?_) ?_ ?_
           rotate_left
           ·show Act.put _ (some 86) _=_
            simp only [Act.put,List.setIfInBounds_toArray,List.set_cons_zero,List.set_cons_succ,i64_w,i32_w]
            rfl
           refine one_ (i:=3) (N:=some 77) #[true,true,true,true,true,true,true,true,true,true,true,true,true,false,false,false] rfl rfl (one_of HT_.out (by kernel_rfl)) (by decide) (fun K hK=>?_)
           refine step_appK (w0:=w7) w7.heap.size (by rfl) (.tmp 74) (.tmp 76) 22 42 (.agg #[.int .i64 0,.bool false,.slice none 0 0]) 3 40 rfl Try.underlying22 txn_info rfl (by decide) (by decide) _ [] cs A 0 N c rfl rfl HLN.out ho (FXD.out _ hHeld).2.2.2.1 HONE.out hHeld hHeld.size (by omega) ?_
           intro A2 c2 w8d hown hn_ hg hat hc2
           rw [Nat.zero_add]
           simp only [Nat.zero_add,List.nil_append] at hown hc2
           have hcl:=hcl.grown hg (by omega) (by intro e_;have e2_:w8b.heap.size=w8a.heap.size:=Option.some.inj e_;omega)
           refine hK.out _ _ hn_ (fun hHeld=>?_)
           clear hK K hn_ hg hat ho
           refine norm_ (a':=?_) ?_ ?_
           rotate_left
           ·show Act.put _ (some 77) _=_
            simp only [Act.put,List.setIfInBounds_toArray,List.set_cons_zero,List.set_cons_succ,i64_w,i32_w]
            rfl
           refine one_ (i:=13) (N:=some 87) #[true,true,true,true,true,true,true,true,true,true,true,true,true,true,false,false] rfl rfl (one_of HT_.out (by kernel_rfl)) (by decide) (fun K hK=>?_)
           refine step_appK (w0:=w7) w7.heap.size (by rfl) (.tmp 77) (.tmp 86) 22 42 (.agg #[.int .i64 0,.bool false,.slice none 0 0]) 3 40 rfl Try.underlying22 txn_info rfl (by decide) (by decide) _ cs [.int .i64 id,.bool false,.slice none 0 0] _ N 1 1 rfl rfl rfl hown hcl HV1.out hHeld hHeld.size (by omega) ?_
           intro A3 c3 w8e hown3 hn_ hg hat hc3
           refine hK.out _ _ hn_ (fun hHeld=>?_)
           clear hK K hn_ hg hat hown hcl
           refine norm_ (a':=?_) ?_ ?_
           rotate_left
           ·show Act.put _ (some 87) _=_
            simp only [Act.put,List.setIfInBounds_toArray,List.set_cons_zero,List.set_cons_succ,i64_w,i32_w]
            rfl
           refine pure_ (i:=14) (N:=some 88) (v:=?_) (a':=?_) #[true,true,true,true,true,true,true,true,true,true,true,true,true,true,true,false] rfl rfl (any_of HT_.out (by kernel_rfl)) (fun _ _ _ h=>h) (Or.inl ⟨by rfl,?_⟩) ?_ ?_
           rotate_left
           ·intro w'
            go_simp
            with_reducible rfl
           rotate_left
           ·simp only [Act.put,List.setIfInBounds_toArray,List.set_cons_zero,List.set_cons_succ,i64_w,i32_w,hwr_]
            rfl
           refine last_ (i:=15) (N:=none) #[true,true,true,true,true,true,true,true,true,true,true,true,true,true,true,true] rfl rfl (one_of HT_.out (by kernel_rfl)) (by decide) (fun K hK=>?_)
           obtain ⟨⟨x0_,x1_⟩,z0_,z1_,-,hbw_⟩:=FXD.out _ hHeld
           have x2_:=z0_.free 0
           refine skip_ (w1:=w8e.setCell ⟨w.heap.size,0,none⟩ (.slice A3 (N+1) c3)) (by rfl) rfl (by first|(go_simp;done)|(go_simp;rfl)) ?_
           refine hK.out _ _ ?_
           clear hK K
           refine done_ (done_of HT_.out (by kernel_rfl)) ?_
           have x3_:=z1_.cell 0
           have x4_:=z1_.free 0
           simp only [List.getElem?_cons_zero] at x3_
           have hfin:ROut w (h ++ [⟨id,false,[]⟩],tt+3,0,0) (.returned (.tuple #[.agg #[.slice A3 (N+1) c3],.int .i64 (tt+3),.int .i64 0,.int .i64 0])) ((w8e.setCell ⟨w.heap.size,0,none⟩ (.slice A3 (N+1) c3)).setCell ⟨w.heap.size+1,0,none⟩ (.slice A3 (N+1) c3)):=by
            have hbf:=bset (b:=w.heap.size+1) (j:=0) (u:=.slice A3 (N+1) c3) (by omega) (bset (b:=w.heap.size) (j:=0) (u:=.slice A3 (N+1) c3) (Nat.le_refl _) hbw_)
            have hl1:(h ++ [⟨id,false,[]⟩]:List S42).length=N+1:=by rw [List.length_append,HN.out];rfl
            have hof:=ownsRow_setCell_below (ownsRow_setCell_below hown3 (a:=⟨w.heap.size,0,none⟩) (by simp only;omega) (.slice A3 (N+1) c3)) (a:=⟨w.heap.size+1,0,none⟩) (by simp only;omega) (.slice A3 (N+1) c3)
            have hCf:=rk_C (Cells.of_ownK hof) (HRKF.out _ hbf) (by rw [hl1];omega)
            exact ⟨A3,c3,by simp only [hl1],by simp only [hl1];exact hc3,hCf,hbf⟩
           have hblk:=(z1_.other (a:=⟨w.heap.size,0,none⟩) (by simp) (.slice A3 (N+1) c3)).set 0 (.slice A3 (N+1) c3)
           have HFIN:=Lib.hid hfin
           have HBLK:=Lib.hid hblk
           clear hfin hblk hown3 z0_ z1_
           go_wp2
           exact bodyPost_ret (results_row_tmp3 (u:=7) (u2:=8) (u3:=9) rfl _ _ (w.heap.size+1) _ _ (0,0) _ rfl HBLK.out rfl Try.underlying24 hist_info) rfl (by rw [HQ2.out];exact HFIN.out)
         ·refine value_ (v:=.slice (some ⟨w8a.heap.size,0,none⟩) 1 1) (w1:=w8a.alloc (.cells #[.int .i64 id,.bool false,.slice none 0 0] 42)) (by rfl) rfl (by first|(go_simp;done)|(go_simp;rfl)) ?_
          have hn_:=below_alloc hHeld (.cells #[.int .i64 id,.bool false,.slice none 0 0] 42)
          have hsw8b:(w8a.alloc (.cells #[.int .i64 id,.bool false,.slice none 0 0] 42)).heap.size=w8a.heap.size+1:=World.size_alloc _ _
          have hcl:=Cells.new w8a [.int .i64 id,.bool false,.slice none 0 0] 42
          refine hK.out _ _ hn_ (fun hHeld=>?_)
          clear hK K hn_
          generalize w8a.alloc (.cells #[.int .i64 id,.bool false,.slice none 0 0] 42)=w8b at *
          refine norm_ (a':=?_) ?_ ?_
          rotate_left
          ·show Act.put _ (some 86) _=_
           simp only [Act.put,List.setIfInBounds_toArray,List.set_cons_zero,List.set_cons_succ,i64_w,i32_w]
           rfl
          refine one_ (i:=0) (N:=some 74) #[true,true,true,false,true,true,true,true,true,true,true,true,true,false,false,false] rfl rfl (one_of HT_.out (by kernel_rfl)) (by decide) (fun K hK=>?_)
          refine value_ (v:=.slice (some ⟨w8b.heap.size,0,none⟩) 0 0) (w1:=w8b.alloc (.cells #[] 42)) (by rfl) rfl (by first|(go_simp;done)|(go_simp;rfl)) ?_
          have hn_:=below_alloc hHeld (.cells #[] 42)
          have hsw8c:(w8b.alloc (.cells #[] 42)).heap.size=w8b.heap.size+1:=World.size_alloc _ _
          have ho:=own_emptyT w8b w7.heap.size hHeld.size
          have hcl:=hcl.below (below_alloc (Below.refl _ _) (.cells #[] 42))
          refine hK.out _ _ hn_ (fun hHeld=>?_)
          clear hK K hn_
          generalize w8b.alloc (.cells #[] 42)=w8c at *
          refine norm_ (a':=?_) ?_ ?_
          rotate_left
          ·show Act.put _ (some 74) _=_
           simp only [Act.put,List.setIfInBounds_toArray,List.set_cons_zero,List.set_cons_succ,i64_w,i32_w]
           rfl
          refine one_ (i:=3) (N:=some 77) #[true,true,true,true,true,true,true,true,true,true,true,true,true,false,false,false] rfl rfl (one_of HT_.out (by kernel_rfl)) (by decide) (fun K hK=>?_)
          refine step_appK (w0:=w7) w7.heap.size (by rfl) (.tmp 74) (.tmp 76) 22 42 (.agg #[.int .i64 0,.bool false,.slice none 0 0]) 3 40 rfl Try.underlying22 txn_info rfl (by decide) (by decide) _ [] cs A 0 N c rfl rfl HLN.out ho (FXD.out _ hHeld).2.2.2.1 HONE.out hHeld hHeld.size (by omega) ?_
          intro A2 c2 w8d hown hn_ hg hat hc2
          rw [Nat.zero_add]
          simp only [Nat.zero_add,List.nil_append] at hown hc2
          have hcl:=hcl.grown hg (by omega) (by intro e_;have e2_:w8a.heap.size=w8b.heap.size:=Option.some.inj e_;omega)
          refine hK.out _ _ hn_ (fun hHeld=>?_)
          clear hK K hn_ hg hat ho
          refine norm_ (a':=?_) ?_ ?_
          rotate_left
          ·show Act.put _ (some 77) _=_
           simp only [Act.put,List.setIfInBounds_toArray,List.set_cons_zero,List.set_cons_succ,i64_w,i32_w]
           rfl
          refine one_ (i:=13) (N:=some 87) #[true,true,true,true,true,true,true,true,true,true,true,true,true,true,false,false] rfl rfl (one_of HT_.out (by kernel_rfl)) (by decide) (fun K hK=>?_)
          refine step_appK (w0:=w7) w7.heap.size (by rfl) (.tmp 77) (.tmp 86) 22 42 (.agg #[.int .i64 0,.bool false,.slice none 0 0]) 3 40 rfl Try.underlying22 txn_info rfl (by decide) (by decide) _ cs [.int .i64 id,.bool false,.slice none 0 0] _ N 1 1 rfl rfl rfl hown hcl HV1.out hHeld hHeld.size (by omega) ?_
          intro A3 c3 w8e hown3 hn_ hg hat hc3
          refine hK.out _ _ hn_ (fun hHeld=>?_)
          clear hK K hn_ hg hat hown hcl
          refine norm_ (a':=?_) ?_ ?_
          rotate_left
          ·show Act.put _ (some 87) _=_
           simp only [Act.put,List.setIfInBounds_toArray,List.set_cons_zero,List.set_cons_succ,i64_w,i32_w]
           rfl
          refine pure_ (i:=14) (N:=some 88) (v:=?_) (a':=?_) #[true,true,true,true,true,true,true,true,true,true,true,true,true,true,true,false] rfl rfl (any_of HT_.out (by kernel_rfl)) (fun _ _ _ h=>h) (Or.inl ⟨by rfl,?_⟩) ?_ ?_
          rotate_left
          ·intro w'
           go_simp
           with_reducible rfl
          rotate_left
          ·simp only [Act.put,List.setIfInBounds_toArray,List.set_cons_zero,List.set_cons_succ,i64_w,i32_w,hwr_]
           rfl
          refine last_ (i:=15) (N:=none) #[true,true,true,true,true,true,true,true,true,true,true,true,true,true,true,true] rfl rfl (one_of HT_.out (by kernel_rfl)) (by decide) (fun K hK=>?_)
          obtain ⟨⟨x0_,x1_⟩,z0_,z1_,-,hbw_⟩:=FXD.out _ hHeld
          have x2_:=z0_.free 0
          refine skip_ (w1:=w8e.setCell ⟨w.heap.size,0,none⟩ (.slice A3 (N+1) c3)) (by rfl) rfl (by first|(go_simp;done)|(go_simp;rfl)) ?_
          refine hK.out _ _ ?_
          clear hK K
          refine done_ (done_of HT_.out (by kernel_rfl)) ?_
          have x3_:=z1_.cell 0
          have x4_:=z1_.free 0
          simp only [List.getElem?_cons_zero] at x3_
          have hfin:ROut w (h ++ [⟨id,false,[]⟩],tt+3,0,0) (.returned (.tuple #[.agg #[.slice A3 (N+1) c3],.int .i64 (tt+3),.int .i64 0,.int .i64 0])) ((w8e.setCell ⟨w.heap.size,0,none⟩ (.slice A3 (N+1) c3)).setCell ⟨w.heap.size+1,0,none⟩ (.slice A3 (N+1) c3)):=by
           have hbf:=bset (b:=w.heap.size+1) (j:=0) (u:=.slice A3 (N+1) c3) (by omega) (bset (b:=w.heap.size) (j:=0) (u:=.slice A3 (N+1) c3) (Nat.le_refl _) hbw_)
           have hl1:(h ++ [⟨id,false,[]⟩]:List S42).length=N+1:=by rw [List.length_append,HN.out];rfl
           have hof:=ownsRow_setCell_below (ownsRow_setCell_below hown3 (a:=⟨w.heap.size,0,none⟩) (by simp only;omega) (.slice A3 (N+1) c3)) (a:=⟨w.heap.size+1,0,none⟩) (by simp only;omega) (.slice A3 (N+1) c3)
           have hCf:=rk_C (Cells.of_ownK hof) (HRKF.out _ hbf) (by rw [hl1];omega)
           exact ⟨A3,c3,by simp only [hl1],by simp only [hl1];exact hc3,hCf,hbf⟩
          have hblk:=(z1_.other (a:=⟨w.heap.size,0,none⟩) (by simp) (.slice A3 (N+1) c3)).set 0 (.slice A3 (N+1) c3)
          have HFIN:=Lib.hid hfin
          have HBLK:=Lib.hid hblk
          clear hfin hblk hown3 z0_ z1_
          go_wp2
          exact bodyPost_ret (results_row_tmp3 (u:=7) (u2:=8) (u3:=9) rfl _ _ (w.heap.size+1) _ _ (0,0) _ rfl HBLK.out rfl Try.underlying24 hist_info) rfl (by rw [HQ2.out];exact HFIN.out)
end Go.Proofs.Ytlcioegdmopppaa.Hs
