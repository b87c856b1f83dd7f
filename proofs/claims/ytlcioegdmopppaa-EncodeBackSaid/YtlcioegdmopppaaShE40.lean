/- Printed by shake.py. -/
import Derived.Test.YtlcioegdmopppaaShE39
set_option linter.unusedSimpArgs false
namespace Go.Proofs.Ytlcioegdmopppaa.Hs
open Go.RowKit Go.Lib Go.Proofs.Ytlcioegdmopppaa.PEncodeBack Go.Proofs.YtlcioegdmopppaaW.PrintWords
set_option linter.unusedVariables false
theorem dres_none {w wr:World} (hb:Below w.heap.size w wr) (e x:Int):DRes w ([],e,x) (.returned (.tuple #[.agg #[.slice none 0 0],.int .i64 e,.int .i64 x])) wr :=
 ⟨none,0,rfl,Nat.le_refl _,Kd.C_nil _ _,hb⟩
set_option maxHeartbeats 800000 in
theorem rdecode_low (w:World) (A:Option Addr) (n c:Nat) (most:Int) (h:most < 0) :
 Calls Try.prog 21 #[.slice A n c,.int .i64 most] w (DRes w ([],2,0)):=by
 have HB:=(Blk.new w [.slice none 0 0] 24).alloc (.cells #[.slice none 0 0] 24)
 have HF:Hid (DRes w ([],2,0) (.returned (.tuple #[.agg #[.slice none 0 0],.int .i64 2,.int .i64 0])) ((w.alloc (.cells #[.slice none 0 0] 24)).alloc (.cells #[.slice none 0 0] 24))):=Lib.hid (dres_none (below_alloc (below_alloc (Below.refl _ _) _) _) 2 0)
 have HBL:=Lib.hid HB
 have y5:=HB.free 0
 have y6:=HB.cell 0
 simp only [List.getElem?_cons_zero] at y6
 clear HB
 go_enter Try.func21,Try.ntmps21
 go_wp2
 exact bodyPost_ret (results_row_tmps (u:=5) (u2:=6) rfl _ _ w.heap.size _ _ (0,0) _ rfl HBL.out rfl Try.underlying24 hist_info) rfl HF.out
set_option maxHeartbeats 800000 in
theorem rdecode_high (w:World) (A:Option Addr) (n c:Nat) (most:Int) (h:4096 < most) :
 Calls Try.prog 21 #[.slice A n c,.int .i64 most] w (DRes w ([],2,0)):=by
 have HB:=(Blk.new w [.slice none 0 0] 24).alloc (.cells #[.slice none 0 0] 24)
 have HF:Hid (DRes w ([],2,0) (.returned (.tuple #[.agg #[.slice none 0 0],.int .i64 2,.int .i64 0])) ((w.alloc (.cells #[.slice none 0 0] 24)).alloc (.cells #[.slice none 0 0] 24))):=Lib.hid (dres_none (below_alloc (below_alloc (Below.refl _ _) _) _) 2 0)
 have HBL:=Lib.hid HB
 have y5:=HB.free 0
 have y6:=HB.cell 0
 simp only [List.getElem?_cons_zero] at y6
 clear HB
 have hn:¬ most < 0:=by omega
 go_enter Try.func21,Try.ntmps21
 go_wp2
 exact bodyPost_ret (results_row_tmps (u:=5) (u2:=6) rfl _ _ w.heap.size _ _ (0,0) _ rfl HBL.out rfl Try.underlying24 hist_info) rfl HF.out
set_option maxHeartbeats 800000 in
theorem rdecode_long (w:World) (A:Option Addr) (n c:Nat) (most:Int) (m0:0≤most) (m1:most≤4096) (h:(262144:Int) < n) :
 Calls Try.prog 21 #[.slice A n c,.int .i64 most] w (DRes w ([],3,262144)):=by
 have HB:=(Blk.new w [.slice none 0 0] 24).alloc (.cells #[.slice none 0 0] 24)
 have HF:Hid (DRes w ([],3,262144) (.returned (.tuple #[.agg #[.slice none 0 0],.int .i64 3,.int .i64 262144])) ((w.alloc (.cells #[.slice none 0 0] 24)).alloc (.cells #[.slice none 0 0] 24))):=Lib.hid (dres_none (below_alloc (below_alloc (Below.refl _ _) _) _) 3 262144)
 have HBL:=Lib.hid HB
 have y5:=HB.free 0
 have y6:=HB.cell 0
 simp only [List.getElem?_cons_zero] at y6
 clear HB
 have hn:¬ most < 0:=by omega
 have hn2:¬ 4096 < most:=by omega
 go_enter Try.func21,Try.ntmps21
 go_wp2
 exact bodyPost_ret (results_row_tmps (u:=5) (u2:=6) rfl _ _ w.heap.size _ _ (0,0) _ rfl HBL.out rfl Try.underlying24 hist_info) rfl HF.out
theorem rdecode_c (w:World) (B:Option Addr) (l:List Int) (d:Nat) (most:Int) (hL:Kd.C (Kd.int .u8) w B l.length l) (hd:l.length≤d) :
 Calls Try.prog 21 #[.slice B l.length d,.int .i64 most] w (DRes w (decP l most)):=by
 rw [← rdec_eq]
 unfold rdec
 by_cases h1:most < 0 ∨ 4096 < most
 ·rw [if_pos h1]
  rcases h1 with h1|h1
  ·exact rdecode_low w B _ d most h1
  ·exact rdecode_high w B _ d most h1
 ·rw [if_neg h1]
  by_cases h2:262144 < l.length
  ·rw [if_pos h2]
   exact rdecode_long w B _ d most (by omega) (by omega) (by omega)
  ·rw [if_neg h2]
   exact rdecode_main w B l d most hL hd (by omega) (by omega) (by omega)
theorem decode_at (w:World) (A:Option Addr) (l:List Int) (c:Nat) (most:Int) (hC:Kd.C (Kd.int .u8) w A l.length l) (hc:l.length≤c) (hb:Bytes l):Calls Try.prog 20 #[.slice A l.length c,.int .i64 most] w (DRes w (decP l most)):=by
 refine (decode_c w A l c most hC hc hb).mono ?_
 rintro r w' ⟨v,h1,h2,h3⟩
 obtain ⟨B,d,rfl,hd,hr⟩:=Kd.S_reads h2
 exact ⟨B,d,h1,hd,hr,h3⟩
theorem eqL_refl {α:Type} {R:α→α→Bool}:∀ {xs:List α},(∀ x ∈ xs,R x x=true)→eqL R xs xs=true
 | [],_=>rfl
 | x :: xs,h=>by
  unfold eqL
  rw [h x (List.mem_cons_self ..),eqL_refl (fun y hy=>h y (List.mem_cons_of_mem _ hy))]
  rfl
theorem eqH_refl (h:List S42):eqH h h=true:=by
 refine eqL_refl (fun t _=>?_)
 unfold eqT
 rw [eqL_refl (fun o _=>by unfold eqO;rw [eqL_refl (fun x _=>by unfold eqI;simp)];simp)]
 simp
end Go.Proofs.Ytlcioegdmopppaa.Hs
