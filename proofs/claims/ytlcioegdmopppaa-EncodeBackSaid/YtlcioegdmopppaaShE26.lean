/- Printed by shake.py. -/
import Derived.Test.YtlcioegdmopppaaShE25
import Derived.Maps.OwnSet
import Derived.Maps.Own
import Derived.Deep.AppendLies
import Derived.Deep.Slices
import Derived.Deep.RegionLaw
import Derived.Deep.RegionHeldLaw
import Derived.Test.YtlcioegdmopppaaShE20
import Derived.Laws.ResultCell
set_option linter.unusedVariables false
set_option linter.unusedSimpArgs false
namespace Go.Proofs.Ytlcioegdmopppaa
open Go.RowKit Go.Proofs.YtlcioegdmopppaaW.PrintWords
namespace Cur
def cells (m:Bool) (A:Option Addr) (n c:Nat) (p e x:Int):List Value:=[.bool m,.slice A n c,.int .i64 p,.int .i64 e,.int .i64 x]
abbrev Is (w:World) (b:Nat) (m:Bool) (A:Option Addr) (n c:Nat) (p e x:Int):Prop:=Blk w b (cells m A n c p e x) 87
set_option maxHeartbeats 400000 in
theorem is_calls (w:World) (b:Nat) (m:Bool) (A:Option Addr) (n c:Nat) (p e x:Int) (h:Is w b m A n c p e x) :
 Calls Try.prog 54 #[.pointer (some ⟨b,0,none⟩)] w fun r w'=>r=.returned (.bool m)∧w=w':=by
 have q0:=Blk.cell h 0
 simp only [cells,List.getElem?_cons_zero] at q0
 clear h
 go_enter Try.func54,Try.ntmps54
 go_wp2
 go_ret
 exact ⟨rfl,rfl⟩
set_option maxHeartbeats 400000 in
theorem goes_calls (w:World) (b:Nat) (A:Option Addr) (n c:Nat) (p e x:Int) (h:Is w b true A n c p e x) :
 Calls Try.prog 64 #[.pointer (some ⟨b,0,none⟩)] w fun r w'=>r=.returned (.bool (e == 0))∧w=w':=by
 have q3:=Blk.cell h 3
 simp only [cells,List.getElem?_cons_zero,List.getElem?_cons_succ] at q3
 have HI:=Lib.hid (is_calls w b true A n c p e x h)
 clear h
 go_enter Try.func64,Try.ntmps64
 go_wp2_with (go_at_call 54;refine HI.out.mono ?_;rintro r w' ⟨rfl,rfl⟩)
 go_ret
 exact ⟨rfl,rfl⟩
set_option maxHeartbeats 400000 in
theorem at_calls (w:World) (b:Nat) (A:Option Addr) (n c:Nat) (p e x:Int) (h:Is w b true A n c p e x) :
 Calls Try.prog 52 #[.pointer (some ⟨b,0,none⟩)] w fun r w'=>r=.returned (.int .i64 p)∧w=w':=by
 have q2:=Blk.cell h 2
 simp only [cells,List.getElem?_cons_zero,List.getElem?_cons_succ] at q2
 have HI:=Lib.hid (is_calls w b true A n c p e x h)
 clear h
 go_enter Try.func52,Try.ntmps52
 go_wp2_with (go_at_call 54;refine HI.out.mono ?_;rintro r w' ⟨rfl,rfl⟩)
 go_ret
 exact ⟨rfl,rfl⟩
set_option maxHeartbeats 400000 in
theorem err_calls (w:World) (b:Nat) (A:Option Addr) (n c:Nat) (p e x:Int) (h:Is w b true A n c p e x) :
 Calls Try.prog 35 #[.pointer (some ⟨b,0,none⟩)] w fun r w'=>r=.returned (.tuple #[.int .i64 e,.int .i64 x])∧∃ q,w'=w.drewN q:=by
 have q3:=Blk.cell h 3
 have q4:=Blk.cell h 4
 simp only [cells,List.getElem?_cons_zero,List.getElem?_cons_succ] at q3 q4
 have HI:=Lib.hid (is_calls w b true A n c p e x h)
 clear h
 go_enter Try.func35,Try.ntmps35
 go_wp2_with (go_at_call 54;refine HI.out.mono ?_;rintro r w' ⟨rfl,rfl⟩)
 go_quiet (fail)
 go_wp2
 go_ret2
 exact ⟨rfl,_,rfl⟩
structure Cr where
 p:Int
 e:Int
 x:Int
def peek (l:List Int) (s:Cr):Int × Bool:=if s.e=0∧s.p < l.length then (rd l s.p,true) else (0,false)
def fail (s:Cr) (e a:Int):Cr:=if s.e=0∧e ≠ 0 then { s with e:=e,x:=a } else s
def byte (l:List Int) (s:Cr) (y:Int):Cr:=if (peek l s).2=true∧y=(peek l s).1 then { s with p:=s.p+1 } else fail s 4 s.p
def number (l:List Int) (s:Cr):Cr × Int:=if s.e=0 then (if (parse l s.p).2.2=true then ({ s with p:=(parse l s.p).2.1 },(parse l s.p).1) else (fail s 4 (parse l s.p).2.1,0)) else (s,0)
def nums_ (l:List Int) (s:Cr):Cr × List Int:=if s.e=0 then (if (list l s.p).2.2=true then ({ s with p:=(list l s.p).2.1 },(list l s.p).1) else (fail s 4 (list l s.p).2.1,[])) else (s,[])
abbrev At (w:World) (b:Nat) (A:Option Addr) (n c:Nat) (s:Cr):Prop:=Is w b true A n c s.p s.e s.x
set_option maxHeartbeats 400000 in
theorem next_yes (w:World) (b:Nat) (A:Option Addr) (l:List Int) (c:Nat) (p e x:Int) (h:Is w b true A l.length c p e x) (hr:Kd.C (Kd.int .u8) w A l.length l) (h0:0≤p) (h1:p < l.length) :
 Calls Try.prog 65 #[.pointer (some ⟨b,1,none⟩)] w fun r w'=>r=.returned (.tuple #[.int .u8 (rd l p),.bool true])∧∃ q,w'=w.drewN q:=by
 have q1:=Blk.cell h 1
 have q2:=Blk.cell h 2
 simp only [cells,List.getElem?_cons_zero,List.getElem?_cons_succ] at q1 q2
 obtain ⟨ad,rfl,hx⟩:=Kd.at_int hr p h0 h1
 obtain ⟨k,rfl⟩:=Int.eq_ofNat_of_zero_le h0
 rw [Int.toNat_natCast] at hx
 clear h hr
 generalize rd l k=y at *
 generalize l.length=n at *
 have hd:decide (n≤k)=false:=decide_eq_false (by omega)
 have hk:(k:Int) < n:=h1
 go_enter Try.func65,Try.ntmps65
 go_wp2
 go_quiet (fail)
 go_wp2
 go_quiet (fail)
 go_wp2
 go_ret2
 exact ⟨rfl,_,by rw [World.drewN_drewN]⟩
set_option maxHeartbeats 400000 in
theorem next_no (w:World) (b:Nat) (A:Option Addr) (n c:Nat) (p e x:Int) (h:Is w b true A n c p e x) (h1:¬ p < n) :
 Calls Try.prog 65 #[.pointer (some ⟨b,1,none⟩)] w fun r w'=>r=.returned (.tuple #[.int .u8 0,.bool false])∧∃ q,w'=w.drewN q:=by
 have q1:=Blk.cell h 1
 have q2:=Blk.cell h 2
 simp only [cells,List.getElem?_cons_zero,List.getElem?_cons_succ] at q1 q2
 clear h
 have hd:decide ((n:Int)≤p)=true:=decide_eq_true (by omega)
 go_enter Try.func65,Try.ntmps65
 go_wp2
 go_quiet (fail)
 go_wp2
 go_ret2
 exact ⟨rfl,_,rfl⟩
set_option maxHeartbeats 400000 in
theorem peek_calls (w:World) (b:Nat) (A:Option Addr) (l:List Int) (c:Nat) (s:Cr) (h:At w b A l.length c s) (hr:Kd.C (Kd.int .u8) w A l.length l) (h0:0≤s.p) :
 Calls Try.prog 47 #[.pointer (some ⟨b,0,none⟩)] w fun r w'=>r=.returned (.tuple #[.int .u8 (peek l s).1,.bool (peek l s).2])∧∃ q,w'=w.drewN q:=by
 have HI:=Lib.hid (goes_calls w b A l.length c s.p s.e s.x h)
 by_cases he:s.e=0
 ·have hb:(s.e == 0)=true:=by simp [he]
  rw [hb] at HI
  by_cases h1:s.p < l.length
  ·have HN:=Lib.hid (next_yes w b A l c s.p s.e s.x h hr h0 h1)
   unfold peek
   rw [if_pos ⟨he,h1⟩]
   clear h hr h0 h1 he hb
   go_enter Try.func47,Try.ntmps47
   go_wp2_with (go_at_call 64;refine HI.out.mono ?_;rintro r w' ⟨rfl,rfl⟩)
   refine HN.out.mono ?_
   rintro r w' ⟨rfl,q,rfl⟩
   go_wp2
   go_ret2
   exact ⟨rfl,_,rfl⟩
  ·have HN:=Lib.hid (next_no w b A l.length c s.p s.e s.x h h1)
   unfold peek
   rw [if_neg (fun hh=>h1 hh.2)]
   clear h hr h0 h1 he hb
   go_enter Try.func47,Try.ntmps47
   go_wp2_with (go_at_call 64;refine HI.out.mono ?_;rintro r w' ⟨rfl,rfl⟩)
   refine HN.out.mono ?_
   rintro r w' ⟨rfl,q,rfl⟩
   go_wp2
   go_ret2
   exact ⟨rfl,_,rfl⟩
 ·have hb:(s.e == 0)=false:=by simp [he]
  rw [hb] at HI
  unfold peek
  rw [if_neg (fun hh=>he hh.1)]
  clear h hr h0 he hb
  go_enter Try.func47,Try.ntmps47
  go_wp2_with (go_at_call 64;refine HI.out.mono ?_;rintro r w' ⟨rfl,rfl⟩)
  go_ret2
  exact ⟨rfl,0,rfl⟩
end Cur
end Go.Proofs.Ytlcioegdmopppaa
set_option linter.unusedVariables false
set_option linter.unusedSimpArgs false
namespace Go.Proofs.Ytlcioegdmopppaa
open Go.RowKit Go.Proofs.YtlcioegdmopppaaW.PrintWords
namespace Cur
set_option maxHeartbeats 1000000 in
theorem fail_calls (w:World) (b:Nat) (A:Option Addr) (n c:Nat) (s:Cr) (h:At w b A n c s) (e a:Int) :
 Calls Try.prog 51 #[.pointer (some ⟨b,0,none⟩),.int .i64 e,.int .i64 a] w fun r w'=>r=.returned (.tuple #[])∧At w' b A n c (fail s e a)∧Chg (fun k=>k=b) w w':=by
 have HI:=Lib.hid (goes_calls w b A n c s.p s.e s.x h)
 by_cases he:s.e=0∧e ≠ 0
 ·have hb:(s.e == 0)=true:=by simp [he.1]
  have hne:(e != 0)=true:=by simp [he.2]
  rw [hb] at HI
  have q3:=Blk.cell h 3
  have q4:=Blk.cell h 4
  have f3:=Blk.free h 3
  have f4:=Blk.free h 4
  simp only [cells,List.getElem?_cons_zero,List.getElem?_cons_succ] at q3 q4
  have hfin:At ((w.setCell ⟨b,3,none⟩ (.int .i64 e)).setCell ⟨b,4,none⟩ (.int .i64 a)) b A n c (fail s e a)∧Chg (fun k=>k=b) w ((w.setCell ⟨b,3,none⟩ (.int .i64 e)).setCell ⟨b,4,none⟩ (.int .i64 a)):=by
   unfold fail
   rw [if_pos he]
   exact ⟨(Blk.set h 3 _).set 4 _,Chg.set (S:=fun k=>k=b) (Chg.set (S:=fun k=>k=b) (Chg.refl _ w) 3 (.inl rfl) _) 4 (.inl rfl) _⟩
  have HF:=Lib.hid hfin
  clear h he hb hfin
  go_enter Try.func51,Try.ntmps51
  go_wp2_with (go_at_call 64;refine HI.out.mono ?_;rintro r w' ⟨rfl,rfl⟩)
  go_end0
  exact ⟨rfl,HF.out⟩
 ·unfold fail
  rw [if_neg he]
  by_cases h0:s.e=0
  ·have h1:e=0:=Classical.byContradiction fun h1=>he ⟨h0,h1⟩
   subst h1
   have hb:(s.e == 0)=true:=by simp [h0]
   rw [hb] at HI
   have H:=Lib.hid h
   clear h he h0 hb
   go_enter Try.func51,Try.ntmps51
   go_wp2_with (go_at_call 64;refine HI.out.mono ?_;rintro r w' ⟨rfl,rfl⟩)
   go_end0
   exact ⟨rfl,H.out,Chg.refl _ _⟩
  ·have hb:(s.e == 0)=false:=by simp [h0]
   rw [hb] at HI
   have H:=Lib.hid h
   clear h he h0 hb
   go_enter Try.func51,Try.ntmps51
   go_wp2_with (go_at_call 64;refine HI.out.mono ?_;rintro r w' ⟨rfl,rfl⟩)
   go_end0
   exact ⟨rfl,H.out,Chg.refl _ _⟩
theorem At.drewN {w:World} {b:Nat} {A:Option Addr} {n c:Nat} {s:Cr} (h:At w b A n c s) (q:Nat):At (w.drewN q) b A n c s:=h
theorem chgN {w w':World} {S:Nat→Prop} {q:Nat} (h:Chg S (w.drewN q) w'):Chg S w w':=⟨h.os,h.tape,h.output,h.size,h.block⟩
set_option maxHeartbeats 1000000 in
theorem byte_calls (w:World) (b:Nat) (A:Option Addr) (l:List Int) (c:Nat) (s:Cr) (h:At w b A l.length c s) (hr:Kd.C (Kd.int .u8) w A l.length l) (h0:0≤s.p) (hl:(l.length:Int)≤140737488351232) (y:Int) :
 Calls Try.prog 66 #[.pointer (some ⟨b,0,none⟩),.int .u8 y] w fun r w'=>r=.returned (.tuple #[])∧At w' b A l.length c (byte l s y)∧Chg (fun k=>k=b) w w':=by
 have HP:=Lib.hid (peek_calls w b A l c s h hr h0)
 unfold byte
 by_cases hp:(peek l s).2=true
 ·have hlt:s.p < l.length:=by
   unfold peek at hp
   split at hp
   ·rename_i hh;exact hh.2
   ·simp at hp
  by_cases hy:y=(peek l s).1
  ·rw [if_pos ⟨hp,hy⟩]
   rw [hp] at HP
   generalize (peek l s).1=z at *
   subst hy
   have q2:=fun q=>Blk.cell (At.drewN h q) 2
   have f2:=fun q=>Blk.free (At.drewN h q) 2
   simp only [cells,List.getElem?_cons_zero,List.getElem?_cons_succ] at q2
   have hfin:∀ q,At ((w.drewN q).setCell ⟨b,2,none⟩ (.int .i64 (s.p+1))) b A l.length c { s with p:=s.p+1 }∧Chg (fun k=>k=b) w ((w.drewN q).setCell ⟨b,2,none⟩ (.int .i64 (s.p+1))):=fun q =>
    ⟨Blk.set (At.drewN h q) 2 _,Chg.set (S:=fun k=>k=b) ((Chg.refl _ w).drewN q) 2 (.inl rfl) _⟩
   have HF:=Lib.hid hfin
   generalize s.p=p at *
   generalize l.length=n at *
   clear h hr hfin hp
   go_enter Try.func66,Try.ntmps66
   go_wp2_with fail
   refine HP.out.mono ?_
   rintro r w' ⟨rfl,q,rfl⟩
   replace q2:=q2 q
   replace f2:=f2 q
   go_wp2
   refine bodyPost_ret (results_none rfl _ _ _) rfl ⟨rfl,?_⟩
   exact HF.out q
  ·rw [if_neg (fun hh=>hy hh.2)]
   rw [hp] at HP
   have hyb:(y == (peek l s).1)=false:=by simp [hy]
   have HA:=Lib.hid (fun q=>at_calls (w.drewN q) b A l.length c s.p s.e s.x (At.drewN h q))
   have HF:=Lib.hid (fun q=>fail_calls (w.drewN q) b A l.length c s (At.drewN h q) 4 s.p)
   generalize (peek l s).1=z at *
   generalize fail s 4 s.p=s' at *
   generalize l.length=n at *
   clear h hr hp hy hlt h0
   go_enter Try.func66,Try.ntmps66
   go_wp2_with fail
   refine HP.out.mono ?_
   rintro r w' ⟨rfl,q,rfl⟩
   have HA:=Lib.hid (HA.out q)
   have HF:=Lib.hid (HF.out q)
   go_wp2_with fail
   refine HA.out.mono ?_
   rintro r w' ⟨rfl,rfl⟩
   go_wp2_with fail
   refine HF.out.mono ?_
   rintro r w' ⟨rfl,h1,h2⟩
   go_wp2
   go_end0
   exact ⟨rfl,h1,chgN h2⟩
 ·rw [if_neg (fun hh=>hp hh.1)]
  have hpf:(peek l s).2=false:=by simpa using hp
  rw [hpf] at HP
  have HA:=Lib.hid (fun q=>at_calls (w.drewN q) b A l.length c s.p s.e s.x (At.drewN h q))
  have HF:=Lib.hid (fun q=>fail_calls (w.drewN q) b A l.length c s (At.drewN h q) 4 s.p)
  generalize (peek l s).1=z at *
  generalize fail s 4 s.p=s' at *
  generalize l.length=n at *
  clear h hr hp h0 hpf
  go_enter Try.func66,Try.ntmps66
  go_wp2_with fail
  refine HP.out.mono ?_
  rintro r w' ⟨rfl,q,rfl⟩
  have HA:=Lib.hid (HA.out q)
  have HF:=Lib.hid (HF.out q)
  go_wp2_with fail
  refine HA.out.mono ?_
  rintro r w' ⟨rfl,rfl⟩
  go_wp2_with fail
  refine HF.out.mono ?_
  rintro r w' ⟨rfl,h1,h2⟩
  go_wp2
  go_end0
  exact ⟨rfl,h1,chgN h2⟩
set_option maxHeartbeats 1000000 in
theorem number_calls (w:World) (b:Nat) (A:Option Addr) (l:List Int) (c:Nat) (s:Cr) (h:At w b A l.length c s) (hr:Kd.C (Kd.int .u8) w A l.length l) (hc:l.length≤c) (hb:Bytes l) (hl:(l.length:Int)≤140737488351232) :
 Calls Try.prog 67 #[.pointer (some ⟨b,0,none⟩)] w fun r w'=>r=.returned (.int .i64 (number l s).2)∧At w' b A l.length c (number l s).1∧Chg (fun k=>k=b) w w':=by
 have HI:=Lib.hid (goes_calls w b A l.length c s.p s.e s.x h)
 unfold number
 by_cases he:s.e=0
 ·have hbe:(s.e == 0)=true:=by simp [he]
  rw [hbe] at HI
  rw [if_pos he]
  have HP:=Lib.hid (fun q=>parse_calls l s.p A c (w.drewN q) (Kd.C_below hr (pw_below_drewN (Below.refl w.heap.size w) q)) hc hb hl)
  have q1:=Blk.cell h 1
  have q2:=Blk.cell h 2
  have q2':=fun q=>Blk.cell (At.drewN h q) 2
  have f2':=fun q=>Blk.free (At.drewN h q) 2
  simp only [cells,List.getElem?_cons_zero,List.getElem?_cons_succ] at q1 q2 q2'
  have HF:=Lib.hid (fun q a=>fail_calls (w.drewN q) b A l.length c s (At.drewN h q) 4 a)
  have hfin:∀ q a,At ((w.drewN q).setCell ⟨b,2,none⟩ (.int .i64 a)) b A l.length c { s with p:=a }∧Chg (fun k=>k=b) w ((w.drewN q).setCell ⟨b,2,none⟩ (.int .i64 a)):=fun q a =>
   ⟨Blk.set (At.drewN h q) 2 _,Chg.set (S:=fun k=>k=b) ((Chg.refl _ w).drewN q) 2 (.inl rfl) _⟩
  have HS:=Lib.hid hfin
  clear h hr hfin hb hl hbe he
  generalize (parse l s.p).1=v at *
  generalize (parse l s.p).2.1=to_ at *
  generalize (parse l s.p).2.2=ok at *
  generalize l.length=n at *
  go_enter Try.func67,Try.ntmps67
  go_wp2_with (go_at_call 64;refine HI.out.mono ?_;rintro r w' ⟨rfl,rfl⟩)
  cases ok
  ·go_quiet ((go_at_call 74;exact Calls.quiet_of ((HP.out _).mono fun _ _ hh=>⟨hh.1,hh.2.out⟩)))
   go_wp2_with fail
   refine (HF.out _ _).mono ?_
   rintro r w' ⟨rfl,h1,h2⟩
   go_wp2
   go_ret
   exact ⟨rfl,h1,chgN h2⟩
  ·go_quiet ((go_at_call 74;exact Calls.quiet_of ((HP.out _).mono fun _ _ hh=>⟨hh.1,hh.2.out⟩)))
   have q2'':=q2' nq
   have f2'':=f2' nq
   go_wp2
   go_ret
   exact ⟨rfl,HS.out _ _⟩
 ·have hbe:(s.e == 0)=false:=by simp [he]
  rw [hbe] at HI
  rw [if_neg he]
  have H:=Lib.hid h
  clear h hr hbe he hb hl hc
  go_enter Try.func67,Try.ntmps67
  go_wp2_with (go_at_call 64;refine HI.out.mono ?_;rintro r w' ⟨rfl,rfl⟩)
  go_ret
  exact ⟨rfl,H.out,Chg.refl _ _⟩
theorem C_nil (w:World) (k:IntKind):Kd.C (Kd.int k) w none 0 ([]:List Int) :=
 Kd.C_of_reads (enc:=Value.int k) (d:=(0:Int)) (h1:=fun _=>rfl) ⟨rfl,by simp,fun h=>by simp at h⟩
theorem chgB {w w1 w':World} {b:Nat} (h:Below w.heap.size w w1) (hc:Chg (fun k=>k=b) w1 w'):Chg (fun k=>k=b) w w':=(Chg.of_below h).trans hc
theorem list_own (l:List Int) (a:Int) (A:Option Addr) (c:Nat) (w:World) (hr:Kd.C (Kd.int .u8) w A l.length l) (hc:l.length≤c) (hb:Bytes l) (hl:(l.length:Int)≤17592186044416) :
 Calls Try.prog 75 #[.slice A l.length c,.int .i64 a] w fun e w'=>∃ v,e=.returned (.tuple #[v,.int .i64 (list l a).2.1,.bool (list l a).2.2])∧Kd.R (Kd.int .i64) 3 w' w.heap.size (fun _=>True) v (list l a).1∧Below w.heap.size w w' :=
 PEncodeBack.digits_List.calls _ A c l a _ _ _ w hr hc (list_f l hb hl a _ (Nat.le_refl _))
theorem own_set {w1:World} {e base b:Nat} {v:Value} {L:List Int} (h:Kd.R (Kd.int .i64) e w1 base (fun _=>True) v L) (hb:b < base) (j:Nat) (u:Value):Kd.R (Kd.int .i64) e (w1.setCell ⟨b,j,none⟩ u) base (fun _=>True) v L :=
 Kd.R_mono (Kd.R_far (p:=⟨b,j,none⟩) (Kd.R_bound h) (fun k hk=>by have:=hk.2.1;simp;omega) u) (fun _ _=>trivial)
def Lists (w:World) (base:Nat) (r:Ending) (L:List Int):Prop:=∃ v,r=.returned v∧Kd.R (Kd.int .i64) 3 w base (fun _=>True) v L
theorem lists_nil (w:World) (base:Nat):Lists w base (.returned (.slice none 0 0)) []:=⟨_,rfl,Kd.R_nil _ _ _ _ _⟩
theorem lists_own {w1:World} {base b:Nat} {v:Value} {L:List Int} (h:Kd.R (Kd.int .i64) 3 w1 base (fun _=>True) v L) (hb:b < base) (j:Nat) (u:Value):Lists (w1.setCell ⟨b,j,none⟩ u) base (.returned v) L:=⟨v,rfl,own_set h hb j u⟩
set_option maxRecDepth 100000 in
set_option maxHeartbeats 1000000 in
theorem nums_calls (w:World) (b:Nat) (A:Option Addr) (l:List Int) (c:Nat) (s:Cr) (h:At w b A l.length c s) (hr:Kd.C (Kd.int .u8) w A l.length l) (hc:l.length≤c) (hb:Bytes l) (hl:(l.length:Int)≤17592186044416) :
 Calls Try.prog 69 #[.pointer (some ⟨b,0,none⟩)] w fun r w'=>Lists w' w.heap.size r (nums_ l s).2∧At w' b A l.length c (nums_ l s).1∧Chg (fun k=>k=b) w w':=by
 have HI:=Lib.hid (goes_calls w b A l.length c s.p s.e s.x h)
 unfold nums_
 by_cases he:s.e=0
 ·have hbe:(s.e == 0)=true:=by simp [he]
  rw [hbe] at HI
  rw [if_pos he]
  have HP:=Lib.hid (list_own l s.p A c w.drew (Kd.C_below hr ((Below.refl w.heap.size w).drew)) hc hb hl)
  have q1:=Blk.cell h 1
  have q2:=Blk.cell h 2
  simp only [cells,List.getElem?_cons_zero,List.getElem?_cons_succ] at q1 q2
  have q1':w.drew.cell? ⟨b,1,none⟩=some (.slice A l.length c):=q1
  have q2':w.drew.cell? ⟨b,2,none⟩=some (.int .i64 s.p):=q2
  have hbs:=h.lt
  have hat:∀ w1,Below w.heap.size w.drew w1→At w1 b A l.length c s:=fun w1 hb=>Blk.below (w:=w) h ⟨hb.os,hb.tape,hb.output,hb.size,hb.block⟩ hbs
  have hbw:∀ w1,Below w.heap.size w.drew w1→Below w.heap.size w w1:=fun w1 hb=>⟨hb.os,hb.tape,hb.output,hb.size,hb.block⟩
  have HAT:=Lib.hid hat
  have HBW:=Lib.hid hbw
  clear h hr hb hl hbe he hat hbw
  generalize (list l s.p).1=v at *
  generalize (list l s.p).2.1=to_ at *
  generalize (list l s.p).2.2=ok at *
  generalize l.length=n at *
  go_enter Try.func69,Try.ntmps69
  go_wp2_with (go_at_call 64;refine HI.out.mono ?_;rintro r w' ⟨rfl,rfl⟩)
  cases ok
  ·go_region_with (go_at_call 75;refine HP.out.mono ?_;rintro r w1 ⟨v1,rfl,hR,hbl⟩)
   all_goals
    have HF:=Lib.hid (fail_calls w1 b A n c s (HAT.out w1 hbl) 4 to_)
    go_wp2_with fail
    refine HF.out.mono ?_
    rintro r w' ⟨rfl,h1,h2⟩
    go_wp2
    go_ret
    exact ⟨lists_nil _ _,h1,chgB (HBW.out w1 hbl) h2⟩
  ·go_region_with (go_at_call 75;refine HP.out.mono ?_;rintro r w1 ⟨v1,rfl,hR,hbl⟩)
   all_goals
    have ha:=HAT.out w1 hbl
    have r2:=Blk.cell ha 2
    have g2:=Blk.free ha 2
    simp only [cells,List.getElem?_cons_zero,List.getElem?_cons_succ] at r2
    have HA:=Lib.hid ha
    clear ha
    go_wp2
    go_ret
    exact ⟨lists_own hR hbs 2 _,Blk.set HA.out 2 _,chgB (HBW.out w1 hbl) (Chg.set (S:=fun k=>k=b) (Chg.refl _ w1) 2 (.inl rfl) _)⟩
 ·have hbe:(s.e == 0)=false:=by simp [he]
  rw [hbe] at HI
  rw [if_neg he]
  have H:=Lib.hid h
  clear h hr hbe he hb hl hc
  go_enter Try.func69,Try.ntmps69
  go_wp2_with (go_at_call 64;refine HI.out.mono ?_;rintro r w' ⟨rfl,rfl⟩)
  go_ret
  exact ⟨lists_nil _ _,H.out,Chg.refl _ _⟩
end Cur
end Go.Proofs.Ytlcioegdmopppaa
set_option linter.unusedVariables false
set_option linter.unusedSimpArgs false
namespace Go.Proofs.Ytlcioegdmopppaa
open Go.RowKit Go.Proofs.YtlcioegdmopppaaW.PrintWords
namespace Cur
theorem listGo_to (l:List Int):∀ (d:Nat) (a:Int) (out:List Int),0≤a→a≤l.length→a≤(listGo l d a out).2.1∧(listGo l d a out).2.1≤l.length:=by
 intro d
 induction d with
 | zero=>intro a out h0 h1;simp [listGo];omega
 | succ d ih =>
  intro a out h0 h1
  rw [listGo]
  split
  ·rename_i hc
   have ht:=parse_to l (a+1) (by omega) (by omega)
   dsimp only
   split
   ·have:=ih (parse l (a+1)).2.1 (out ++ [(parse l (a+1)).1]) (by omega) (by omega)
    omega
   ·dsimp only;omega
  ·dsimp only;omega
theorem list_to (l:List Int) (a:Int) (h0:0≤a) (h1:a≤l.length):a≤(list l a).2.1∧(list l a).2.1≤l.length:=by
 unfold list
 rw [if_neg (by omega)]
 exact listGo_to l _ a [] h0 h1
def Ok (l:List Int) (s:Cr):Prop:=0≤s.p∧s.p≤l.length
theorem ok_fail {l:List Int} {s:Cr} (h:Ok l s) (e a:Int):Ok l (fail s e a):=by
 unfold fail;split <;> exact h
theorem ok_byte {l:List Int} {s:Cr} (h:Ok l s) (y:Int):Ok l (byte l s y):=by
 unfold byte
 split
 ·rename_i hh
  have hp:s.p < l.length:=by
   have:=hh.1
   unfold peek at this
   split at this
   ·rename_i h2;exact h2.2
   ·simp at this
  exact ⟨by have:=h.1;simp only;omega,by simp only;omega⟩
 ·exact ok_fail h _ _
theorem ok_number {l:List Int} {s:Cr} (h:Ok l s):Ok l (number l s).1:=by
 have:=parse_to l s.p h.1 h.2
 unfold number
 split
 ·split
  ·exact ⟨by have:=h.1;simp only;omega,by simp only;omega⟩
  ·exact ok_fail h _ _
 ·exact h
theorem ok_nums {l:List Int} {s:Cr} (h:Ok l s):Ok l (nums_ l s).1:=by
 have:=list_to l s.p h.1 h.2
 unfold nums_
 split
 ·split
  ·exact ⟨by have:=h.1;simp only;omega,by simp only;omega⟩
  ·exact ok_fail h _ _
 ·exact h
set_option maxHeartbeats 400000 in
theorem new_calls (w:World) (A:Option Addr) (n c:Nat):Calls Try.prog 33 #[.slice A n c] w fun r w'=>r=.returned (.pointer (some ⟨w.heap.size,0,none⟩))∧At w' w.heap.size A n c ⟨0,0,0⟩∧Below w.heap.size w w':=by
 go_enter Try.func33,Try.ntmps33
 go_wp2
 go_ret
 exact ⟨rfl,Blk.new w (cells true A n c 0 0 0) _,(Below.refl w.heap.size w).alloc (Nat.le_refl _) _⟩
end Cur
end Go.Proofs.Ytlcioegdmopppaa
set_option linter.unusedVariables false
set_option linter.unusedSimpArgs false
namespace Go.Proofs.Ytlcioegdmopppaa
open Go.RowKit Go.Proofs.YtlcioegdmopppaaW.PrintWords
theorem low_append (n d:Nat) (hd:d < 10):∀ k,low (k+1) (10 * n+d)=low k n ++ [((d+48:Nat):Int)]:=by
 intro k
 induction k with
 | zero=>simp [low];omega
 | succ k ih =>
  rw [low,ih,low]
  have e:(10 * n+d) / 10 ^ (k+1)=n / 10 ^ k:=by
   rw [Nat.pow_succ,Nat.mul_comm (10 ^ k) 10,← Nat.div_div_eq_div_mul,show (10 * n+d) / 10=n from by omega]
  rw [e]
  rfl
theorem wd_append (n d:Nat) (hn:1≤n) (hd:d < 10):wd (10 * n+d)=wd n+1:=by
 rw [wd_big (by omega),show (10 * n+d) / 10=n from by omega]
theorem scan_reads (cs:List Int):∀ (n:Nat) (k:Int),n≤2147483647→(scan cs false n k).2.2=true →
 ∃ m:Nat,(scan cs false n k).1=m∧m≤2147483647∧low (wd m) m=low (wd n) n ++ cs.take ((scan cs false n k).2.1 - k).toNat:=by
 induction cs with
 | nil=>intro n k hn h;exact ⟨n,by simp [scan],hn,by simp [scan]⟩
 | cons c cs ih =>
  intro n k hn h
  simp only [scan] at h ⊢
  by_cases hc:48≤c∧c≤57
  ·rw [if_pos hc] at h ⊢
   by_cases h2:(True∧(n:Int)=0) ∨ (2147483647 - (c - 48)) / 10 < (n:Int)
   ·rw [if_pos (by simpa using h2)] at h;cases h
   ·rw [if_neg (by simpa using h2)] at h ⊢
    obtain ⟨d,hd⟩:∃ d:Nat,c=(d:Int)+48:=⟨(c - 48).toNat,by omega⟩
    have hd10:d < 10:=by omega
    have hn1:1≤n:=by
     rcases Nat.eq_zero_or_pos n with h0|h0
     ·subst h0;exact absurd (.inl ⟨trivial,rfl⟩) h2
     ·exact h0
    have e:(n:Int) * 10+(c - 48)=((10 * n+d:Nat):Int):=by omega
    rw [e] at h ⊢
    obtain ⟨m,h1,h2',h3⟩:=ih (10 * n+d) (k+1) (by omega) h
    have ht:=(scan_to cs false ((10 * n+d:Nat):Int) (k+1)).1
    refine ⟨m,h1,h2',?_⟩
    generalize (scan cs false ((10 * n+d:Nat):Int) (k+1)).2.1=tt at *
    rw [h3,wd_append n d hn1 hd10,low_append n d hd10,show (tt - k).toNat=(tt - (k+1)).toNat+1 from by omega,List.take_succ_cons,hd]
    simp
  ·rw [if_neg hc] at h ⊢
   exact ⟨n,by simp,hn,by simp⟩
theorem scan_first_reads (cs:List Int) (k:Int) (h:(scan cs true 0 k).2.2=true) :
 ∃ m:Nat,(scan cs true 0 k).1=m∧m≤2147483647∧low (wd m) m=cs.take ((scan cs true 0 k).2.1 - k).toNat:=by
 cases cs with
 | nil=>simp [scan] at h
 | cons c cs =>
  simp only [scan] at h ⊢
  by_cases hc:48≤c∧c≤57
  ·rw [if_pos hc] at h ⊢
   rw [if_neg (by simp;omega)] at h ⊢
   obtain ⟨d,hd⟩:∃ d:Nat,c=(d:Int)+48:=⟨(c - 48).toNat,by omega⟩
   have e:(0:Int) * 10+(c - 48)=(d:Int):=by omega
   rw [e] at h ⊢
   obtain ⟨m,h1,h2',h3⟩:=scan_reads cs d (k+1) (by omega) h
   have ht:=(scan_to cs false (d:Int) (k+1)).1
   refine ⟨m,h1,h2',?_⟩
   generalize (scan cs false (d:Int) (k+1)).2.1=tt at *
   rw [h3,wd_small (by omega),show (tt - k).toNat=(tt - (k+1)).toNat+1 from by omega,List.take_succ_cons,hd]
   simp [low]
   omega
  ·rw [if_neg hc] at h;simp at h
theorem parse_text (l:List Int) (a:Int) (h0:0≤a) (h1:a≤l.length) (h:(parse l a).2.2=true) :
 ∃ m:Nat,(parse l a).1=m∧m≤2147483647∧l.take (parse l a).2.1.toNat=l.take a.toNat ++ low (wd m) m:=by
 have ht:=parse_to l a h0 h1
 rw [parse_eq l a h0 h1] at h ht ⊢
 obtain ⟨m,e1,e2,e3⟩:=scan_first_reads _ _ h
 refine ⟨m,e1,e2,?_⟩
 generalize (scan (l.drop a.toNat) true 0 a).2.1=tt at *
 rw [e3,show tt.toNat=a.toNat+(tt - a).toNat from by omega,List.take_add]
namespace Cur
structure Reads (l:List Int) (s s':Cr) (st:ByteArray):Prop where
 ok:Ok l s'
 good:s'.e=0→strOfNums (l.take s.p.toNat) ++ st=strOfNums (l.take s'.p.toNat)
 bad:s'.e ≠ 0→s'.p=s.p
end Cur
end Go.Proofs.Ytlcioegdmopppaa
set_option linter.unusedVariables false
set_option linter.unusedSimpArgs false
namespace Go.Proofs.Ytlcioegdmopppaa
open Go.RowKit Go.Maps
set_option linter.unusedSectionVars false
def MapI (P:Program) (k e:TypeId) (w:World) (b n:Nat) (S:Value→Prop):Prop :=
 ∃ D:DataW Unit,w.ownsMap P k (plainElem P e) b n D∧Maps.IsMap D∧∀ v l,keyOf P k v=some l→(Maps.has D l=true ↔ S v)
section
variable {P:Program} {k e:TypeId} {w w':World} {b n:Nat} {S:Value→Prop}
theorem MapI.made (P:Program) (k e:TypeId) (w:World):MapI P k e (w.alloc (.map #[] 0)) w.heap.size 0 (fun _=>False) :=
 ⟨.map [],World.ownsMap_made w P k _,⟨[],rfl⟩,fun v l _=>by simp [Maps.has_eq]⟩
theorem MapI.lt (h:MapI P k e w b n S):b < w.heap.size:=by
 obtain ⟨D,h,_⟩:=h
 exact h.lt
theorem MapI.block (h:MapI P k e w b n S) (hb:w'.heap[b]?=w.heap[b]?):MapI P k e w' b n S:=by
 obtain ⟨D,⟨es,clock,h1,F,h2,h3⟩,hm,hD⟩:=h
 exact ⟨D,⟨es,clock,hb.trans h1,F,h2,h3⟩,hm,hD⟩
theorem MapI.below (h:MapI P k e w b n S) (hb:Below w.heap.size w w'):MapI P k e w' b n S:=h.block (hb.block b h.lt)
theorem MapI.alloc (h:MapI P k e w b n S) (o:Obj):MapI P k e (w.alloc o) b n S:=h.block (Below.heap_alloc w o b h.lt)
theorem MapI.drew (h:MapI P k e w b n S):MapI P k e w.drew b n S:=h
theorem MapI.grown {row:Option Nat} (h:MapI P k e w b n S) (hg:w.grownBy w' row) (hne:some b ≠ row):MapI P k e w' b n S:=h.block (hg.block b h.lt hne)
theorem MapI.set (h:MapI P k e w b n S) {p:Addr} (hp:b ≠ p.block) (u:Value):MapI P k e (w.setCell p u) b n S:=h.block (Below.heap_setCell w p u b hp)
theorem MapI.imp {S':Value→Prop} (h:MapI P k e w b n S) (hS:∀ v,S v ↔ S' v):MapI P k e w b n S':=by
 obtain ⟨D,h1,h2,h3⟩:=h
 exact ⟨D,h1,h2,fun v l hl=>(h3 v l hl).trans (hS v)⟩
end
section
variable {P:Program} {ops:Array Oper} {rest:List Oper} {o:Oper} {a:Act} {Q:Exit→Act→World→Prop} {w:World}
theorem wpl_ask (hg:o.guard=none) (m x:Operand) (t:TypeId) (hop:o.op=Op.lookup t m x true) (k e:TypeId) (q:IntKind) (K:Keyed P k) (ht:P.underlying t=some (.map k e)) (he:P.underlying e=some (.int q)) (hz:(zeroValue e).run P w=.ok (.int q 0) w)
 (b n:Nat) (S:Value→Prop) (hm:a.eval m=.map (some b)) (hS:MapI P k e w b n S) (key:Value) (kl:Lit) (hx:a.eval x=key) (hkey:keyOf P k key=some kl) (is:Bool) (his:is=true ↔ S key)
 (hK:∀ c:Int,wpList P ops Q rest (a.put o.dst (.tuple #[.int q c,.bool is])) w):wpList P ops Q (o :: rest) a w:=by
 obtain ⟨D,hown,hmap,hD⟩:=hS
 refine wpList_lookup_own_ok_int w hg m x t hop k e q K ht he hz b n D hm hown key kl hx hkey fun c _ _=>?_
 have:Maps.has D kl=is:=by
  have:=(hD key kl hkey).trans his.symm
  rw [Bool.eq_iff_iff];exact this
 rw [this]
 exact hK c
theorem wpl_put (hg:o.guard=none) (m x v:Operand) (t:TypeId) (hop:o.op=Op.mapUpdate t m x v) (k e:TypeId) (q:IntKind) (K:Keyed P k) (ht:P.underlying t=some (.map k e)) (he:P.underlying e=some (.int q))
 (b n:Nat) (S:Value→Prop) (hm:a.eval m=.map (some b)) (hS:MapI P k e w b n S) (hn:n < maxLen) (key:Value) (kl:Lit) (hx:a.eval x=key) (hkey:keyOf P k key=some kl) (c:Int) (hv:a.eval v=.int q c) (hwf:(Lit.int q c).wf=true)
 (hK:∀ w',MapI P k e w' b (n+1) (fun v=>v=key ∨ S v)→w.grownBy w' (some b)→wpList P ops Q rest (a.put o.dst undef) w'):wpList P ops Q (o :: rest) a w:=by
 obtain ⟨D,hown,hmap,hD⟩:=hS
 refine wpList_mapUpdate_own w hg m x v t hop k e K ht _ b n D hm hown hn key (.int q c) kl hx hv hkey (.lit (.int q c)) [] (plainElem_int he hwf) fun w' h1 h2=>hK w' ⟨_,h1,?_,fun u l hl=>?_⟩ h2
 ·obtain ⟨es,rfl⟩:=hmap
  exact ⟨_,rfl⟩
 ·by_cases e1:l=kl
  ·subst e1
   have e2:=K.inj hl hkey
   subst e2
   rw [has_put_same hmap (K.key hkey)]
   simp
  ·rw [has_put_other e1,hD u l hl]
   constructor
   ·exact Or.inr
   ·rintro (rfl|h)
    ·rw [hkey] at hl;exact absurd (Option.some.inj hl).symm e1
    ·exact h
end
end Go.Proofs.Ytlcioegdmopppaa
set_option linter.unusedVariables false
set_option linter.unusedSimpArgs false
namespace Go.Proofs.Ytlcioegdmopppaa
open Go.RowKit Go.Proofs.YtlcioegdmopppaaW.PrintWords
def Cells (w:World) (A:Option Addr) (ys:List Value):Prop:=0 < ys.length→∃ ad,A=some ad∧∀ j v,ys[j]?=some v→w.cell? (ad.add j)=some v
theorem Cells.below {w w':World} {A:Option Addr} {ys:List Value} (h:Cells w A ys) (hb:Below w.heap.size w w'):Cells w' A ys:=fun h0=>by
 obtain ⟨ad,e,hc⟩:=h h0
 exact ⟨ad,e,fun j v hv=>pw_cell_below hb (hc j v hv)⟩
theorem Cells.of_own {w:World} {base n c:Nat} {e:TypeId} {A:Option Addr} {xs:List Value} (h:w.ownsRow base e 1 (.slice A n c) n xs):Cells w A xs:=fun hn=>by
 obtain ⟨g,cap,hv,_,hlt⟩:=h.form (by have:=h.1;omega)
 have hA:A=some ⟨g,0,none⟩:=by injection hv
 subst hA
 exact ⟨_,rfl,h.cells (g:=g) rfl⟩
theorem Cells.take {w:World} {A:Option Addr} {ys:List Value} (h:Cells w A ys) (k:Nat):Cells w A (ys.take k):=fun h0=>by
 obtain ⟨ad,e,hc⟩:=h (by simp at h0;omega)
 refine ⟨ad,e,fun j v hv=>hc j v ?_⟩
 rw [List.getElem?_take] at hv
 split at hv
 ·exact hv
 ·cases hv
theorem Cells.drop {w:World} {ad:Addr} {ys:List Value} (h:Cells w (some ad) ys) (k:Nat):Cells w (some (ad.add k)) (ys.drop k):=fun h0=>by
 obtain ⟨ad',e,hc⟩:=h (by simp at h0;omega)
 injection e with e;subst e
 refine ⟨_,rfl,fun j v hv=>?_⟩
 rw [Go.Deep.add_add]
 exact hc _ v (by rwa [List.getElem?_drop] at hv)
theorem Cells.new (w:World) (cs:List Value) (t:TypeId):Cells (w.alloc (.cells cs.toArray t)) (some ⟨w.heap.size,0,none⟩) cs:=fun _ =>
 ⟨_,rfl,fun j v hv=>by simpa using World.news_of_block (cs:=cs.toArray) (t:=t) (fr:=(0,0)) (heap_alloc_new w (.cells cs.toArray t)) j v (by simpa using hv)⟩
theorem Cells.grown {W w2:World} {b:Nat} {ys:List Value} {row:Option Nat} (h:Cells W (some ⟨b,0,none⟩) ys) (hg:W.grownBy w2 row) (hb:b < W.heap.size) (hne:some b ≠ row):Cells w2 (some ⟨b,0,none⟩) ys:=fun h0=>by
 obtain ⟨ad,e,hc⟩:=h h0
 injection e with e;subst e
 refine ⟨_,rfl,fun j v hv=>?_⟩
 have hbl:((⟨b,0,none⟩:Addr).add j).block=b:=by unfold Addr.add;split <;> rfl
 rw [hg.cell_far _ (by rw [hbl];exact hb) (by rw [hbl];exact hne)]
 exact hc j v hv
section
variable {P:Program} {ops:Array Oper} {o:Oper} {a:Act} {Q:Exit→Act→World→Prop} {K:Act→World→Prop}
theorem run_app (W:World) (base:Nat) (t ty e:TypeId) (z:Value) (bytes:Nat) (ht:P.underlying t=some (.slice e)) (hinfo:(P.info? e).map (fun i=>(i.zero,i.size,i.bytes))=some (some z,1,bytes)) (hz:z.cells.size=1) (hb0:0 < bytes)
 (v:Value) (xs ys:List Value) (A:Option Addr) (m c:Nat) (hm:ys.length=m) (HO:W.ownsRow base e 1 v xs.length xs) (HR:Cells W A ys) (h1:∀ u ∈ ys,u.oneCell'=true) (hbase:base≤W.heap.size) (hl:(xs.length+m) * bytes≤140737488355328) :
 ∃ v1 w1,(Builtin.append_ #[t,t] ty #[v,.slice A m c]).run P W=.ok v1 w1∧w1.ownsRow base e 1 v1 (xs.length+m) (xs ++ ys)∧W.grownBy w1 v.ownBlock∧(v1.ownBlock=v.ownBlock ∨ ∃ b,v1.ownBlock=some b∧W.heap.size≤b):=by
 obtain ⟨i0,hi,hzz⟩:=Option.map_eq_some_iff.1 hinfo
 simp only [Prod.mk.injEq] at hzz
 obtain ⟨hz0,hz1,hz2⟩:=hzz
 have hlen:xs.length+m≤140737488355328:=Nat.le_trans (Nat.le_mul_of_pos_right _ hb0) hl
 rcases A with _|ad
 ·have h0:m=0:=by
   rcases Nat.eq_zero_or_pos m with h0|h0
   ·exact h0
   ·obtain ⟨ad,h,_⟩:=HR (by omega)
    cases h
  subst h0
  obtain rfl:ys=[]:=List.eq_nil_of_length_eq_zero hm
  refine ⟨v,W,?_,by rw [List.append_nil];exact HO,World.grownBy.refl W _,.inl rfl⟩
  rcases HO.2 with ⟨rfl,hn⟩|⟨g,cap,cur,rfl,_,_,hnc,_⟩
  ·simp [Builtin.append_,run_underlying ht,sizeOf,typeInfo,hi,Builtin.lenOf,Builtin.firstCells]
  ·simp [Builtin.append_,run_underlying ht,sizeOf,typeInfo,hi,Builtin.lenOf,Builtin.firstCells,hnc,storeCells]
 ·have hnc:∀ j u,ys[j]?=some u→W.cell? (ad.add j)=some u:=by
   intro j u hu
   have h0:0 < ys.length:=by
    rcases Nat.eq_zero_or_pos ys.length with h0|h0
    ·rw [List.eq_nil_of_length_eq_zero h0] at hu;simp at hu
    ·exact h0
   obtain ⟨ad',he,hc⟩:=HR h0
   injection he with he;subst he
   exact hc j u hu
  obtain ⟨v1,w1,hrun,h2,hg,_,hat⟩:=run_append_own_at (P:=P) W base t ty e i0 z 1 bytes ht hi hz0 hz1 hz2 hz (by omega) v xs.length xs HO ad m c ys (by rw [hm];omega) hnc h1 (by simp only [maxLen];omega) hl hbase
  refine ⟨v1,w1,hrun,h2,hg,?_⟩
  rcases hat with hat|hat
  ·exact .inl hat
  ·exact .inr ⟨_,hat,Nat.le_refl _⟩
end
section
variable {P:Program} (w:World)
end
end Go.Proofs.Ytlcioegdmopppaa
set_option linter.unusedVariables false
set_option linter.unusedSimpArgs false
namespace Go.Proofs.Ytlcioegdmopppaa.Fr
open Go.RowKit
theorem set4 {w:World} {g:Nat} {x0 x1 x2 x3:Value} {t:TypeId} (h:Blk w g [x0,x1,x2,x3] t) (a b c d:Value) :
 Blk ((((w.setCell ⟨g,0,none⟩ a).setCell ⟨g,1,none⟩ b).setCell ⟨g,2,none⟩ c).setCell ⟨g,3,none⟩ d) g [a,b,c,d] t:=(((h.set 0 a).set 1 b).set 2 c).set 3 d
theorem facts4 {w:World} {g:Nat} {a b c d:Value} {t:TypeId} (h:Blk w g [a,b,c,d] t):(w.cell? ⟨g,0,none⟩=some a∧w.cell? ⟨g,1,none⟩=some b∧w.cell? ⟨g,2,none⟩=some c∧w.cell? ⟨g,3,none⟩=some d) ∧
 w.frozen? ⟨g,0,none⟩=false∧w.frozen? ⟨g,1,none⟩=false∧w.frozen? ⟨g,2,none⟩=false∧w.frozen? ⟨g,3,none⟩=false :=
 ⟨⟨h.cell 0,h.cell 1,h.cell 2,h.cell 3⟩,h.free 0,h.free 1,h.free 2,h.free 3⟩
end Go.Proofs.Ytlcioegdmopppaa.Fr
