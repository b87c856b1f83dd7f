/- Printed by shake.py. -/
import Derived.Test.YtlcioegdmopppaaShE27
import Derived.Deep.LoopGhost
import Derived.Test.YtlcioegdmopppaaShE25
import Derived.Test.YtlcioegdmopppaaShE21
import Derived.BigQuiet
import Derived.Shelf.Abstract
import Derived.Deep.Slices
import Derived.ChangeArms
import Derived.RowKit
import Derived.Test.YtlcioegdmopppaaShE00
import Derived.Test.YtlcioegdmopppaaShE28
import Derived.Test.YtlcioegdmopppaaShE29
set_option linter.unusedSimpArgs false
namespace Go.Proofs.Ytlcioegdmopppaa.Hs
open Go.RowKit Go.Maps Go.Proofs.Ytlcioegdmopppaa.PEncodeBack Go.Proofs.YtlcioegdmopppaaW.PrintWords
open Cur (Cr At peek fail byte number nums_)
set_option linter.unusedVariables false
def To (l:List Int) (d:Int) (c c':Cr):Prop:=Cur.Ok l c→Cur.Ok l c'∧(c'.e=0→c.e=0∧c.p+d≤c'.p)
section
variable {l:List Int}
theorem To.trans {d d':Int} {a b c:Cr} (h:To l d a b) (h':To l d' b c):To l (d+d') a c:=fun ok=>by
 obtain ⟨o1,g1⟩:=h ok
 obtain ⟨o2,g2⟩:=h' o1
 exact ⟨o2,fun e=>⟨(g1 (g2 e).1).1,by have:=(g1 (g2 e).1).2;have:=(g2 e).2;omega⟩⟩
theorem To.refl (c:Cr):To l 0 c c:=fun ok=>⟨ok,fun e=>⟨e,by omega⟩⟩
theorem To.fail (c:Cr) (e a:Int):To l 0 c (fail c e a):=fun ok=>⟨Cur.ok_fail ok _ _,fun h=>⟨e_fail h,by
 unfold Cur.fail;split <;> simp⟩⟩
theorem To.byte (c:Cr) (y:Int):To l 1 c (byte l c y):=fun ok=>⟨Cur.ok_byte ok _,fun h=>⟨e_byte h,by
 unfold Cur.byte at h ⊢
 split at h
 ·next hc=>rw [if_pos hc];simp
 ·exact (e_failed (by decide) h).elim⟩⟩
theorem To.number (c:Cr):To l 0 c (number l c).1:=fun ok=>⟨Cur.ok_number ok,fun h=>⟨e_number h,by
 have:=parse_to l c.p ok.1 ok.2
 unfold Cur.number at h ⊢
 split at h
 ·split at h
  ·next h1 h2=>rw [if_pos h1,if_pos h2];simp only;omega
  ·exact (e_failed (by decide) h).elim
 ·next h1=>exact absurd h h1⟩⟩
theorem To.nums (c:Cr):To l 0 c (nums_ l c).1:=fun ok=>⟨Cur.ok_nums ok,fun h=>⟨e_nums h,by
 have:=Cur.list_to l c.p ok.1 ok.2
 unfold Cur.nums_ at h ⊢
 split at h
 ·split at h
  ·next h1 h2=>rw [if_pos h1,if_pos h2];simp only;omega
  ·exact (e_failed (by decide) h).elim
 ·next h1=>exact absurd h h1⟩⟩
theorem To.ite {d:Int} {a b b':Cr} {p:Prop} [Decidable p] (h:To l d a b) (h':To l d a b'):To l d a (if p then b else b'):=by split <;> assumption
theorem To.app1 (met:List (Int × Int)) (key:Int) (c:Cr):To l 1 c (app1 l met key c):=by
 unfold Hs.app1 Hs.app0
 exact .ite (((To.byte c 32).trans (To.number _)).trans (To.fail _ _ _)) ((To.byte c 32).trans (To.number _))
theorem To.op0 (most x:Int) (s:RS):To l 2 s.c (op0 l most x s) :=
 (((To.ite (.fail _ _ _) (.ite (.fail _ _ _) (.refl _))):To l 0 s.c (if s.h=[] then Cur.fail s.c 4 s.c.p else if most≤opsN s.h then Cur.fail s.c 3 s.c.p else s.c)).trans (.byte _ _)).trans (.byte _ _)
theorem To.op1 (most x:Int) (s:RS):To l 2 s.c (op1 l most x s):=(To.op0 most x s).trans (.number _)
theorem To.mono {d d':Int} {a b:Cr} (h:To l d a b) (hd:d'≤d):To l d' a b:=fun ok=>by
 obtain ⟨h1,h2⟩:=h ok
 exact ⟨h1,fun e=>⟨(h2 e).1,by have:=(h2 e).2;omega⟩⟩
theorem To.apps (most:Int) (s:RS):To l 1 s.c (apps l most s).c:=(((To.op1 most 97 s).trans (.app1 _ _ _)).trans (.byte _ _)).mono (by decide)
theorem To.reads (most:Int) (s:RS):To l 1 s.c (reads l most s).c:=(((To.op1 most 114 s).trans (.nums _)).trans (.byte _ _)).mono (by decide)
theorem To.txn (s:RS):To l 1 s.c (txn l s).c :=
 (((((((To.ite (.fail _ _ _) (.refl _):To l 0 s.c (if 1024≤s.h.length then Cur.fail s.c 3 s.c.p else s.c)).trans (.byte _ 116)).trans (.byte _ 32)).trans
  (To.ite ((To.number _).trans (.fail _ _ _)) (.number _):To l 0 _ (if (Cur.number l (Cur.byte l (Cur.byte l (if 1024≤s.h.length then Cur.fail s.c 3 s.c.p else s.c) 116) 32)).2 ∈ s.ids∧(Cur.number l (Cur.byte l (Cur.byte l (if 1024≤s.h.length then Cur.fail s.c 3 s.c.p else s.c) 116) 32)).1.e=0 then Cur.fail (Cur.number l (Cur.byte l (Cur.byte l (if 1024≤s.h.length then Cur.fail s.c 3 s.c.p else s.c) 116) 32)).1 5 (Cur.byte l (Cur.byte l (if 1024≤s.h.length then Cur.fail s.c 3 s.c.p else s.c) 116) 32).p else (Cur.number l (Cur.byte l (Cur.byte l (if 1024≤s.h.length then Cur.fail s.c 3 s.c.p else s.c) 116) 32)).1))).trans (.byte _ 32)).trans (.byte _ _)).trans (.byte _ 10)).mono (by decide)
theorem To.line (most:Int) (s:RS):To l 1 s.c (line l most s).c:=by
 unfold Hs.line
 split
 ·exact .apps most s
 ·split
  ·exact .reads most s
  ·split
   ·exact .txn s
   ·exact ((To.fail s.c 4 s.c.p).trans (To.txn (s.to (Cur.fail s.c 4 s.c.p)))).mono (by decide)
end
theorem op0_ok {l:List Int} {most x:Int} {s:RS} (h:(op0 l most x s).e=0):s.h ≠ []∧(opsN s.h:Int) < most:=by
 unfold op0 at h
 have:=e_byte (e_byte h)
 split at this
 ·exact (e_failed (by decide) this).elim
 ·split at this
  ·exact (e_failed (by decide) this).elim
  ·exact ⟨by assumption,by omega⟩
theorem add_len (h:List S42) (o:S39):(addOp h o).length=h.length:=by simp [addOp]
structure Inv (l:List Int) (most:Int) (s:RS) (ni nm:Nat):Prop where
 ok:Cur.Ok l s.c
 good:s.c.e=0→s.h.length≤1024∧(opsN s.h:Int)≤most∧ni≤s.h.length∧nm≤opsN s.h
def left (l:List Int) (s:RS):Nat:=if s.c.e=0 then (l.length - s.c.p).toNat+1 else 0
theorem left_line {l:List Int} {most:Int} {s:RS} (hok:Cur.Ok l s.c) (he:s.c.e=0) (hp:s.c.p < l.length):left l (line l most s) < left l s:=by
 obtain ⟨h1,h2⟩:=To.line (l:=l) most s hok
 unfold left
 rw [if_pos he]
 split
 ·next h=>have:=(h2 h).2;have:=h1.2;omega
 ·omega
theorem inv_apps {l:List Int} {most:Int} {s:RS} {ni nm:Nat} (h:Inv l most s ni nm):Inv l most (apps l most s) ni (nm+1):=by
 refine ⟨(To.apps most s h.ok).1,fun he=>?_⟩
 have h0:=op0_ok (e_number (e_app1 (e_byte he)))
 have h1:=h.good ((To.apps most s h.ok).2 he).1
 have hh:(apps l most s).h=addOp s.h ⟨false,opKey l most 97 s,appV l (op1 l most 97 s),[]⟩:=by unfold apps fin;exact if_pos he
 rw [hh,add_len,opsN_add _ _ h0.1]
 omega
theorem inv_reads {l:List Int} {most:Int} {s:RS} {ni nm:Nat} (h:Inv l most s ni nm):Inv l most (reads l most s) ni nm:=by
 refine ⟨(To.reads most s h.ok).1,fun he=>?_⟩
 have h0:=op0_ok (e_number (e_nums (e_byte he)))
 have h1:=h.good ((To.reads most s h.ok).2 he).1
 have hh:(reads l most s).h=addOp s.h ⟨true,opKey l most 114 s,0,(nums_ l (op1 l most 114 s)).2⟩:=by unfold reads fin;exact if_pos he
 rw [hh,add_len,opsN_add _ _ h0.1]
 omega
theorem txn_ok {l:List Int} {s:RS} (he:(txn l s).c.e=0):s.h.length < 1024:=by
 have h1:=e_byte (e_byte (e_byte he))
 have h2:(number l (byte l (byte l (if 1024≤s.h.length then fail s.c 3 s.c.p else s.c) 116) 32)).1.e=0:=by
  generalize byte l (byte l (if 1024≤s.h.length then fail s.c 3 s.c.p else s.c) 116) 32=d at h1 ⊢
  by_cases hc:(number l d).2 ∈ s.ids∧(number l d).1.e=0
  ·exact hc.2
  ·rw [if_neg hc] at h1;exact h1
 have h3:=e_byte (e_byte (e_number h2))
 split at h3
 ·exact (e_failed (by decide) h3).elim
 ·omega
theorem inv_txn {l:List Int} {most:Int} {s:RS} {ni nm:Nat} (h:Inv l most s ni nm):Inv l most (txn l s) (ni+1) nm:=by
 refine ⟨(To.txn s h.ok).1,fun he=>?_⟩
 have h0:=txn_ok he
 have h1:=h.good ((To.txn s h.ok).2 he).1
 have hh:(txn l s).h.length=s.h.length+1:=by simp [txn,txnFrom,txnNum,txnEnd,push]
 have hk:opsN (txn l s).h=opsN s.h:=opsN_push _ _ _
 rw [hh,hk]
 omega
theorem peek_yes {l:List Int} {s:Cr} (h:(peek l s).2=true):s.e=0∧s.p < l.length:=by
 unfold peek at h
 split at h
 ·assumption
 ·simp at h
theorem line_c {E:Env} (g:E.Good) {w:World} {v:Value} {s:RS} {ni nm:Nat} (h:RD E w v s ni nm) (hi:Inv E.l E.most s ni nm) (hp:(peek E.l s.c).2=true) :
 Calls Try.prog 34 #[.pointer (some ⟨E.b,0,none⟩)] w fun r w'=>r=.returned (.bool true)∧∃ v' ni' nm',RD E w' v' (line E.l E.most s) ni' nm'∧Inv E.l E.most (line E.l E.most s) ni' nm':=by
 obtain ⟨he,hlt⟩:=peek_yes hp
 obtain ⟨b1,b2,b3,b4⟩:=hi.good he
 have:=g.m1
 unfold line
 by_cases x1:(peek E.l s.c).1=97
 ·rw [if_pos x1]
  refine (line_a g h hi.ok (by omega) (by omega) (by omega) hp x1).mono ?_
  rintro r w1 ⟨rfl,v',h1⟩
  exact ⟨rfl,v',ni,nm+1,h1,inv_apps hi⟩
 ·rw [if_neg x1]
  by_cases x2:(peek E.l s.c).1=114
  ·rw [if_pos x2]
   refine (line_r g h hi.ok (by omega) (by omega) (by omega) hp x2).mono ?_
   rintro r w1 ⟨rfl,v',h1⟩
   exact ⟨rfl,v',ni,nm,h1,inv_reads hi⟩
  ·rw [if_neg x2]
   by_cases x3:(peek E.l s.c).1=116
   ·rw [if_pos x3]
    refine (line_t g h hi.ok (by omega) (by omega) hp x3).mono ?_
    rintro r w1 ⟨rfl,v',h1⟩
    exact ⟨rfl,v',ni+1,nm,h1,inv_txn hi⟩
   ·rw [if_neg x3]
    refine (line_o g h hi.ok (by omega) (by omega) hp ⟨x1,x2,x3⟩).mono ?_
    rintro r w1 ⟨rfl,v',h1⟩
    refine ⟨rfl,v',ni+1,nm,h1,inv_txn (s:=s.to (fail s.c 4 s.c.p)) ⟨Cur.ok_fail hi.ok _ _,fun hh=>(e_failed (by decide) hh).elim⟩⟩
end Go.Proofs.Ytlcioegdmopppaa.Hs
set_option linter.unusedSimpArgs false
namespace Go.Proofs.Ytlcioegdmopppaa.Hs
open Go.RowKit Go.Maps Go.Proofs.Ytlcioegdmopppaa.PEncodeBack Go.Proofs.YtlcioegdmopppaaW.PrintWords
open Cur (Cr At peek fail byte number nums_)
set_option linter.unusedVariables false
def last (l:List Int) (most:Int):RS:=lines l most (l.length+1) start
def decP (l:List Int) (most:Int):List S42 × Int × Int :=
 if most < 0 ∨ 4096 < most then ([],2,0) else if 262144 < l.length then ([],3,262144) else
 if (last l most).c.e=0 then ((last l most).h,0,0) else ([],(last l most).c.e,(last l most).c.x)
def DOut (w:World) (h:List S42) (e at_:Int) (r:Ending) (w':World):Prop :=
 ∃ v,r=.returned (.tuple #[.agg #[v],.int .i64 e,.int .i64 at_])∧Kd.S k42 42 w' w.heap.size (fun _=>True) v h∧Below w.heap.size w w'
theorem err_r {E:Env} {w:World} {v:Value} {s:RS} {ni nm:Nat} (h:RD E w v s ni nm):Calls Try.prog 35 #[.pointer (some ⟨E.cb,0,none⟩)] w fun r w'=>r=.returned (.tuple #[.int .i64 s.c.e,.int .i64 s.c.x])∧RD E w' v s ni nm :=
 (Cur.err_calls w E.cb E.A E.l.length E.c s.c.p s.c.e s.c.x h.cur).mono fun r w' ⟨h1,q,h2⟩=>⟨h1,by rw [h2];exact h.below (pw_below_drewN (Below.refl _ _) q)⟩
theorem peek_no {l:List Int} {s:RS} (hp:(peek l s.c).2=false) (most:Int):∀ n,lines l most n s=s
 | 0=>rfl
 | n+1=>by unfold lines;rw [hp];rfl
theorem left_no {l:List Int} {s:RS} (h:left l s=0):(peek l s.c).2=false:=by
 cases hp:(peek l s.c).2 with
 | false=>rfl
 | true =>
  have:=(peek_yes hp).1
  unfold left at h
  rw [if_pos this] at h
  omega
theorem lines_enough {l:List Int} (most:Int):∀ (n m:Nat) (s:RS),Cur.Ok l s.c→left l s≤n→left l s≤m→lines l most n s=lines l most m s
 | 0,m,s,hok,hn,hm=>by rw [peek_no (left_no (by omega)),peek_no (left_no (by omega))]
 | n+1,0,s,hok,hn,hm=>by rw [peek_no (left_no (by omega)),peek_no (left_no (by omega))]
 | n+1,m+1,s,hok,hn,hm=>by
  cases hp:(peek l s.c).2 with
  | false=>rw [peek_no hp,peek_no hp]
  | true =>
   have h1:=peek_yes hp
   have h2:=left_line (most:=most) hok h1.1 h1.2
   unfold lines
   rw [hp,if_pos rfl,if_pos rfl]
   exact lines_enough most n m _ (To.line most s hok).1 (by omega) (by omega)
theorem lines_line {l:List Int} {most:Int} {s:RS} (hok:Cur.Ok l s.c) (hp:(peek l s.c).2=true):lines l most (left l (line l most s)) (line l most s)=lines l most (left l s) s:=by
 have h1:=peek_yes hp
 have h2:=left_line (most:=most) hok h1.1 h1.2
 obtain ⟨k,hk⟩:∃ k,left l s=k+1:=⟨left l s - 1,by omega⟩
 rw [hk]
 conv=>rhs;unfold lines;rw [hp,if_pos rfl]
 exact lines_enough most _ _ _ (To.line most s hok).1 (by omega) (by omega)
theorem rd_start (w0 w1:World) (A:Option Addr) (l:List Int) (c:Nat) (most:Int) (hC:Kd.C (Kd.int .u8) w0 A l.length l) (hc:l.length≤c) (hb:Bytes l) (hl:l.length≤262144) (m0:0≤most) (m1:most≤4096)
 (hat:At w1 w0.heap.size A l.length c ⟨0,0,0⟩) (hb1:Below w0.heap.size w0 w1) :
 Env.Good ⟨w0,w1.heap.size+2,w0.heap.size,w1.heap.size,w1.heap.size+1,A,l,c,most⟩ ∧
 RD ⟨w0,w1.heap.size+2,w0.heap.size,w1.heap.size,w1.heap.size+1,A,l,c,most⟩ (((w1.alloc (.map #[] 0)).alloc (.map #[] 0)).alloc (.cells #[.pointer (some ⟨w0.heap.size,0,none⟩),.slice none 0 0,.int .i64 0,.int .i64 most,.map (some w1.heap.size),.map (some (w1.heap.size+1))] 65)) (.slice none 0 0) start 0 0:=by
 have h0:=Blk.lt hat
 have h1:=MapI.made Try.prog 3 3 w1
 have h2:=MapI.made Try.prog 106 3 (w1.alloc (.map #[] 0))
 rw [World.size_alloc] at h2
 have h3:=Blk.new ((w1.alloc (.map #[] 0)).alloc (.map #[] 0)) [.pointer (some ⟨w0.heap.size,0,none⟩),.slice none 0 0,.int .i64 0,.int .i64 most,.map (some w1.heap.size),.map (some (w1.heap.size+1))] 65
 rw [World.size_alloc,World.size_alloc] at h3
 refine ⟨⟨hC,hc,hb,hl,m0,m1,by simp only;omega,by simp only;omega,by simp only;omega,by simp only;omega,by simp only;omega,by simp only;omega,by simp only;omega,by simp only;omega,by simp only;omega,by simp only;omega⟩,⟨h3,Kd.S_nil _ _ _ _ _,?_,((h1.alloc _).alloc _).imp fun v=>by simp [IdS,start],(h2.alloc _).imp fun v=>by simp [MetS,start],?_⟩⟩
 ·exact ((Blk.alloc hat _).alloc _).alloc _
 ·exact ((hb1.alloc (by omega) _).alloc (by simp;omega) _).alloc (by simp;omega) _
theorem rd_begins (w w1:World) (A:Option Addr) (l:List Int) (c:Nat) (most:Int) (hC:Kd.C (Kd.int .u8) w A l.length l) (hc:l.length≤c) (hb:Bytes l) (hl:l.length≤262144) (m0:0≤most) (m1:most≤4096)
 (hat:At w1 (w.alloc (.cells #[.slice none 0 0] 24)).heap.size A l.length c ⟨0,0,0⟩) (hb1:Below (w.alloc (.cells #[.slice none 0 0] 24)).heap.size (w.alloc (.cells #[.slice none 0 0] 24)) w1) :
 ∃ E:Env,E.Good∧E.wO=w.alloc (.cells #[.slice none 0 0] 24)∧E.b=w1.heap.size+1+1∧E.cb=w.heap.size+1∧E.l=l∧E.most=most ∧
 RD E (((w1.alloc (.map #[] 0)).alloc (.map #[] 0)).alloc (.cells #[.pointer (some ⟨w.heap.size+1,0,none⟩),.slice none 0 0,.int .i64 0,.int .i64 most,.map (some w1.heap.size),.map (some (w1.heap.size+1))] 65)) (.slice none 0 0) start 0 0:=by
 have h0:(w.alloc (.cells #[.slice none 0 0] 24)).heap.size=w.heap.size+1:=World.size_alloc _ _
 have h:=rd_start _ w1 A l c most (Kd.C_below hC ((Below.refl _ _).alloc (Nat.le_refl _) _)) hc hb hl m0 m1 hat hb1
 rw [h0] at h
 exact ⟨_,h.1,rfl,rfl,rfl,rfl,rfl,h.2⟩
theorem use_line {E:Env} (g:E.Good) {b:Nat} {l:List Int} {most:Int} (e1:E.b=b) (e2:E.l=l) (e3:E.most=most) {wr:World} {v:Value} {s:RS} {ni nm:Nat} (hr:RD E wr v s ni nm) (hi:Inv l most s ni nm) (hp:(peek l s.c).2=true) :
 Calls Try.prog 34 #[.pointer (some ⟨b,0,none⟩)] wr fun r w'=>r=.returned (.bool true)∧∃ v' ni' nm',RD E w' v' (line l most s) ni' nm'∧Inv l most (line l most s) ni' nm':=by
 subst e1 e2 e3;exact line_c g hr hi hp
theorem use_no {E:Env} (g:E.Good) {b:Nat} {l:List Int} (e1:E.b=b) (e2:E.l=l) {wr:World} {v:Value} {s:RS} {ni nm:Nat} (hr:RD E wr v s ni nm) (hok:Cur.Ok l s.c) (hp:(peek l s.c).2=false) :
 Calls Try.prog 34 #[.pointer (some ⟨b,0,none⟩)] wr fun r w'=>r=.returned (.bool false)∧RD E w' v s ni nm:=by
 subst e1 e2;exact line_no g hr hok hp
theorem use_err {E:Env} {cb:Nat} (e1:E.cb=cb) {wr:World} {v:Value} {s:RS} {ni nm:Nat} (hr:RD E wr v s ni nm) :
 Calls Try.prog 35 #[.pointer (some ⟨cb,0,none⟩)] wr fun r w'=>r=.returned (.tuple #[.int .i64 s.c.e,.int .i64 s.c.x])∧RD E w' v s ni nm:=by
 subst e1;exact err_r hr
theorem use_cells {E:Env} {b cb:Nat} (e1:E.b=b) (e2:E.cb=cb) {wr:World} {v:Value} {s:RS} {ni nm:Nat} (hr:RD E wr v s ni nm):wr.cell? ⟨b,0,none⟩=some (.pointer (some ⟨cb,0,none⟩))∧wr.cell? ⟨b,1,none⟩=some v:=by
 subst e1 e2;exact ⟨hr.cells.1,hr.cells.2.1⟩
theorem results_row_tmps {fn:Func} {p u u2:Tmp} {ty:TypeId} (h:fn.results=#[.cell p ty,.tmp u,.tmp u2]) (tmps:Array Value) {P:Program} (w:World) (g:Nat) (t:TypeId) (cs:Array Value) (fr:Nat × Nat) (d:TypeDesc)
 (hp:tmps.getD p undef=.pointer (some ⟨g,0,none⟩)) (hg:w.heap[g]?=some (.cells cs t fr))
 (hd:(match d with|.struct _|.array _ _=>true|_=>false)=true) (hu:P.underlying ty=some d) (hi:(P.info? ty).map (·.size)=some cs.size) :
 (results fn tmps).run P w=.ok (.tuple #[.agg cs,tmps.getD u undef,tmps.getD u2 undef]) w:=by
 have ha:(asAddr (.pointer (some ⟨g,0,none⟩))).run P w=.ok ⟨g,0,none⟩ w:=rfl
 have hc:(results fn tmps).run P w=((asAddr (tmps.getD p undef)).run P w).andThen fun a w₁=>((loadVar ty a).run P w₁).andThen fun v w₂=>.ok (.tuple #[v,tmps.getD u undef,tmps.getD u2 undef]) w₂:=by
  simp only [results,h]
  simp [Sem.run_bind,Result.andThen]
 rw [hc,hp,ha,Result.andThen_ok,run_loadVar_row w g t ty cs fr d hg hu (by cases d <;> simp_all) hi,Result.andThen_ok]
theorem hist_info:(Try.prog.info? 24).map (·.size)=some 1:=by kernel_rfl
theorem dout_set {w wr:World} {v:Value} {h:List S42} {ok:Nat→Prop} (h1:Kd.S k42 42 wr (w.heap.size+1) ok v h) (hb:Below w.heap.size w wr) (e x:Int) :
 DOut w h e x (.returned (.tuple #[.agg #[v],.int .i64 e,.int .i64 x])) (wr.setCell ⟨w.heap.size,0,none⟩ v) :=
 ⟨v,rfl,Kd.S_mono (Kd.S_lower (Kd.S_far (Kd.S_bound h1) (fun k hk=>by have:=hk.2.1;simp only;omega) v) (Nat.le_succ _)) (fun _ _=>trivial),bset (Nat.le_refl _) hb⟩
theorem dout_none {w wr:World} (hb:Below w.heap.size w wr) (e x:Int) :
 DOut w [] e x (.returned (.tuple #[.agg #[.slice none 0 0],.int .i64 e,.int .i64 x])) (wr.setCell ⟨w.heap.size,0,none⟩ (.slice none 0 0)) :=
 ⟨_,rfl,Kd.S_nil _ _ _ _ _,bset (Nat.le_refl _) hb⟩
theorem last_is {l:List Int} {most:Int} {s:RS} (hp:(peek l s.c).2=false) (hL:lines l most (left l s) s=last l most):last l most=s:=by
 rw [← hL,peek_no hp]
theorem inv_start (l:List Int) (most:Int) (m0:0≤most):Inv l most start 0 0:=⟨⟨by simp [start],by simp [start]⟩,fun _=>by simp [start,opsN];exact m0⟩
theorem left_start (l:List Int):left l start=l.length+1:=by simp [left,start]
theorem RD.ends {E:Env} {wr:World} {v:Value} {s:RS} {ni nm:Nat} (hr:RD E wr v s ni nm) (w:World) (h0:E.wO=w.alloc (.cells #[.slice none 0 0] 24)) :
 Below w.heap.size w wr∧Blk wr w.heap.size [.slice none 0 0] 24∧Kd.S k42 42 wr (w.heap.size+1) (Ok4 E.b E.cb E.ib E.mb) v s.h:=by
 have hb:=hr.bel
 have hS:=hr.row
 rw [h0] at hb hS
 rw [World.size_alloc] at hb hS
 exact ⟨((Below.refl _ _).alloc (Nat.le_refl _) _).trans (hb.mono (Nat.le_succ _)),(Blk.new w [.slice none 0 0] 24).below ((Below.mono (B:=w.heap.size+1) hb (by rw [World.size_alloc];exact Nat.le_refl _):Below (w.alloc (.cells #[.slice none 0 0] 24)).heap.size _ _)) (by rw [World.size_alloc];omega),hS⟩
set_option maxHeartbeats 800000 in
theorem decode_main (w:World) (A:Option Addr) (l:List Int) (c:Nat) (most:Int) (hC:Kd.C (Kd.int .u8) w A l.length l) (hc:l.length≤c) (hb:Bytes l) (hl:l.length≤262144) (m0:0≤most) (m1:most≤4096) :
 Calls Try.prog 20 #[.slice A l.length c,.int .i64 most] w (DOut w (decP l most).1 (decP l most).2.1 (decP l most).2.2):=by
 have hli:¬ (262144:Int) < l.length:=by omega
 have hm0:¬ most < 0:=by omega
 have hm1:¬ 4096 < most:=by omega
 have HS:=Lib.hid (fun (w1:World) (hat:At w1 (w.alloc (.cells #[.slice none 0 0] 24)).heap.size A l.length c ⟨0,0,0⟩) (hb1:Below (w.alloc (.cells #[.slice none 0 0] 24)).heap.size (w.alloc (.cells #[.slice none 0 0] 24)) w1)=>rd_begins w w1 A l c most hC hc hb hl m0 m1 hat hb1)
 have HI0:=Lib.hid (inv_start l most m0)
 have HP1:=Lib.hid (fun he:(last l most).c.e=0=>show decP l most=((last l most).h,0,0) by unfold decP;rw [if_neg (by omega),if_neg (by omega),if_pos he])
 have HP2:=Lib.hid (fun he:¬ (last l most).c.e=0=>show decP l most=([],(last l most).c.e,(last l most).c.x) by unfold decP;rw [if_neg (by omega),if_neg (by omega),if_neg he])
 have hmm:=@run_makeMap Try.prog
 clear hC hc hb m0 m1
 generalize decP l most=dp at *
 go_enter Try.func20,Try.ntmps20
 go_wp2_with fail
 refine (Cur.new_calls _ A l.length c).mono ?_
 rintro r w1 ⟨rfl,hat,hb1⟩
 obtain ⟨E,g,e0,e1,e2,e3,e4,h⟩:=HS.out w1 hat hb1
 have HL:=Lib.hid (fun (wr:World) (v:Value) (s:RS) (ni nm:Nat) (hr:RD E wr v s ni nm) (hi:Inv l most s ni nm) (hp:(peek l s.c).2=true)=>use_line g e1 e3 e4 hr hi hp)
 have HN:=Lib.hid (fun (wr:World) (v:Value) (s:RS) (ni nm:Nat) (hr:RD E wr v s ni nm) (hok:Cur.Ok l s.c) (hp:(peek l s.c).2=false)=>use_no g e1 e3 hr hok hp)
 have HER:=Lib.hid (fun (wr:World) (v:Value) (s:RS) (ni nm:Nat) (hr:RD E wr v s ni nm)=>use_err e2 hr)
 have HX:=Lib.hid (fun (wr:World) (v:Value) (s:RS) (ni nm:Nat) (hr:RD E wr v s ni nm)=>hr.ends w e0)
 have HX2:=Lib.hid (fun (wr:World) (v:Value) (s:RS) (ni nm:Nat) (hr:RD E wr v s ni nm)=>use_cells e1 e2 hr)
 have H:=Lib.hid h
 clear g h hat hb1 HS e0 e1 e2 e3 e4
 go_wp2_with fail
 clear hmm
 go_loopg [] (l.length+1) (fun g wr=>∃ v s ni nm,Aside (RD E wr v s ni nm∧Inv l most s ni nm∧left l s≤g∧lines l most (left l s) s=last l most))
 case atStart=>exact ⟨_,_,_,_,H.out,HI0.out,by rw [left_start];exact Nat.le_refl _,by rw [left_start];rfl⟩
 case round =>
  obtain ⟨v,s,ni,nm,HR⟩:=hrel
  have hr:=HR.out
  cases hp:(peek l s.c).2 with
  | true =>
   go_wp2_with fail
   refine (HL.out _ _ _ _ _ hr.1 hr.2.1 hp).mono ?_
   rintro r w2 ⟨rfl,v2,ni2,nm2,h2,i2⟩
   have hnext:Aside (RD E w2 v2 (line l most s) ni2 nm2∧Inv l most (line l most s) ni2 nm2∧left l (line l most s)≤gk - 1∧lines l most (left l (line l most s)) (line l most s)=last l most∧0 < gk):=by
    have hq:=peek_yes hp
    have:=left_line (most:=most) hr.2.1.ok hq.1 hq.2
    have h3:=hr.2.2.1
    exact ⟨h2,i2,by omega,by rw [lines_line hr.2.1.ok hp];exact hr.2.2.2,by omega⟩
   clear hr h2 i2 hp
   go_wp2
   have hg:0 < gk:=hnext.out.2.2.2.2
   go_roundg (gk - 1)
   case measure=>omega
   case rel=>exact ⟨v2,line l most s,ni2,nm2,hnext.out.1,hnext.out.2.1,hnext.out.2.2.1,hnext.out.2.2.2.1⟩
  | false =>
   go_wp2_with fail
   refine (HN.out _ _ _ _ _ hr.1 hr.2.1.ok hp).mono ?_
   rintro r w2 ⟨rfl,h2⟩
   have hls:=last_is hp hr.2.2.2
   have HP1':=Lib.hid (fun he=>HP1.out he)
   have HP2':=Lib.hid (fun he=>HP2.out he)
   rw [hls] at HP1' HP2'
   clear hr hp HP1 HP2 hls
   obtain ⟨x0,x1⟩:=HX2.out _ _ _ _ _ h2
   have HR2:=Lib.hid h2
   clear h2
   go_wp2_with fail
   refine (HER.out _ _ _ _ _ HR2.out).mono ?_
   rintro r w3 ⟨rfl,h3⟩
   obtain ⟨y0,y1⟩:=HX2.out _ _ _ _ _ h3
   obtain ⟨y2,y3,y4⟩:=HX.out _ _ _ _ _ h3
   obtain ⟨A3,c3,rfl,-,-⟩:=Kd.S_reads y4
   have y5:=y3.free 0
   have y6:=y3.cell 0
   simp only [List.getElem?_cons_zero] at y6
   have HA:=Lib.hid (fun e x=>dout_set y4 y2 e x)
   have HA0:=Lib.hid (fun e x=>dout_none y2 e x)
   have HB:=Lib.hid (fun u=>y3.set 0 u)
   clear y4 y2 y3 h3 HX HX2 HER HN HL H HI0
   by_cases he:s.c.e=0
   ·have hdp:=HP1'.out he
    have HF:=Lib.hid (HA.out 0 0)
    have e1:s.h=dp.1:=by rw [hdp]
    have e2:dp.2.1=0:=by rw [hdp]
    have e3:dp.2.2=0:=by rw [hdp]
    have HFF:=Lib.hid (show DOut w dp.1 dp.2.1 dp.2.2 _ _ from by rw [e2,e3,← e1];exact HF.out)
    rw [he]
    clear e1 e2 e3
    clear hdp HP1' HP2' HA HA0 he
    go_wp2
    exact bodyPost_ret (results_row_tmps (u:=5) (u2:=6) rfl _ _ w.heap.size _ _ (0,0) _ rfl (HB.out _) rfl Try.underlying24 hist_info) rfl HFF.out
   ·have hdp:=HP2'.out he
    have HF:=Lib.hid (HA0.out s.c.e s.c.x)
    have e1:dp.1=[]:=by rw [hdp]
    have e2:dp.2.1=s.c.e:=by rw [hdp]
    have e3:dp.2.2=s.c.x:=by rw [hdp]
    have HFF:=Lib.hid (show DOut w dp.1 dp.2.1 dp.2.2 _ _ from by rw [e2,e3,e1];exact HF.out)
    clear e1 e2 e3
    have hne:(s.c.e != 0)=true:=by simp [he]
    clear hdp HP1' HP2' HA HA0 he
    go_wp2
    exact bodyPost_ret (results_row_tmps (u:=5) (u2:=6) rfl _ _ w.heap.size _ _ (0,0) _ rfl (HB.out _) rfl Try.underlying24 hist_info) rfl HFF.out
set_option maxHeartbeats 800000 in
theorem decode_low (w:World) (A:Option Addr) (n c:Nat) (most:Int) (h:most < 0) :
 Calls Try.prog 20 #[.slice A n c,.int .i64 most] w (DOut w [] 2 0):=by
 have HB:=Blk.new w [.slice none 0 0] 24
 have HF:Hid (DOut w [] 2 0 (.returned (.tuple #[.agg #[.slice none 0 0],.int .i64 2,.int .i64 0])) (w.alloc (.cells #[.slice none 0 0] 24))):=Lib.hid ⟨_,rfl,Kd.S_nil _ _ _ _ _,(Below.refl _ _).alloc (Nat.le_refl _) _⟩
 have HBL:=Lib.hid HB
 have y5:=HB.free 0
 have y6:=HB.cell 0
 simp only [List.getElem?_cons_zero] at y6
 clear HB
 go_enter Try.func20,Try.ntmps20
 go_wp2
 exact bodyPost_ret (results_row_tmps (u:=5) (u2:=6) rfl _ _ w.heap.size _ _ (0,0) _ rfl HBL.out rfl Try.underlying24 hist_info) rfl HF.out
set_option maxHeartbeats 800000 in
theorem decode_high (w:World) (A:Option Addr) (n c:Nat) (most:Int) (h:4096 < most) :
 Calls Try.prog 20 #[.slice A n c,.int .i64 most] w (DOut w [] 2 0):=by
 have HB:=Blk.new w [.slice none 0 0] 24
 have HF:Hid (DOut w [] 2 0 (.returned (.tuple #[.agg #[.slice none 0 0],.int .i64 2,.int .i64 0])) (w.alloc (.cells #[.slice none 0 0] 24))):=Lib.hid ⟨_,rfl,Kd.S_nil _ _ _ _ _,(Below.refl _ _).alloc (Nat.le_refl _) _⟩
 have HBL:=Lib.hid HB
 have y5:=HB.free 0
 have y6:=HB.cell 0
 simp only [List.getElem?_cons_zero] at y6
 clear HB
 have hn:¬ most < 0:=by omega
 go_enter Try.func20,Try.ntmps20
 go_wp2
 exact bodyPost_ret (results_row_tmps (u:=5) (u2:=6) rfl _ _ w.heap.size _ _ (0,0) _ rfl HBL.out rfl Try.underlying24 hist_info) rfl HF.out
set_option maxHeartbeats 800000 in
theorem decode_long (w:World) (A:Option Addr) (n c:Nat) (most:Int) (m0:0≤most) (m1:most≤4096) (h:(262144:Int) < n) :
 Calls Try.prog 20 #[.slice A n c,.int .i64 most] w (DOut w [] 3 262144):=by
 have HB:=Blk.new w [.slice none 0 0] 24
 have HF:Hid (DOut w [] 3 262144 (.returned (.tuple #[.agg #[.slice none 0 0],.int .i64 3,.int .i64 262144])) (w.alloc (.cells #[.slice none 0 0] 24))):=Lib.hid ⟨_,rfl,Kd.S_nil _ _ _ _ _,(Below.refl _ _).alloc (Nat.le_refl _) _⟩
 have HBL:=Lib.hid HB
 have y5:=HB.free 0
 have y6:=HB.cell 0
 simp only [List.getElem?_cons_zero] at y6
 clear HB
 have hn:¬ most < 0:=by omega
 have hn2:¬ 4096 < most:=by omega
 go_enter Try.func20,Try.ntmps20
 go_wp2
 exact bodyPost_ret (results_row_tmps (u:=5) (u2:=6) rfl _ _ w.heap.size _ _ (0,0) _ rfl HBL.out rfl Try.underlying24 hist_info) rfl HF.out
theorem decode_c (w:World) (A:Option Addr) (l:List Int) (c:Nat) (most:Int) (hC:Kd.C (Kd.int .u8) w A l.length l) (hc:l.length≤c) (hb:Bytes l) :
 Calls Try.prog 20 #[.slice A l.length c,.int .i64 most] w (DOut w (decP l most).1 (decP l most).2.1 (decP l most).2.2):=by
 by_cases h1:most < 0 ∨ 4096 < most
 ·have e:decP l most=([],2,0):=by unfold decP;rw [if_pos h1]
  rw [e]
  rcases h1 with h1|h1
  ·exact decode_low w A _ c most h1
  ·exact decode_high w A _ c most h1
 ·by_cases h2:262144 < l.length
  ·have e:decP l most=([],3,262144):=by unfold decP;rw [if_neg h1,if_pos h2]
   rw [e]
   exact decode_long w A _ c most (by omega) (by omega) (by omega)
  ·exact decode_main w A l c most hC hc hb (by omega) (by omega) (by omega)
end Go.Proofs.Ytlcioegdmopppaa.Hs
set_option linter.unusedSimpArgs false
namespace Go.Proofs.Ytlcioegdmopppaa.Hs
open Go.RowKit Go.Lib Go.Proofs.Ytlcioegdmopppaa.PEncodeBack Go.Proofs.YtlcioegdmopppaaW.PrintWords
set_option linter.unusedVariables false
theorem rd39 {l:List S39} {i:Nat} (h:i < l.length):rd_T39 l (i:Int)=l[i]:=by
 simp [rd_T39,List.getD_eq_getElem?_getD,List.getElem?_eq_getElem h]
theorem rd42 {l:List S42} {i:Nat} (h:i < l.length):rd_T42 l (i:Int)=l[i]:=by
 simp [rd_T42,List.getD_eq_getElem?_getD,List.getElem?_eq_getElem h]
theorem rdI {l:List Int} {i:Nat} (h:i < l.length):rd l (i:Int)=l[i]:=by
 simp [rd,List.getD_eq_getElem?_getD,List.getElem?_eq_getElem h]
theorem wrapS {i n:Nat} (h:i < n) (hn:n≤1152921504606846976):wrap64 ((i:Int)+1)=((i+1:Nat):Int):=by unfold wrap64;omega
def big:Nat:=1152921504606846976
theorem link {w a b:World} (h:Below w.heap.size w a) (k:Below a.heap.size a b):Below w.heap.size w b:=h.trans (k.mono h.size)
def eqL {α:Type} (R:α→α→Bool):List α→List α→Bool
 | [],[]=>true
 | x :: xs,y :: ys=>R x y && eqL R xs ys
 | _,_=>false
def eqI (a b:Int):Bool:=decide (a=b)
def eqO (x y:S39):Bool:=(x.f0 == y.f0) && (decide (x.f1=y.f1) && (decide (x.f2=y.f2) && eqL eqI x.f3 y.f3))
def eqT (x y:S42):Bool:=decide (x.f0=y.f0) && ((x.f1 == y.f1) && eqL eqO x.f2 y.f2)
def eqH (x y:List S42):Bool:=eqL eqT x y
section
variable {α:Type} {R:α→α→Bool}
theorem eqL_len:∀ {xs ys:List α},xs.length ≠ ys.length→eqL R xs ys=false
 | [],[],h=>absurd rfl h
 | [],_ :: _,_=>rfl
 | _ :: _,[],_=>rfl
 | x :: xs,y :: ys,h=>by
  unfold eqL
  rw [eqL_len (xs:=xs) (ys:=ys) (fun e=>h (by simp [e])),Bool.and_false]
theorem eqL_drop {xs ys:List α} {k:Nat} (hx:k < xs.length) (hy:k < ys.length):eqL R (xs.drop k) (ys.drop k)=(R xs[k] ys[k] && eqL R (xs.drop (k+1)) (ys.drop (k+1))):=by
 rw [List.drop_eq_getElem_cons hx,List.drop_eq_getElem_cons hy]
 rfl
theorem eqL_end {xs ys:List α} {k:Nat} (h:xs.length=ys.length) (hk:xs.length≤k):eqL R (xs.drop k) (ys.drop k)=true:=by
 rw [List.drop_eq_nil_of_le hk,List.drop_eq_nil_of_le (by omega)]
 rfl
end
set_option maxHeartbeats 1000000 in
set_option maxRecDepth 100000 in
theorem equal_c (w:World) (l m:List Int) (A B:Option Addr) (c d:Nat) (hl:Kd.C (Kd.int .i64) w A l.length l) (hm:Kd.C (Kd.int .i64) w B m.length m) (hb:l.length≤big) :
 Calls Try.prog 60 #[.slice A l.length c,.slice B m.length d] w fun e w'=>e=.returned (.bool (eqL eqI l m))∧Below w.heap.size w w':=by
 by_cases hlen:l.length=m.length
 ·have HR:=Lib.hid hl
  have HM:=Lib.hid hm
  obtain ⟨N,hN⟩:∃ N,l.length=N:=⟨_,rfl⟩
  have hNb:N≤1152921504606846976:=by rw [← hN];exact hb
  have HN:=Lib.hid hN
  have HN2:Hid (m.length=N):=Lib.hid (by omega)
  rw [hN] at HR
  rw [HN2.out] at HM
  clear hl hm hb hN hlen
  rw [HN.out,HN2.out]
  obtain ⟨D,hD⟩:∃ D,eqL eqI l m=D:=⟨_,rfl⟩
  have HD:=Lib.hid hD
  rw [hD]
  clear hD
  go_enter Try.func60,Try.ntmps60
  go_wp2
  go_loopw [5,13] (fun _ v13 wr=>∃ k:Nat,k≤N∧v13=.int .i64 k∧Aside (eqL eqI (l.drop k) (m.drop k)=D∧Below w.heap.size w wr)) (fun _ v13 _=>N - (intOf v13).toNat)
  case atStart=>exact ⟨0,by omega,rfl,HD.out,Below.refl _ _⟩
  case round =>
   obtain ⟨k,hk,rfl,HA⟩:=hrel
   by_cases hlt:k < N
   ·have hkl:k < l.length:=by rw [HN.out];exact hlt
    have hkm:k < m.length:=by rw [HN2.out];exact hlt
    obtain ⟨ad,rfl,hc⟩:=Kd.at_int (Kd.C_below HR.out HA.out.2) (k:Int) (by omega) (by omega)
    obtain ⟨bd,rfl,hc2⟩:=Kd.at_int (Kd.C_below HM.out HA.out.2) (k:Int) (by omega) (by omega)
    rw [rdI hkl,Int.toNat_natCast] at hc
    rw [rdI hkm,Int.toNat_natCast] at hc2
    have hlti:(k:Int) < N:=by omega
    have HE:=Lib.hid HA.out.1
    rw [eqL_drop hkl hkm] at HE
    have HBW:=Lib.hid HA.out.2
    clear HA
    by_cases hxy:l[k]=m[k]
    ·have e:eqI l[k] m[k]=true:=by unfold eqI;exact decide_eq_true hxy
     rw [e,Bool.true_and] at HE
     clear e
     rw [← hxy] at hc2
     clear hxy
     generalize l[k]=x at *
     go_wp2_with fail
     go_quiet (fail)
     have hdn:=HBW.out
     go_wp2
     go_roundw
     case rel=>exact ⟨k+1,by omega,by go_num,HE.out,pw_below_drewN HBW.out _⟩
     case measure=>simp [intOf];omega
    ·have e:eqI l[k] m[k]=false:=by unfold eqI;exact decide_eq_false hxy
     rw [e,Bool.false_and] at HE
     have hne:(l[k] != m[k])=true:=by simp [hxy]
     clear e hxy
     generalize l[k]=x at *
     generalize m[k]=y at *
     go_wp2_with fail
     go_quiet (fail)
     go_wp2
     go_ret
     exact ⟨by rw [← HE.out];rfl,pw_below_drewN HBW.out _⟩
   ·have hlti:¬ (k:Int) < N:=by omega
    have HE:=Lib.hid HA.out
    have hfin:eqL eqI (l.drop k) (m.drop k)=true:=eqL_end (by rw [HN.out,HN2.out]) (by rw [HN.out];omega)
    rw [hfin] at HE
    clear hfin HA
    go_wp2
    go_ret
    exact ⟨by rw [← HE.out.1];rfl,HE.out.2⟩
 ·have e:=eqL_len (R:=eqI) hlen
  have hne:((l.length:Int) != (m.length:Int))=true:=by simp;omega
  rw [e]
  generalize l.length=n1 at *
  generalize m.length=n2 at *
  clear hl hm
  go_enter Try.func60,Try.ntmps60
  go_wp2
  go_ret
  exact ⟨rfl,Below.refl _ _⟩
def vOp (o:S39) (A:Option Addr) (c:Nat):Value:=.agg #[.bool o.f0,.int .i64 o.f1,.int .i64 o.f2,.slice A o.f3.length c]
set_option maxHeartbeats 1000000 in
set_option maxRecDepth 100000 in
theorem sameOp_c (w:World) (x y:S39) (A B:Option Addr) (c d:Nat) (hx:Kd.C (Kd.int .i64) w A x.f3.length x.f3) (hy:Kd.C (Kd.int .i64) w B y.f3.length y.f3) (hb:x.f3.length≤big) :
 Calls Try.prog 42 #[vOp x A c,vOp y B d] w fun e w'=>e=.returned (.bool (eqO x y))∧Below w.heap.size w w':=by
 obtain ⟨x0,x1,x2,x3⟩:=x
 obtain ⟨y0,y1,y2,y3⟩:=y
 unfold vOp eqO
 simp only at *
 have HB:Hid (Below w.heap.size w ((w.alloc (.cells #[.bool x0,.int .i64 x1,.int .i64 x2,.slice A x3.length c] 39)).alloc (.cells #[.bool y0,.int .i64 y1,.int .i64 y2,.slice B y3.length d] 39))):=Lib.hid (((Below.refl _ _).alloc (Nat.le_refl _) _).alloc (by simp) _)
 have HE:=Lib.hid (fun (W:World) (hW:Below w.heap.size w W)=>equal_c W x3 y3 A B c d (Kd.C_below hx hW) (Kd.C_below hy hW) hb)
 clear hx hy hb
 generalize x3.length=n3 at *
 generalize y3.length=m3 at *
 generalize eqL eqI x3 y3=q at *
 by_cases h0:x0=y0
 ·subst h0
  have e0:(x0 == x0)=true:=beq_self_eq_true x0
  rw [e0,Bool.true_and]
  by_cases h1:x1=y1
  ·subst h1
   rw [decide_eq_true rfl,Bool.true_and]
   by_cases h2:x2=y2
   ·subst h2
    rw [decide_eq_true rfl,Bool.true_and]
    have HC:=Lib.hid (HE.out _ HB.out)
    clear HE
    go_enter Try.func42,Try.ntmps42
    go_wp2_with fail
    refine HC.out.mono ?_
    rintro e w1 ⟨rfl,hb1⟩
    go_wp2
    go_ret
    exact ⟨rfl,link HB.out hb1⟩
   ·have hd:(x2 == y2)=false:=by simp [h2]
    rw [decide_eq_false h2,Bool.false_and]
    clear h2
    go_enter Try.func42,Try.ntmps42
    go_wp2
    go_ret
    exact ⟨rfl,HB.out⟩
  ·have hd:(x1 == y1)=false:=by simp [h1]
   rw [decide_eq_false h1,Bool.false_and]
   clear h1
   go_enter Try.func42,Try.ntmps42
   go_wp2
   go_ret
   exact ⟨rfl,HB.out⟩
 ·have hd:(x0 == y0)=false:=by simp [h0]
  rw [hd,Bool.false_and]
  go_enter Try.func42,Try.ntmps42
  go_wp2
  go_ret
  exact ⟨rfl,HB.out⟩
set_option maxHeartbeats 2000000 in
set_option maxRecDepth 100000 in
theorem equalOps_c (w:World) (l m:List S39) (A B:Option Addr) (c d:Nat) (hl:Kd.C k39 w A l.length l) (hm:Kd.C k39 w B m.length m) (hb:l.length≤big) (hbs:∀ o ∈ l,o.f3.length≤big) :
 Calls Try.prog 41 #[.slice A l.length c,.slice B m.length d,.func (.func 42) #[] #[]] w fun e w'=>e=.returned (.bool (eqL eqO l m))∧Below w.heap.size w w':=by
 have e63:∀ args w,(callFunc 42 args).run Try.prog w=.ok (.enter 42 args) w:=Go.Proofs.enters_of Try.func42 (by kernel_rfl) rfl
 by_cases hlen:l.length=m.length
 ·have HR:=Lib.hid hl
  have HM:=Lib.hid hm
  have HS:=Lib.hid hbs
  obtain ⟨N,hN⟩:∃ N,l.length=N:=⟨_,rfl⟩
  have hNb:N≤1152921504606846976:=by rw [← hN];exact hb
  have HN:=Lib.hid hN
  have HN2:Hid (m.length=N):=Lib.hid (by omega)
  rw [hN] at HR
  rw [HN2.out] at HM
  clear hl hm hb hN hlen hbs
  rw [HN.out,HN2.out]
  obtain ⟨D,hD⟩:∃ D,eqL eqO l m=D:=⟨_,rfl⟩
  have HD:=Lib.hid hD
  rw [hD]
  clear hD
  go_enter Try.func41,Try.ntmps41
  go_wp2
  go_loopw [7,8,9,17] (fun _ _ _ v17 wr=>∃ k:Nat,k≤N∧v17=.int .i64 k∧Aside (eqL eqO (l.drop k) (m.drop k)=D∧Below w.heap.size w wr)) (fun _ _ _ v17 _=>N - (intOf v17).toNat)
  case atStart=>exact ⟨0,by omega,rfl,HD.out,Below.refl _ _⟩
  case round =>
   obtain ⟨k,hk,rfl,HA⟩:=hrel
   by_cases hlt:k < N
   ·have hkl:k < l.length:=by rw [HN.out];exact hlt
    have hkm:k < m.length:=by rw [HN2.out];exact hlt
    have hlti:(k:Int) < N:=by omega
    obtain ⟨ad,A3,c3,rfl,x0,x1,x2,x3,xl,xh⟩:=at_T39 HR.out (k:Int) (by omega) (by omega)
    obtain ⟨bd,B3,d3,rfl,y0,y1,y2,y3,yl,yh⟩:=at_T39 HM.out (k:Int) (by omega) (by omega)
    rw [rd39 hkl] at x0 x1 x2 x3 xl xh
    rw [rd39 hkm] at y0 y1 y2 y3 yl yh
    rw [Int.toNat_natCast] at x0 x1 x2 x3 y0 y1 y2 y3
    replace x0:=pw_cell_below HA.out.2 x0
    replace x1:=pw_cell_below HA.out.2 x1
    replace x2:=pw_cell_below HA.out.2 x2
    replace x3:=pw_cell_below HA.out.2 x3
    replace y0:=fun o=>pw_cell_below (below_alloc HA.out.2 o) y0
    replace y1:=fun o=>pw_cell_below (below_alloc HA.out.2 o) y1
    replace y2:=fun o=>pw_cell_below (below_alloc HA.out.2 o) y2
    replace y3:=fun o=>pw_cell_below (below_alloc HA.out.2 o) y3
    have HE:=Lib.hid HA.out.1
    rw [eqL_drop hkl hkm] at HE
    have HBW:=Lib.hid HA.out.2
    have HC:=Lib.hid (fun (W:World) (hW:Below w.heap.size w W)=>sameOp_c W l[k] m[k] A3 B3 c3 d3 (Kd.C_below xh hW) (Kd.C_below yh hW) (HS.out _ (List.getElem_mem hkl)))
    unfold vOp at HC
    clear xh yh xl yl
    clear HA
    cases hxy:eqO l[k] m[k] with
    | true =>
     rw [hxy] at HC HE
     rw [Bool.true_and] at HE
     clear hxy
     generalize l[k]=x at *
     generalize m[k]=y at *
     go_wp2_with fail
     refine (HC.out _ (by repeat (first|exact HBW.out|apply below_alloc))).mono ?_
     rintro e w1 ⟨rfl,hb1⟩
     have HB1:=Lib.hid (link (below_alloc (below_alloc HBW.out _) _) hb1)
     clear hb1
     go_wp2
     go_roundw
     case rel=>exact ⟨k+1,by omega,by go_num,HE.out,HB1.out⟩
     case measure=>simp [intOf];omega
    | false =>
     rw [hxy] at HC HE
     rw [Bool.false_and] at HE
     clear hxy
     generalize l[k]=x at *
     generalize m[k]=y at *
     go_wp2_with fail
     refine (HC.out _ (by repeat (first|exact HBW.out|apply below_alloc))).mono ?_
     rintro e w1 ⟨rfl,hb1⟩
     have HB1:=Lib.hid (link (below_alloc (below_alloc HBW.out _) _) hb1)
     clear hb1
     go_wp2
     go_ret
     exact ⟨by rw [← HE.out];rfl,HB1.out⟩
   ·have hlti:¬ (k:Int) < N:=by omega
    have HE:=Lib.hid HA.out
    have hfin:eqL eqO (l.drop k) (m.drop k)=true:=eqL_end (by rw [HN.out,HN2.out]) (by rw [HN.out];omega)
    rw [hfin] at HE
    clear hfin HA
    go_wp2
    go_ret
    exact ⟨by rw [← HE.out.1];rfl,HE.out.2⟩
 ·have e:=eqL_len (R:=eqO) hlen
  have hne:((l.length:Int) != (m.length:Int))=true:=by simp;omega
  rw [e]
  generalize l.length=n1 at *
  generalize m.length=n2 at *
  clear hl hm
  go_enter Try.func41,Try.ntmps41
  go_wp2
  go_ret
  exact ⟨rfl,Below.refl _ _⟩
def vTxn (t:S42) (A:Option Addr) (c:Nat):Value:=.agg #[.int .i64 t.f0,.bool t.f1,.slice A t.f2.length c]
set_option maxHeartbeats 1000000 in
set_option maxRecDepth 100000 in
theorem sameT_c (w:World) (x y:S42) (A B:Option Addr) (c d:Nat) (hx:Kd.C k39 w A x.f2.length x.f2) (hy:Kd.C k39 w B y.f2.length y.f2) (hb:x.f2.length≤big) (hbs:∀ o ∈ x.f2,o.f3.length≤big) :
 Calls Try.prog 40 #[vTxn x A c,vTxn y B d] w fun e w'=>e=.returned (.bool (eqT x y))∧Below w.heap.size w w':=by
 obtain ⟨x0,x1,x2⟩:=x
 obtain ⟨y0,y1,y2⟩:=y
 unfold vTxn eqT
 simp only at *
 have HB:Hid (Below w.heap.size w ((w.alloc (.cells #[.int .i64 x0,.bool x1,.slice A x2.length c] 42)).alloc (.cells #[.int .i64 y0,.bool y1,.slice B y2.length d] 42))):=Lib.hid (((Below.refl _ _).alloc (Nat.le_refl _) _).alloc (by simp) _)
 have HE:=Lib.hid (fun (W:World) (hW:Below w.heap.size w W)=>equalOps_c W x2 y2 A B c d (Kd.C_below hx hW) (Kd.C_below hy hW) hb hbs)
 clear hx hy hb hbs
 generalize x2.length=n3 at *
 generalize y2.length=m3 at *
 generalize eqL eqO x2 y2=q at *
 by_cases h1:x0=y0
 ·subst h1
  rw [decide_eq_true rfl,Bool.true_and]
  by_cases h0:x1=y1
  ·subst h0
   have e0:(x1 == x1)=true:=beq_self_eq_true x1
   rw [e0,Bool.true_and]
   have HC:=Lib.hid (HE.out _ HB.out)
   clear HE
   go_enter Try.func40,Try.ntmps40
   go_wp2_with fail
   refine HC.out.mono ?_
   rintro e w1 ⟨rfl,hb1⟩
   go_wp2
   go_ret
   exact ⟨rfl,link HB.out hb1⟩
  ·have hd:(x1 == y1)=false:=by simp [h0]
   rw [hd,Bool.false_and]
   go_enter Try.func40,Try.ntmps40
   go_wp2
   go_ret
   exact ⟨rfl,HB.out⟩
 ·have hd:(x0 == y0)=false:=by simp [h1]
  rw [decide_eq_false h1,Bool.false_and]
  clear h1
  go_enter Try.func40,Try.ntmps40
  go_wp2
  go_ret
  exact ⟨rfl,HB.out⟩
set_option maxHeartbeats 2000000 in
set_option maxRecDepth 100000 in
theorem equalTxns_c (w:World) (l m:List S42) (A B:Option Addr) (c d:Nat) (hl:Kd.C k42 w A l.length l) (hm:Kd.C k42 w B m.length m) (hb:l.length≤big) (hbs:∀ t ∈ l,t.f2.length≤big∧∀ o ∈ t.f2,o.f3.length≤big) :
 Calls Try.prog 39 #[.slice A l.length c,.slice B m.length d,.func (.func 40) #[] #[]] w fun e w'=>e=.returned (.bool (eqL eqT l m))∧Below w.heap.size w w':=by
 have e63:∀ args w,(callFunc 40 args).run Try.prog w=.ok (.enter 40 args) w:=Go.Proofs.enters_of Try.func40 (by kernel_rfl) rfl
 by_cases hlen:l.length=m.length
 ·have HR:=Lib.hid hl
  have HM:=Lib.hid hm
  have HS:=Lib.hid hbs
  obtain ⟨N,hN⟩:∃ N,l.length=N:=⟨_,rfl⟩
  have hNb:N≤1152921504606846976:=by rw [← hN];exact hb
  have HN:=Lib.hid hN
  have HN2:Hid (m.length=N):=Lib.hid (by omega)
  rw [hN] at HR
  rw [HN2.out] at HM
  clear hl hm hb hN hlen hbs
  rw [HN.out,HN2.out]
  obtain ⟨D,hD⟩:∃ D,eqL eqT l m=D:=⟨_,rfl⟩
  have HD:=Lib.hid hD
  rw [hD]
  clear hD
  go_enter Try.func39,Try.ntmps39
  go_wp2
  go_loopw [7,8,9,17] (fun _ _ _ v17 wr=>∃ k:Nat,k≤N∧v17=.int .i64 k∧Aside (eqL eqT (l.drop k) (m.drop k)=D∧Below w.heap.size w wr)) (fun _ _ _ v17 _=>N - (intOf v17).toNat)
  case atStart=>exact ⟨0,by omega,rfl,HD.out,Below.refl _ _⟩
  case round =>
   obtain ⟨k,hk,rfl,HA⟩:=hrel
   by_cases hlt:k < N
   ·have hkl:k < l.length:=by rw [HN.out];exact hlt
    have hkm:k < m.length:=by rw [HN2.out];exact hlt
    have hlti:(k:Int) < N:=by omega
    obtain ⟨ad,A3,c3,rfl,x0,x1,x2,xl,xh⟩:=at_T42 HR.out (k:Int) (by omega) (by omega)
    obtain ⟨bd,B3,d3,rfl,y0,y1,y2,yl,yh⟩:=at_T42 HM.out (k:Int) (by omega) (by omega)
    rw [rd42 hkl] at x0 x1 x2 xl xh
    rw [rd42 hkm] at y0 y1 y2 yl yh
    rw [Int.toNat_natCast] at x0 x1 x2 y0 y1 y2
    replace x0:=pw_cell_below HA.out.2 x0
    replace x1:=pw_cell_below HA.out.2 x1
    replace x2:=pw_cell_below HA.out.2 x2
    replace y0:=fun o=>pw_cell_below (below_alloc HA.out.2 o) y0
    replace y1:=fun o=>pw_cell_below (below_alloc HA.out.2 o) y1
    replace y2:=fun o=>pw_cell_below (below_alloc HA.out.2 o) y2
    have HE:=Lib.hid HA.out.1
    rw [eqL_drop hkl hkm] at HE
    have HBW:=Lib.hid HA.out.2
    have HC:=Lib.hid (fun (W:World) (hW:Below w.heap.size w W)=>sameT_c W l[k] m[k] A3 B3 c3 d3 (Kd.C_below xh hW) (Kd.C_below yh hW) (HS.out _ (List.getElem_mem hkl)).1 (HS.out _ (List.getElem_mem hkl)).2)
    unfold vTxn at HC
    clear xh yh xl yl
    clear HA
    cases hxy:eqT l[k] m[k] with
    | true =>
     rw [hxy] at HC HE
     rw [Bool.true_and] at HE
     clear hxy
     generalize l[k]=x at *
     generalize m[k]=y at *
     go_wp2_with fail
     refine (HC.out _ (by repeat (first|exact HBW.out|apply below_alloc))).mono ?_
     rintro e w1 ⟨rfl,hb1⟩
     have HB1:=Lib.hid (link (below_alloc (below_alloc HBW.out _) _) hb1)
     clear hb1
     go_wp2
     go_roundw
     case rel=>exact ⟨k+1,by omega,by go_num,HE.out,HB1.out⟩
     case measure=>simp [intOf];omega
    | false =>
     rw [hxy] at HC HE
     rw [Bool.false_and] at HE
     clear hxy
     generalize l[k]=x at *
     generalize m[k]=y at *
     go_wp2_with fail
     refine (HC.out _ (by repeat (first|exact HBW.out|apply below_alloc))).mono ?_
     rintro e w1 ⟨rfl,hb1⟩
     have HB1:=Lib.hid (link (below_alloc (below_alloc HBW.out _) _) hb1)
     clear hb1
     go_wp2
     go_ret
     exact ⟨by rw [← HE.out];rfl,HB1.out⟩
   ·have hlti:¬ (k:Int) < N:=by omega
    have HE:=Lib.hid HA.out
    have hfin:eqL eqT (l.drop k) (m.drop k)=true:=eqL_end (by rw [HN.out,HN2.out]) (by rw [HN.out];omega)
    rw [hfin] at HE
    clear hfin HA
    go_wp2
    go_ret
    exact ⟨by rw [← HE.out.1];rfl,HE.out.2⟩
 ·have e:=eqL_len (R:=eqT) hlen
  have hne:((l.length:Int) != (m.length:Int))=true:=by simp;omega
  rw [e]
  generalize l.length=n1 at *
  generalize m.length=n2 at *
  clear hl hm
  go_enter Try.func39,Try.ntmps39
  go_wp2
  go_ret
  exact ⟨rfl,Below.refl _ _⟩
def SB (h:List S42):Prop:=h.length≤big∧∀ t ∈ h,t.f2.length≤big∧∀ o ∈ t.f2,o.f3.length≤big
end Go.Proofs.Ytlcioegdmopppaa.Hs
set_option linter.unusedVariables false
set_option linter.unusedSimpArgs false
namespace Go.Proofs.Ytlcioegdmopppaa
open Go.RowKit Go.ChangeShapes Go.WideShapes Go.Proofs.YtlcioegdmopppaaW.PrintWords
def Opens (P:Program) (w:World) (t:TypeId) {α:Type} (K:α→List Value→Prop):Prop :=
 ∀ {H:Type} (enc:TypeId × Value→H) (fuel:Nat) (cs:List Value) (x:DataW H × List MemPlace),DataW.trod enc P w 0 (fun _=>true) true fuel t cs=some x→∃ a,K a cs
theorem opens_int {P:Program} {w:World} {t:TypeId} {k:IntKind} (ht:P.underlying t=some (.int k)):Opens P w t (fun (n:Int) cs=>cs=[.int k n]∧(Lit.int k n).wf=true):=by
 intro H enc fuel cs x h
 obtain ⟨n,h1,_,h2⟩:=DataW.trod_int ht h
 exact ⟨n,h1,h2⟩
theorem opens_bool {P:Program} {w:World} {t:TypeId} (ht:P.underlying t=some .bool):Opens P w t (fun (b:Bool) cs=>cs=[.bool b]):=by
 intro H enc fuel cs x h
 obtain ⟨n,h1,_⟩:=DataW.trod_bool ht h
 exact ⟨n,h1⟩
theorem opens_slice {P:Program} {w:World} {t e:TypeId} {α:Type} {K:α→List Value→Prop} {sz:Nat} (ht:P.underlying t=some (.slice e)) (hc:P.cellsOf e=sz) (hK:Opens P w e K) :
 Opens P w t (fun (l:List α) cs=>∃ A c,cs=[.slice A l.length c]∧l.length≤c∧ReadsRow K sz w A l.length l):=by
 intro H enc fuel cs x h
 rcases Go.Deep.open_slice ht h with ⟨rfl,_⟩|⟨a,len,cap,m,n,D,Pl,rfl,_,hl,hm,hmm,_,hx⟩
 ·exact ⟨[],none,0,rfl,Nat.le_refl _,rfl,by simp,fun h0=>by simp at h0⟩
 ·simp only [if_pos] at hmm
  subst hmm
  have each:∀ i,i < m→∃ q:α,∃ c:List Value,c.length=sz∧K q c∧∀ j u,c[j]?=some u→w.cell? (a.add (i * sz+j))=some u:=by
   intro i hi
   obtain ⟨cs',h1,h2⟩:=hx i hi
   rw [hc] at h1
   obtain ⟨_,hlen,hcell⟩:=World.cells?_some h1
   obtain ⟨q,hq⟩:=hK enc _ _ _ h2
   refine ⟨q,cs',hlen,hq,fun j u hu=>?_⟩
   have hj:j < cs'.length:=by
    rcases Nat.lt_or_ge j cs'.length with h'|h'
    ·exact h'
    ·rw [List.getElem?_eq_none h'] at hu;cases hu
   have:=hcell j (by omega)
   rw [Go.Deep.add_add] at this
   rw [this];exact hu
  have build:∀ k,k≤m→∃ l:List α,l.length=k∧∀ j p,l[j]?=some p→∃ c:List Value,c.length=sz∧K p c∧∀ i u,c[i]?=some u→w.cell? (a.add (j * sz+i))=some u:=by
   intro k
   induction k with
   | zero=>intro _;exact ⟨[],rfl,fun j p h=>by simp at h⟩
   | succ k ih =>
    intro hk
    obtain ⟨l,hl1,hl2⟩:=ih (by omega)
    obtain ⟨q,c,h1,h2,h3⟩:=each k (by omega)
    refine ⟨l ++ [q],by simp [hl1],fun j p hp=>?_⟩
    rcases Nat.lt_trichotomy j l.length with hj|hj|hj
    ·rw [List.getElem?_append_left hj] at hp
     exact hl2 j p hp
    ·subst hj
     simp at hp;subst hp
     rw [hl1];exact ⟨c,h1,h2,h3⟩
    ·rw [List.getElem?_eq_none (by simp;omega)] at hp;cases hp
  obtain ⟨l,hl1,hl2⟩:=build len hl
  refine ⟨l,some a,m,by rw [hl1],by omega,rfl,?_,fun _=>⟨a,rfl,fun j p hp=>?_⟩⟩
  ·simp only [maxLen] at hm;omega
  ·exact hl2 j p hp
end Go.Proofs.Ytlcioegdmopppaa
set_option linter.unusedVariables false
set_option linter.unusedSimpArgs false
namespace Go.Proofs.Ytlcioegdmopppaa
open Go.RowKit Go.ChangeShapes Go.WideShapes Go.Proofs.YtlcioegdmopppaaW.PrintWords
theorem Opens.imp {P:Program} {w:World} {t:TypeId} {α β:Type} {K:α→List Value→Prop} {K':β→List Value→Prop} (h:Opens P w t K) (hf:∀ a cs,K a cs→∃ b,K' b cs):Opens P w t K':=by
 intro H enc fuel cs x hx
 obtain ⟨a,ha⟩:=h enc fuel cs x hx
 exact hf a cs ha
theorem opens_row {P:Program} {w:World} {t:TypeId} {fs:Array Field} (ht:P.underlying t=some (.struct fs)) (hc:P.cellsOf t=fs.size) (hoff:∀ (i:Nat) (f:Field),fs[i]?=some f→f.offset=i∧P.cellsOf f.type=1) (p:Nat→Value→Prop)
 (hp:∀ (i:Nat) (f:Field),fs[i]?=some f→Opens P w f.type (fun (v:Value) cs=>cs=[v]∧p i v)):Opens P w t (fun (_:Unit) cs=>cs.length=fs.size∧∀ i v,cs[i]?=some v→p i v):=by
 intro H enc fuel cs x h
 obtain ⟨xs,n,_,_,hl,hxl,hf⟩:=DataW.trod_struct ht h
 have hl2:cs.length=fs.size:=by rw [hl,hc]
 refine ⟨(),hl2,fun i v hv=>?_⟩
 have hi:i < fs.size:=by
  rcases Nat.lt_or_ge i cs.length with h'|h'
  ·omega
  ·rw [List.getElem?_eq_none h'] at hv;cases hv
 have hfi:fs[i]?=some fs[i]:=Array.getElem?_eq_getElem hi
 obtain ⟨o1,o2⟩:=hoff i _ hfi
 have g:=hf i fs[i] hfi
 rw [o1,o2,List.getElem?_eq_getElem (by omega)] at g
 obtain ⟨u,hu,hpu⟩:=hp i _ hfi enc _ _ _ g
 have:v=u:=by
  have h1:((cs.drop i).take 1)[0]?=some v:=by rw [List.getElem?_take_of_lt (by omega),List.getElem?_drop];simpa using hv
  rw [hu] at h1
  simpa using h1.symm
 subst this
 exact hpu
theorem cells_int {P:Program} {w:World} {t:TypeId} {k:IntKind} (ht:P.underlying t=some (.int k)):Opens P w t (fun (v:Value) cs=>cs=[v]∧∃ n:Int,v=.int k n∧(Lit.int k n).wf=true) :=
 Opens.imp (opens_int ht) (by rintro n cs ⟨rfl,h⟩;exact ⟨_,rfl,n,rfl,h⟩)
theorem cells_bool {P:Program} {w:World} {t:TypeId} (ht:P.underlying t=some .bool):Opens P w t (fun (v:Value) cs=>cs=[v]∧∃ n:Bool,v=.bool n) :=
 Opens.imp (opens_bool ht) (by rintro n cs rfl;exact ⟨_,rfl,n,rfl⟩)
theorem cells_slice {P:Program} {w:World} {t e:TypeId} {α:Type} {K:α→List Value→Prop} {sz:Nat} (ht:P.underlying t=some (.slice e)) (hc:P.cellsOf e=sz) (hK:Opens P w e K) :
 Opens P w t (fun (v:Value) cs=>cs=[v]∧∃ (l:List α) (A:Option Addr) (c:Nat),v=.slice A l.length c∧l.length≤c∧ReadsRow K sz w A l.length l) :=
 Opens.imp (opens_slice ht hc hK) (by rintro l cs ⟨A,c,rfl,h1,h2⟩;exact ⟨_,rfl,l,A,c,rfl,h1,h2⟩)
theorem list4 {α:Type} {cs:List α} (h:cs.length=4):∃ a b c d,cs=[a,b,c,d]:=by
 match cs,h with
 | [a,b,c,d],_=>exact ⟨a,b,c,d,rfl⟩
theorem list3 {α:Type} {cs:List α} (h:cs.length=3):∃ a b c,cs=[a,b,c]:=by
 match cs,h with
 | [a,b,c],_=>exact ⟨a,b,c,rfl⟩
theorem four {fs:Array Field} {a b c d:Field} (h:fs=#[a,b,c,d]) {p:Nat→Field→Prop} (h0:p 0 a) (h1:p 1 b) (h2:p 2 c) (h3:p 3 d):∀ (i:Nat) (f:Field),fs[i]?=some f→p i f:=by
 subst h
 intro i f hf
 match i,hf with
 | 0,hf=>simp at hf;subst hf;exact h0
 | 1,hf=>simp at hf;subst hf;exact h1
 | 2,hf=>simp at hf;subst hf;exact h2
 | 3,hf=>simp at hf;subst hf;exact h3
 | k+4,hf=>simp at hf
theorem three {fs:Array Field} {a b c:Field} (h:fs=#[a,b,c]) {p:Nat→Field→Prop} (h0:p 0 a) (h1:p 1 b) (h2:p 2 c):∀ (i:Nat) (f:Field),fs[i]?=some f→p i f:=by
 subst h
 intro i f hf
 match i,hf with
 | 0,hf=>simp at hf;subst hf;exact h0
 | 1,hf=>simp at hf;subst hf;exact h1
 | 2,hf=>simp at hf;subst hf;exact h2
 | k+3,hf=>simp at hf
end Go.Proofs.Ytlcioegdmopppaa
namespace Go.Proofs.Ytlcioegdmopppaa.PEncodeBack
open Go.RowKit Go.Proofs.YtlcioegdmopppaaW.PrintWords Go.Proofs.YtlcioegdmopppaaW.PrintLast Go.Proofs.YtlcioegdmopppaaW.PrintMore
attribute [local go_sem] max2_int min2_int max_two min_two max_three min_three max_four min_four
set_option linter.unusedVariables false
set_option linter.unusedSimpArgs false
def coronerref03_Ops.l0:Nat→Int→Int→List (S42)→Option (Int)
 | 0,_,_,_=>none
 | k+1,x3,x4,x149000=>if x4 < (x149000.length:Int) then (if 0≤x4 then (coronerref03_Ops.l0 k (wrap64 (x3+(((rd_T42 x149000 x4).f2).length:Int))) (wrap64 (x4+1)) x149000) else (none)) else (some x3)
def coronerref03_Ops.f (k:Nat) (l0_0:List (S42)):Option (Int):=coronerref03_Ops.l0 k 0 0 l0_0
set_option maxHeartbeats 8000000 in
set_option maxRecDepth 100000 in
theorem coronerref03_Ops.calls (k:Nat) (A0_0:Option Addr) (c0_0:Nat) (l0_0:List (S42)) (r:Int) (w:World) (hr0_0:Kd.C k42 w A0_0 l0_0.length l0_0) (hc0_0:l0_0.length≤c0_0) (h:coronerref03_Ops.f k l0_0=some r) :
 Calls Try.prog 24 #[.agg #[.slice A0_0 l0_0.length c0_0]] w fun e w'=>e=.returned (.int .i64 r)∧Below w.heap.size w w':=by
 have hu24:=Try.underlying24
 have HR0_0:=Aside0.mk hr0_0
 have HC0_0:=Aside0.mk hc0_0
 clear hr0_0 hc0_0
 have HB:=Aside0.mk (Below.refl w.heap.size w)
 have H:(coronerref03_Ops.l0 k 0 0 l0_0)=some r:=h
 clear h
 have H':=Aside0.mk H
 clear H
 go_enter Try.func24,Try.ntmps24
 go_wp2_with (first|((with_reducible refine gate_dst (N:=1) rfl ?_);refine box_event ?hg (N:=1) ?hd (cs:=#[.slice A0_0 l0_0.length c0_0]) (t:=24) ?hr ?_;(case hd=>rfl);(case hg=>rfl);(case hr=>first|(go_simp;done)|(go_simp;rfl));intro gb148 hg w2 hbox hb;have n0_:=Aside0.mk (below_step (by repeat (first|(with_reducible first|exact HB.out|apply below_alloc|apply pw_below_drewN|apply below_drew1)|exact HB.out)) hb);have n1_:=Aside0.mk (hbox);have n2_:=Aside0.mk ((by rw [hg];exact (below_size (by repeat (first|(with_reducible first|exact HB.out|apply below_alloc|apply pw_below_drewN|apply below_drew1)|exact HB.out))):w.heap.size≤gb148));have n3_:=Aside0.mk ((by rw [hg];exact (below_size (by repeat (first|(with_reducible first|exact HB.out|apply below_alloc|apply pw_below_drewN|apply below_drew1)|exact HB.out))):w.heap.size≤gb148));clear HB;have HB:=n0_;have BK148:=n1_;have GW148:=n2_;have GE148:=n3_;clear n0_ n1_ n2_ n3_;clear hb hbox hg))
 go_loopg [3,4] k (fun kq v3 v4 w'=>∃ (x3_1:Int) (x4_1:Int),v3=.int .i64 x3_1∧v4=.int .i64 x4_1∧Aside0 (coronerref03_Ops.l0 kq x3_1 x4_1 l0_0=some r)∧Aside0 (kq≤k)∧Aside0 (w'.heap[gb148]?=some (.cells #[(.slice A0_0 l0_0.length c0_0)] 24 (0,0)))∧Aside0 (Below w.heap.size w w'))
 case atStart=>exact ⟨(0),(0),(by first|rfl|(simp;done)|(simp [*];done)),(by first|rfl|(simp;done)|(simp [*];done)),H',⟨Nat.le_refl _⟩,⟨by (with_reducible repeat (first|refine blk_drewN ?_ _|refine blk_drew ?_|refine blk_alloc ?_ _));exact BK148.out⟩,⟨by repeat (first|(with_reducible first|exact HB.out|apply below_alloc|apply pw_below_drewN|apply below_drew1|refine below_set ?_ GE148.out)|exact HB.out)⟩⟩
 case round =>
  clear H'
  try clear c2
  try clear p2
  obtain ⟨x3_1,x4_1,rfl,rfl,HA,HK1,BK148,HB⟩:=hrel
  cases gk with
  | zero=>exact absurd HA.out (by simp [coronerref03_Ops.l0])
  | succ k1 =>
   have H:=HA.out
   clear HA
   simp only [coronerref03_Ops.l0] at H
   by_cases c3:x4_1 < (l0_0.length:Int)
   ·rw [if_pos c3] at H
    have c3b0:decide (x4_1 < (l0_0.length:Int))=true:=decide_eq_true c3
    clear c3
    by_cases c4:0≤x4_1
    ·rw [if_pos c4] at H
     have c4b0:decide (0≤x4_1)=true:=decide_eq_true c4
     clear c4
     have H':=Aside0.mk H
     clear H
     have hcz5_0:wr.cell? ⟨gb148,0,none⟩=some (.slice A0_0 l0_0.length c0_0):=(blk_cell BK148.out 0).trans rfl
     have hfz5_0:=blk_frozen BK148.out 0
     have p149:0≤(x4_1:Int):=of_decide_eq_true (by first|(with_reducible assumption)|assumption)
     have q149:x4_1 < (l0_0.length:Int):=of_decide_eq_true (by first|(with_reducible assumption)|assumption)
     obtain ⟨ad149,A149_2,c149_2,e149,hx149_0,hx149_1,hx149_2,hl149_2,hi149_2⟩:=at_T42 HR0_0.out x4_1 p149 q149
     cases e149
     replace hx149_0:=(HB.out.cell (World.block_lt_of_cell? w _ hx149_0)).trans hx149_0
     replace hx149_1:=(HB.out.cell (World.block_lt_of_cell? w _ hx149_1)).trans hx149_1
     replace hx149_2:=(HB.out.cell (World.block_lt_of_cell? w _ hx149_2)).trans hx149_2
     have HR149_2:=Aside0.mk hi149_2
     have HC149_2:=Aside0.mk hl149_2
     clear hi149_2 hl149_2
     replace p149:=eq_true p149
     replace q149:=eq_true q149
     go_wp2
     go_roundg k1
     case measure=>have:=HK1.out;omega
     case rel=>exact ⟨(wrap64 (x3_1+(((rd_T42 l0_0 x4_1).f2).length:Int))),(wrap64 (x4_1+1)),(by first|rfl|(simp;done)|(simp [*];done)),(by first|rfl|(simp;done)|(simp [*];done)),H',⟨by have:=HK1.out;omega⟩,⟨by (with_reducible repeat (first|refine blk_drewN ?_ _|refine blk_drew ?_|refine blk_alloc ?_ _));exact BK148.out⟩,⟨by repeat (first|(with_reducible first|exact HB.out|apply below_alloc|apply pw_below_drewN|apply below_drew1|refine below_set ?_ GE148.out)|exact HB.out)⟩⟩
    ·rw [if_neg c4] at H
     exact absurd H (by simp)
   ·rw [if_neg c3] at H
    have c3b0:decide (x4_1 < (l0_0.length:Int))=false:=decide_eq_false c3
    clear c3
    obtain rfl:=Option.some.inj H
    have hcz6_0:wr.cell? ⟨gb148,0,none⟩=some (.slice A0_0 l0_0.length c0_0):=(blk_cell BK148.out 0).trans rfl
    have hfz6_0:=blk_frozen BK148.out 0
    go_wp2
    go_ret
    exact ⟨by first|rfl|(simp [errW_none,errW_some] <;> rfl)|(simp [*,errW_none,errW_some] <;> rfl),by repeat (first|(with_reducible first|exact HB.out|apply below_alloc|apply pw_below_drewN|apply below_drew1|refine below_set ?_ GE148.out)|exact HB.out)⟩
end Go.Proofs.Ytlcioegdmopppaa.PEncodeBack
set_option linter.unusedSimpArgs false
namespace Go.Proofs.Ytlcioegdmopppaa.Hs
open Go.RowKit Go.Proofs.Ytlcioegdmopppaa.PEncodeBack Go.Proofs.YtlcioegdmopppaaW.PrintWords
set_option linter.unusedVariables false
theorem opsN_drop {h:List S42} {k:Nat} (hk:k < h.length):opsN (h.drop k)=h[k].f2.length+opsN (h.drop (k+1)):=by
 rw [List.drop_eq_getElem_cons hk];rfl
theorem ops_loop (h:List S42) (hl:h.length≤big):∀ (d k:Nat) (x:Nat),k+d=h.length→x+opsN (h.drop k)≤big→Ev (fun r=>history_Ops.l0 r (x:Int) h (h.length:Int) (k:Int)) ((x+opsN (h.drop k):Nat):Int)
 | 0,k,x,hk,hb=>by
  rw [List.drop_eq_nil_of_le (by omega)]
  exact Ev.step (f:=fun _=>some _) (fun r=>by simp only [history_Ops.l0];rw [if_neg (by omega)];rfl) (Ev.now _)
 | d+1,k,x,hk,hb=>by
  have hlt:k < h.length:=by omega
  have hd:=opsN_drop hlt
  have ih:=ops_loop h hl d (k+1) (x+h[k].f2.length) (by omega) (by omega)
  have e:x+opsN (h.drop k)=x+h[k].f2.length+opsN (h.drop (k+1)):=by omega
  rw [e]
  unfold big at *
  refine Ev.step (fun r=>?_) ih
  simp only [history_Ops.l0]
  have hw:wrap64 ((x:Int)+(h[k].f2.length:Int))=((x+h[k].f2.length:Nat):Int):=by unfold wrap64;omega
  rw [if_pos (by omega),if_pos (by omega),if_pos (by omega),rd42 hlt,hw,wrapS hlt (by omega)]
theorem ops_ev (h:List S42) (hl:h.length≤big) (hb:opsN h≤big):Ev (fun r=>history_Ops.f r h) (opsN h:Int):=by
 have:=ops_loop h hl h.length 0 0 (by omega) (by rw [List.drop_zero];omega)
 simp only [Nat.zero_add,List.drop_zero] at this
 exact this
theorem rops_loop (h:List S42) (hl:h.length≤big):∀ (d k:Nat) (x:Nat),k+d=h.length→x+opsN (h.drop k)≤big→Ev (fun r=>coronerref03_Ops.l0 r (x:Int) (k:Int) h) ((x+opsN (h.drop k):Nat):Int)
 | 0,k,x,hk,hb=>by
  rw [List.drop_eq_nil_of_le (by omega)]
  exact Ev.step (f:=fun _=>some _) (fun r=>by simp only [coronerref03_Ops.l0];rw [if_neg (by omega)];rfl) (Ev.now _)
 | d+1,k,x,hk,hb=>by
  have hlt:k < h.length:=by omega
  have hd:=opsN_drop hlt
  have ih:=rops_loop h hl d (k+1) (x+h[k].f2.length) (by omega) (by omega)
  have e:x+opsN (h.drop k)=x+h[k].f2.length+opsN (h.drop (k+1)):=by omega
  rw [e]
  unfold big at *
  refine Ev.step (fun r=>?_) ih
  simp only [coronerref03_Ops.l0]
  have hw:wrap64 ((x:Int)+(h[k].f2.length:Int))=((x+h[k].f2.length:Nat):Int):=by unfold wrap64;omega
  rw [if_pos (by omega),if_pos (by omega),rd42 hlt,hw,wrapS hlt (by omega)]
theorem rops_ev (h:List S42) (hl:h.length≤big) (hb:opsN h≤big):Ev (fun r=>coronerref03_Ops.f r h) (opsN h:Int):=by
 have:=rops_loop h hl h.length 0 0 (by omega) (by rw [List.drop_zero];omega)
 simp only [Nat.zero_add,List.drop_zero] at this
 exact this
def shortL (o:S39):Bool:=decide (o.f3.length≤100)
def fewG (ops:Nat):Nat→List S42→Bool
 | _,[]=>true
 | n,t :: h=>if (ops:Int) - n < t.f2.length then false else t.f2.all shortL && fewG ops (n+t.f2.length) h
def fewP (txns ops:Nat) (h:List S42):Bool:=decide (h.length≤txns) && fewG ops 0 h
theorem few_l1 (h:List S42) (ops:Nat) (hops:ops≤1000000) (hl:h.length≤big) (k:Nat) (hk:k < h.length) (n:Nat) (hn:h[k].f2.length≤1000000) (R:Bool) (hR:Ev (fun r=>coronerref03_Few.l0 r (ops:Int) (n:Int) ((k+1:Nat):Int) h) R):∀ (d j:Nat),j+d=h[k].f2.length →
 Ev (fun r=>coronerref03_Few.l1 r (ops:Int) (n:Int) (k:Int) (j:Int) h) ((h[k].f2.drop j).all shortL && R)
 | 0,j,hj=>by
  unfold big at *
  rw [List.drop_eq_nil_of_le (by omega),List.all_nil,Bool.true_and]
  refine Ev.step (fun r=>?_) hR
  simp only [coronerref03_Few.l1]
  rw [if_pos (by omega),if_pos (by omega),rd42 hk,if_neg (by omega),wrapS hk (by omega)]
 | d+1,j,hj=>by
  have hlt:j < h[k].f2.length:=by omega
  have ih:=few_l1 h ops hops hl k hk n hn R hR d (j+1) (by omega)
  unfold big at *
  rw [List.drop_eq_getElem_cons hlt,List.all_cons,Bool.and_assoc]
  have hstep:∀ r,coronerref03_Few.l1 (r+1) (ops:Int) (n:Int) (k:Int) (j:Int) h=if (h[k].f2[j].f3.length:Int) > 100 then some false else coronerref03_Few.l1 r (ops:Int) (n:Int) (k:Int) ((j+1:Nat):Int) h:=fun r=>by
   simp only [coronerref03_Few.l1]
   rw [if_pos (by omega),if_pos (by omega),rd42 hk,if_pos (by omega),if_pos (by omega),rd39 hlt,wrapS hlt (by omega)]
  by_cases hs:h[k].f2[j].f3.length≤100
  ·have e:shortL h[k].f2[j]=true:=by simp [shortL,hs]
   rw [e,Bool.true_and]
   exact Ev.step (fun r=>by rw [hstep,if_neg (by omega)]) ih
  ·have e:shortL h[k].f2[j]=false:=by simp [shortL];omega
   rw [e,Bool.false_and]
   exact Ev.step (f:=fun _=>some false) (fun r=>by rw [hstep,if_pos (by omega)]) (Ev.now _)
theorem few_l0 (h:List S42) (ops:Nat) (hops:ops≤1000000) (hl:h.length≤big):∀ (d k n:Nat),k+d=h.length→n≤ops→Ev (fun r=>coronerref03_Few.l0 r (ops:Int) (n:Int) (k:Int) h) (fewG ops n (h.drop k))
 | 0,k,n,hk,hn=>by
  rw [List.drop_eq_nil_of_le (by omega)]
  exact Ev.step (f:=fun _=>some true) (fun r=>by simp only [coronerref03_Few.l0];rw [if_neg (by omega)]) (Ev.now _)
 | d+1,k,n,hk,hn=>by
  have hlt:k < h.length:=by omega
  rw [List.drop_eq_getElem_cons hlt]
  have e:fewG ops n (h[k] :: h.drop (k+1))=if (ops:Int) - n < h[k].f2.length then false else h[k].f2.all shortL && fewG ops (n+h[k].f2.length) (h.drop (k+1)):=rfl
  rw [e]
  have hw:wrap64 ((ops:Int) - (n:Int))=(ops:Int) - n:=by unfold wrap64;omega
  have hstep:∀ r,coronerref03_Few.l0 (r+1) (ops:Int) (n:Int) (k:Int) h=if (h[k].f2.length:Int) > (ops:Int) - n then some false else coronerref03_Few.l1 r (ops:Int) (wrap64 ((n:Int)+(h[k].f2.length:Int))) (k:Int) ((0:Nat):Int) h:=fun r=>by
   simp only [coronerref03_Few.l0]
   rw [if_pos (by omega),if_pos (by omega),rd42 hlt,hw]
   rfl
  by_cases hc:(ops:Int) - n < h[k].f2.length
  ·rw [if_pos hc]
   exact Ev.step (f:=fun _=>some false) (fun r=>by rw [hstep,if_pos hc]) (Ev.now _)
  ·rw [if_neg hc]
   have hw2:wrap64 ((n:Int)+(h[k].f2.length:Int))=((n+h[k].f2.length:Nat):Int):=by unfold wrap64;omega
   have h1:=few_l1 h ops hops hl k hlt (n+h[k].f2.length) (by omega) _ (few_l0 h ops hops hl d (k+1) (n+h[k].f2.length) (by omega) (by omega)) h[k].f2.length 0 (by omega)
   rw [List.drop_zero] at h1
   exact Ev.step (fun r=>by rw [hstep,if_neg hc,hw2]) h1
theorem few_ev (h:List S42) (txns ops:Nat) (hops:ops≤1000000) (hl:h.length≤big):Ev (fun r=>coronerref03_Few.f r h (txns:Int) (ops:Int)) (fewP txns ops h):=by
 unfold fewP
 by_cases hc:h.length≤txns
 ·rw [decide_eq_true hc,Bool.true_and]
  have:=few_l0 h ops hops hl h.length 0 0 (by omega) (by omega)
  rw [List.drop_zero] at this
  refine Ev.congr (fun r=>?_) this
  unfold coronerref03_Few.f
  rw [if_neg (by omega)];rfl
 ·rw [decide_eq_false hc,Bool.false_and]
  refine Ev.congr (f:=fun _=>some false) (fun r=>?_) (Ev.now _)
  unfold coronerref03_Few.f
  rw [if_pos (by omega)]
theorem fewG_le (ops:Nat):∀ (h:List S42) (n:Nat),fewG ops n h=true→∀ t ∈ h,t.f2.length≤ops∧∀ o ∈ t.f2,o.f3.length≤100
 | [],_,_,t,ht=>by simp at ht
 | t0 :: h,n,hh,t,ht=>by
  unfold fewG at hh
  split at hh
  ·cases hh
  ·simp only [Bool.and_eq_true] at hh
   rcases List.mem_cons.1 ht with rfl|ht
   ·refine ⟨by omega,fun o ho=>?_⟩
    have:=List.all_eq_true.1 hh.1 o ho
    simpa [shortL] using this
   ·exact fewG_le ops h _ hh.2 t ht
theorem few_c (w:World) (h:List S42) (A:Option Addr) (c:Nat) (hr:Kd.C k42 w A h.length h) (hc:h.length≤c):Calls Try.prog 11 #[.agg #[.slice A h.length c],.int .i64 40,.int .i64 100] w fun e w'=>e=.returned (.bool (fewP 40 100 h))∧Below w.heap.size w w':=by
 by_cases hl:h.length≤big
 ·obtain ⟨K,hK⟩:=(few_ev h 40 100 (by decide) hl).rounds
  exact coronerref03_Few.calls K A c h 40 100 _ w hr hc hK
 ·have e:fewP 40 100 h=false:=by unfold fewP big at *;rw [decide_eq_false (by omega)];rfl
  rw [e]
  refine coronerref03_Few.calls 1 A c h 40 100 false w hr hc ?_
  unfold coronerref03_Few.f
  rw [if_pos (by unfold big at hl;omega)]
def SlK {α:Type} (K:α→List Value→Prop) (sz:Nat) (W:World) (v:Value):Prop:=∃ (l:List α) (A:Option Addr) (c:Nat),v=.slice A l.length c∧l.length≤c∧ReadsRow K sz W A l.length l
theorem opens_ints (W:World):Opens Try.prog W 3 ((Kd.int .i64).K W):=Opens.imp (opens_int Try.underlying3) (by rintro n cs ⟨rfl,_⟩;exact ⟨n,rfl⟩)
theorem opens_op (W:World):Opens Try.prog W 39 (k39.K W):=by
 refine Opens.imp (opens_row (p:=fun i v=>match i with|0=>∃ n:Bool,v=.bool n|1=>∃ n:Int,v=.int .i64 n∧(Lit.int .i64 n).wf=true|2=>∃ n:Int,v=.int .i64 n∧(Lit.int .i64 n).wf=true|_=>SlK ((Kd.int .i64).K W) 1 W v)
  Try.underlying39 (by kernel_rfl) (four rfl ⟨rfl,by kernel_rfl⟩ ⟨rfl,by kernel_rfl⟩ ⟨rfl,by kernel_rfl⟩ ⟨rfl,by kernel_rfl⟩)
  (four rfl (cells_bool Try.underlying4) (cells_int Try.underlying3) (cells_int Try.underlying3) (cells_slice Try.underlying37 (by kernel_rfl) (opens_ints W)))) ?_
 rintro _ cs ⟨hl,hp⟩
 obtain ⟨a,b,c,d,rfl⟩:=list4 hl
 obtain ⟨x0,rfl⟩:=hp 0 _ rfl
 obtain ⟨x1,rfl,_⟩:=hp 1 _ rfl
 obtain ⟨x2,rfl,_⟩:=hp 2 _ rfl
 obtain ⟨l3,A3,c3,rfl,h3,g3⟩:=hp 3 _ rfl
 exact ⟨⟨x0,x1,x2,l3⟩,k39_mk W _ h3 g3⟩
theorem opens_txn (W:World):Opens Try.prog W 42 (k42.K W):=by
 refine Opens.imp (opens_row (p:=fun i v=>match i with|0=>∃ n:Int,v=.int .i64 n∧(Lit.int .i64 n).wf=true|1=>∃ n:Bool,v=.bool n|_=>SlK (k39.K W) 4 W v)
  Try.underlying42 (by kernel_rfl) (three rfl ⟨rfl,by kernel_rfl⟩ ⟨rfl,by kernel_rfl⟩ ⟨rfl,by kernel_rfl⟩)
  (three rfl (cells_int Try.underlying3) (cells_bool Try.underlying4) (cells_slice Try.underlying40 (by kernel_rfl) (opens_op W)))) ?_
 rintro _ cs ⟨hl,hp⟩
 obtain ⟨a,b,c,rfl⟩:=list3 hl
 obtain ⟨x0,rfl,_⟩:=hp 0 _ rfl
 obtain ⟨x1,rfl⟩:=hp 1 _ rfl
 obtain ⟨l2,A2,c2,rfl,h2,g2⟩:=hp 2 _ rfl
 exact ⟨⟨x0,x1,l2⟩,k42_mk W _ h2 g2⟩
theorem one {fs:Array Field} {a:Field} (h:fs=#[a]) {p:Nat→Field→Prop} (h0:p 0 a):∀ (i:Nat) (f:Field),fs[i]?=some f→p i f:=by
 subst h
 intro i f hf
 match i,hf with
 | 0,hf=>simp at hf;subst hf;exact h0
 | k+1,hf=>simp at hf
theorem opens_history (W:World):Opens Try.prog W 24 (fun (h:List S42) cs=>∃ A c,cs=[.slice A h.length c]∧h.length≤c∧Kd.C k42 W A h.length h):=by
 refine Opens.imp (opens_row (p:=fun _ v=>SlK (k42.K W) 3 W v) Try.underlying24 (by kernel_rfl) (one rfl ⟨rfl,by kernel_rfl⟩)
  (one rfl (cells_slice Try.underlying22 (by kernel_rfl) (opens_txn W)))) ?_
 rintro _ cs ⟨hl,hp⟩
 obtain ⟨v,rfl⟩:∃ v,cs=[v]:=by
  match cs,hl with
  | [v],_=>exact ⟨v,rfl⟩
 obtain ⟨l,A,c,rfl,h1,h2⟩:=hp 0 _ rfl
 exact ⟨l,A,c,rfl,h1,h2⟩
theorem rsame_l0 (l m:List Int) (hlm:l.length=m.length) (hb:l.length≤big):∀ (d k:Nat),k+d=l.length→Ev (fun r=>coronerref01_Same.l0 r l m (k:Int)) (eqL eqI (l.drop k) (m.drop k))
 | 0,k,hk=>by
  rw [eqL_end hlm (by omega)]
  exact Ev.step (f:=fun _=>some _) (fun r=>by simp only [coronerref01_Same.l0];rw [if_neg (by omega)]) (Ev.now _)
 | d+1,k,hk=>by
  have hl:k < l.length:=by omega
  have hm:k < m.length:=by omega
  have ih:=rsame_l0 l m hlm hb d (k+1) (by omega)
  unfold big at *
  rw [eqL_drop hl hm]
  by_cases e:l[k]=m[k]
  ·rw [show eqI l[k] m[k]=true from decide_eq_true e,Bool.true_and]
   refine Ev.step (fun r=>?_) ih
   simp only [coronerref01_Same.l0]
   rw [if_pos (by omega),if_pos (by omega),if_pos (by omega),rdI hl,rdI hm,if_pos e,wrapS hl (by omega)]
  ·rw [show eqI l[k] m[k]=false from decide_eq_false e,Bool.false_and]
   refine Ev.step (f:=fun _=>some false) (fun r=>?_) (Ev.now _)
   simp only [coronerref01_Same.l0]
   rw [if_pos (by omega),if_pos (by omega),if_pos (by omega),rdI hl,rdI hm,if_neg e]
theorem rsameI_ev (l m:List Int) (hb:l.length≤big):Ev (fun r=>coronerref01_Same.f r l m) (eqL eqI l m):=by
 by_cases hlm:l.length=m.length
 ·have:=rsame_l0 l m hlm hb l.length 0 (by omega)
  rw [List.drop_zero,List.drop_zero] at this
  refine Ev.congr (fun r=>?_) this
  unfold coronerref01_Same.f
  rw [if_pos (by omega)];rfl
 ·rw [eqL_len hlm]
  refine Ev.congr (f:=fun _=>some false) (fun r=>?_) (Ev.now _)
  unfold coronerref01_Same.f
  rw [if_neg (by omega)]
theorem rsameOp_ev (x y:S39) (hb:x.f3.length≤big):Ev (fun r=>coronerref03_sameOp.f r x.f0 x.f1 x.f2 x.f3 y.f0 y.f1 y.f2 y.f3) (eqO x y):=by
 unfold eqO
 by_cases h0:x.f0=y.f0
 ·rw [show (x.f0 == y.f0)=true from by rw [h0];exact beq_self_eq_true _,Bool.true_and]
  by_cases h1:x.f1=y.f1
  ·rw [decide_eq_true h1,Bool.true_and]
   by_cases h2:x.f2=y.f2
   ·rw [decide_eq_true h2,Bool.true_and]
    refine Ev.congr (fun r=>?_) (rsameI_ev x.f3 y.f3 hb)
    unfold coronerref03_sameOp.f
    rw [if_pos (by rw [h0];exact beq_self_eq_true _),if_pos h1,if_pos h2]
    cases coronerref01_Same.f r x.f3 y.f3 <;> rfl
   ·rw [decide_eq_false h2,Bool.false_and]
    refine Ev.congr (f:=fun _=>some false) (fun r=>?_) (Ev.now _)
    unfold coronerref03_sameOp.f
    rw [if_pos (by rw [h0];exact beq_self_eq_true _),if_pos h1,if_neg h2]
  ·rw [decide_eq_false h1,Bool.false_and]
   refine Ev.congr (f:=fun _=>some false) (fun r=>?_) (Ev.now _)
   unfold coronerref03_sameOp.f
   rw [if_pos (by rw [h0];exact beq_self_eq_true _),if_neg h1]
 ·have e:(x.f0 == y.f0)=false:=by simp [h0]
  rw [e,Bool.false_and]
  refine Ev.congr (f:=fun _=>some false) (fun r=>?_) (Ev.now _)
  unfold coronerref03_sameOp.f
  rw [e,if_neg (by decide)]
section
variable {l m:List S42} {R:Bool}
theorem rsame_l1 (x5:Nat) (hx5:x5 < l.length) (hb:l.length≤big) (a0 b0:Int) (a1 b1:Bool) (a2 b2:List S39) (hab:a2.length=b2.length) (ha:a2.length≤big) (hs:∀ o ∈ a2,o.f3.length≤big)
 (hR:Ev (fun r=>coronerref03_Same.l0 r ((x5+1:Nat):Int) l m) R):∀ (d j:Nat),j+d=a2.length →
 Ev (fun r=>coronerref03_Same.l1 r (x5:Int) (j:Int) l m a0 a1 a2 b0 b1 b2) (eqL eqO (a2.drop j) (b2.drop j) && R)
 | 0,j,hj=>by
  rw [eqL_end hab (by omega),Bool.true_and]
  refine Ev.step (fun r=>?_) hR
  unfold big at *
  simp only [coronerref03_Same.l1]
  rw [if_neg (by omega),wrapS hx5 (by omega)]
 | d+1,j,hj=>by
  have h1:j < a2.length:=by omega
  have h2:j < b2.length:=by omega
  have ih:=rsame_l1 x5 hx5 hb a0 b0 a1 b1 a2 b2 hab ha hs hR d (j+1) (by omega)
  have ho:=rsameOp_ev a2[j] b2[j] (hs _ (List.getElem_mem h1))
  unfold big at *
  rw [eqL_drop h1 h2,Bool.and_assoc]
  have hstep:∀ r,coronerref03_Same.l1 (r+1) (x5:Int) (j:Int) l m a0 a1 a2 b0 b1 b2=(coronerref03_sameOp.f r a2[j].f0 a2[j].f1 a2[j].f2 a2[j].f3 b2[j].f0 b2[j].f1 b2[j].f2 b2[j].f3).bind fun t=>if t=true then coronerref03_Same.l1 r (x5:Int) ((j+1:Nat):Int) l m a0 a1 a2 b0 b1 b2 else some false:=fun r=>by
   simp only [coronerref03_Same.l1]
   rw [if_pos (by omega),if_pos (by omega),if_pos (by omega),rd39 h1,rd39 h2,wrapS h1 (by omega)]
  refine Ev.step hstep ?_
  refine Ev.bind (f:=fun r t=>if t=true then coronerref03_Same.l1 r (x5:Int) ((j+1:Nat):Int) l m a0 a1 a2 b0 b1 b2 else some false) ho ?_
  cases eqO a2[j] b2[j] with
  | true=>rw [Bool.true_and];exact Ev.congr (fun r=>if_pos rfl) ih
  | false=>rw [Bool.false_and];exact Ev.congr (f:=fun _=>some false) (fun r=>if_neg (by decide)) (Ev.now _)
theorem rsame_l0H (hlm:l.length=m.length) (hb:SB l):∀ (d k:Nat),k+d=l.length→Ev (fun r=>coronerref03_Same.l0 r (k:Int) l m) (eqL eqT (l.drop k) (m.drop k))
 | 0,k,hk=>by
  rw [eqL_end hlm (by omega)]
  exact Ev.step (f:=fun _=>some _) (fun r=>by simp only [coronerref03_Same.l0];rw [if_neg (by omega)]) (Ev.now _)
 | d+1,k,hk=>by
  have h1:k < l.length:=by omega
  have h2:k < m.length:=by omega
  have ih:=rsame_l0H hlm hb d (k+1) (by omega)
  have hbt:=hb.2 _ (List.getElem_mem h1)
  rw [eqL_drop h1 h2]
  unfold eqT
  by_cases e0:l[k].f0=m[k].f0
  ·rw [decide_eq_true e0,Bool.true_and]
   by_cases e1:l[k].f1=m[k].f1
   ·rw [show (l[k].f1 == m[k].f1)=true from by rw [e1];exact beq_self_eq_true _,Bool.true_and]
    have hne:(l[k].f1 != m[k].f1)=false:=by rw [e1];simp
    by_cases e2:l[k].f2.length=m[k].f2.length
    ·have hj:=rsame_l1 (m:=m) k h1 hb.1 l[k].f0 m[k].f0 l[k].f1 m[k].f1 l[k].f2 m[k].f2 e2 hbt.1 hbt.2 ih l[k].f2.length 0 (by omega)
     rw [List.drop_zero,List.drop_zero] at hj
     refine Ev.step (f:=fun r=>coronerref03_Same.j1 r (k:Int) false l m l[k].f0 l[k].f1 l[k].f2 m[k].f0 m[k].f1 m[k].f2) (fun r=>?_) (Ev.step (fun r=>?_) hj)
     ·have hl2:((l[k].f2.length:Int) != (m[k].f2.length:Int))=false:=by rw [e2];simp
      simp only [coronerref03_Same.l0]
      rw [if_pos (by omega),if_pos (by omega),if_pos (by omega),rd42 h1,rd42 h2,if_pos e0,if_neg (by rw [hne];decide),hl2]
     ·simp only [coronerref03_Same.j1]
      rw [if_neg (by decide)];rfl
    ·rw [eqL_len e2,Bool.false_and]
     refine Ev.step (f:=fun r=>coronerref03_Same.j1 r (k:Int) true l m l[k].f0 l[k].f1 l[k].f2 m[k].f0 m[k].f1 m[k].f2) (fun r=>?_) (Ev.step (f:=fun _=>some false) (fun r=>by simp only [coronerref03_Same.j1];rw [if_pos trivial]) (Ev.now _))
     have hl2:((l[k].f2.length:Int) != (m[k].f2.length:Int))=true:=by simp;omega
     simp only [coronerref03_Same.l0]
     rw [if_pos (by omega),if_pos (by omega),if_pos (by omega),rd42 h1,rd42 h2,if_pos e0,if_neg (by rw [hne];decide),hl2]
   ·rw [show (l[k].f1 == m[k].f1)=false from by simp [e1],Bool.false_and,Bool.false_and]
    have hne:(l[k].f1 != m[k].f1)=true:=by simp [e1]
    refine Ev.step (f:=fun r=>coronerref03_Same.j1 r (k:Int) true l m l[k].f0 l[k].f1 l[k].f2 m[k].f0 m[k].f1 m[k].f2) (fun r=>?_) (Ev.step (f:=fun _=>some false) (fun r=>by simp only [coronerref03_Same.j1];rw [if_pos trivial]) (Ev.now _))
    simp only [coronerref03_Same.l0]
    rw [if_pos (by omega),if_pos (by omega),if_pos (by omega),rd42 h1,rd42 h2,if_pos e0,if_pos hne]
  ·rw [decide_eq_false e0,Bool.false_and,Bool.false_and]
   refine Ev.step (f:=fun r=>coronerref03_Same.j1 r (k:Int) true l m l[k].f0 l[k].f1 l[k].f2 m[k].f0 m[k].f1 m[k].f2) (fun r=>?_) (Ev.step (f:=fun _=>some false) (fun r=>by simp only [coronerref03_Same.j1];rw [if_pos trivial]) (Ev.now _))
   simp only [coronerref03_Same.l0]
   rw [if_pos (by omega),if_pos (by omega),if_pos (by omega),rd42 h1,rd42 h2,if_neg e0]
theorem rsame_ev (l m:List S42) (hb:SB l):Ev (fun r=>coronerref03_Same.f r l m) (eqH l m):=by
 unfold eqH
 by_cases hlm:l.length=m.length
 ·have:=rsame_l0H hlm hb l.length 0 (by omega)
  rw [List.drop_zero,List.drop_zero] at this
  refine Ev.congr (fun r=>?_) this
  unfold coronerref03_Same.f
  rw [if_pos (by omega)];rfl
 ·rw [eqL_len hlm]
  refine Ev.congr (f:=fun _=>some false) (fun r=>?_) (Ev.now _)
  unfold coronerref03_Same.f
  rw [if_neg (by omega)]
end
theorem rsame_c (w:World) (l m:List S42) (A B:Option Addr) (c d:Nat) (hl:Kd.C k42 w A l.length l) (hm:Kd.C k42 w B m.length m) (hc:l.length≤c) (hd:m.length≤d) (hb:SB l) :
 Calls Try.prog 22 #[.agg #[.slice A l.length c],.agg #[.slice B m.length d]] w fun e w'=>e=.returned (.bool (eqH l m))∧Below w.heap.size w w':=by
 obtain ⟨K,hK⟩:=(rsame_ev l m hb).rounds
 exact coronerref03_Same.calls K A c l B d m _ w hl hc hm hd hK
theorem rops_c (w:World) (l:List S42) (A:Option Addr) (c:Nat) (hl:Kd.C k42 w A l.length l) (hc:l.length≤c) (h1:l.length≤big) (h2:opsN l≤big) :
 Calls Try.prog 24 #[.agg #[.slice A l.length c]] w fun e w'=>e=.returned (.int .i64 (opsN l))∧Below w.heap.size w w':=by
 obtain ⟨K,hK⟩:=(rops_ev l h1 h2).rounds
 exact coronerref03_Ops.calls K A c l _ w hl hc hK
end Go.Proofs.Ytlcioegdmopppaa.Hs
set_option linter.unusedSimpArgs false
namespace Go.Proofs.Ytlcioegdmopppaa.Hs
open Go.RowKit Go.Proofs.Ytlcioegdmopppaa.PEncodeBack Go.Proofs.YtlcioegdmopppaaW.PrintWords
set_option linter.unusedVariables false
def t1:List Int:=[116,32,55,32,99,10,97,32,49,32,53,10,114,32,49,32,53,10]
def t2:List Int:=[116,32,55,32,99,10,97,32,49,32,53,10,97,32,49,32,53,10]
end Go.Proofs.Ytlcioegdmopppaa.Hs
