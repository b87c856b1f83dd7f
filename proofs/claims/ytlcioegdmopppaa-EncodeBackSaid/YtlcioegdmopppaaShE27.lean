/- Printed by shake.py. -/
import Derived.Test.YtlcioegdmopppaaShE26
import Derived.Test.YtlcioegdmopppaaShE21
import Derived.DeepKeys4
set_option linter.unusedSimpArgs false
namespace Go.Proofs.Ytlcioegdmopppaa.Hs
open Go.RowKit Go.Maps Go.Proofs.Ytlcioegdmopppaa.PEncodeBack Go.Proofs.YtlcioegdmopppaaW.PrintWords
open Cur (Cr At peek fail byte number nums_)
set_option linter.unusedVariables false
section
variable {P:Program} {ops:Array Oper} {o:Oper} {a:Act} {Q:Exit→Act→World→Prop} {w:World} {Kc:Act→World→Prop} {k e:TypeId} {b n:Nat}
theorem upon_put (t k e:TypeId) (q:IntKind) (K:Keyed P k) (ht:P.underlying t=some (.map k e)) (he:P.underlying e=some (.int q))
 (b n:Nat) (S:Value→Prop) (hS:MapI P k e w b n S) (hn:n < maxLen) (key:Value) (kl:Lit) (hkey:keyOf P k key=some kl) (c:Int) (hwf:(Lit.int q c).wf=true)
 (hK:∀ w',MapI P k e w' b (n+1) (fun v=>v=key ∨ S v)→w.grownBy w' (some b)→Kc (a.put o.dst undef) w') :
 Oper.upon P o a Kc Q (((Instr.mapUpdate t (.map (some b)) key (.int q c)).run P w).andThen fun _ w'=>.ok Next.skip w'):=by
 obtain ⟨D,hown,hmap,hD⟩:=hS
 obtain ⟨w',hrun,r1,r2⟩:=hown.update K ht hn (val:=.int q c) hkey (d:=.lit (.int q c)) (ps:=[]) (plainElem_int he hwf)
 rw [hrun]
 refine hK w' ⟨_,r1,?_,fun u l hl=>?_⟩ r2
 ·obtain ⟨es,rfl⟩:=hmap
  exact ⟨_,rfl⟩
 ·by_cases e1:l=kl
  ·subst e1
   have e2:=K.inj hl hkey
   subst e2
   rw [has_put_same hmap (K.key hkey)]
   simp
  ·rw [has_put_other e1,hD u l hl]
   constructor
   ·exact Or.inr
   ·rintro (rfl|h)
    ·rw [hkey] at hl;exact absurd (Option.some.inj hl).symm e1
    ·exact h
end
theorem laidOut:laidOutB Try.prog=true:=by kernel_rfl
theorem lawI:Keyed Try.prog 3:=int_keyed Try.underlying3
theorem lawP:Keyed Try.prog 106:=Keyed.of_law (deep_law_laid laidOut (m:=3) (by omega) (of_decide_eq_true (by kernel_rfl)) (by kernel_rfl) (by rw [Try.underlying106]))
theorem zeroI (w:World):(zeroValue 3).run Try.prog w=.ok (.int .i64 0) w:=Try.zeroValue3 w
theorem wf_ok {n:Int} (h:0≤n∧n≤2147483647):(Lit.int .i64 n).wf=true:=WalkArith.wf_i64 (by omega)
theorem keyI {n:Int} (h:0≤n∧n≤2147483647):keyOf Try.prog 3 (.int .i64 n)=some (.int .i64 n):=keyOf_int_mk Try.underlying3 (wf_ok h)
theorem keyTy:Try.prog.keyType 106=true:=by kernel_rfl
theorem cellsP:Try.prog.cellsOf 106=2:=by kernel_rfl
theorem cellsI:Try.prog.cellsOf 3=1:=by kernel_rfl
theorem keyP {a b:Int} (ha:0≤a∧a≤2147483647) (hb:0≤b∧b≤2147483647):∃ kl,keyOf Try.prog 106 (.agg #[.int .i64 a,.int .i64 b])=some kl:=by
 have wa:=wf_ok ha
 have wb:=wf_ok hb
 obtain ⟨m,hm⟩:∃ m,Try.prog.types.size=m+1:=⟨Try.prog.types.size - 1,by have:0 < Try.prog.types.size:=of_decide_eq_true (by kernel_rfl);omega⟩
 unfold keyOf
 simp only [Try.underlying106]
 rw [if_pos (by simp [keyTy,Value.formed,Try.underlying106,cellsP]),hm]
 unfold Program.keyLits
 simp only [Try.underlying106,Value.cells]
 rw [if_pos (by rw [cellsP];exact ⟨rfl,by decide +kernel⟩)]
 simp [Program.keyLits,Try.underlying3,cellsI,wa,wb]
def IdS (ids:List Int) (v:Value):Prop:=∃ i ∈ ids,v=.int .i64 i
def MetS (met:List (Int × Int)) (v:Value):Prop:=∃ p ∈ met,v=.agg #[.int .i64 p.1,.int .i64 p.2]
theorem idS_iff (ids:List Int) (n:Int):decide (n ∈ ids)=true ↔ IdS ids (.int .i64 n):=by
 unfold IdS
 simp
theorem metS_iff (met:List (Int × Int)) (a b:Int):decide ((a,b) ∈ met)=true ↔ MetS met (.agg #[.int .i64 a,.int .i64 b]):=by
 unfold MetS
 rw [decide_eq_true_iff]
 constructor
 ·exact fun h=>⟨_,h,rfl⟩
 ·rintro ⟨⟨x,y⟩,h,e⟩
  simp at e
  obtain ⟨rfl,rfl⟩:=e
  exact h
theorem idS_cons (ids:List Int) (n:Int) (v:Value):(v=.int .i64 n ∨ IdS ids v) ↔ IdS (n :: ids) v:=by unfold IdS;simp
theorem metS_cons (met:List (Int × Int)) (a b:Int) (v:Value):(v=.agg #[.int .i64 a,.int .i64 b] ∨ MetS met v) ↔ MetS ((a,b) :: met) v:=by unfold MetS;simp
structure RS where
 c:Cr
 h:List S42
 ids:List Int
 met:List (Int × Int)
abbrev RS.to (s:RS) (c:Cr):RS:=⟨c,s.h,s.ids,s.met⟩
def opsN (h:List S42):Nat:=(h.map (·.f2.length)).sum
def addOp (h:List S42) (o:S39):List S42:=h.set (h.length - 1) { (h.getD (h.length - 1) z42) with f2:=(h.getD (h.length - 1) z42).f2 ++ [o] }
section
variable (l:List Int)
def push (s:RS) (id x:Int):RS:={ c:=s.c,h:=s.h ++ [⟨id,decide (x=97),[]⟩],ids:=id :: s.ids,met:=s.met }
def txnEnd (s:RS) (c:Cr) (id:Int):RS:=push (s.to (byte l (byte l (byte l c 32) (if (peek l (byte l c 32)).1=97 then 97 else 99)) 10)) id (if (peek l (byte l c 32)).1=97 then 97 else 99)
def txnNum (s:RS) (c:Cr):RS:=txnEnd l s (if (number l c).2 ∈ s.ids∧(number l c).1.e=0 then fail (number l c).1 5 c.p else (number l c).1) (number l c).2
def txnFrom (s:RS) (c:Cr):RS:=txnNum l s (byte l (byte l c 116) 32)
def txn (s:RS):RS:=txnFrom l s (if 1024≤s.h.length then fail s.c 3 s.c.p else s.c)
def op0 (most:Int) (x:Int) (s:RS):Cr:=byte l (byte l (if s.h=[] then fail s.c 4 s.c.p else if most≤opsN s.h then fail s.c 3 s.c.p else s.c) x) 32
def op1 (most:Int) (x:Int) (s:RS):Cr:=(number l (op0 l most x s)).1
def opKey (most:Int) (x:Int) (s:RS):Int:=(number l (op0 l most x s)).2
def app0 (c:Cr):Cr:=byte l c 32
def appV (c:Cr):Int:=(number l (app0 l c)).2
def app1 (met:List (Int × Int)) (key:Int) (c:Cr):Cr:=let d:=(number l (app0 l c)).1;if (key,appV l c) ∈ met∧d.e=0 then fail d 6 (app0 l c).p else d
def fin (s:RS) (c:Cr) (o:S39) (met:List (Int × Int)):RS:={ c:=c,h:=if c.e=0 then addOp s.h o else s.h,ids:=s.ids,met:=met }
def apps (most:Int) (s:RS):RS:=fin s (byte l (app1 l s.met (opKey l most 97 s) (op1 l most 97 s)) 10) ⟨false,opKey l most 97 s,appV l (op1 l most 97 s),[]⟩ ((opKey l most 97 s,appV l (op1 l most 97 s)) :: s.met)
def reads (most:Int) (s:RS):RS:=fin s (byte l (nums_ l (op1 l most 114 s)).1 10) ⟨true,opKey l most 114 s,0,(nums_ l (op1 l most 114 s)).2⟩ s.met
def line (most:Int) (s:RS):RS:=if (peek l s.c).1=97 then apps l most s else if (peek l s.c).1=114 then reads l most s else txn l (if (peek l s.c).1=116 then s else { s with c:=fail s.c 4 s.c.p })
def lines (most:Int):Nat→RS→RS
 | 0,s=>s
 | n+1,s=>if (peek l s.c).2=true then lines most n (line l most s) else s
def start:RS:=⟨⟨0,0,0⟩,[],[],[]⟩
end
def Ok4 (b cb ib mb:Nat) (k:Nat):Prop:=k ≠ b∧k ≠ cb∧k ≠ ib∧k ≠ mb
def cellsR (cb ib mb:Nat) (v:Value) (s:RS) (most:Int):List Value:=[.pointer (some ⟨cb,0,none⟩),v,.int .i64 (opsN s.h),.int .i64 most,.map (some ib),.map (some mb)]
structure Env where
 wO:World
 b:Nat
 cb:Nat
 ib:Nat
 mb:Nat
 A:Option Addr
 l:List Int
 c:Nat
 most:Int
structure Env.Good (E:Env):Prop where
 hC:Kd.C (Kd.int .u8) E.wO E.A E.l.length E.l
 hc:E.l.length≤E.c
 hb:Bytes E.l
 hl:E.l.length≤262144
 m0:0≤E.most
 m1:E.most≤4096
 b0:E.wO.heap.size≤E.b
 c0:E.wO.heap.size≤E.cb
 i0:E.wO.heap.size≤E.ib
 n0:E.wO.heap.size≤E.mb
 d1:E.b ≠ E.cb
 d2:E.b ≠ E.ib
 d3:E.b ≠ E.mb
 d4:E.cb ≠ E.ib
 d5:E.cb ≠ E.mb
 d6:E.ib ≠ E.mb
structure RD (E:Env) (w:World) (v:Value) (s:RS) (ni nm:Nat):Prop where
 box:Blk w E.b (cellsR E.cb E.ib E.mb v s E.most) 65
 row:Kd.S k42 42 w E.wO.heap.size (Ok4 E.b E.cb E.ib E.mb) v s.h
 cur:At w E.cb E.A E.l.length E.c s.c
 ids_:MapI Try.prog 3 3 w E.ib ni (IdS s.ids)
 met_:MapI Try.prog 106 3 w E.mb nm (MetS s.met)
 bel:Below E.wO.heap.size E.wO w
theorem RD.C {E:Env} {w:World} {v:Value} {s:RS} {ni nm:Nat} (h:RD E w v s ni nm) (g:E.Good):Kd.C (Kd.int .u8) w E.A E.l.length E.l:=Kd.C_below g.hC h.bel
theorem RD.chg {E:Env} {w w':World} {v:Value} {s:RS} {ni nm:Nat} (h:RD E w v s ni nm) (g:E.Good) {c':Cr} (ha:At w' E.cb E.A E.l.length E.c c') (hc:Chg (fun k=>k=E.cb) w w'):RD E w' v (s.to c') ni nm :=
 ⟨h.box.chg hc g.d1,Kd.S_step h.row (fun k hk hl=>hc.block k hl hk.2.1),ha,h.ids_.block (hc.block _ h.ids_.lt (fun e=>g.d4 e.symm)),h.met_.block (hc.block _ h.met_.lt (fun e=>g.d5 e.symm)),h.bel.trans (hc.below h.bel.size fun i hi=>by rw [hi];exact g.c0)⟩
theorem RD.below {E:Env} {w w':World} {v:Value} {s:RS} {ni nm:Nat} (h:RD E w v s ni nm) (hb:Below w.heap.size w w'):RD E w' v s ni nm:=by
 have hcb:E.cb < w.heap.size:=Blk.lt h.cur
 exact ⟨h.box.chg (Chg.of_below (S:=fun _=>False) hb) id,Kd.S_below h.row hb,Blk.chg h.cur (Chg.of_below (S:=fun _=>False) hb) id,h.ids_.below hb,h.met_.below hb,h.bel.trans (hb.mono h.bel.size)⟩
theorem RD.cells {E:Env} {w:World} {v:Value} {s:RS} {ni nm:Nat} (h:RD E w v s ni nm) :
 w.cell? ⟨E.b,0,none⟩=some (.pointer (some ⟨E.cb,0,none⟩))∧w.cell? ⟨E.b,1,none⟩=some v∧w.cell? ⟨E.b,2,none⟩=some (.int .i64 (opsN s.h))∧w.cell? ⟨E.b,3,none⟩=some (.int .i64 E.most)∧w.cell? ⟨E.b,4,none⟩=some (.map (some E.ib))∧w.cell? ⟨E.b,5,none⟩=some (.map (some E.mb)) :=
 ⟨h.box.cell 0,h.box.cell 1,h.box.cell 2,h.box.cell 3,h.box.cell 4,h.box.cell 5⟩
theorem RD.put_id {E:Env} {w w':World} {v:Value} {s:RS} {ni nm:Nat} (h:RD E w v s ni nm) (g:E.Good) {ids:List Int} {n:Nat} (hM:MapI Try.prog 3 3 w' E.ib n (IdS ids)) (hg:w.grownBy w' (some E.ib)):RD E w' v ⟨s.c,s.h,ids,s.met⟩ n nm :=
 ⟨by have:=h.box;unfold Blk at *;rw [hg.block _ h.box.lt (by have:=g.d2;simpa using this)];exact this,Kd.S_grown h.row hg (fun k hk=>by have:=hk.2.2.1;simpa using this),by
  have:=h.cur;unfold At Cur.Is Blk at *;rw [hg.block _ (Blk.lt h.cur) (by have:=g.d4;simpa using this)];exact this,hM,h.met_.grown hg (by have:=g.d6;simp;exact fun e=>this e.symm),h.bel.grown hg h.bel.size (fun k hk=>by injection hk with hk;rw [← hk];exact g.i0)⟩
theorem RD.put_met {E:Env} {w w':World} {v:Value} {s:RS} {ni nm:Nat} (h:RD E w v s ni nm) (g:E.Good) {met:List (Int × Int)} {n:Nat} (hM:MapI Try.prog 106 3 w' E.mb n (MetS met)) (hg:w.grownBy w' (some E.mb)):RD E w' v ⟨s.c,s.h,s.ids,met⟩ ni n :=
 ⟨by have:=h.box;unfold Blk at *;rw [hg.block _ h.box.lt (by have:=g.d3;simpa using this)];exact this,Kd.S_grown h.row hg (fun k hk=>by have:=hk.2.2.2;simpa using this),by
  have:=h.cur;unfold At Cur.Is Blk at *;rw [hg.block _ (Blk.lt h.cur) (by have:=g.d5;simpa using this)];exact this,h.ids_.grown hg (by have:=g.d6;simpa using this),hM,h.bel.grown hg h.bel.size (fun k hk=>by injection hk with hk;rw [← hk];exact g.n0)⟩
theorem RD.out {E:Env} {w:World} {v:Value} {s:RS} {ni nm:Nat} (h:RD E w v s ni nm):some E.b ≠ v.ownBlock∧some E.cb ≠ v.ownBlock∧some E.ib ≠ v.ownBlock∧some E.mb ≠ v.ownBlock :=
 ⟨Kd.S_away h.row (fun _ hk=>hk.1),Kd.S_away h.row (fun _ hk=>hk.2.1),Kd.S_away h.row (fun _ hk=>hk.2.2.1),Kd.S_away h.row (fun _ hk=>hk.2.2.2)⟩
theorem RD.fresh {E:Env} {w:World} {v:Value} {s:RS} {ni nm:Nat} (h:RD E w v s ni nm) (k:Nat) (hk:w.heap.size≤k):Ok4 E.b E.cb E.ib E.mb k:=by
 have h1:=h.box.lt
 have h2:=Blk.lt h.cur
 have h3:=h.ids_.lt
 have h4:=h.met_.lt
 unfold Ok4;omega
theorem RD.grow {E:Env} (g:E.Good) {w w5:World} {v v1:Value} {s:RS} {ni nm:Nat} (h:RD E w v s ni nm) {h1:List S42} (hS:Kd.S k42 42 w5 E.wO.heap.size (Ok4 E.b E.cb E.ib E.mb) v1 h1) (hb:Below E.wO.heap.size E.wO w5) (hg:w.grownBy w5 v.ownBlock) (hn:opsN h1=opsN s.h) :
 RD E (w5.setCell ⟨E.b,1,none⟩ v1) v1 ⟨s.c,h1,s.ids,s.met⟩ ni nm∧Blk w5 E.b (cellsR E.cb E.ib E.mb v s E.most) 65:=by
 have ha:=h
 obtain ⟨n1,n2,n3,n4⟩:=h.out
 have hB:Blk w5 E.b (cellsR E.cb E.ib E.mb v s E.most) 65:=by have:=ha.box;unfold Blk at *;rw [hg.block _ ha.box.lt n1];exact this
 have hc:At w5 E.cb E.A E.l.length E.c s.c:=by have:=ha.cur;unfold At Cur.Is Blk at *;rw [hg.block _ (Blk.lt ha.cur) n2];exact this
 refine ⟨⟨?_,Kd.S_far hS (fun k hk=>hk.1) _,?_,(ha.ids_.grown hg n3).set g.d2.symm _,(ha.met_.grown hg n4).set g.d3.symm _,bset g.b0 hb⟩,hB⟩
 ·have:=hB.set 1 v1
  simp only [cellsR,List.set_cons_succ,List.set_cons_zero] at this
  simp only [cellsR,hn]
  exact this
 ·exact Blk.chg hc ((Chg.refl (fun i=>i=E.b) w5).set 1 (.inl rfl) v1) (fun e=>g.d1 e.symm)
theorem number_in (l:List Int) (s:Cr) (hs:Cur.Ok l s) (hb:Bytes l):0≤(number l s).2∧(number l s).2≤2147483647:=by
 unfold number
 split
 ·split
  ·next h =>
   obtain ⟨m,e1,e2,_⟩:=parse_text l s.p hs.1 hs.2 h
   simp only [e1]
   omega
  ·simp
 ·simp
end Go.Proofs.Ytlcioegdmopppaa.Hs
set_option linter.unusedSimpArgs false
namespace Go.Proofs.Ytlcioegdmopppaa.Hs
open Go.RowKit Go.Maps Go.Proofs.Ytlcioegdmopppaa.PEncodeBack Go.Proofs.YtlcioegdmopppaaW.PrintWords
open Cur (Cr At peek fail byte number nums_)
set_option linter.unusedVariables false
theorem len_ok {E:Env} (g:E.Good):(E.l.length:Int)≤140737488351232:=by have:=g.hl;omega
theorem byte_r {E:Env} (g:E.Good) {w:World} {v:Value} {s:RS} {ni nm:Nat} (h:RD E w v s ni nm) (hok:Cur.Ok E.l s.c) (y:Int) :
 Calls Try.prog 66 #[.pointer (some ⟨E.cb,0,none⟩),.int .u8 y] w fun r w'=>r=.returned (.tuple #[])∧RD E w' v (s.to (byte E.l s.c y)) ni nm :=
 (Cur.byte_calls w E.cb E.A E.l E.c s.c h.cur (h.C g) hok.1 (len_ok g) y).mono fun _ _ ⟨h1,h2,h3⟩=>⟨h1,h.chg g h2 h3⟩
theorem number_r {E:Env} (g:E.Good) {w:World} {v:Value} {s:RS} {ni nm:Nat} (h:RD E w v s ni nm) :
 Calls Try.prog 67 #[.pointer (some ⟨E.cb,0,none⟩)] w fun r w'=>r=.returned (.int .i64 (number E.l s.c).2)∧RD E w' v (s.to ((number E.l s.c).1)) ni nm :=
 (Cur.number_calls w E.cb E.A E.l E.c s.c h.cur (h.C g) g.hc g.hb (len_ok g)).mono fun _ _ ⟨h1,h2,h3⟩=>⟨h1,h.chg g h2 h3⟩
theorem fail_r {E:Env} (g:E.Good) {w:World} {v:Value} {s:RS} {ni nm:Nat} (h:RD E w v s ni nm) (e a:Int) :
 Calls Try.prog 51 #[.pointer (some ⟨E.cb,0,none⟩),.int .i64 e,.int .i64 a] w fun r w'=>r=.returned (.tuple #[])∧RD E w' v (s.to (fail s.c e a)) ni nm :=
 (Cur.fail_calls w E.cb E.A E.l.length E.c s.c h.cur e a).mono fun _ _ ⟨h1,h2,h3⟩=>⟨h1,h.chg g h2 h3⟩
theorem RD.drewN {E:Env} {w:World} {v:Value} {s:RS} {ni nm:Nat} (h:RD E w v s ni nm) (q:Nat):RD E (w.drewN q) v s ni nm:=h.below (pw_below_drewN (Below.refl _ _) q)
theorem peek_r {E:Env} (g:E.Good) {w:World} {v:Value} {s:RS} {ni nm:Nat} (h:RD E w v s ni nm) (hok:Cur.Ok E.l s.c) :
 Calls Try.prog 47 #[.pointer (some ⟨E.cb,0,none⟩)] w fun r w'=>r=.returned (.tuple #[.int .u8 (peek E.l s.c).1,.bool (peek E.l s.c).2])∧RD E w' v s ni nm :=
 (Cur.peek_calls w E.cb E.A E.l E.c s.c h.cur (h.C g) hok.1).mono fun _ _ ⟨h1,q,h2⟩=>⟨h1,by rw [h2];exact h.drewN q⟩
theorem at_r {E:Env} (g:E.Good) {w:World} {v:Value} {s:RS} {ni nm:Nat} (h:RD E w v s ni nm) :
 Calls Try.prog 52 #[.pointer (some ⟨E.cb,0,none⟩)] w fun r w'=>r=.returned (.int .i64 s.c.p)∧w=w':=Cur.at_calls w E.cb E.A E.l.length E.c s.c.p s.c.e s.c.x h.cur
theorem goes_c {E:Env} (g:E.Good) {w:World} {v:Value} {s:RS} {ni nm:Nat} (h:RD E w v s ni nm) :
 Calls Try.prog 68 #[.pointer (some ⟨E.b,0,none⟩)] w fun r w'=>r=.returned (.bool (s.c.e == 0))∧RD E w' v s ni nm:=by
 obtain ⟨q0,_⟩:=h.cells
 have HE:=Lib.hid (Cur.err_calls w E.cb E.A E.l.length E.c s.c.p s.c.e s.c.x h.cur)
 have H:=Lib.hid h
 clear h
 go_enter Try.func68,Try.ntmps68
 go_wp2_with (go_at_call 35;refine HE.out.mono ?_;rintro r w' ⟨rfl,q,rfl⟩)
 go_ret
 exact ⟨rfl,H.out.drewN _⟩
def rightN:Nat→Code→Code
 | 0,c=>c
 | n+1,.seq _ b=>rightN n b
 | _+1,c=>c
noncomputable def txnRest (n:Nat):Code:=rightN n (Try.f53.body.getD .skip)
theorem txn_info:(Try.prog.info? 42).map (fun i=>(i.zero,i.size,i.bytes))=some (some (.agg #[.int .i64 0,.bool false,.slice none 0 0]),3,40):=by kernel_rfl
theorem opsN_push (h:List S42) (id:Int) (b:Bool):opsN (h ++ [⟨id,b,[]⟩])=opsN h:=by simp [opsN]
set_option maxHeartbeats 4000000 in
set_option maxRecDepth 100000 in
theorem txn14 {E:Env} (g:E.Good) {w:World} {v:Value} {s:RS} {ni nm:Nat} (h:RD E w v s ni nm) (hok:Cur.Ok E.l s.c) (id x:Int) (hid:0≤id∧id≤2147483647) (hn:s.h.length≤2000) (hni:ni≤2000)
 (X:Ending→World→Prop) (hX:Hid (∀ W v',RD E W v' (push (s.to (byte E.l (byte E.l s.c x) 10)) id x) (ni+1) nm→X (.returned (.tuple #[])) W)) (x1 x2 x4 x5 x7 x8 x9 x10 x11 x12 x13 x14 x15 x16 x17 x18 x19 x20 x21 x22 x23 x24 x25 x26 x27 x28 x29 x30 x31 x32 x33 x34 x35 x36 x37 x38 x39 x40 x41 x42 x43 x44 x45 x46 x47 x48 x49 x50 x51 x52 x53 x54 x55 x56 x57 x58 x59 x60 x61 x62 x63 x64 x65 x66 x67 x68 x69 x70 x71 x72 x73 x74 x75 x76 x77 x78 x79 x80 x81 x82 x83 x84 x85 x86 x87 x88 x89 x90 x91 x92 x93 x94 x95 x96 x97 x98 x99 x100 x101 x102 x103 x104 x105 x106 x107 x108 x109 x110 x111 x112 x113 x114 x115 x116 x117:Value) :
 Code.wp Try.prog (txnRest 10) (bodyPost Try.prog Try.f53 X) ⟨#[.pointer (some ⟨E.b,0,none⟩),x1,x2,.int .i64 id,x4,x5,.int .u8 x,x7,x8,x9,x10,x11,x12,x13,x14,x15,x16,x17,x18,x19,x20,x21,x22,x23,x24,x25,x26,x27,x28,x29,x30,x31,x32,x33,x34,x35,x36,x37,x38,x39,x40,x41,x42,x43,x44,x45,x46,x47,x48,x49,x50,x51,x52,x53,x54,x55,x56,x57,x58,x59,x60,x61,x62,x63,x64,x65,x66,x67,x68,x69,x70,x71,x72,x73,x74,x75,x76,x77,x78,x79,x80,x81,x82,x83,x84,x85,x86,x87,x88,x89,x90,x91,x92,x93,x94,x95,x96,x97,x98,x99,x100,x101,x102,x103,x104,x105,x106,x107,x108,x109,x110,x111,x112,x113,x114,x115,x116,x117],[]⟩ w:=by
 obtain ⟨q0,q1,q2,q3,q4,q5⟩:=h.cells
 obtain ⟨A,c,rfl,hcap,-⟩:=Kd.S_reads h.row
 have H:=Lib.hid h
 have HOK:=Lib.hid hok
 have G:=Lib.hid g
 clear h g hok
 conv=>arg 2;whnf
 go_wp2_with fail
 refine (byte_r G.out H.out HOK.out x).mono ?_
 rintro r w1 ⟨rfl,h1⟩
 clear q0 q1 q2 q3 q4 q5
 obtain ⟨q0,q1,q2,q3,q4,q5⟩:=h1.cells
 have H2:=Lib.hid h1
 have HOK1:=Lib.hid (Cur.ok_byte HOK.out x);clear HOK;clear h1 H
 go_wp2_with fail
 refine (byte_r G.out H2.out HOK1.out 10).mono ?_
 rintro r w1 ⟨rfl,h1⟩
 clear q0 q1 q2 q3 q4 q5
 obtain ⟨q0,q1,q2,q3,q4,q5⟩:=h1.cells
 have H3:=Lib.hid h1
 clear h1 H2 HOK1
 have HKY:=Lib.hid (keyI hid)
 go_wp2_with fail
 have HWF:=Lib.hid (WalkArith.wf_i64 (n:=(s.h.length:Int)) (by omega))
 go_region_with (refine upon_put 62 3 3 .i64 lawI Try.underlying62 Try.underlying3 E.ib ni _ (MapI.drew H3.out.ids_) (by unfold maxLen;omega) (.int .i64 id) (.int .i64 id) HKY.out (s.h.length:Int) HWF.out ?_;intro w2 hM hg)
 all_goals
  have h4:=RD.put_id (H3.out.below ((Below.refl _ _).drew)) G.out (hM.imp (idS_cons s.ids id)) hg
  have H4:=Lib.hid h4
  obtain ⟨r0,r1,r2,r3,r4,r5⟩:=h4.cells
  have HM:=Lib.hid (k42_mkM (w2) E.wO.heap.size (fun _=>False) ⟨id,decide (x=97),[]⟩ (Kd.R_nil _ _ _ _ _))
  clear h4 hM hg H3 q0 q1 q2 q3 q4 q5
  go_wp2_with (at_builtin;refine Kd.S_append k42 (w0:=E.wO) E.wO.heap.size rfl (.tmp 108) (.tmp 113) 22 42 (.agg #[.int .i64 0,.bool false,.slice none 0 0]) 40 rfl Try.underlying22 txn_info rfl (by decide) (by decide) (.slice A s.h.length c) s.h ⟨id,decide (x=97),[]⟩ _ (Ok4 E.b E.cb E.ib E.mb) (fun _=>False) rfl rfl HM.out (fun _ hk=>hk.elim) H4.out.fresh (Kd.S_mono H4.out.row fun _ hk=>⟨hk,fun hh=>hh⟩) H4.out.bel H4.out.bel.size (by omega) ?_;intro v5 w5 hS hb5 hg5 hat5;obtain ⟨h5,hB5⟩:=RD.grow G.out H4.out hS hb5 hg5 (opsN_push s.h id _);obtain ⟨A5,c5,e5,-,-⟩:=Kd.S_reads hS;rw [List.length_append,List.length_singleton] at e5;subst e5;have H5:=Lib.hid h5;have u1:=hB5.cell 1;have u2:=hB5.free 1;simp only [cellsR,List.getElem?_cons_succ,List.getElem?_cons_zero] at u1;clear h5 hB5 hS hb5 hg5 hat5)
  go_end0
  exact hX.out _ _ H5.out
set_option maxHeartbeats 4000000 in
set_option maxRecDepth 100000 in
theorem txn10 {E:Env} (g:E.Good) {w:World} {v:Value} {s:RS} {ni nm:Nat} (h:RD E w v s ni nm) (hok:Cur.Ok E.l s.c) (id:Int) (hid:0≤id∧id≤2147483647) (hn:s.h.length≤2000) (hni:ni≤2000)
 (X:Ending→World→Prop) (hX:Hid (∀ W v',RD E W v' (txnEnd E.l s s.c id) (ni+1) nm→X (.returned (.tuple #[])) W)) (x1 x2 x4 x5 x6 x7 x8 x9 x10 x11 x12 x13 x14 x15 x16 x17 x18 x19 x20 x21 x22 x23 x24 x25 x26 x27 x28 x29 x30 x31 x32 x33 x34 x35 x36 x37 x38 x39 x40 x41 x42 x43 x44 x45 x46 x47 x48 x49 x50 x51 x52 x53 x54 x55 x56 x57 x58 x59 x60 x61 x62 x63 x64 x65 x66 x67 x68 x69 x70 x71 x72 x73 x74 x75 x76 x77 x78 x79 x80 x81 x82 x83 x84 x85 x86 x87 x88 x89 x90 x91 x92 x93 x94 x95 x96 x97 x98 x99 x100 x101 x102 x103 x104 x105 x106 x107 x108 x109 x110 x111 x112 x113 x114 x115 x116 x117:Value) :
 Code.wp Try.prog (txnRest 7) (bodyPost Try.prog Try.f53 X) ⟨#[.pointer (some ⟨E.b,0,none⟩),x1,x2,.int .i64 id,x4,x5,x6,x7,x8,x9,x10,x11,x12,x13,x14,x15,x16,x17,x18,x19,x20,x21,x22,x23,x24,x25,x26,x27,x28,x29,x30,x31,x32,x33,x34,x35,x36,x37,x38,x39,x40,x41,x42,x43,x44,x45,x46,x47,x48,x49,x50,x51,x52,x53,x54,x55,x56,x57,x58,x59,x60,x61,x62,x63,x64,x65,x66,x67,x68,x69,x70,x71,x72,x73,x74,x75,x76,x77,x78,x79,x80,x81,x82,x83,x84,x85,x86,x87,x88,x89,x90,x91,x92,x93,x94,x95,x96,x97,x98,x99,x100,x101,x102,x103,x104,x105,x106,x107,x108,x109,x110,x111,x112,x113,x114,x115,x116,x117],[]⟩ w:=by
 obtain ⟨q0,q1,q2,q3,q4,q5⟩:=h.cells
 have H:=Lib.hid h
 have HOK:=Lib.hid hok
 have G:=Lib.hid g
 clear h g hok
 conv=>arg 2;whnf
 go_wp2_with fail
 refine (byte_r G.out H.out HOK.out 32).mono ?_
 rintro r w1 ⟨rfl,h1⟩
 clear q0 q1 q2 q3 q4 q5
 obtain ⟨q0,q1,q2,q3,q4,q5⟩:=h1.cells
 have H2:=Lib.hid h1
 have HOK1:=Lib.hid (Cur.ok_byte HOK.out 32);clear HOK;clear h1 H
 go_wp2_with fail
 refine (peek_r G.out H2.out HOK1.out).mono ?_
 rintro r w1 ⟨rfl,h1⟩
 clear q0 q1 q2 q3 q4 q5
 obtain ⟨q0,q1,q2,q3,q4,q5⟩:=h1.cells
 have H3:=Lib.hid h1
 clear h1 H2
 unfold txnEnd at hX
 by_cases hx:(peek E.l (byte E.l s.c 32)).1=97
 ·rw [if_pos hx] at hX
  have hx1:(peek E.l ((s.to (byte E.l s.c 32)).c)).1=97:=hx
  rw [hx1]
  go_upto_region 12 with (fail)
  rename_i K aK K1 aK1
  have HK:=Lib.hid aK
  clear aK
  go_wp2
  refine HK.out _ _ ?_
  exact txn14 G.out H3.out HOK1.out id 97 hid hn hni X hX _ _ _ _ _ _ _ _ _ _ _ _ _ _ _ _ _ _ _ _ _ _ _ _ _ _ _ _ _ _ _ _ _ _ _ _ _ _ _ _ _ _ _ _ _ _ _ _ _ _ _ _ _ _ _ _ _ _ _ _ _ _ _ _ _ _ _ _ _ _ _ _ _ _ _ _ _ _ _ _ _ _ _ _ _ _ _ _ _ _ _ _ _ _ _ _ _ _ _ _ _ _ _ _ _ _ _ _ _ _ _ _ _ _ _
 ·rw [if_neg hx] at hX
  have hx1:¬ (peek E.l ((s.to (byte E.l s.c 32)).c)).1=97:=hx
  go_upto_region 12 with (fail)
  rename_i K aK K1 aK1
  have HK:=Lib.hid aK
  clear aK
  go_wp2
  refine HK.out _ _ ?_
  exact txn14 G.out H3.out HOK1.out id 99 hid hn hni X hX _ _ _ _ _ _ _ _ _ _ _ _ _ _ _ _ _ _ _ _ _ _ _ _ _ _ _ _ _ _ _ _ _ _ _ _ _ _ _ _ _ _ _ _ _ _ _ _ _ _ _ _ _ _ _ _ _ _ _ _ _ _ _ _ _ _ _ _ _ _ _ _ _ _ _ _ _ _ _ _ _ _ _ _ _ _ _ _ _ _ _ _ _ _ _ _ _ _ _ _ _ _ _ _ _ _ _ _ _ _ _ _ _ _ _
set_option maxHeartbeats 4000000 in
set_option maxRecDepth 100000 in
theorem txn3 {E:Env} (g:E.Good) {w:World} {v:Value} {s:RS} {ni nm:Nat} (h:RD E w v s ni nm) (hok:Cur.Ok E.l s.c) (hn:s.h.length≤2000) (hni:ni≤2000)
 (X:Ending→World→Prop) (hX:Hid (∀ W v',RD E W v' (txnFrom E.l s s.c) (ni+1) nm→X (.returned (.tuple #[])) W)) (x1 x2 x3 x4 x5 x6 x7 x8 x9 x10 x11 x12 x13 x14 x15 x16 x17 x18 x19 x20 x21 x22 x23 x24 x25 x26 x27 x28 x29 x30 x31 x32 x33 x34 x35 x36 x37 x38 x39 x40 x41 x42 x43 x44 x45 x46 x47 x48 x49 x50 x51 x52 x53 x54 x55 x56 x57 x58 x59 x60 x61 x62 x63 x64 x65 x66 x67 x68 x69 x70 x71 x72 x73 x74 x75 x76 x77 x78 x79 x80 x81 x82 x83 x84 x85 x86 x87 x88 x89 x90 x91 x92 x93 x94 x95 x96 x97 x98 x99 x100 x101 x102 x103 x104 x105 x106 x107 x108 x109 x110 x111 x112 x113 x114 x115 x116 x117:Value) :
 Code.wp Try.prog (txnRest 2) (bodyPost Try.prog Try.f53 X) ⟨#[.pointer (some ⟨E.b,0,none⟩),x1,x2,x3,x4,x5,x6,x7,x8,x9,x10,x11,x12,x13,x14,x15,x16,x17,x18,x19,x20,x21,x22,x23,x24,x25,x26,x27,x28,x29,x30,x31,x32,x33,x34,x35,x36,x37,x38,x39,x40,x41,x42,x43,x44,x45,x46,x47,x48,x49,x50,x51,x52,x53,x54,x55,x56,x57,x58,x59,x60,x61,x62,x63,x64,x65,x66,x67,x68,x69,x70,x71,x72,x73,x74,x75,x76,x77,x78,x79,x80,x81,x82,x83,x84,x85,x86,x87,x88,x89,x90,x91,x92,x93,x94,x95,x96,x97,x98,x99,x100,x101,x102,x103,x104,x105,x106,x107,x108,x109,x110,x111,x112,x113,x114,x115,x116,x117],[]⟩ w:=by
 obtain ⟨q0,q1,q2,q3,q4,q5⟩:=h.cells
 have H:=Lib.hid h
 have HOK:=Lib.hid hok
 have G:=Lib.hid g
 clear h g hok
 conv=>arg 2;whnf
 go_wp2_with fail
 refine (byte_r G.out H.out HOK.out 116).mono ?_
 rintro r w1 ⟨rfl,h1⟩
 clear q0 q1 q2 q3 q4 q5
 obtain ⟨q0,q1,q2,q3,q4,q5⟩:=h1.cells
 have H2:=Lib.hid h1
 have HOK1:=Lib.hid (Cur.ok_byte HOK.out 116);clear HOK;clear h1 H
 go_wp2_with fail
 refine (byte_r G.out H2.out HOK1.out 32).mono ?_
 rintro r w1 ⟨rfl,h1⟩
 clear q0 q1 q2 q3 q4 q5
 obtain ⟨q0,q1,q2,q3,q4,q5⟩:=h1.cells
 have H3:=Lib.hid h1
 have HOK2:=Lib.hid (Cur.ok_byte HOK1.out 32);clear HOK1;clear h1 H2
 unfold txnFrom txnNum at hX
 generalize byte E.l (byte E.l s.c 116) 32=c2 at *
 go_wp2_with fail
 refine (at_r G.out H3.out).mono ?_
 rintro r w2 ⟨rfl,rfl⟩
 go_wp2_with fail
 refine (number_r G.out H3.out).mono ?_
 rintro r w2 ⟨rfl,h5⟩
 have HOK3:=Lib.hid (Cur.ok_number HOK2.out)
 have hid:=number_in E.l c2 HOK2.out G.out.hb
 clear q0 q1 q2 q3 q4 q5
 obtain ⟨q0,q1,q2,q3,q4,q5⟩:=h5.cells
 have H5:=Lib.hid h5
 change Hid (RD E w2 v (s.to (number E.l c2).1) ni nm) at H5
 change Hid (Cur.Ok E.l (number E.l c2).1) at HOK3
 clear h5 H3 HOK2
 generalize (number E.l c2).2=id at *
 generalize (number E.l c2).1=c3 at *
 generalize c2.p=p2 at *
 have HKY:=Lib.hid (keyI hid)
 have HG:=Lib.hid (goes_c G.out H5.out)
 by_cases hin:id ∈ s.ids
 ·have HIS:=Lib.hid ((idS_iff s.ids id).1 (decide_eq_true hin))
  by_cases he:c3.e=0
  ·rw [if_pos ⟨hin,he⟩] at hX
   have hb:(c3.e == 0)=true:=by simp [he]
   change Hid (Calls Try.prog _ _ _ fun r w'=>r=.returned (.bool (c3.e == 0))∧_) at HG
   rw [hb] at HG
   clear hin he
   go_upto_region 7 with (fail)
   rename_i K aK K1 aK1
   have HK:=Lib.hid aK
   clear aK
   go_wp2_with (first
    | (at_lookup;refine wpl_ask rfl (.tmp 50) (.tmp 51) 62 rfl 3 3 .i64 lawI Try.underlying62 Try.underlying3 (zeroI _) E.ib ni (IdS s.ids) rfl H5.out.ids_ (.int .i64 id) (.int .i64 id) rfl HKY.out true ⟨fun _=>HIS.out,fun _=>rfl⟩ ?_;intro cq)
    | (go_at_call 68;((with_reducible refine HG.out.mono ?_);rintro r w6 ⟨rfl,h6⟩;obtain ⟨g0,-,-,-,-,-⟩:=h6.cells;have H6:=Lib.hid h6;clear h6)))
   refine (fail_r G.out H6.out 5 p2).mono ?_
   rintro r w7 ⟨rfl,h7⟩
   have H7:=Lib.hid h7
   clear h7 H6
   go_wp2
   refine HK.out _ _ ?_
   exact txn10 G.out H7.out (Cur.ok_fail HOK3.out 5 p2) id hid hn hni X hX _ _ _ _ _ _ _ _ _ _ _ _ _ _ _ _ _ _ _ _ _ _ _ _ _ _ _ _ _ _ _ _ _ _ _ _ _ _ _ _ _ _ _ _ _ _ _ _ _ _ _ _ _ _ _ _ _ _ _ _ _ _ _ _ _ _ _ _ _ _ _ _ _ _ _ _ _ _ _ _ _ _ _ _ _ _ _ _ _ _ _ _ _ _ _ _ _ _ _ _ _ _ _ _ _ _ _ _ _ _ _ _ _ _ _ _
  ·rw [if_neg (fun hh=>he hh.2)] at hX
   have hb:(c3.e == 0)=false:=by simp [he]
   change Hid (Calls Try.prog _ _ _ fun r w'=>r=.returned (.bool (c3.e == 0))∧_) at HG
   rw [hb] at HG
   clear hin he
   go_upto_region 7 with (fail)
   rename_i K aK K1 aK1
   have HK:=Lib.hid aK
   clear aK
   go_wp2_with (first
    | (at_lookup;refine wpl_ask rfl (.tmp 50) (.tmp 51) 62 rfl 3 3 .i64 lawI Try.underlying62 Try.underlying3 (zeroI _) E.ib ni (IdS s.ids) rfl H5.out.ids_ (.int .i64 id) (.int .i64 id) rfl HKY.out true ⟨fun _=>HIS.out,fun _=>rfl⟩ ?_;intro cq)
    | (go_at_call 68;((with_reducible refine HG.out.mono ?_);rintro r w6 ⟨rfl,h6⟩;obtain ⟨g0,-,-,-,-,-⟩:=h6.cells;have H6:=Lib.hid h6;clear h6)))
   refine HK.out _ _ ?_
   exact txn10 G.out H6.out HOK3.out id hid hn hni X hX _ _ _ _ _ _ _ _ _ _ _ _ _ _ _ _ _ _ _ _ _ _ _ _ _ _ _ _ _ _ _ _ _ _ _ _ _ _ _ _ _ _ _ _ _ _ _ _ _ _ _ _ _ _ _ _ _ _ _ _ _ _ _ _ _ _ _ _ _ _ _ _ _ _ _ _ _ _ _ _ _ _ _ _ _ _ _ _ _ _ _ _ _ _ _ _ _ _ _ _ _ _ _ _ _ _ _ _ _ _ _ _ _ _ _ _
 ·have HIS:Hid (false=true ↔ IdS s.ids (.int .i64 id)):=Lib.hid (by rw [← idS_iff];simp [hin])
  rw [if_neg (fun hh=>hin hh.1)] at hX
  clear hin
  go_upto_region 7 with (fail)
  rename_i K aK K1 aK1
  have HK:=Lib.hid aK
  clear aK
  go_wp2_with (at_lookup;refine wpl_ask rfl (.tmp 50) (.tmp 51) 62 rfl 3 3 .i64 lawI Try.underlying62 Try.underlying3 (zeroI _) E.ib ni (IdS s.ids) rfl H5.out.ids_ (.int .i64 id) (.int .i64 id) rfl HKY.out false HIS.out ?_;intro cq)
  refine HK.out _ _ ?_
  exact txn10 G.out H5.out HOK3.out id hid hn hni X hX _ _ _ _ _ _ _ _ _ _ _ _ _ _ _ _ _ _ _ _ _ _ _ _ _ _ _ _ _ _ _ _ _ _ _ _ _ _ _ _ _ _ _ _ _ _ _ _ _ _ _ _ _ _ _ _ _ _ _ _ _ _ _ _ _ _ _ _ _ _ _ _ _ _ _ _ _ _ _ _ _ _ _ _ _ _ _ _ _ _ _ _ _ _ _ _ _ _ _ _ _ _ _ _ _ _ _ _ _ _ _ _ _ _ _ _
set_option maxHeartbeats 4000000 in
set_option maxRecDepth 100000 in
theorem txn_c {E:Env} (g:E.Good) {w:World} {v:Value} {s:RS} {ni nm:Nat} (h:RD E w v s ni nm) (hok:Cur.Ok E.l s.c) (hn:s.h.length≤2000) (hni:ni≤2000) :
 Calls Try.prog 53 #[.pointer (some ⟨E.b,0,none⟩)] w fun r w'=>r=.returned (.tuple #[])∧∃ v',RD E w' v' (txn E.l s) (ni+1) nm:=by
 obtain ⟨A,c,rfl,hcap,-⟩:=Kd.S_reads h.row
 obtain ⟨q0,q1,q2,q3,q4,q5⟩:=h.cells
 have H:=Lib.hid h
 have HOK:=Lib.hid hok
 have G:=Lib.hid g
 clear h g hok
 go_enter Try.func53,Try.ntmps53
 go_wp2_with fail
 refine (at_r G.out H.out).mono ?_
 rintro r w2 ⟨rfl,rfl⟩
 by_cases hf:1024≤s.h.length
 ·have hfi:(1024:Int)≤s.h.length:=by omega
  go_upto_region 1 with (fail)
  rename_i K aK K1 aK1
  have HK:=Lib.hid aK
  clear aK
  go_wp2_with fail
  refine (fail_r G.out H.out 3 s.c.p).mono ?_
  rintro r w2 ⟨rfl,h2⟩
  have H2:=Lib.hid h2
  clear h2 H
  go_wp2
  refine HK.out _ _ ?_
  refine txn3 G.out H2.out (Cur.ok_fail HOK.out 3 s.c.p) hn hni _ (Lib.hid fun W v' hW=>⟨rfl,v',?_⟩) _ _ _ _ _ _ _ _ _ _ _ _ _ _ _ _ _ _ _ _ _ _ _ _ _ _ _ _ _ _ _ _ _ _ _ _ _ _ _ _ _ _ _ _ _ _ _ _ _ _ _ _ _ _ _ _ _ _ _ _ _ _ _ _ _ _ _ _ _ _ _ _ _ _ _ _ _ _ _ _ _ _ _ _ _ _ _ _ _ _ _ _ _ _ _ _ _ _ _ _ _ _ _ _ _ _ _ _ _ _ _ _ _ _ _ _ _
  unfold txn
  rw [if_pos hf]
  exact hW
 ·have hfi:¬ (1024:Int)≤s.h.length:=by omega
  go_upto_region 1 with (fail)
  rename_i K aK K1 aK1
  have HK:=Lib.hid aK
  clear aK
  go_wp2
  refine HK.out _ _ ?_
  refine txn3 G.out H.out HOK.out hn hni _ (Lib.hid fun W v' hW=>⟨rfl,v',?_⟩) _ _ _ _ _ _ _ _ _ _ _ _ _ _ _ _ _ _ _ _ _ _ _ _ _ _ _ _ _ _ _ _ _ _ _ _ _ _ _ _ _ _ _ _ _ _ _ _ _ _ _ _ _ _ _ _ _ _ _ _ _ _ _ _ _ _ _ _ _ _ _ _ _ _ _ _ _ _ _ _ _ _ _ _ _ _ _ _ _ _ _ _ _ _ _ _ _ _ _ _ _ _ _ _ _ _ _ _ _ _ _ _ _ _ _ _ _
  unfold txn
  rw [if_neg hf]
  exact hW
end Go.Proofs.Ytlcioegdmopppaa.Hs
set_option linter.unusedSimpArgs false
namespace Go.Proofs.Ytlcioegdmopppaa.Hs
open Go.RowKit Go.Maps Go.Proofs.Ytlcioegdmopppaa.PEncodeBack Go.Proofs.YtlcioegdmopppaaW.PrintWords
open Cur (Cr At peek fail byte number nums_)
open Fr (set4 facts4)
set_option linter.unusedVariables false
theorem byte_x {E:Env} (g:E.Good) {w:World} {v:Value} {s:RS} {ni nm:Nat} (h:RD E w v s ni nm) (hok:Cur.Ok E.l s.c) (y:Int) :
 Calls Try.prog 66 #[.pointer (some ⟨E.cb,0,none⟩),.int .u8 y] w fun r w'=>r=.returned (.tuple #[])∧RD E w' v (s.to (byte E.l s.c y)) ni nm∧Chg (fun k=>k=E.cb) w w' :=
 (Cur.byte_calls w E.cb E.A E.l E.c s.c h.cur (h.C g) hok.1 (len_ok g) y).mono fun _ _ ⟨h1,h2,h3⟩=>⟨h1,h.chg g h2 h3,h3⟩
theorem number_x {E:Env} (g:E.Good) {w:World} {v:Value} {s:RS} {ni nm:Nat} (h:RD E w v s ni nm) :
 Calls Try.prog 67 #[.pointer (some ⟨E.cb,0,none⟩)] w fun r w'=>r=.returned (.int .i64 (number E.l s.c).2)∧RD E w' v (s.to (number E.l s.c).1) ni nm∧Chg (fun k=>k=E.cb) w w' :=
 (Cur.number_calls w E.cb E.A E.l E.c s.c h.cur (h.C g) g.hc g.hb (len_ok g)).mono fun _ _ ⟨h1,h2,h3⟩=>⟨h1,h.chg g h2 h3,h3⟩
theorem fail_x {E:Env} (g:E.Good) {w:World} {v:Value} {s:RS} {ni nm:Nat} (h:RD E w v s ni nm) (e a:Int) :
 Calls Try.prog 51 #[.pointer (some ⟨E.cb,0,none⟩),.int .i64 e,.int .i64 a] w fun r w'=>r=.returned (.tuple #[])∧RD E w' v (s.to (fail s.c e a)) ni nm∧Chg (fun k=>k=E.cb) w w' :=
 (Cur.fail_calls w E.cb E.A E.l.length E.c s.c h.cur e a).mono fun _ _ ⟨h1,h2,h3⟩=>⟨h1,h.chg g h2 h3,h3⟩
theorem nums_x {E:Env} (g:E.Good) {w:World} {v:Value} {s:RS} {ni nm:Nat} (h:RD E w v s ni nm) :
 Calls Try.prog 69 #[.pointer (some ⟨E.cb,0,none⟩)] w fun r w'=>Cur.Lists w' w.heap.size r (nums_ E.l s.c).2∧RD E w' v (s.to (nums_ E.l s.c).1) ni nm∧Chg (fun k=>k=E.cb) w w' :=
 (Cur.nums_calls w E.cb E.A E.l E.c s.c h.cur (h.C g) g.hc g.hb (by have:=g.hl;omega)).mono fun _ _ ⟨h1,h2,h3⟩=>⟨h1,h.chg g h2 h3,h3⟩
theorem goes_x {E:Env} (g:E.Good) {w:World} {v:Value} {s:RS} {ni nm:Nat} (h:RD E w v s ni nm) :
 Calls Try.prog 68 #[.pointer (some ⟨E.b,0,none⟩)] w fun r w'=>r=.returned (.bool (s.c.e == 0))∧RD E w' v s ni nm∧Chg (fun k=>k=E.cb) w w':=by
 obtain ⟨q0,_⟩:=h.cells
 have HE:=Lib.hid (Cur.err_calls w E.cb E.A E.l.length E.c s.c.p s.c.e s.c.x h.cur)
 have H:=Lib.hid h
 clear h
 go_enter Try.func68,Try.ntmps68
 go_wp2_with (go_at_call 35;refine HE.out.mono ?_;rintro r w' ⟨rfl,q,rfl⟩)
 go_ret
 exact ⟨rfl,H.out.drewN _,(Chg.refl _ _).drewN _⟩
structure Got (E:Env) (w w':World) (v:Value) (s:RS) (c':Cr) (met':List (Int × Int)) (ni nm:Nat) (o:S39) (vl:Value):Prop where
 lst:Kd.R (Kd.int .i64) 3 w' w.heap.size (fun _=>True) vl o.f3
 rd:RD E w' v ⟨c',s.h,s.ids,met'⟩ ni nm
 old:Kd.S k42 42 w' E.wO.heap.size (fun k=>Ok4 E.b E.cb E.ib E.mb k∧k < w.heap.size) v s.h
 sz:w.heap.size≤w'.heap.size
def oCells (o:S39) (vl:Value):Value:=.agg #[.bool o.f0,.int .i64 o.f1,.int .i64 o.f2,vl]
theorem op_info (cs:Array Value) (h:cs.size=4):(Try.prog.info? 39).map (·.size)=some cs.size:=by
 rw [h];kernel_rfl
theorem _root_.Go.Proofs.Ytlcioegdmopppaa.Blk.block_ {w w':World} {b:Nat} {cs:List Value} {t:TypeId} {row:Option Nat} (h:Blk w b cs t) (hg:w.grownBy w' row) (hne:some b ≠ row):Blk w' b cs t:=by
 have hl:=h.lt
 unfold Blk at *
 rw [hg.block b hl hne];exact h
theorem got_sets {E:Env} {w W:World} {v:Value} {s s2:RS} {ni nm ni2 nm2:Nat} (h:RD E w v s ni nm) (h2:RD E W v s2 ni2 nm2) (hz:w.heap.size < W.heap.size) (hblk:Kd.S k42 42 W E.wO.heap.size (fun k=>Ok4 E.b E.cb E.ib E.mb k∧k < w.heap.size) v s2.h) (j:Nat) (u:Value) :
 RD E (W.setCell ⟨w.heap.size,j,none⟩ u) v s2 ni2 nm2∧Kd.S k42 42 (W.setCell ⟨w.heap.size,j,none⟩ u) E.wO.heap.size (fun k=>Ok4 E.b E.cb E.ib E.mb k∧k < w.heap.size) v s2.h:=by
 have l1:=h.box.lt
 have l2:=Blk.lt h.cur
 have l3:=h.ids_.lt
 have l4:=h.met_.lt
 have hS:=Kd.S_far hblk (p:=⟨w.heap.size,j,none⟩) (fun k hk=>Nat.ne_of_lt hk.2) u
 refine ⟨⟨?_,Kd.S_mono hS (fun _ hk=>hk.1),?_,h2.ids_.set (by simp;omega) _,h2.met_.set (by simp;omega) _,bset h.bel.size h2.bel⟩,hS⟩
 ·exact Blk.chg h2.box ((Chg.refl (fun i=>i=w.heap.size) W).set j (.inl rfl) u) (by omega)
 ·exact Blk.chg h2.cur ((Chg.refl (fun i=>i=w.heap.size) W).set j (.inl rfl) u) (by omega)
theorem got_end {E:Env} {w w2:World} {v vl:Value} {s:RS} {ni nm:Nat} {L:List Int} {c':Cr} {o:Obj} (h:RD E w v s ni nm) (h0:RD E (w.alloc o) v s ni nm) (h2:RD E w2 v (s.to c') ni nm) (hch:Chg (fun k=>k=E.cb) (w.alloc o) w2) (hR:Kd.R (Kd.int .i64) 3 w2 (w.alloc o).heap.size (fun _=>True) vl L) (key:Int) :
 Got E w ((((w2.setCell ⟨w.heap.size,0,none⟩ (.bool true)).setCell ⟨w.heap.size,1,none⟩ (.int .i64 key)).setCell ⟨w.heap.size,2,none⟩ (.int .i64 0)).setCell ⟨w.heap.size,3,none⟩ vl) v s c' s.met ni nm ⟨true,key,0,L⟩ vl:=by
 have hz:w.heap.size < w2.heap.size:=by have:=hch.size;simp at this;omega
 have hlt:=Blk.lt h.cur
 have ho:Kd.S k42 42 w2 E.wO.heap.size (fun k=>Ok4 E.b E.cb E.ib E.mb k∧k < w.heap.size) v (s.to c').h:=by
  have h1:=Kd.S_mono (Kd.S_bound h.row) (ok':=fun k=>Ok4 E.b E.cb E.ib E.mb k∧k < w.heap.size) (fun k hk=>⟨hk.1,hk.2.2.1⟩)
  refine Kd.S_step (Kd.S_alloc h1 o) fun k hk hl=>hch.block k hl hk.1.2.1
 obtain ⟨a1,b1⟩:=got_sets h h2 hz ho 0 (.bool true)
 obtain ⟨a2,b2⟩:=got_sets h a1 (by simpa using hz) b1 1 (.int .i64 key)
 obtain ⟨a3,b3⟩:=got_sets h a2 (by simpa using hz) b2 2 (.int .i64 0)
 obtain ⟨a4,b4⟩:=got_sets h a3 (by simpa using hz) b3 3 vl
 have hs:w.heap.size < (w.alloc o).heap.size:=by simp
 exact ⟨Kd.R_lower (Cur.own_set (Cur.own_set (Cur.own_set (Cur.own_set hR hs _ _) hs _ _) hs _ _) hs _ _) (by simp),a4,b4,by simp;omega⟩
set_option maxHeartbeats 4000000 in
set_option maxRecDepth 100000 in
theorem reads_c {E:Env} (g:E.Good) {w:World} {v:Value} {s:RS} {ni nm:Nat} (h:RD E w v s ni nm) (key:Int) :
 Calls Try.prog 50 #[.pointer (some ⟨E.b,0,none⟩),.int .i64 key] w fun r w'=>∃ vl,r=.returned (oCells ⟨true,key,0,(nums_ E.l s.c).2⟩ vl)∧Got E w w' v s (nums_ E.l s.c).1 s.met ni nm ⟨true,key,0,(nums_ E.l s.c).2⟩ vl:=by
 have h0:=h.below ((Below.refl _ _).alloc (Nat.le_refl _) (.cells #[.bool false,.int .i64 0,.int .i64 0,.slice none 0 0] 39))
 obtain ⟨q0,q1,q2,q3,q4,q5⟩:=h0.cells
 have hz:Blk (w.alloc (.cells #[.bool false,.int .i64 0,.int .i64 0,.slice none 0 0] 39)) w.heap.size [.bool false,.int .i64 0,.int .i64 0,.slice none 0 0] 39:=Blk.new w _ _
 have HZ:=Lib.hid hz
 have H0:=Lib.hid h0
 have H:=Lib.hid h
 have G:=Lib.hid g
 clear h h0 hz g
 go_enter Try.func50,Try.ntmps50
 go_wp2_with fail
 refine (nums_x G.out H0.out).mono ?_
 rintro r w2 ⟨⟨vl,rfl,hR⟩,h2,hch⟩
 have hz2:=HZ.out.chg hch (by have:=Blk.lt H.out.cur;omega)
 have HZ2:=Lib.hid hz2
 obtain ⟨⟨z0,z1,z2,z3⟩,f0,f1,f2,f3⟩:=facts4 hz2
 have HF:Hid (Got E w ((((w2.setCell ⟨w.heap.size,0,none⟩ (.bool true)).setCell ⟨w.heap.size,1,none⟩ (.int .i64 key)).setCell ⟨w.heap.size,2,none⟩ (.int .i64 0)).setCell ⟨w.heap.size,3,none⟩ vl) v s (nums_ E.l s.c).1 s.met ni nm ⟨true,key,0,(nums_ E.l s.c).2⟩ vl):=Lib.hid (got_end H.out H0.out h2 hch hR key)
 obtain ⟨A,c,rfl,-,-⟩:=Kd.R_reads hR
 clear h2 hch hR hz2 q0 q1 q2 q3 q4 q5
 go_wp2
 exact bodyPost_ret (results_cell_row rfl _ _ w.heap.size _ _ (0,0) _ rfl (set4 HZ2.out _ _ _ _) Try.underlying39 rfl (op_info _ rfl)) rfl ⟨_,rfl,HF.out⟩
theorem got_end2 {E:Env} {w w2:World} {v:Value} {s:RS} {ni nm nm2:Nat} {c':Cr} {met':List (Int × Int)} (h:RD E w v s ni nm) (h2:RD E w2 v ⟨c',s.h,s.ids,met'⟩ ni nm2) (hz:w.heap.size < w2.heap.size) (ho:Kd.S k42 42 w2 E.wO.heap.size (fun k=>Ok4 E.b E.cb E.ib E.mb k∧k < w.heap.size) v s.h) (key val:Int) :
 Got E w ((((w2.setCell ⟨w.heap.size,0,none⟩ (.bool false)).setCell ⟨w.heap.size,1,none⟩ (.int .i64 key)).setCell ⟨w.heap.size,2,none⟩ (.int .i64 val)).setCell ⟨w.heap.size,3,none⟩ (.slice none 0 0)) v s c' met' ni nm2 ⟨false,key,val,[]⟩ (.slice none 0 0):=by
 obtain ⟨a1,b1⟩:=got_sets h h2 hz ho 0 (.bool false)
 obtain ⟨a2,b2⟩:=got_sets h a1 (by simpa using hz) b1 1 (.int .i64 key)
 obtain ⟨a3,b3⟩:=got_sets h a2 (by simpa using hz) b2 2 (.int .i64 val)
 obtain ⟨a4,b4⟩:=got_sets h a3 (by simpa using hz) b3 3 (.slice none 0 0)
 exact ⟨Kd.R_nil _ _ _ _ _,a4,b4,by simp;omega⟩
theorem old_chg {E:Env} {w w2:World} {v:Value} {s:RS} {ni nm:Nat} {o:Obj} (h:RD E w v s ni nm) (hch:Chg (fun k=>k=E.cb) (w.alloc o) w2):Kd.S k42 42 w2 E.wO.heap.size (fun k=>Ok4 E.b E.cb E.ib E.mb k∧k < w.heap.size) v s.h:=by
 have h1:=Kd.S_mono (Kd.S_bound h.row) (ok':=fun k=>Ok4 E.b E.cb E.ib E.mb k∧k < w.heap.size) (fun k hk=>⟨hk.1,hk.2.2.1⟩)
 exact Kd.S_step (Kd.S_alloc h1 o) fun k hk hl=>hch.block k hl hk.1.2.1
set_option maxHeartbeats 4000000 in
set_option maxRecDepth 100000 in
theorem appends_x {E:Env} (g:E.Good) {w:World} {v:Value} {s:RS} {ni nm:Nat} (h:RD E w v s ni nm) (hok:Cur.Ok E.l s.c) (key:Int) (hkey:0≤key∧key≤2147483647) (hnm:nm≤5000) (hops:opsN s.h≤5000)
 (X:Ending→World→Prop) (hX:Hid (∀ w',Got E w w' v s (app1 E.l s.met key s.c) ((key,appV E.l s.c) :: s.met) ni (nm+1) ⟨false,key,appV E.l s.c,[]⟩ (.slice none 0 0)→X (.returned (oCells ⟨false,key,appV E.l s.c,[]⟩ (.slice none 0 0))) w')) :
 Calls Try.prog 49 #[.pointer (some ⟨E.b,0,none⟩),.int .i64 key] w X:=by
 have h0:=h.below ((Below.refl _ _).alloc (Nat.le_refl _) (.cells #[.bool false,.int .i64 0,.int .i64 0,.slice none 0 0] 39))
 obtain ⟨q0,q1,q2,q3,q4,q5⟩:=h0.cells
 have hz:Blk (w.alloc (.cells #[.bool false,.int .i64 0,.int .i64 0,.slice none 0 0] 39)) w.heap.size [.bool false,.int .i64 0,.int .i64 0,.slice none 0 0] 39:=Blk.new w _ _
 have HZ:=Lib.hid hz
 have H0:=Lib.hid h0
 have H:=Lib.hid h
 have G:=Lib.hid g
 have HOK:=Lib.hid hok
 clear h h0 hz g hok
 unfold app1 appV app0 at hX
 go_enter Try.func49,Try.ntmps49
 go_wp2_with fail
 refine (byte_x G.out H0.out HOK.out 32).mono ?_
 rintro r w1 ⟨rfl,h1,hch1⟩
 have HOK1:=Lib.hid (Cur.ok_byte HOK.out 32)
 have HC1:=Lib.hid hch1
 clear q0 q1 q2 q3 q4 q5
 obtain ⟨q0,q1,q2,q3,q4,q5⟩:=h1.cells
 have H1:=Lib.hid h1
 change Hid (RD E w1 v (s.to (byte E.l s.c 32)) ni nm) at H1
 clear h1 hch1 H0 HOK
 generalize byte E.l s.c 32=c2 at *
 go_wp2_with fail
 refine (at_r G.out H1.out).mono ?_
 rintro r w2 ⟨rfl,rfl⟩
 go_wp2_with fail
 refine (number_x G.out H1.out).mono ?_
 rintro r w5 ⟨rfl,h5,hch5⟩
 have HC5:=Lib.hid (HC1.out.trans hch5)
 have hid:=number_in E.l c2 HOK1.out G.out.hb
 clear q0 q1 q2 q3 q4 q5
 obtain ⟨q0,q1,q2,q3,q4,q5⟩:=h5.cells
 have H5:=Lib.hid h5
 change Hid (RD E w5 v (s.to (number E.l c2).1) ni nm) at H5
 clear h5 hch5 H1 HC1 HOK1
 generalize (number E.l c2).2=val at *
 generalize (number E.l c2).1=c3 at *
 generalize c2.p=p2 at *
 obtain ⟨kl,hkl⟩:=keyP hkey hid
 have HKL:=Lib.hid hkl
 have HG:=Lib.hid (goes_x G.out H5.out)
 clear hkl
 by_cases hin:(key,val) ∈ s.met
 ·have HIS:=Lib.hid ((metS_iff s.met key val).1 (decide_eq_true hin))
  by_cases he:c3.e=0
  ·rw [if_pos ⟨hin,he⟩] at hX
   have hb:(c3.e == 0)=true:=by simp [he]
   change Hid (Calls Try.prog _ _ _ fun r w'=>r=.returned (.bool (c3.e == 0))∧_) at HG
   rw [hb] at HG
   clear hin he
   go_wp2_with (first
    | (at_lookup;refine wpl_ask rfl (.tmp 28) (.tmp 31) 63 rfl 106 3 .i64 lawP Try.underlying63 Try.underlying3 (zeroI _) E.mb nm (MetS s.met) rfl H5.out.met_ (.agg #[.int .i64 key,.int .i64 val]) kl rfl HKL.out true ⟨fun _=>HIS.out,fun _=>rfl⟩ ?_;intro cq)
    | (go_at_call 68;((with_reducible refine HG.out.mono ?_);rintro r w6 ⟨rfl,h6,hch6⟩;obtain ⟨g0,-,-,-,-,-⟩:=h6.cells;have H6:=Lib.hid h6;have HC6:=Lib.hid (HC5.out.trans hch6);clear h6 hch6)))
   refine (fail_x G.out H6.out 6 p2).mono ?_
   rintro r w7 ⟨rfl,h7,hch7⟩
   have H7:=Lib.hid h7
   change Hid (RD E w7 v (s.to (fail c3 6 p2)) ni nm) at H7
   have HC7:=Lib.hid (HC6.out.trans hch7)
   clear h7 hch7 H6 HC6
   go_wp2_with fail
   have HCH:=Lib.hid HC7.out
   have HOPW:=Lib.hid (WalkArith.wf_i64 (n:=(opsN s.h:Int)) (by omega))
   obtain ⟨p0,p1,p2,p3,p4,p5⟩:=H7.out.cells
   go_region_with (refine upon_put 63 106 3 .i64 lawP Try.underlying63 Try.underlying3 E.mb nm _ (MapI.drew H7.out.met_) (by unfold maxLen;omega) (.agg #[.int .i64 key,.int .i64 val]) kl HKL.out (opsN s.h:Int) HOPW.out ?_;intro w8 hM hg)
   all_goals
    have h8:=RD.put_met (H7.out.below ((Below.refl _ _).drew)) G.out (hM.imp (metS_cons s.met key val)) hg
    have hz8:=Blk.block_ (HZ.out.chg (HCH.out.drew) (by have:=Blk.lt H.out.cur;omega)) hg (by have:=H.out.met_.lt;simp;omega)
    have ho8:=Kd.S_grown (Kd.S_drew (old_chg H.out HCH.out)) hg (fun k hk=>by have:=hk.1.2.2.2;simpa using this)
    have HZ8:=Lib.hid hz8
    have HF:=Lib.hid (got_end2 H.out h8 hz8.lt ho8 key val)
    obtain ⟨⟨z0,z1,z2,z3⟩,f0,f1,f2,f3⟩:=facts4 hz8
    clear h8 hz8 ho8 hM hg
    go_wp2
    exact bodyPost_ret (results_cell_row rfl _ _ w.heap.size _ _ (0,0) _ rfl (set4 HZ8.out _ _ _ _) Try.underlying39 rfl (op_info _ rfl)) rfl (hX.out _ HF.out)
  ·rw [if_neg (fun hh=>he hh.2)] at hX
   have hb:(c3.e == 0)=false:=by simp [he]
   change Hid (Calls Try.prog _ _ _ fun r w'=>r=.returned (.bool (c3.e == 0))∧_) at HG
   rw [hb] at HG
   clear hin he
   go_wp2_with (first
    | (at_lookup;refine wpl_ask rfl (.tmp 28) (.tmp 31) 63 rfl 106 3 .i64 lawP Try.underlying63 Try.underlying3 (zeroI _) E.mb nm (MetS s.met) rfl H5.out.met_ (.agg #[.int .i64 key,.int .i64 val]) kl rfl HKL.out true ⟨fun _=>HIS.out,fun _=>rfl⟩ ?_;intro cq)
    | (go_at_call 68;((with_reducible refine HG.out.mono ?_);rintro r w6 ⟨rfl,h6,hch6⟩;obtain ⟨g0,-,-,-,-,-⟩:=h6.cells;have H6:=Lib.hid h6;have HC6:=Lib.hid (HC5.out.trans hch6);clear h6 hch6)))
   have HCH:=Lib.hid HC6.out
   have HOPW:=Lib.hid (WalkArith.wf_i64 (n:=(opsN s.h:Int)) (by omega))
   obtain ⟨p0,p1,p2,p3,p4,p5⟩:=H6.out.cells
   go_region_with (refine upon_put 63 106 3 .i64 lawP Try.underlying63 Try.underlying3 E.mb nm _ (MapI.drew H6.out.met_) (by unfold maxLen;omega) (.agg #[.int .i64 key,.int .i64 val]) kl HKL.out (opsN s.h:Int) HOPW.out ?_;intro w8 hM hg)
   all_goals
    have h8:=RD.put_met (H6.out.below ((Below.refl _ _).drew)) G.out (hM.imp (metS_cons s.met key val)) hg
    have hz8:=Blk.block_ (HZ.out.chg (HCH.out.drew) (by have:=Blk.lt H.out.cur;omega)) hg (by have:=H.out.met_.lt;simp;omega)
    have ho8:=Kd.S_grown (Kd.S_drew (old_chg H.out HCH.out)) hg (fun k hk=>by have:=hk.1.2.2.2;simpa using this)
    have HZ8:=Lib.hid hz8
    have HF:=Lib.hid (got_end2 H.out h8 hz8.lt ho8 key val)
    obtain ⟨⟨z0,z1,z2,z3⟩,f0,f1,f2,f3⟩:=facts4 hz8
    clear h8 hz8 ho8 hM hg
    go_wp2
    exact bodyPost_ret (results_cell_row rfl _ _ w.heap.size _ _ (0,0) _ rfl (set4 HZ8.out _ _ _ _) Try.underlying39 rfl (op_info _ rfl)) rfl (hX.out _ HF.out)
 ·have HIS:Hid (false=true ↔ MetS s.met (.agg #[.int .i64 key,.int .i64 val])):=Lib.hid (by rw [← metS_iff];simp [hin])
  rw [if_neg (fun hh=>hin hh.1)] at hX
  clear hin
  go_wp2_with (at_lookup;refine wpl_ask rfl (.tmp 28) (.tmp 31) 63 rfl 106 3 .i64 lawP Try.underlying63 Try.underlying3 (zeroI _) E.mb nm (MetS s.met) rfl H5.out.met_ (.agg #[.int .i64 key,.int .i64 val]) kl rfl HKL.out false HIS.out ?_;intro cq)
  have HCH:=Lib.hid HC5.out
  have HOPW:=Lib.hid (WalkArith.wf_i64 (n:=(opsN s.h:Int)) (by omega))
  obtain ⟨p0,p1,p2,p3,p4,p5⟩:=H5.out.cells
  go_region_with (refine upon_put 63 106 3 .i64 lawP Try.underlying63 Try.underlying3 E.mb nm _ (MapI.drew H5.out.met_) (by unfold maxLen;omega) (.agg #[.int .i64 key,.int .i64 val]) kl HKL.out (opsN s.h:Int) HOPW.out ?_;intro w8 hM hg)
  all_goals
   have h8:=RD.put_met (H5.out.below ((Below.refl _ _).drew)) G.out (hM.imp (metS_cons s.met key val)) hg
   have hz8:=Blk.block_ (HZ.out.chg (HCH.out.drew) (by have:=Blk.lt H.out.cur;omega)) hg (by have:=H.out.met_.lt;simp;omega)
   have ho8:=Kd.S_grown (Kd.S_drew (old_chg H.out HCH.out)) hg (fun k hk=>by have:=hk.1.2.2.2;simpa using this)
   have HZ8:=Lib.hid hz8
   have HF:=Lib.hid (got_end2 H.out h8 hz8.lt ho8 key val)
   obtain ⟨⟨z0,z1,z2,z3⟩,f0,f1,f2,f3⟩:=facts4 hz8
   clear h8 hz8 ho8 hM hg
   go_wp2
   exact bodyPost_ret (results_cell_row rfl _ _ w.heap.size _ _ (0,0) _ rfl (set4 HZ8.out _ _ _ _) Try.underlying39 rfl (op_info _ rfl)) rfl (hX.out _ HF.out)
theorem appends_c {E:Env} (g:E.Good) {w:World} {v:Value} {s:RS} {ni nm:Nat} (h:RD E w v s ni nm) (hok:Cur.Ok E.l s.c) (key:Int) (hkey:0≤key∧key≤2147483647) (hnm:nm≤5000) (hops:opsN s.h≤5000) :
 Calls Try.prog 49 #[.pointer (some ⟨E.b,0,none⟩),.int .i64 key] w fun r w'=>∃ vl,r=.returned (oCells ⟨false,key,appV E.l s.c,[]⟩ vl)∧Got E w w' v s (app1 E.l s.met key s.c) ((key,appV E.l s.c) :: s.met) ni (nm+1) ⟨false,key,appV E.l s.c,[]⟩ vl :=
 appends_x g h hok key hkey hnm hops _ (Lib.hid fun _ h=>⟨_,rfl,h⟩)
end Go.Proofs.Ytlcioegdmopppaa.Hs
set_option linter.unusedSimpArgs false
namespace Go.Proofs.Ytlcioegdmopppaa.Hs
open Go.RowKit Go.Maps Go.Proofs.Ytlcioegdmopppaa.PEncodeBack Go.Proofs.YtlcioegdmopppaaW.PrintWords
open Cur (Cr At peek fail byte number nums_)
set_option linter.unusedVariables false
theorem opsN_add (h:List S42) (o:S39) (h0:h ≠ []):opsN (addOp h o)=opsN h+1:=by
 obtain ⟨a,t,rfl⟩:∃ a t,h=a ++ [t]:=⟨h.dropLast,h.getLast h0,(List.dropLast_concat_getLast h0).symm⟩
 have e:(a ++ [t]).getD a.length z42=t:=by rw [List.getD_eq_getElem?_getD,List.getElem?_concat_length];rfl
 unfold addOp
 rw [List.length_append,List.length_singleton,Nat.add_sub_cancel,e,List.set_append,if_neg (by omega),Nat.sub_self]
 simp [opsN]
 omega
theorem op_hole {W:World} {base N T n cap:Nat} {ok4:Nat→Prop} {h:List S42} (hS:Kd.S k42 42 W base (fun k=>ok4 k∧k < N) (.slice (some ⟨T,0,none⟩) n cap) h) (hn:0 < n) :
 ∃ (vo:Value) (oki:Nat→Prop),W.cell? ⟨T,(n - 1) * 3+2,none⟩=some vo∧(∀ k,oki k→(ok4 k∧k < N)∧k ≠ T)∧Kd.R k39 39 W base oki vo (h.getD (n - 1) z42).f2 ∧
  ∀ (w1:World) (v1:Value) (o:S39),W.grownBy w1 vo.ownBlock→Kd.R k39 39 w1 base (fun k=>oki k ∨ (ok4 k∧N≤k)) v1 ((h.getD (n - 1) z42).f2 ++ [o]) →
   Kd.S k42 42 (w1.setCell ⟨T,(n - 1) * 3+2,none⟩ v1) base ok4 (.slice (some ⟨T,0,none⟩) n cap) (addOp h o)∧w1.cell? ⟨T,(n - 1) * 3+2,none⟩=some vo∧w1.frozen? ⟨T,(n - 1) * 3+2,none⟩=false:=by
 have hlen:n=h.length:=(Kd.S_reads' hS).1
 obtain ⟨oki,c,hcl,hM,hcc,hfr,hoki,hH⟩:=Kd.S_elem hS z42 ((n - 1:Nat):Int) (by omega) (by omega)
 rw [Int.toNat_natCast] at hM hcc hfr
 obtain ⟨vo,rfl,hR⟩:=k42_openM hM
 refine ⟨vo,oki,hcc 2 vo rfl,hoki,hR,fun w1 v1 o hg hR1=>?_⟩
 have hne:∀ k,oki k→some T ≠ some k:=fun k hk e=>(hoki k hk).2 (by injection e with e;exact e.symm)
 have hT:∀ k,vo.ownBlock=some k→oki k:=fun k hk=>hR.1 k hk
 have hrow:some T ≠ vo.ownBlock:=fun e=>hne T (hT T e.symm) rfl
 have hcell:∀ j,w1.cell? ⟨T,j,none⟩=W.cell? ⟨T,j,none⟩:=fun j=>World.cell?_of_block (hg.block T (by
  have:=hcc 2 vo rfl
  exact World.block_lt_of_cell? W _ this) hrow)
 have h1:Kd.H k42 42 W base ok4 (.slice (some ⟨T,0,none⟩) n cap) h ((n - 1:Nat):Int) (fun k=>oki k ∨ (ok4 k∧N≤k)) [.int .i64 (h.getD (n - 1) z42).f0,.bool (h.getD (n - 1) z42).f1,vo] :=
  Kd.H_more (Kd.H_mono hH (ok':=fun k=>ok4 k∧¬ (ok4 k∧N≤k)) (fun k hk=>⟨hk.1,fun h2=>by have:=hk.2;omega⟩)) (fun k hk=>hk.1)
 have h2:=Kd.H_grown h1 hg (fun k hk=>.inl (hT k hk))
 have hone:∀ q ∈ [v1],q.oneCell'=true:=fun q hq=>by rw [List.mem_singleton.1 hq];exact (Kd.R_val hR1).2
 obtain ⟨h3,h4⟩:=Kd.H_seg h2 (by omega) (by omega) (seg:=[v1]) (j:=2) (Nat.le_refl 3) hone
 rw [Int.toNat_natCast] at h3 h4
 have e:w1.setCells T ((n - 1) * k42.sz+2) [v1]=w1.setCell ⟨T,(n - 1) * 3+2,none⟩ v1:=rfl
 rw [e] at h3 h4
 have hM2:k42.M (w1.setCell ⟨T,(n - 1) * 3+2,none⟩ v1) base (fun k=>oki k ∨ (ok4 k∧N≤k)) { (h.getD (n - 1) z42) with f2:=(h.getD (n - 1) z42).f2 ++ [o] } [.int .i64 (h.getD (n - 1) z42).f0,.bool (h.getD (n - 1) z42).f1,v1]:=by
  refine k42_mkM _ _ _ { (h.getD (n - 1) z42) with f2:=(h.getD (n - 1) z42).f2 ++ [o] } (Kd.R_far hR1 (p:=⟨T,(n - 1) * 3+2,none⟩) (fun k hk=>?_) v1)
  rcases hk with hk|hk
  ·exact (hoki k hk).2
  ·have hTl:T < N:=by
    have:=hS
    have:=Kd.S_mono hS (ok':=fun k=>k < N) (fun k hk=>hk.2)
    exact (Kd.S_R this).1 T rfl
   simp only
   omega
 have h5:=Kd.H_back h3 hM2 (fun k hk=>hk)
 refine ⟨?_,by rw [hcell];exact hcc 2 vo rfl,?_⟩
 ·unfold addOp
  rw [← hlen]
  exact h5
 ·have:W.frozen? ⟨T,(n - 1) * 3+2,none⟩=false:=hfr 2
  rw [← this]
  exact World.frozen?_of_block (hg.block T (World.block_lt_of_cell? W _ (hcc 2 vo rfl)) hrow)
theorem le_sum:∀ (l:List Nat) (x:Nat),x ∈ l→x≤l.sum
 | [],_,h=>by cases h
 | a :: l,x,h=>by
  rcases List.mem_cons.1 h with rfl|h
  ·simp
  ·have:=le_sum l x h;simp;omega
theorem ops_le (h:List S42) (i:Nat):(h.getD i z42).f2.length≤opsN h:=by
 rw [List.getD_eq_getElem?_getD]
 rcases Nat.lt_or_ge i h.length with hi|hi
 ·rw [List.getElem?_eq_getElem hi]
  unfold opsN
  exact le_sum _ _ (List.mem_map.2 ⟨_,List.getElem_mem hi,rfl⟩)
 ·rw [List.getElem?_eq_none hi]
  exact Nat.zero_le _
theorem op_put {E:Env} (g:E.Good) {W w1:World} {T n cap j:Nat} {v1:Value} {s:RS} {ni nm:Nat} {o:S39} {row:Option Nat} (h:RD E W (.slice (some ⟨T,0,none⟩) n cap) s ni nm) (h0:s.h ≠ [])
 (hg:W.grownBy w1 row) (hr:∀ k,row=some k→Ok4 E.b E.cb E.ib E.mb k) (hb:Below E.wO.heap.size E.wO w1) (hS:Kd.S k42 42 (w1.setCell ⟨T,j,none⟩ v1) E.wO.heap.size (Ok4 E.b E.cb E.ib E.mb) (.slice (some ⟨T,0,none⟩) n cap) (addOp s.h o)) :
 RD E ((w1.setCell ⟨T,j,none⟩ v1).setCell ⟨E.b,2,none⟩ (.int .i64 (opsN s.h+1))) (.slice (some ⟨T,0,none⟩) n cap) ⟨s.c,addOp s.h o,s.ids,s.met⟩ ni nm∧Blk (w1.setCell ⟨T,j,none⟩ v1) E.b (cellsR E.cb E.ib E.mb (.slice (some ⟨T,0,none⟩) n cap) s E.most) 65:=by
 have hT:Ok4 E.b E.cb E.ib E.mb T:=(Kd.S_R hS).1 T rfl
 have hTb:E.wO.heap.size≤T:=Kd.S_base hS T rfl
 have n1:some E.b ≠ row:=fun e=>(hr _ e.symm).1 rfl
 have n2:some E.cb ≠ row:=fun e=>(hr _ e.symm).2.1 rfl
 have n3:some E.ib ≠ row:=fun e=>(hr _ e.symm).2.2.1 rfl
 have n4:some E.mb ≠ row:=fun e=>(hr _ e.symm).2.2.2 rfl
 have c1:Chg (fun i=>i=T) w1 (w1.setCell ⟨T,j,none⟩ v1):=(Chg.refl (fun i=>i=T) w1).set j (.inl rfl) v1
 have hB:=Blk.chg (Blk.block_ h.box hg n1) c1 (fun e=>hT.1 e.symm)
 have hC:=Blk.chg (Blk.block_ h.cur hg n2) c1 (fun e=>hT.2.1 e.symm)
 have c2:Chg (fun i=>i=E.b) (w1.setCell ⟨T,j,none⟩ v1) ((w1.setCell ⟨T,j,none⟩ v1).setCell ⟨E.b,2,none⟩ (.int .i64 (opsN s.h+1))):=(Chg.refl (fun i=>i=E.b) _).set 2 (.inl rfl) _
 refine ⟨⟨?_,Kd.S_far hS (fun k hk=>hk.1) _,Blk.chg hC c2 (fun e=>g.d1 e.symm),((h.ids_.grown hg n3).set (fun e=>hT.2.2.1 e.symm) _).set g.d2.symm _,((h.met_.grown hg n4).set (fun e=>hT.2.2.2 e.symm) _).set g.d3.symm _,bset g.b0 (bset hTb hb)⟩,hB⟩
 have:=hB.set 2 (.int .i64 (opsN s.h+1))
 simp only [cellsR,List.set_cons_succ,List.set_cons_zero] at this
 simp only [cellsR,opsN_add _ _ h0]
 exact this
end Go.Proofs.Ytlcioegdmopppaa.Hs
set_option linter.unusedSimpArgs false
namespace Go.Proofs.Ytlcioegdmopppaa.Hs
open Go.RowKit Go.Maps Go.Proofs.Ytlcioegdmopppaa.PEncodeBack Go.Proofs.YtlcioegdmopppaaW.PrintWords
open Cur (Cr At peek fail byte number nums_)
open Fr (set4 facts4)
set_option linter.unusedVariables false
noncomputable def opRest (n:Nat):Code:=rightN n (Try.f48.body.getD .skip)
theorem opx_info:(Try.prog.info? 39).map (fun i=>(i.zero,i.size,i.bytes))=some (some (.agg #[.bool false,.int .i64 0,.int .i64 0,.slice none 0 0]),4,48):=by kernel_rfl
set_option maxHeartbeats 4000000 in
set_option maxRecDepth 100000 in
theorem op5_a {E:Env} (g:E.Good) {w:World} {v:Value} {s:RS} {ni nm:Nat} (h:RD E w v s ni nm) (hok:Cur.Ok E.l s.c) (hn:s.h.length≤2000) (x:Int) (o:S39) (c2:Cr) (met':List (Int × Int)) (nm':Nat)
 (hne:s.c.e=0→s.h ≠ []∧opsN s.h < E.most) (hmono:(byte E.l c2 10).e=0→s.c.e=0) (hok2:Cur.Ok E.l c2)
 (HR:Hid (∀ w2,RD E w2 v (s.to (number E.l (byte E.l (byte E.l s.c x) 32)).1) ni nm→Calls Try.prog 49 #[.pointer (some ⟨E.b,0,none⟩),.int .i64 (number E.l (byte E.l (byte E.l s.c x) 32)).2] w2 fun r w'=>∃ vl,r=.returned (oCells o vl)∧Got E w2 w' v (s.to (number E.l (byte E.l (byte E.l s.c x) 32)).1) c2 met' ni nm' o vl))
 (X:Ending→World→Prop) (hX:Hid (∀ W v',RD E W v' (fin s (byte E.l c2 10) o met') ni nm'→X (.returned (.tuple #[])) W)) (x3 x4 x5 x6 x7 x8 x9 x10 x11 x12 x13 x14 x15 x16 x17 x18 x19 x20 x21 x22 x23 x24 x25 x26 x27 x28 x29 x30 x31 x32 x33 x34 x35 x36 x37 x38 x39 x40 x41 x42 x43 x44 x45 x46 x47 x48 x49 x50 x51 x52 x53 x54 x55 x56 x57 x58 x59 x60 x61 x62 x63 x64 x65 x66 x67 x68 x69 x70 x71 x72 x73 x74 x75 x76 x77 x78 x79 x80 x81 x82 x83 x84 x85 x86 x87 x88 x89 x90 x91 x92 x93 x94 x95 x96 x97 x98:Value) :
 Code.wp Try.prog (opRest 2) (bodyPost Try.prog Try.f48 X) ⟨#[.pointer (some ⟨E.b,0,none⟩),.int .u8 x,.func (.func 49) #[.pointer (some ⟨E.b,0,none⟩)] #[],x3,x4,x5,x6,x7,x8,x9,x10,x11,x12,x13,x14,x15,x16,x17,x18,x19,x20,x21,x22,x23,x24,x25,x26,x27,x28,x29,x30,x31,x32,x33,x34,x35,x36,x37,x38,x39,x40,x41,x42,x43,x44,x45,x46,x47,x48,x49,x50,x51,x52,x53,x54,x55,x56,x57,x58,x59,x60,x61,x62,x63,x64,x65,x66,x67,x68,x69,x70,x71,x72,x73,x74,x75,x76,x77,x78,x79,x80,x81,x82,x83,x84,x85,x86,x87,x88,x89,x90,x91,x92,x93,x94,x95,x96,x97,x98],[]⟩ w:=by
 obtain ⟨q0,q1,q2,q3,q4,q5⟩:=h.cells
 have H:=Lib.hid h
 have HOK:=Lib.hid hok
 have G:=Lib.hid g
 clear h g hok
 conv=>arg 2;whnf
 go_wp2_with fail
 refine (byte_r G.out H.out HOK.out x).mono ?_
 rintro r w1 ⟨rfl,h1⟩
 clear q0 q1 q2 q3 q4 q5
 obtain ⟨q0,q1,q2,q3,q4,q5⟩:=h1.cells
 have H1:=Lib.hid h1
 have HOK1:=Lib.hid (Cur.ok_byte HOK.out x)
 clear h1 H HOK
 go_wp2_with fail
 refine (byte_r G.out H1.out HOK1.out 32).mono ?_
 rintro r w2 ⟨rfl,h1⟩
 clear q0 q1 q2 q3 q4 q5
 obtain ⟨q0,q1,q2,q3,q4,q5⟩:=h1.cells
 have H2:=Lib.hid h1
 have HOK2:=Lib.hid (Cur.ok_byte HOK1.out 32)
 clear h1 H1 HOK1
 go_wp2_with fail
 refine (number_r G.out H2.out).mono ?_
 rintro r w3 ⟨rfl,h1⟩
 clear q0 q1 q2 q3 q4 q5
 have hc:=HR.out _ h1
 have HC:=Lib.hid hc
 have hcb:E.cb < w3.heap.size:=Blk.lt h1.cur
 have HFR:=Lib.hid h1.fresh
 clear h1 hc HR H2 HOK2
 go_wp2_with fail
 refine HC.out.mono ?_
 rintro r w5 ⟨vl,rfl,hgot⟩
 obtain ⟨Al,cl,rfl,hcl,-⟩:=Kd.R_reads hgot.lst
 have h6:=hgot.rd.below ((Below.refl _ _).alloc (Nat.le_refl _) (.cells #[.bool o.f0,.int .i64 o.f1,.int .i64 o.f2,.slice Al o.f3.length cl] 39))
 have B6:=Lib.hid (Blk.new w5 [.bool o.f0,.int .i64 o.f1,.int .i64 o.f2,.slice Al o.f3.length cl] 39)
 have L6:=Lib.hid (Kd.R_below hgot.lst ((Below.refl _ _).alloc (Nat.le_refl _) (.cells #[.bool o.f0,.int .i64 o.f1,.int .i64 o.f2,.slice Al o.f3.length cl] 39)))
 have O6:=Lib.hid (Kd.S_alloc hgot.old (.cells #[.bool o.f0,.int .i64 o.f1,.int .i64 o.f2,.slice Al o.f3.length cl] 39))
 have hob:E.cb < w5.heap.size:=Blk.lt hgot.rd.cur
 have hsz:w3.heap.size≤w5.heap.size:=hgot.sz
 obtain ⟨q0,q1,q2,q3,q4,q5⟩:=h6.cells
 have H6:=Lib.hid h6
 change Hid (RD E (w5.alloc (.cells #[.bool o.f0,.int .i64 o.f1,.int .i64 o.f2,.slice Al o.f3.length cl] 39)) v ⟨c2,s.h,s.ids,met'⟩ ni nm') at H6
 clear hgot h6
 unfold oCells
 go_wp2_with fail
 refine (byte_x G.out H6.out hok2 10).mono ?_
 rintro r w7 ⟨rfl,h7,hch7⟩
 clear q0 q1 q2 q3 q4 q5
 obtain ⟨q0,q1,q2,q3,q4,q5⟩:=h7.cells
 have H7:=Lib.hid h7
 change Hid (RD E w7 v ⟨byte E.l c2 10,s.h,s.ids,met'⟩ ni nm') at H7
 clear h7 H6
 generalize byte E.l c2 10=c3 at *
 have HG:=Lib.hid (goes_x G.out H7.out)
 by_cases he:c3.e=0
 ·have hb:(c3.e == 0)=true:=by simp [he]
  change Hid (Calls Try.prog _ _ _ fun r w'=>r=.returned (.bool (c3.e == 0))∧_) at HG
  rw [hb] at HG
  obtain ⟨hn0,hmo⟩:=hne (hmono he)
  obtain ⟨m,hm⟩:∃ m,s.h.length=m+1:=⟨s.h.length - 1,by have:=List.length_pos_iff.2 hn0;omega⟩
  obtain ⟨T,cap,hv,-,-,-⟩:=Kd.S_form O6.out (by rw [hm];omega)
  rw [hm] at hv
  subst hv
  go_wp2_with fail
  refine HG.out.mono ?_
  rintro r w8 ⟨rfl,h8,hch8⟩
  have hsz8:w3.heap.size≤w8.heap.size:=by have a:=hch7.size;have b:=hch8.size;rw [World.size_alloc] at a;omega
  have B8:=Lib.hid ((B6.out.chg hch7 (by omega)).chg hch8 (by omega))
  have L8:=Lib.hid (Kd.R_step (Kd.R_step (Kd.R_mono (Kd.R_bound L6.out) (ok':=fun k=>w3.heap.size≤k) fun k hk=>hk.2.1) fun k hk hl=>hch7.block k hl (by omega)) fun k hk hl=>hch8.block k hl (by omega))
  have O8:=Lib.hid (Kd.S_step (Kd.S_step O6.out fun k hk hl=>hch7.block k hl hk.1.2.1) fun k hk hl=>hch8.block k hl hk.1.2.1)
  clear q0 q1 q2 q3 q4 q5 hch7 hch8 B6 L6 O6 HG hb
  obtain ⟨q0,q1,q2,q3,q4,q5⟩:=h8.cells
  have H8:=Lib.hid h8
  clear h8 H7
  have hwm:wrap64 (((m:Int)+1) - 1)=(m:Int):=by unfold wrap64;omega
  have hi0:(0:Int)≤(m:Int):=by omega
  have hi1:(m:Int) < (m:Int)+1:=by omega
  go_wp2_with fail
  go_quiet (fail)
  obtain ⟨vo,oki,hc0,hoki,hRo,hback⟩:=op_hole (Kd.S_drewN O8.out (nq+1)) (by omega)
  rw [Nat.add_sub_cancel] at hc0 hRo hback
  have H10:=Lib.hid (H8.out.below (pw_below_drewN (Below.refl _ _) (nq+1)))
  obtain ⟨⟨z0,z1,z2,z3⟩,-⟩:=facts4 B8.out
  have hol:(s.h.getD m z42).f2.length≤4096:=by have a:=ops_le s.h m;have b:=G.out.m1;omega
  generalize (s.h.getD m z42).f2=ops at *
  have HM:=Lib.hid (k39_mkM (w8.drewN (nq+1)) E.wO.heap.size (fun k=>w3.heap.size≤k) o (Kd.R_lower (Kd.R_below L8.out (pw_below_drewN (Below.refl _ _) (nq+1))) (by have:=G.out.c0;omega)))
  have HOKP:Hid (∀ k,w3.heap.size≤k→(oki k ∨ (Ok4 E.b E.cb E.ib E.mb k∧w3.heap.size≤k))∧some k ≠ vo.ownBlock):=Lib.hid fun k hk=>⟨.inr ⟨HFR.out k hk,hk⟩,fun e=>by have:=(hoki k (hRo.1 k e.symm)).1.2;omega⟩
  have HFRE:Hid (∀ k,(w8.drewN (nq+1)).heap.size≤k→(oki k ∨ (Ok4 E.b E.cb E.ib E.mb k∧w3.heap.size≤k))):=Lib.hid fun k hk=>.inr ⟨HFR.out k (Nat.le_trans hsz8 hk),Nat.le_trans hsz8 hk⟩
  have HRO:=Lib.hid (Kd.R_mono hRo (ok':=fun k=>oki k ∨ (Ok4 E.b E.cb E.ib E.mb k∧w3.heap.size≤k)) fun k hk=>.inl hk)
  have HROW:Hid (∀ k,vo.ownBlock=some k→Ok4 E.b E.cb E.ib E.mb k):=Lib.hid fun k hk=>(hoki k (hRo.1 k hk)).1.1
  have HBACK:=Lib.hid hback
  obtain ⟨Ao,co,hvo,-,-⟩:=Kd.R_reads hRo
  subst hvo
  have hc1:w8.cell? ⟨T,m * 3+2,none⟩=some (.slice Ao ops.length co):=hc0
  have hc2:=pw_cell_below ((Below.refl (w8.drewN (nq+1)).heap.size (w8.drewN (nq+1))).alloc (Nat.le_refl _) (.cells #[.bool o.f0,.int .i64 o.f1,.int .i64 o.f2,.slice Al o.f3.length cl] 39)) hc0
  clear hback hoki hRo
  go_wp2_with fail
  go_region_law (refine Kd.R_append_step k39 (w0:=E.wO) E.wO.heap.size rfl (.tmp 86) (.tmp 88) 40 39 (.agg #[.bool false,.int .i64 0,.int .i64 0,.slice none 0 0]) 48 rfl Try.underlying40 opx_info rfl (by decide) (by decide) (.slice Ao ops.length co) ops o _ (fun k=>oki k ∨ (Ok4 E.b E.cb E.ib E.mb k∧w3.heap.size≤k)) (fun k=>w3.heap.size≤k) rfl rfl HM.out HOKP.out HFRE.out HRO.out H10.out.bel H10.out.bel.size (by omega) ?_;intro v1 w1 hR1 hb1 hg1 hat1;obtain ⟨hS1,t1,t2⟩:=HBACK.out w1 v1 o hg1 hR1;obtain ⟨A1,c1,e1,-,-⟩:=Kd.R_reads hR1;rw [List.length_append,List.length_singleton] at e1;subst e1;obtain ⟨hRD,hBb⟩:=op_put G.out H10.out hn0 hg1 HROW.out hb1 hS1;have HRD:=Lib.hid hRD;have u2:=hBb.cell 2;have u3:=hBb.free 2;simp only [cellsR,List.getElem?_cons_succ,List.getElem?_cons_zero] at u2;clear hRD hBb hS1 hR1 hb1 hg1 hat1)
  all_goals
   have hwo:wrap64 ((opsN s.h:Int)+1)=(opsN s.h:Int)+1:=by have:=G.out.m1;unfold wrap64;omega
   go_wp2
   go_end0
   refine hX.out _ (.slice (some ⟨T,0,none⟩) (m+1) cap) ?_
   unfold fin
   rw [if_pos he]
   exact HRD.out
 ·have hb:(c3.e == 0)=false:=by simp [he]
  change Hid (Calls Try.prog _ _ _ fun r w'=>r=.returned (.bool (c3.e == 0))∧_) at HG
  rw [hb] at HG
  go_wp2_with fail
  refine HG.out.mono ?_
  rintro r w8 ⟨rfl,h8,hch8⟩
  have H8:=Lib.hid h8
  clear h8 hch8 q0 q1 q2 q3 q4 q5
  go_wp2
  go_end0
  refine hX.out _ v ?_
  unfold fin
  rw [if_neg he]
  exact H8.out
set_option maxHeartbeats 4000000 in
set_option maxRecDepth 100000 in
theorem op5_r {E:Env} (g:E.Good) {w:World} {v:Value} {s:RS} {ni nm:Nat} (h:RD E w v s ni nm) (hok:Cur.Ok E.l s.c) (hn:s.h.length≤2000) (x:Int) (o:S39) (c2:Cr) (met':List (Int × Int)) (nm':Nat)
 (hne:s.c.e=0→s.h ≠ []∧opsN s.h < E.most) (hmono:(byte E.l c2 10).e=0→s.c.e=0) (hok2:Cur.Ok E.l c2)
 (HR:Hid (∀ w2,RD E w2 v (s.to (number E.l (byte E.l (byte E.l s.c x) 32)).1) ni nm→Calls Try.prog 50 #[.pointer (some ⟨E.b,0,none⟩),.int .i64 (number E.l (byte E.l (byte E.l s.c x) 32)).2] w2 fun r w'=>∃ vl,r=.returned (oCells o vl)∧Got E w2 w' v (s.to (number E.l (byte E.l (byte E.l s.c x) 32)).1) c2 met' ni nm' o vl))
 (X:Ending→World→Prop) (hX:Hid (∀ W v',RD E W v' (fin s (byte E.l c2 10) o met') ni nm'→X (.returned (.tuple #[])) W)) (x3 x4 x5 x6 x7 x8 x9 x10 x11 x12 x13 x14 x15 x16 x17 x18 x19 x20 x21 x22 x23 x24 x25 x26 x27 x28 x29 x30 x31 x32 x33 x34 x35 x36 x37 x38 x39 x40 x41 x42 x43 x44 x45 x46 x47 x48 x49 x50 x51 x52 x53 x54 x55 x56 x57 x58 x59 x60 x61 x62 x63 x64 x65 x66 x67 x68 x69 x70 x71 x72 x73 x74 x75 x76 x77 x78 x79 x80 x81 x82 x83 x84 x85 x86 x87 x88 x89 x90 x91 x92 x93 x94 x95 x96 x97 x98:Value) :
 Code.wp Try.prog (opRest 2) (bodyPost Try.prog Try.f48 X) ⟨#[.pointer (some ⟨E.b,0,none⟩),.int .u8 x,.func (.func 50) #[.pointer (some ⟨E.b,0,none⟩)] #[],x3,x4,x5,x6,x7,x8,x9,x10,x11,x12,x13,x14,x15,x16,x17,x18,x19,x20,x21,x22,x23,x24,x25,x26,x27,x28,x29,x30,x31,x32,x33,x34,x35,x36,x37,x38,x39,x40,x41,x42,x43,x44,x45,x46,x47,x48,x49,x50,x51,x52,x53,x54,x55,x56,x57,x58,x59,x60,x61,x62,x63,x64,x65,x66,x67,x68,x69,x70,x71,x72,x73,x74,x75,x76,x77,x78,x79,x80,x81,x82,x83,x84,x85,x86,x87,x88,x89,x90,x91,x92,x93,x94,x95,x96,x97,x98],[]⟩ w:=by
 obtain ⟨q0,q1,q2,q3,q4,q5⟩:=h.cells
 have H:=Lib.hid h
 have HOK:=Lib.hid hok
 have G:=Lib.hid g
 clear h g hok
 conv=>arg 2;whnf
 go_wp2_with fail
 refine (byte_r G.out H.out HOK.out x).mono ?_
 rintro r w1 ⟨rfl,h1⟩
 clear q0 q1 q2 q3 q4 q5
 obtain ⟨q0,q1,q2,q3,q4,q5⟩:=h1.cells
 have H1:=Lib.hid h1
 have HOK1:=Lib.hid (Cur.ok_byte HOK.out x)
 clear h1 H HOK
 go_wp2_with fail
 refine (byte_r G.out H1.out HOK1.out 32).mono ?_
 rintro r w2 ⟨rfl,h1⟩
 clear q0 q1 q2 q3 q4 q5
 obtain ⟨q0,q1,q2,q3,q4,q5⟩:=h1.cells
 have H2:=Lib.hid h1
 have HOK2:=Lib.hid (Cur.ok_byte HOK1.out 32)
 clear h1 H1 HOK1
 go_wp2_with fail
 refine (number_r G.out H2.out).mono ?_
 rintro r w3 ⟨rfl,h1⟩
 clear q0 q1 q2 q3 q4 q5
 have hc:=HR.out _ h1
 have HC:=Lib.hid hc
 have hcb:E.cb < w3.heap.size:=Blk.lt h1.cur
 have HFR:=Lib.hid h1.fresh
 clear h1 hc HR H2 HOK2
 go_wp2_with fail
 refine HC.out.mono ?_
 rintro r w5 ⟨vl,rfl,hgot⟩
 obtain ⟨Al,cl,rfl,hcl,-⟩:=Kd.R_reads hgot.lst
 have h6:=hgot.rd.below ((Below.refl _ _).alloc (Nat.le_refl _) (.cells #[.bool o.f0,.int .i64 o.f1,.int .i64 o.f2,.slice Al o.f3.length cl] 39))
 have B6:=Lib.hid (Blk.new w5 [.bool o.f0,.int .i64 o.f1,.int .i64 o.f2,.slice Al o.f3.length cl] 39)
 have L6:=Lib.hid (Kd.R_below hgot.lst ((Below.refl _ _).alloc (Nat.le_refl _) (.cells #[.bool o.f0,.int .i64 o.f1,.int .i64 o.f2,.slice Al o.f3.length cl] 39)))
 have O6:=Lib.hid (Kd.S_alloc hgot.old (.cells #[.bool o.f0,.int .i64 o.f1,.int .i64 o.f2,.slice Al o.f3.length cl] 39))
 have hob:E.cb < w5.heap.size:=Blk.lt hgot.rd.cur
 have hsz:w3.heap.size≤w5.heap.size:=hgot.sz
 obtain ⟨q0,q1,q2,q3,q4,q5⟩:=h6.cells
 have H6:=Lib.hid h6
 change Hid (RD E (w5.alloc (.cells #[.bool o.f0,.int .i64 o.f1,.int .i64 o.f2,.slice Al o.f3.length cl] 39)) v ⟨c2,s.h,s.ids,met'⟩ ni nm') at H6
 clear hgot h6
 unfold oCells
 go_wp2_with fail
 refine (byte_x G.out H6.out hok2 10).mono ?_
 rintro r w7 ⟨rfl,h7,hch7⟩
 clear q0 q1 q2 q3 q4 q5
 obtain ⟨q0,q1,q2,q3,q4,q5⟩:=h7.cells
 have H7:=Lib.hid h7
 change Hid (RD E w7 v ⟨byte E.l c2 10,s.h,s.ids,met'⟩ ni nm') at H7
 clear h7 H6
 generalize byte E.l c2 10=c3 at *
 have HG:=Lib.hid (goes_x G.out H7.out)
 by_cases he:c3.e=0
 ·have hb:(c3.e == 0)=true:=by simp [he]
  change Hid (Calls Try.prog _ _ _ fun r w'=>r=.returned (.bool (c3.e == 0))∧_) at HG
  rw [hb] at HG
  obtain ⟨hn0,hmo⟩:=hne (hmono he)
  obtain ⟨m,hm⟩:∃ m,s.h.length=m+1:=⟨s.h.length - 1,by have:=List.length_pos_iff.2 hn0;omega⟩
  obtain ⟨T,cap,hv,-,-,-⟩:=Kd.S_form O6.out (by rw [hm];omega)
  rw [hm] at hv
  subst hv
  go_wp2_with fail
  refine HG.out.mono ?_
  rintro r w8 ⟨rfl,h8,hch8⟩
  have hsz8:w3.heap.size≤w8.heap.size:=by have a:=hch7.size;have b:=hch8.size;rw [World.size_alloc] at a;omega
  have B8:=Lib.hid ((B6.out.chg hch7 (by omega)).chg hch8 (by omega))
  have L8:=Lib.hid (Kd.R_step (Kd.R_step (Kd.R_mono (Kd.R_bound L6.out) (ok':=fun k=>w3.heap.size≤k) fun k hk=>hk.2.1) fun k hk hl=>hch7.block k hl (by omega)) fun k hk hl=>hch8.block k hl (by omega))
  have O8:=Lib.hid (Kd.S_step (Kd.S_step O6.out fun k hk hl=>hch7.block k hl hk.1.2.1) fun k hk hl=>hch8.block k hl hk.1.2.1)
  clear q0 q1 q2 q3 q4 q5 hch7 hch8 B6 L6 O6 HG hb
  obtain ⟨q0,q1,q2,q3,q4,q5⟩:=h8.cells
  have H8:=Lib.hid h8
  clear h8 H7
  have hwm:wrap64 (((m:Int)+1) - 1)=(m:Int):=by unfold wrap64;omega
  have hi0:(0:Int)≤(m:Int):=by omega
  have hi1:(m:Int) < (m:Int)+1:=by omega
  go_wp2_with fail
  go_quiet (fail)
  obtain ⟨vo,oki,hc0,hoki,hRo,hback⟩:=op_hole (Kd.S_drewN O8.out (nq+1)) (by omega)
  rw [Nat.add_sub_cancel] at hc0 hRo hback
  have H10:=Lib.hid (H8.out.below (pw_below_drewN (Below.refl _ _) (nq+1)))
  obtain ⟨⟨z0,z1,z2,z3⟩,-⟩:=facts4 B8.out
  have hol:(s.h.getD m z42).f2.length≤4096:=by have a:=ops_le s.h m;have b:=G.out.m1;omega
  generalize (s.h.getD m z42).f2=ops at *
  have HM:=Lib.hid (k39_mkM (w8.drewN (nq+1)) E.wO.heap.size (fun k=>w3.heap.size≤k) o (Kd.R_lower (Kd.R_below L8.out (pw_below_drewN (Below.refl _ _) (nq+1))) (by have:=G.out.c0;omega)))
  have HOKP:Hid (∀ k,w3.heap.size≤k→(oki k ∨ (Ok4 E.b E.cb E.ib E.mb k∧w3.heap.size≤k))∧some k ≠ vo.ownBlock):=Lib.hid fun k hk=>⟨.inr ⟨HFR.out k hk,hk⟩,fun e=>by have:=(hoki k (hRo.1 k e.symm)).1.2;omega⟩
  have HFRE:Hid (∀ k,(w8.drewN (nq+1)).heap.size≤k→(oki k ∨ (Ok4 E.b E.cb E.ib E.mb k∧w3.heap.size≤k))):=Lib.hid fun k hk=>.inr ⟨HFR.out k (Nat.le_trans hsz8 hk),Nat.le_trans hsz8 hk⟩
  have HRO:=Lib.hid (Kd.R_mono hRo (ok':=fun k=>oki k ∨ (Ok4 E.b E.cb E.ib E.mb k∧w3.heap.size≤k)) fun k hk=>.inl hk)
  have HROW:Hid (∀ k,vo.ownBlock=some k→Ok4 E.b E.cb E.ib E.mb k):=Lib.hid fun k hk=>(hoki k (hRo.1 k hk)).1.1
  have HBACK:=Lib.hid hback
  obtain ⟨Ao,co,hvo,-,-⟩:=Kd.R_reads hRo
  subst hvo
  have hc1:w8.cell? ⟨T,m * 3+2,none⟩=some (.slice Ao ops.length co):=hc0
  have hc2:=pw_cell_below ((Below.refl (w8.drewN (nq+1)).heap.size (w8.drewN (nq+1))).alloc (Nat.le_refl _) (.cells #[.bool o.f0,.int .i64 o.f1,.int .i64 o.f2,.slice Al o.f3.length cl] 39)) hc0
  clear hback hoki hRo
  go_wp2_with fail
  go_region_law (refine Kd.R_append_step k39 (w0:=E.wO) E.wO.heap.size rfl (.tmp 86) (.tmp 88) 40 39 (.agg #[.bool false,.int .i64 0,.int .i64 0,.slice none 0 0]) 48 rfl Try.underlying40 opx_info rfl (by decide) (by decide) (.slice Ao ops.length co) ops o _ (fun k=>oki k ∨ (Ok4 E.b E.cb E.ib E.mb k∧w3.heap.size≤k)) (fun k=>w3.heap.size≤k) rfl rfl HM.out HOKP.out HFRE.out HRO.out H10.out.bel H10.out.bel.size (by omega) ?_;intro v1 w1 hR1 hb1 hg1 hat1;obtain ⟨hS1,t1,t2⟩:=HBACK.out w1 v1 o hg1 hR1;obtain ⟨A1,c1,e1,-,-⟩:=Kd.R_reads hR1;rw [List.length_append,List.length_singleton] at e1;subst e1;obtain ⟨hRD,hBb⟩:=op_put G.out H10.out hn0 hg1 HROW.out hb1 hS1;have HRD:=Lib.hid hRD;have u2:=hBb.cell 2;have u3:=hBb.free 2;simp only [cellsR,List.getElem?_cons_succ,List.getElem?_cons_zero] at u2;clear hRD hBb hS1 hR1 hb1 hg1 hat1)
  all_goals
   have hwo:wrap64 ((opsN s.h:Int)+1)=(opsN s.h:Int)+1:=by have:=G.out.m1;unfold wrap64;omega
   go_wp2
   go_end0
   refine hX.out _ (.slice (some ⟨T,0,none⟩) (m+1) cap) ?_
   unfold fin
   rw [if_pos he]
   exact HRD.out
 ·have hb:(c3.e == 0)=false:=by simp [he]
  change Hid (Calls Try.prog _ _ _ fun r w'=>r=.returned (.bool (c3.e == 0))∧_) at HG
  rw [hb] at HG
  go_wp2_with fail
  refine HG.out.mono ?_
  rintro r w8 ⟨rfl,h8,hch8⟩
  have H8:=Lib.hid h8
  clear h8 hch8 q0 q1 q2 q3 q4 q5
  go_wp2
  go_end0
  refine hX.out _ v ?_
  unfold fin
  rw [if_neg he]
  exact H8.out
end Go.Proofs.Ytlcioegdmopppaa.Hs
set_option linter.unusedSimpArgs false
namespace Go.Proofs.Ytlcioegdmopppaa.Hs
open Go.RowKit Go.Maps Go.Proofs.Ytlcioegdmopppaa.PEncodeBack Go.Proofs.YtlcioegdmopppaaW.PrintWords
open Cur (Cr At peek fail byte number nums_)
set_option linter.unusedVariables false
theorem e_fail {c:Cr} {e a:Int} (h:(fail c e a).e=0):c.e=0:=by
 unfold fail at h
 split at h
 ·next hh=>exact absurd h hh.2
 ·exact h
theorem e_failed {c:Cr} {e a:Int} (he:e ≠ 0) (h:(fail c e a).e=0):False:=by
 have h1:=e_fail h
 unfold fail at h
 rw [if_pos ⟨h1,he⟩] at h
 exact he h
theorem e_byte {l:List Int} {c:Cr} {y:Int} (h:(byte l c y).e=0):c.e=0:=by
 unfold byte at h
 split at h
 ·exact h
 ·exact e_fail h
theorem e_number {l:List Int} {c:Cr} (h:(number l c).1.e=0):c.e=0:=by
 unfold number at h
 split at h
 ·assumption
 ·exact h
theorem e_nums {l:List Int} {c:Cr} (h:(nums_ l c).1.e=0):c.e=0:=by
 unfold nums_ at h
 split at h
 ·assumption
 ·exact h
theorem e_app1 {l:List Int} {met:List (Int × Int)} {key:Int} {c:Cr} (h:(app1 l met key c).e=0):c.e=0:=by
 unfold app1 app0 at h
 simp only at h
 split at h
 ·exact e_byte (e_number (e_fail h))
 ·exact e_byte (e_number h)
theorem ok_app1 {l:List Int} {met:List (Int × Int)} {key:Int} {c:Cr} (h:Cur.Ok l c):Cur.Ok l (app1 l met key c):=by
 unfold app1 app0
 simp only
 split
 ·exact Cur.ok_fail (Cur.ok_number (Cur.ok_byte h 32)) _ _
 ·exact Cur.ok_number (Cur.ok_byte h 32)
theorem op5_a' {E:Env} (g:E.Good) {w:World} {v:Value} {s:RS} {ni nm:Nat} (c0:Cr) (h:RD E w v (s.to c0) ni nm) (hok:Cur.Ok E.l c0) (hn:s.h.length≤2000) (hnm:nm≤5000) (hops:opsN s.h≤5000) (hne:c0.e=0→s.h ≠ []∧opsN s.h < E.most) (hc0:c0=if s.h=[] then fail s.c 4 s.c.p else if E.most≤opsN s.h then fail s.c 3 s.c.p else s.c)
 (X:Ending→World→Prop) (hX:Hid (∀ W v',RD E W v' (apps E.l E.most s) ni (nm+1)→X (.returned (.tuple #[])) W)) (x3 x4 x5 x6 x7 x8 x9 x10 x11 x12 x13 x14 x15 x16 x17 x18 x19 x20 x21 x22 x23 x24 x25 x26 x27 x28 x29 x30 x31 x32 x33 x34 x35 x36 x37 x38 x39 x40 x41 x42 x43 x44 x45 x46 x47 x48 x49 x50 x51 x52 x53 x54 x55 x56 x57 x58 x59 x60 x61 x62 x63 x64 x65 x66 x67 x68 x69 x70 x71 x72 x73 x74 x75 x76 x77 x78 x79 x80 x81 x82 x83 x84 x85 x86 x87 x88 x89 x90 x91 x92 x93 x94 x95 x96 x97 x98:Value) :
 Code.wp Try.prog (opRest 2) (bodyPost Try.prog Try.f48 X) ⟨#[.pointer (some ⟨E.b,0,none⟩),.int .u8 97,.func (.func 49) #[.pointer (some ⟨E.b,0,none⟩)] #[],x3,x4,x5,x6,x7,x8,x9,x10,x11,x12,x13,x14,x15,x16,x17,x18,x19,x20,x21,x22,x23,x24,x25,x26,x27,x28,x29,x30,x31,x32,x33,x34,x35,x36,x37,x38,x39,x40,x41,x42,x43,x44,x45,x46,x47,x48,x49,x50,x51,x52,x53,x54,x55,x56,x57,x58,x59,x60,x61,x62,x63,x64,x65,x66,x67,x68,x69,x70,x71,x72,x73,x74,x75,x76,x77,x78,x79,x80,x81,x82,x83,x84,x85,x86,x87,x88,x89,x90,x91,x92,x93,x94,x95,x96,x97,x98],[]⟩ w:=by
 have hok3:Cur.Ok E.l (number E.l (byte E.l (byte E.l c0 97) 32)).1:=Cur.ok_number (Cur.ok_byte (Cur.ok_byte hok _) _)
 have hkey:=number_in E.l (byte E.l (byte E.l c0 97) 32) (Cur.ok_byte (Cur.ok_byte hok _) _) g.hb
 refine op5_a g h hok hn 97 ⟨false,(number E.l (byte E.l (byte E.l c0 97) 32)).2,appV E.l (number E.l (byte E.l (byte E.l c0 97) 32)).1,[]⟩ (app1 E.l s.met (number E.l (byte E.l (byte E.l c0 97) 32)).2 (number E.l (byte E.l (byte E.l c0 97) 32)).1) (((number E.l (byte E.l (byte E.l c0 97) 32)).2,appV E.l (number E.l (byte E.l (byte E.l c0 97) 32)).1) :: s.met) (nm+1) hne (fun hh=>e_byte (e_byte (e_number (e_app1 (e_byte hh))))) (ok_app1 hok3) (Lib.hid fun w2 h2=>appends_c g h2 hok3 _ hkey hnm hops) X (Lib.hid fun W v' hW=>hX.out W v' ?_) x3 x4 x5 x6 x7 x8 x9 x10 x11 x12 x13 x14 x15 x16 x17 x18 x19 x20 x21 x22 x23 x24 x25 x26 x27 x28 x29 x30 x31 x32 x33 x34 x35 x36 x37 x38 x39 x40 x41 x42 x43 x44 x45 x46 x47 x48 x49 x50 x51 x52 x53 x54 x55 x56 x57 x58 x59 x60 x61 x62 x63 x64 x65 x66 x67 x68 x69 x70 x71 x72 x73 x74 x75 x76 x77 x78 x79 x80 x81 x82 x83 x84 x85 x86 x87 x88 x89 x90 x91 x92 x93 x94 x95 x96 x97 x98
 unfold apps opKey op1 op0
 rw [← hc0]
 exact hW
theorem op5_r' {E:Env} (g:E.Good) {w:World} {v:Value} {s:RS} {ni nm:Nat} (c0:Cr) (h:RD E w v (s.to c0) ni nm) (hok:Cur.Ok E.l c0) (hn:s.h.length≤2000) (hnm:nm≤5000) (hops:opsN s.h≤5000) (hne:c0.e=0→s.h ≠ []∧opsN s.h < E.most) (hc0:c0=if s.h=[] then fail s.c 4 s.c.p else if E.most≤opsN s.h then fail s.c 3 s.c.p else s.c)
 (X:Ending→World→Prop) (hX:Hid (∀ W v',RD E W v' (reads E.l E.most s) ni (nm)→X (.returned (.tuple #[])) W)) (x3 x4 x5 x6 x7 x8 x9 x10 x11 x12 x13 x14 x15 x16 x17 x18 x19 x20 x21 x22 x23 x24 x25 x26 x27 x28 x29 x30 x31 x32 x33 x34 x35 x36 x37 x38 x39 x40 x41 x42 x43 x44 x45 x46 x47 x48 x49 x50 x51 x52 x53 x54 x55 x56 x57 x58 x59 x60 x61 x62 x63 x64 x65 x66 x67 x68 x69 x70 x71 x72 x73 x74 x75 x76 x77 x78 x79 x80 x81 x82 x83 x84 x85 x86 x87 x88 x89 x90 x91 x92 x93 x94 x95 x96 x97 x98:Value) :
 Code.wp Try.prog (opRest 2) (bodyPost Try.prog Try.f48 X) ⟨#[.pointer (some ⟨E.b,0,none⟩),.int .u8 114,.func (.func 50) #[.pointer (some ⟨E.b,0,none⟩)] #[],x3,x4,x5,x6,x7,x8,x9,x10,x11,x12,x13,x14,x15,x16,x17,x18,x19,x20,x21,x22,x23,x24,x25,x26,x27,x28,x29,x30,x31,x32,x33,x34,x35,x36,x37,x38,x39,x40,x41,x42,x43,x44,x45,x46,x47,x48,x49,x50,x51,x52,x53,x54,x55,x56,x57,x58,x59,x60,x61,x62,x63,x64,x65,x66,x67,x68,x69,x70,x71,x72,x73,x74,x75,x76,x77,x78,x79,x80,x81,x82,x83,x84,x85,x86,x87,x88,x89,x90,x91,x92,x93,x94,x95,x96,x97,x98],[]⟩ w:=by
 have hok3:Cur.Ok E.l (number E.l (byte E.l (byte E.l c0 114) 32)).1:=Cur.ok_number (Cur.ok_byte (Cur.ok_byte hok _) _)
 have hkey:=number_in E.l (byte E.l (byte E.l c0 114) 32) (Cur.ok_byte (Cur.ok_byte hok _) _) g.hb
 refine op5_r g h hok hn 114 ⟨true,(number E.l (byte E.l (byte E.l c0 114) 32)).2,0,(nums_ E.l (number E.l (byte E.l (byte E.l c0 114) 32)).1).2⟩ ((nums_ E.l (number E.l (byte E.l (byte E.l c0 114) 32)).1).1) (s.met) (nm) hne (fun hh=>e_byte (e_byte (e_number (e_nums (e_byte hh))))) (Cur.ok_nums hok3) (Lib.hid fun w2 h2=>reads_c g h2 _) X (Lib.hid fun W v' hW=>hX.out W v' ?_) x3 x4 x5 x6 x7 x8 x9 x10 x11 x12 x13 x14 x15 x16 x17 x18 x19 x20 x21 x22 x23 x24 x25 x26 x27 x28 x29 x30 x31 x32 x33 x34 x35 x36 x37 x38 x39 x40 x41 x42 x43 x44 x45 x46 x47 x48 x49 x50 x51 x52 x53 x54 x55 x56 x57 x58 x59 x60 x61 x62 x63 x64 x65 x66 x67 x68 x69 x70 x71 x72 x73 x74 x75 x76 x77 x78 x79 x80 x81 x82 x83 x84 x85 x86 x87 x88 x89 x90 x91 x92 x93 x94 x95 x96 x97 x98
 unfold reads opKey op1 op0
 rw [← hc0]
 exact hW
set_option maxHeartbeats 4000000 in
set_option maxRecDepth 100000 in
theorem op_a {E:Env} (g:E.Good) {w:World} {v:Value} {s:RS} {ni nm:Nat} (h:RD E w v s ni nm) (hok:Cur.Ok E.l s.c) (hn:s.h.length≤2000) (hnm:nm≤5000) (hops:opsN s.h≤5000) :
 Calls Try.prog 48 #[.pointer (some ⟨E.b,0,none⟩),.int .u8 97,.func (.func 49) #[.pointer (some ⟨E.b,0,none⟩)] #[]] w fun r w'=>r=.returned (.tuple #[])∧∃ v',RD E w' v' (apps E.l E.most s) ni (nm+1):=by
 obtain ⟨A,c,rfl,hcap,-⟩:=Kd.S_reads h.row
 obtain ⟨q0,q1,q2,q3,q4,q5⟩:=h.cells
 have H:=Lib.hid h
 have HOK:=Lib.hid hok
 have G:=Lib.hid g
 clear h g hok
 go_enter Try.func48,Try.ntmps48
 go_wp2_with fail
 refine (at_r G.out H.out).mono ?_
 rintro r w2 ⟨rfl,rfl⟩
 by_cases h0:s.h=[]
 ·have hl:s.h.length=0:=by rw [h0];rfl
  go_upto_region 1 with (fail)
  rename_i K aK K1 aK1
  have HK:=Lib.hid aK
  clear aK
  go_wp2_with fail
  refine (fail_r G.out H.out 4 s.c.p).mono ?_
  rintro r w2 ⟨rfl,h2⟩
  have H2:=Lib.hid h2
  clear h2 H
  go_wp2
  refine HK.out _ _ ?_
  exact op5_a' G.out (fail s.c 4 s.c.p) H2.out (Cur.ok_fail HOK.out _ _) hn hnm hops (fun he=>(e_failed (by decide) he).elim) (by rw [if_pos h0]) _ (Lib.hid fun W v' hW=>⟨rfl,v',hW⟩) _ _ _ _ _ _ _ _ _ _ _ _ _ _ _ _ _ _ _ _ _ _ _ _ _ _ _ _ _ _ _ _ _ _ _ _ _ _ _ _ _ _ _ _ _ _ _ _ _ _ _ _ _ _ _ _ _ _ _ _ _ _ _ _ _ _ _ _ _ _ _ _ _ _ _ _ _ _ _ _ _ _ _ _ _ _ _ _ _ _ _ _ _ _ _ _
 ·have hl:¬ s.h.length=0:=fun e=>h0 (List.eq_nil_of_length_eq_zero e)
  have hle:((s.h.length:Int) == 0)=false:=by simp [hl]
  by_cases hm:E.most≤opsN s.h
  ·have hmb:decide (E.most≤(opsN s.h:Int))=true:=decide_eq_true hm
   go_upto_region 1 with (fail)
   rename_i K aK K1 aK1
   have HK:=Lib.hid aK
   clear aK
   go_wp2_with fail
   go_quiet (fail)
   go_wp2_with fail
   refine (fail_r G.out (H.out.drewN _) 3 s.c.p).mono ?_
   rintro r w2 ⟨rfl,h2⟩
   have H2:=Lib.hid h2
   clear h2 H
   go_wp2
   refine HK.out _ _ ?_
   exact op5_a' G.out (fail s.c 3 s.c.p) H2.out (Cur.ok_fail HOK.out _ _) hn hnm hops (fun he=>(e_failed (by decide) he).elim) (by rw [if_neg h0,if_pos hm]) _ (Lib.hid fun W v' hW=>⟨rfl,v',hW⟩) _ _ _ _ _ _ _ _ _ _ _ _ _ _ _ _ _ _ _ _ _ _ _ _ _ _ _ _ _ _ _ _ _ _ _ _ _ _ _ _ _ _ _ _ _ _ _ _ _ _ _ _ _ _ _ _ _ _ _ _ _ _ _ _ _ _ _ _ _ _ _ _ _ _ _ _ _ _ _ _ _ _ _ _ _ _ _ _ _ _ _ _ _ _ _ _
  ·have hmb:decide (E.most≤(opsN s.h:Int))=false:=decide_eq_false hm
   go_upto_region 1 with (fail)
   rename_i K aK K1 aK1
   have HK:=Lib.hid aK
   clear aK
   go_wp2_with fail
   go_quiet (fail)
   go_wp2
   refine HK.out _ _ ?_
   exact op5_a' G.out s.c (H.out.drewN _) HOK.out hn hnm hops (fun he=>⟨h0,by omega⟩) (by rw [if_neg h0,if_neg (by omega)]) _ (Lib.hid fun W v' hW=>⟨rfl,v',hW⟩) _ _ _ _ _ _ _ _ _ _ _ _ _ _ _ _ _ _ _ _ _ _ _ _ _ _ _ _ _ _ _ _ _ _ _ _ _ _ _ _ _ _ _ _ _ _ _ _ _ _ _ _ _ _ _ _ _ _ _ _ _ _ _ _ _ _ _ _ _ _ _ _ _ _ _ _ _ _ _ _ _ _ _ _ _ _ _ _ _ _ _ _ _ _ _ _
set_option maxHeartbeats 4000000 in
set_option maxRecDepth 100000 in
theorem op_r {E:Env} (g:E.Good) {w:World} {v:Value} {s:RS} {ni nm:Nat} (h:RD E w v s ni nm) (hok:Cur.Ok E.l s.c) (hn:s.h.length≤2000) (hnm:nm≤5000) (hops:opsN s.h≤5000) :
 Calls Try.prog 48 #[.pointer (some ⟨E.b,0,none⟩),.int .u8 114,.func (.func 50) #[.pointer (some ⟨E.b,0,none⟩)] #[]] w fun r w'=>r=.returned (.tuple #[])∧∃ v',RD E w' v' (reads E.l E.most s) ni (nm):=by
 obtain ⟨A,c,rfl,hcap,-⟩:=Kd.S_reads h.row
 obtain ⟨q0,q1,q2,q3,q4,q5⟩:=h.cells
 have H:=Lib.hid h
 have HOK:=Lib.hid hok
 have G:=Lib.hid g
 clear h g hok
 go_enter Try.func48,Try.ntmps48
 go_wp2_with fail
 refine (at_r G.out H.out).mono ?_
 rintro r w2 ⟨rfl,rfl⟩
 by_cases h0:s.h=[]
 ·have hl:s.h.length=0:=by rw [h0];rfl
  go_upto_region 1 with (fail)
  rename_i K aK K1 aK1
  have HK:=Lib.hid aK
  clear aK
  go_wp2_with fail
  refine (fail_r G.out H.out 4 s.c.p).mono ?_
  rintro r w2 ⟨rfl,h2⟩
  have H2:=Lib.hid h2
  clear h2 H
  go_wp2
  refine HK.out _ _ ?_
  exact op5_r' G.out (fail s.c 4 s.c.p) H2.out (Cur.ok_fail HOK.out _ _) hn hnm hops (fun he=>(e_failed (by decide) he).elim) (by rw [if_pos h0]) _ (Lib.hid fun W v' hW=>⟨rfl,v',hW⟩) _ _ _ _ _ _ _ _ _ _ _ _ _ _ _ _ _ _ _ _ _ _ _ _ _ _ _ _ _ _ _ _ _ _ _ _ _ _ _ _ _ _ _ _ _ _ _ _ _ _ _ _ _ _ _ _ _ _ _ _ _ _ _ _ _ _ _ _ _ _ _ _ _ _ _ _ _ _ _ _ _ _ _ _ _ _ _ _ _ _ _ _ _ _ _ _
 ·have hl:¬ s.h.length=0:=fun e=>h0 (List.eq_nil_of_length_eq_zero e)
  have hle:((s.h.length:Int) == 0)=false:=by simp [hl]
  by_cases hm:E.most≤opsN s.h
  ·have hmb:decide (E.most≤(opsN s.h:Int))=true:=decide_eq_true hm
   go_upto_region 1 with (fail)
   rename_i K aK K1 aK1
   have HK:=Lib.hid aK
   clear aK
   go_wp2_with fail
   go_quiet (fail)
   go_wp2_with fail
   refine (fail_r G.out (H.out.drewN _) 3 s.c.p).mono ?_
   rintro r w2 ⟨rfl,h2⟩
   have H2:=Lib.hid h2
   clear h2 H
   go_wp2
   refine HK.out _ _ ?_
   exact op5_r' G.out (fail s.c 3 s.c.p) H2.out (Cur.ok_fail HOK.out _ _) hn hnm hops (fun he=>(e_failed (by decide) he).elim) (by rw [if_neg h0,if_pos hm]) _ (Lib.hid fun W v' hW=>⟨rfl,v',hW⟩) _ _ _ _ _ _ _ _ _ _ _ _ _ _ _ _ _ _ _ _ _ _ _ _ _ _ _ _ _ _ _ _ _ _ _ _ _ _ _ _ _ _ _ _ _ _ _ _ _ _ _ _ _ _ _ _ _ _ _ _ _ _ _ _ _ _ _ _ _ _ _ _ _ _ _ _ _ _ _ _ _ _ _ _ _ _ _ _ _ _ _ _ _ _ _ _
  ·have hmb:decide (E.most≤(opsN s.h:Int))=false:=decide_eq_false hm
   go_upto_region 1 with (fail)
   rename_i K aK K1 aK1
   have HK:=Lib.hid aK
   clear aK
   go_wp2_with fail
   go_quiet (fail)
   go_wp2
   refine HK.out _ _ ?_
   exact op5_r' G.out s.c (H.out.drewN _) HOK.out hn hnm hops (fun he=>⟨h0,by omega⟩) (by rw [if_neg h0,if_neg (by omega)]) _ (Lib.hid fun W v' hW=>⟨rfl,v',hW⟩) _ _ _ _ _ _ _ _ _ _ _ _ _ _ _ _ _ _ _ _ _ _ _ _ _ _ _ _ _ _ _ _ _ _ _ _ _ _ _ _ _ _ _ _ _ _ _ _ _ _ _ _ _ _ _ _ _ _ _ _ _ _ _ _ _ _ _ _ _ _ _ _ _ _ _ _ _ _ _ _ _ _ _ _ _ _ _ _ _ _ _ _ _ _ _ _
end Go.Proofs.Ytlcioegdmopppaa.Hs
set_option linter.unusedSimpArgs false
namespace Go.Proofs.Ytlcioegdmopppaa.Hs
open Go.RowKit Go.Maps Go.Proofs.Ytlcioegdmopppaa.PEncodeBack Go.Proofs.YtlcioegdmopppaaW.PrintWords
open Cur (Cr At peek fail byte number nums_)
set_option linter.unusedVariables false
set_option maxHeartbeats 4000000 in
theorem line_no {E:Env} (g:E.Good) {w:World} {v:Value} {s:RS} {ni nm:Nat} (h:RD E w v s ni nm) (hok:Cur.Ok E.l s.c) (hp:(peek E.l s.c).2=false) :
 Calls Try.prog 34 #[.pointer (some ⟨E.b,0,none⟩)] w fun r w'=>r=.returned (.bool false)∧RD E w' v s ni nm:=by
 obtain ⟨q0,q1,q2,q3,q4,q5⟩:=h.cells
 have HP:=Lib.hid (peek_r g h hok)
 rw [hp] at HP
 clear h g hok
 go_enter Try.func34,Try.ntmps34
 go_wp2_with fail
 refine HP.out.mono ?_
 rintro r w1 ⟨rfl,h1⟩
 have H1:=Lib.hid h1
 clear h1
 go_wp2
 go_ret
 exact ⟨rfl,H1.out⟩
set_option maxHeartbeats 4000000 in
theorem line_a {E:Env} (g:E.Good) {w:World} {v:Value} {s:RS} {ni nm:Nat} (h:RD E w v s ni nm) (hok:Cur.Ok E.l s.c) (hn:s.h.length≤2000) (hnm:nm≤5000) (hops:opsN s.h≤5000) (hp:(peek E.l s.c).2=true) (hx:(peek E.l s.c).1=97) :
 Calls Try.prog 34 #[.pointer (some ⟨E.b,0,none⟩)] w fun r w'=>r=.returned (.bool true)∧∃ v',RD E w' v' (apps E.l E.most s) ni (nm+1):=by
 obtain ⟨q0,q1,q2,q3,q4,q5⟩:=h.cells
 have HP:=Lib.hid (peek_r g h hok)
 rw [hp,hx] at HP
 have HO:=Lib.hid (fun (w1:World) (h1:RD E w1 v s ni nm)=>op_a g h1 hok hn hnm hops)
 clear h g hok
 go_enter Try.func34,Try.ntmps34
 go_wp2_with fail
 refine HP.out.mono ?_
 rintro r w1 ⟨rfl,h1⟩
 have HO1:=Lib.hid (HO.out w1 h1)
 clear h1 HO
 go_wp2_with fail
 refine HO1.out.mono ?_
 rintro r w2 ⟨rfl,v2,h2⟩
 have H2:=Lib.hid h2
 clear h2
 go_wp2
 go_ret
 exact ⟨rfl,v2,H2.out⟩
set_option maxHeartbeats 4000000 in
theorem line_r {E:Env} (g:E.Good) {w:World} {v:Value} {s:RS} {ni nm:Nat} (h:RD E w v s ni nm) (hok:Cur.Ok E.l s.c) (hn:s.h.length≤2000) (hnm:nm≤5000) (hops:opsN s.h≤5000) (hp:(peek E.l s.c).2=true) (hx:(peek E.l s.c).1=114) :
 Calls Try.prog 34 #[.pointer (some ⟨E.b,0,none⟩)] w fun r w'=>r=.returned (.bool true)∧∃ v',RD E w' v' (reads E.l E.most s) ni nm:=by
 obtain ⟨q0,q1,q2,q3,q4,q5⟩:=h.cells
 have HP:=Lib.hid (peek_r g h hok)
 rw [hp,hx] at HP
 have HO:=Lib.hid (fun (w1:World) (h1:RD E w1 v s ni nm)=>op_r g h1 hok hn hnm hops)
 clear h g hok
 go_enter Try.func34,Try.ntmps34
 go_wp2_with fail
 refine HP.out.mono ?_
 rintro r w1 ⟨rfl,h1⟩
 have HO1:=Lib.hid (HO.out w1 h1)
 clear h1 HO
 go_wp2_with fail
 refine HO1.out.mono ?_
 rintro r w2 ⟨rfl,v2,h2⟩
 have H2:=Lib.hid h2
 clear h2
 go_wp2
 go_ret
 exact ⟨rfl,v2,H2.out⟩
set_option maxHeartbeats 4000000 in
theorem line_t {E:Env} (g:E.Good) {w:World} {v:Value} {s:RS} {ni nm:Nat} (h:RD E w v s ni nm) (hok:Cur.Ok E.l s.c) (hn:s.h.length≤2000) (hni:ni≤2000) (hp:(peek E.l s.c).2=true) (hx:(peek E.l s.c).1=116) :
 Calls Try.prog 34 #[.pointer (some ⟨E.b,0,none⟩)] w fun r w'=>r=.returned (.bool true)∧∃ v',RD E w' v' (txn E.l s) (ni+1) nm:=by
 obtain ⟨q0,q1,q2,q3,q4,q5⟩:=h.cells
 have HP:=Lib.hid (peek_r g h hok)
 rw [hp,hx] at HP
 have HO:=Lib.hid (fun (w1:World) (h1:RD E w1 v s ni nm)=>txn_c g h1 hok hn hni)
 clear h g hok
 go_enter Try.func34,Try.ntmps34
 go_wp2_with fail
 refine HP.out.mono ?_
 rintro r w1 ⟨rfl,h1⟩
 have HO1:=Lib.hid (HO.out w1 h1)
 clear h1 HO
 go_wp2_with fail
 refine HO1.out.mono ?_
 rintro r w2 ⟨rfl,v2,h2⟩
 have H2:=Lib.hid h2
 clear h2
 go_wp2
 go_ret
 exact ⟨rfl,v2,H2.out⟩
set_option maxHeartbeats 4000000 in
theorem line_o {E:Env} (g:E.Good) {w:World} {v:Value} {s:RS} {ni nm:Nat} (h:RD E w v s ni nm) (hok:Cur.Ok E.l s.c) (hn:s.h.length≤2000) (hni:ni≤2000) (hp:(peek E.l s.c).2=true) (hx:(peek E.l s.c).1 ≠ 97∧(peek E.l s.c).1 ≠ 114∧(peek E.l s.c).1 ≠ 116) :
 Calls Try.prog 34 #[.pointer (some ⟨E.b,0,none⟩)] w fun r w'=>r=.returned (.bool true)∧∃ v',RD E w' v' (txn E.l (s.to (fail s.c 4 s.c.p))) (ni+1) nm:=by
 obtain ⟨q0,q1,q2,q3,q4,q5⟩:=h.cells
 have HP:=Lib.hid (peek_r g h hok)
 rw [hp] at HP
 generalize (peek E.l s.c).1=y at *
 obtain ⟨y1,y2,y3⟩:=hx
 have b1:(y == 97)=false:=by simp [y1]
 have b2:(y == 114)=false:=by simp [y2]
 have b3:(y != 116)=true:=by simp [y3]
 have HO:=Lib.hid (fun (w1:World) (h1:RD E w1 v (s.to (fail s.c 4 s.c.p)) ni nm)=>txn_c g h1 (Cur.ok_fail hok _ _) hn hni)
 have HF:=Lib.hid (fun (w1:World) (h1:RD E w1 v s ni nm)=>fail_r g h1 4 s.c.p)
 have HA:=Lib.hid (fun (w1:World) (h1:RD E w1 v s ni nm)=>at_r g h1)
 clear h g hok
 go_enter Try.func34,Try.ntmps34
 go_wp2_with fail
 refine HP.out.mono ?_
 rintro r w1 ⟨rfl,h1⟩
 clear q0 q1 q2 q3 q4 q5
 obtain ⟨q0,q1,q2,q3,q4,q5⟩:=h1.cells
 have H1:=Lib.hid h1
 clear h1
 go_wp2_with fail
 have HD:=Lib.hid (H1.out.below ((Below.refl _ _).drew))
 go_region_with (first
  | (go_at_call 52;refine (HA.out _ HD.out).mono ?_;rintro r w2 ⟨rfl,rfl⟩)
  | (go_at_call 51;refine (HF.out _ HD.out).mono ?_;rintro r w2 ⟨rfl,h2⟩;have H2:=Lib.hid h2;clear h2))
 all_goals
  have HO1:=Lib.hid (HO.out _ H2.out)
  go_wp2_with fail
  refine HO1.out.mono ?_
  rintro r w2 ⟨rfl,v2,h2⟩
  have H3:=Lib.hid h2
  clear h2
  go_wp2
  go_ret
  exact ⟨rfl,v2,H3.out⟩
end Go.Proofs.Ytlcioegdmopppaa.Hs
