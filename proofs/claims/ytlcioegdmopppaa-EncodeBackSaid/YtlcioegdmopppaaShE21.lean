/- Printed by shake.py. -/
import Derived.Test.YtlcioegdmopppaaProg
import Derived.Below
import Derived.Deep.Draws
import Derived.Deep.AppendLies
import Derived.Maps.AppendAt
import Derived.OwnWalk
import Derived.Laws.BytesArg
import Derived.Laws.MakeOwn
import Derived.Laws.OwnMore
import Derived.Deep.OwnRows
import Derived.Tactics
import Derived.Lib.ConvBytes
import Derived.Laws.Slices
import Derived.WalkKit
import Derived.KernelRfl
import Derived.RowKit3
import Derived.Deep.LoopGhost
import Derived.Deep.QuietTactic
import Derived.BigQuiet
import Derived.WideLaws
import Derived.Deep.DeepCutAuto
import Derived.Deep.CutBlock
import Derived.Deep.RegionHeld3
import Derived.Laws.Rows
import Derived.Lib.AppendStr
import Derived.ArgAppend
import Derived.Laws.IdiomCopy
import Derived.OrdersHeld
import Derived.Laws.BitsLemmas
import Derived.RowKit
import Derived.Test.YtlcioegdmopppaaShE00
import Derived.Test.YtlcioegdmopppaaShE01
import Derived.Test.YtlcioegdmopppaaShE02
import Derived.Test.YtlcioegdmopppaaShE03
import Derived.Test.YtlcioegdmopppaaShE04
import Derived.Test.YtlcioegdmopppaaShE05
import Derived.Test.YtlcioegdmopppaaShE06
import Derived.Test.YtlcioegdmopppaaShE07
import Derived.Test.YtlcioegdmopppaaShE08
import Derived.Test.YtlcioegdmopppaaShE09
import Derived.Test.YtlcioegdmopppaaShE10
import Derived.Test.YtlcioegdmopppaaShE11
import Derived.Test.YtlcioegdmopppaaShE12
import Derived.Test.YtlcioegdmopppaaShE13
import Derived.Test.YtlcioegdmopppaaShE14
import Derived.Test.YtlcioegdmopppaaShE15
import Derived.Test.YtlcioegdmopppaaShE16
import Derived.Test.YtlcioegdmopppaaShE17
import Derived.Test.YtlcioegdmopppaaShE18
import Derived.Test.YtlcioegdmopppaaShE19
import Derived.Test.YtlcioegdmopppaaShE20
namespace Go.Proofs.Ytlcioegdmopppaa.PEncodeBack
open Go.RowKit Go.Proofs.YtlcioegdmopppaaW.PrintWords Go.Proofs.YtlcioegdmopppaaW.PrintLast Go.Proofs.YtlcioegdmopppaaW.PrintMore
attribute [local go_sem] max2_int min2_int max_two min_two max_three min_three max_four min_four
set_option linter.unusedVariables false
set_option linter.unusedSimpArgs false
def errW:Option Int→Value
 | none=>.nilIface
 | some c=>.iface 0 (.int .i64 c)
theorem errW_none:errW none=.nilIface:=rfl
theorem errW_some (c:Int):errW (some c)=.iface 0 (.int .i64 c):=rfl
theorem info3:(Try.prog.info? 3).map (fun i=>(i.zero,i.size,i.bytes))=some (some (.int .i64 0),1,8):=by kernel_rfl
theorem info5:(Try.prog.info? 5).map (fun i=>(i.zero,i.size,i.bytes))=some (some (.int .u8 0),1,1):=by kernel_rfl
theorem info39:(Try.prog.info? 39).map (fun i=>(i.zero,i.size,i.bytes))=some (some (.agg #[(.bool false),(.int .i64 0),(.int .i64 0),(.slice none 0 0)]),4,48):=by kernel_rfl
theorem info42:(Try.prog.info? 42).map (fun i=>(i.zero,i.size,i.bytes))=some (some (.agg #[(.int .i64 0),(.bool false),(.slice none 0 0)]),3,40):=by kernel_rfl
structure S39 where
 f0:Bool
 f1:Int
 f2:Int
 f3:(List Int)
def z39:S39:=⟨false,(0:Int),(0:Int),([]:List Int)⟩
def k39:Kd S39:=Kd.iso (Kd.pair Kd.bool (Kd.pair (Kd.int .i64) (Kd.pair (Kd.int .i64) (Kd.slice 3 (Kd.int .i64))))) (fun x:S39=>(x.f0,x.f1,x.f2,x.f3))
theorem k39_heap:Kd.Heap k39:=Kd.heap_iso _ (Kd.heap_pair Kd.heap_bool (Kd.heap_pair (Kd.heap_int .i64) (Kd.heap_pair (Kd.heap_int .i64) (Kd.heap_slice 3 (Kd.heap_int .i64)))))
theorem k39_open {w:World} {x:S39} {cs:List Value} (h:k39.K w x cs):∃ A3 c3,cs=[.bool x.f0,.int .i64 x.f1,.int .i64 x.f2,.slice A3 x.f3.length c3]∧x.f3.length≤c3∧(Kd.int .i64).C w A3 x.f3.length x.f3:=by
 obtain ⟨_,_,rfl,rfl,⟨_,_,rfl,rfl,⟨_,_,rfl,rfl,⟨A3,c3,rfl,l3,g3⟩⟩⟩⟩:=h
 exact ⟨A3,c3,rfl,l3,g3⟩
theorem k39_mk (w:World) (x:S39) {A3:Option Addr} {c3:Nat} (l3:x.f3.length≤c3) (g3:(Kd.int .i64).C w A3 x.f3.length x.f3):k39.K w x [.bool x.f0,.int .i64 x.f1,.int .i64 x.f2,.slice A3 x.f3.length c3]:=⟨[.bool x.f0],[.int .i64 x.f1,.int .i64 x.f2,.slice A3 x.f3.length c3],rfl,rfl,⟨[.int .i64 x.f1],[.int .i64 x.f2,.slice A3 x.f3.length c3],rfl,rfl,⟨[.int .i64 x.f2],[.slice A3 x.f3.length c3],rfl,rfl,⟨A3,c3,rfl,l3,g3⟩⟩⟩⟩
theorem k39_mkM (w:World) (base:Nat) (ok:Nat→Prop) (x:S39) {v3:Value} (g3:(Kd.int .i64).R 3 w base ok v3 x.f3):k39.M w base ok x [.bool x.f0,.int .i64 x.f1,.int .i64 x.f2,v3]:=⟨[.bool x.f0],[.int .i64 x.f1,.int .i64 x.f2,v3],rfl,rfl,⟨[.int .i64 x.f1],[.int .i64 x.f2,v3],rfl,rfl,⟨[.int .i64 x.f2],[v3],rfl,rfl,⟨v3,rfl,g3⟩⟩⟩⟩
def rd_T39 (xs:List S39) (i:Int):S39:=xs.getD i.toNat z39
theorem at_T39 {w:World} {A:Option Addr} {n:Nat} {xs:List S39} (h:Kd.C k39 w A n xs) (i:Int) (h0:0≤i) (h1:i < n):∃ ad A3 c3,A=some ad∧w.cell? (ad.add (i.toNat * 4))=some (.bool (rd_T39 xs i).f0)∧w.cell? ⟨(ad.add (i.toNat * 4)).block,(ad.add (i.toNat * 4)).off+1,none⟩=some (.int .i64 (rd_T39 xs i).f1)∧w.cell? ⟨(ad.add (i.toNat * 4)).block,(ad.add (i.toNat * 4)).off+2,none⟩=some (.int .i64 (rd_T39 xs i).f2)∧w.cell? ⟨(ad.add (i.toNat * 4)).block,(ad.add (i.toNat * 4)).off+3,none⟩=some (.slice A3 (rd_T39 xs i).f3.length c3)∧(rd_T39 xs i).f3.length≤c3∧(Kd.int .i64).C w A3 (rd_T39 xs i).f3.length (rd_T39 xs i).f3:=by
 obtain ⟨ad,c,e,_,hK,hc0⟩:=Kd.C_get h z39 i h0 h1
 have hc:∀ j u,c[j]?=some u→w.cell? (ad.add (i.toNat * 4+j))=some u:=hc0
 obtain ⟨A3,c3,rfl,l3,g3⟩:=k39_open hK
 exact ⟨ad,A3,c3,e,hc 0 _ rfl,by rw [← add_field _ _ 1 (by omega)];exact hc 1 _ rfl,by rw [← add_field _ _ 2 (by omega)];exact hc 2 _ rfl,by rw [← add_field _ _ 3 (by omega)];exact hc 3 _ rfl,l3,g3⟩
structure S42 where
 f0:Int
 f1:Bool
 f2:(List S39)
def z42:S42:=⟨(0:Int),false,([]:List S39)⟩
def k42:Kd S42:=Kd.iso (Kd.pair (Kd.int .i64) (Kd.pair Kd.bool (Kd.slice 39 k39))) (fun x:S42=>(x.f0,x.f1,x.f2))
theorem k42_heap:Kd.Heap k42:=Kd.heap_iso _ (Kd.heap_pair (Kd.heap_int .i64) (Kd.heap_pair Kd.heap_bool (Kd.heap_slice 39 k39_heap)))
theorem k42_open {w:World} {x:S42} {cs:List Value} (h:k42.K w x cs):∃ A2 c2,cs=[.int .i64 x.f0,.bool x.f1,.slice A2 x.f2.length c2]∧x.f2.length≤c2∧k39.C w A2 x.f2.length x.f2:=by
 obtain ⟨_,_,rfl,rfl,⟨_,_,rfl,rfl,⟨A2,c2,rfl,l2,g2⟩⟩⟩:=h
 exact ⟨A2,c2,rfl,l2,g2⟩
theorem k42_openM {w:World} {base:Nat} {ok:Nat→Prop} {x:S42} {cs:List Value} (h:k42.M w base ok x cs):∃ v2,cs=[.int .i64 x.f0,.bool x.f1,v2]∧k39.R 39 w base ok v2 x.f2:=by
 obtain ⟨_,_,rfl,rfl,⟨_,_,rfl,rfl,⟨v2,rfl,g2⟩⟩⟩:=h
 exact ⟨v2,rfl,g2⟩
theorem k42_mk (w:World) (x:S42) {A2:Option Addr} {c2:Nat} (l2:x.f2.length≤c2) (g2:k39.C w A2 x.f2.length x.f2):k42.K w x [.int .i64 x.f0,.bool x.f1,.slice A2 x.f2.length c2]:=⟨[.int .i64 x.f0],[.bool x.f1,.slice A2 x.f2.length c2],rfl,rfl,⟨[.bool x.f1],[.slice A2 x.f2.length c2],rfl,rfl,⟨A2,c2,rfl,l2,g2⟩⟩⟩
theorem k42_mkM (w:World) (base:Nat) (ok:Nat→Prop) (x:S42) {v2:Value} (g2:k39.R 39 w base ok v2 x.f2):k42.M w base ok x [.int .i64 x.f0,.bool x.f1,v2]:=⟨[.int .i64 x.f0],[.bool x.f1,v2],rfl,rfl,⟨[.bool x.f1],[v2],rfl,rfl,⟨v2,rfl,g2⟩⟩⟩
theorem k42_openF {W:World} {ok:Nat→Prop} {x:S42} {cs:List Value} (h:Kd.FK k42 W ok x cs):∃ A2 c2,cs=[.int .i64 x.f0,.bool x.f1,.slice A2 x.f2.length c2]∧x.f2.length≤c2∧Kd.F k39 W ok A2 x.f2.length x.f2:=by
 obtain ⟨A2,c2,rfl,l2,_⟩:=k42_open (Kd.FK_now h)
 exact ⟨A2,c2,rfl,l2,(fun W' hW=>by obtain ⟨A2_,c2_,he,l2_,g2_⟩:=k42_open (h W' hW);injection (Option.some.inj (show some (Value.slice A2 x.f2.length c2)=some (Value.slice A2_ x.f2.length c2_) from congrArg (fun l=>l[2]?) he)) with ha_ _ _;rw [ha_];exact g2_)⟩
theorem k42_mkF (W:World) (ok:Nat→Prop) (x:S42) {A2:Option Addr} {c2:Nat} (l2:x.f2.length≤c2) (g2:Kd.F k39 W ok A2 x.f2.length x.f2):Kd.FK k42 W ok x [.int .i64 x.f0,.bool x.f1,.slice A2 x.f2.length c2]:=fun W2 hW=>k42_mk W2 x l2 (g2 W2 hW)
def rd_T42 (xs:List S42) (i:Int):S42:=xs.getD i.toNat z42
theorem at_T42 {w:World} {A:Option Addr} {n:Nat} {xs:List S42} (h:Kd.C k42 w A n xs) (i:Int) (h0:0≤i) (h1:i < n):∃ ad A2 c2,A=some ad∧w.cell? (ad.add (i.toNat * 3))=some (.int .i64 (rd_T42 xs i).f0)∧w.cell? ⟨(ad.add (i.toNat * 3)).block,(ad.add (i.toNat * 3)).off+1,none⟩=some (.bool (rd_T42 xs i).f1)∧w.cell? ⟨(ad.add (i.toNat * 3)).block,(ad.add (i.toNat * 3)).off+2,none⟩=some (.slice A2 (rd_T42 xs i).f2.length c2)∧(rd_T42 xs i).f2.length≤c2∧k39.C w A2 (rd_T42 xs i).f2.length (rd_T42 xs i).f2:=by
 obtain ⟨ad,c,e,_,hK,hc0⟩:=Kd.C_get h z42 i h0 h1
 have hc:∀ j u,c[j]?=some u→w.cell? (ad.add (i.toNat * 3+j))=some u:=hc0
 obtain ⟨A2,c2,rfl,l2,g2⟩:=k42_open hK
 exact ⟨ad,A2,c2,e,hc 0 _ rfl,by rw [← add_field _ _ 1 (by omega)];exact hc 1 _ rfl,by rw [← add_field _ _ 2 (by omega)];exact hc 2 _ rfl,l2,g2⟩
end Go.Proofs.Ytlcioegdmopppaa.PEncodeBack
