/- Printed by shake.py. -/
import Derived.Test.YtlcioegdmopppaaShE21
import Derived.Test.YtlcioegdmopppaaShE25
import Derived.Shelf.SlSortCmp.KitK
import Derived.Lib.LazyBuf
import Derived.Lib.SliceRun
import Derived.Test.YtlcioegdmopppaaShE41
import Derived.Test.YtlcioegdmopppaaShE26
import Derived.Test.YtlcioegdmopppaaShE27
import Derived.DeepKeys4
import Derived.Test.YtlcioegdmopppaaShE28
import Derived.Laws.BytesArg
set_option linter.unusedSimpArgs false
namespace Go.Proofs.Ytlcioegdmopppaa.En
open Go.RowKit Go.Proofs.Ytlcioegdmopppaa.PEncodeBack Go.Proofs.YtlcioegdmopppaaW.PrintWords
set_option linter.unusedVariables false
def okN (n:Int):Bool:=decide (0≤n∧n≤2147483647)
theorem okN_iff {n:Int}:okN n=true ↔ 0≤n∧n≤2147483647:=by unfold okN;simp
def okOp (o:S39):Bool:=okN o.f1 && (if o.f0=true then decide (o.f2=0) && o.f3.all okN else okN o.f2 && decide (o.f3=[]))
def okT (t:S42):Bool:=okN t.f0 && t.f2.all okOp
def numS (n:Int):List Int:=low (wd n.toNat) n.toNat
theorem numS_len {n:Int} (h:okN n=true):1≤(numS n).length∧(numS n).length≤10:=by
 have:=okN_iff.1 h
 unfold numS
 rw [low_length]
 exact ⟨wd_pos _,wd_le (by omega)⟩
def opT (o:S39):List Int:=(if o.f0=true then 114 :: texts (o.f1 :: o.f3) else 97 :: texts [o.f1,o.f2]) ++ [10]
def headT (t:S42):List Int:=116 :: texts [t.f0] ++ [32,if t.f1=true then 97 else 99,10]
def txnT (t:S42):List Int:=headT t ++ t.f2.flatMap opT
def histT (h:List S42):List Int:=h.flatMap txnT
theorem str_append (a b:List Int):strOfNums a ++ strOfNums b=strOfNums (a ++ b):=by
 apply ByteArray.ext
 rw [ByteArray.data_append]
 simp [strOfNums]
theorem str_len (a:List Int):(strOfNums a).size=a.length:=str_size a
theorem str_lit (a b:List Int) (s:ByteArray) (h:strOfNums b=s):strOfNums a ++ s=strOfNums (a ++ b):=by rw [← h,str_append]
theorem rd39 {l:List S39} {i:Nat} (h:i < l.length):rd_T39 l (i:Int)=l[i]:=by
 simp [rd_T39,List.getD_eq_getElem?_getD,List.getElem?_eq_getElem h]
theorem rd42 {l:List S42} {i:Nat} (h:i < l.length):rd_T42 l (i:Int)=l[i]:=by
 simp [rd_T42,List.getD_eq_getElem?_getD,List.getElem?_eq_getElem h]
theorem rdI {l:List Int} {i:Nat} (h:i < l.length):rd l (i:Int)=l[i]:=by
 simp [rd,List.getD_eq_getElem?_getD,List.getElem?_eq_getElem h]
theorem wrapS {i n:Nat} (h:i < n) (hn:n≤1152921504606846976):wrap64 ((i:Int)+1)=((i+1:Nat):Int):=by unfold wrap64;omega
theorem texts_one (n:Int):texts [n]=32 :: numS n:=by simp [texts,numS]
theorem texts_cons (n:Int) (l:List Int):texts (n :: l)=32 :: numS n ++ texts l:=rfl
def big:Nat:=1152921504606846976
end Go.Proofs.Ytlcioegdmopppaa.En
set_option linter.unusedVariables false
set_option linter.unusedSimpArgs false
namespace Go.Proofs.Ytlcioegdmopppaa.RowAt
open Go.Shelf Go.RowKit Go.Lib Go.Sort
set_option linter.unusedSectionVars false
variable {α:Type} [Inhabited α] {enc:α→List Value} {k:Nat} {W:World} {blk off:Nat} {D:List α}
def Row (enc:α→List Value) (k:Nat) (w:World) (blk off:Nat) (D:List α):Prop :=
 ∀ i x,D[i]?=some x→∀ c v,(enc x)[c]?=some v→w.cell? ⟨blk,off+i * k+c,none⟩=some v∧w.frozen? ⟨blk,off+i * k+c,none⟩=false
theorem Row.at (h:Row enc k W blk off D) (hk:∀ x,(enc x).length=k) {i c:Nat} (hi:i < D.length) (hc:c < k) :
 (W.cell? ⟨blk,off+i * k+c,none⟩).isSome=true∧W.frozen? ⟨blk,off+i * k+c,none⟩=false:=by
 have hl:c < (enc D[i]).length:=by rw [hk];exact hc
 have:=h i D[i] (List.getElem?_eq_getElem hi) c (enc D[i])[c] (List.getElem?_eq_getElem hl)
 exact ⟨by rw [this.1];rfl,this.2⟩
theorem Row.store (h:Row enc k W blk off D) (hk:∀ x,(enc x).length=k) (P:Program) {i:Nat} (hi:i < D.length) (y:α) (h1:∀ v ∈ enc y,v.oneCell'=true) :
 Sem.run P (storeCells ⟨blk,off+i * k,none⟩ (enc y) 0) W=.ok () (W.setCells blk (off+i * k) (enc y)):=by
 have:=run_storeCells_cells (P:=P) blk (off+i * k) (enc y) 0 W (fun c hc=>by rw [Nat.add_zero];exact (h.at hk hi (by rw [hk] at hc;exact hc)).1) (fun c hc=>by rw [Nat.add_zero];exact (h.at hk hi (by rw [hk] at hc;exact hc)).2) h1
 simpa only [Nat.add_zero] using this
theorem Row.put (h:Row enc k W blk off D) (hk:∀ x,(enc x).length=k) {i:Nat} (hi:i < D.length) (y:α) :
 Row enc k (W.setCells blk (off+i * k) (enc y)) blk off (D.set i y):=by
 intro j x hj c v hc
 have hck:c < k:=by have:=(List.getElem?_eq_some_iff.1 hc).1;rw [hk] at this;exact this
 rw [World.frozen?_setCells]
 by_cases e:j=i
 ·subst e
  rw [List.getElem?_set_self hi] at hj
  cases hj
  have hl:=(List.getElem?_eq_some_iff.1 hc).1
  refine ⟨?_,(h.at hk hi hck).2⟩
  rw [World.cell?_setCells_in blk _ _ _ (fun c hc=>(h.at hk hi (by rw [hk] at hc;exact hc)).1) c hl,← hc,List.getElem?_eq_getElem hl]
 ·rw [List.getElem?_set_ne (Ne.symm e)] at hj
  have:=h j x hj c v hc
  refine ⟨?_,this.2⟩
  rw [World.cell?_setCells_out blk _ _ _ _ (fun _ _=>?_)]
  ·exact this.1
  ·rw [hk]
   show off+j * k+c < off+i * k ∨ off+i * k+k≤off+j * k+c
   rcases Nat.lt_or_gt_of_ne e with hlt|hgt
   ·left
    have:(j+1) * k≤i * k:=Nat.mul_le_mul_right k hlt
    rw [Nat.add_mul,Nat.one_mul] at this
    omega
   ·right
    have:(i+1) * k≤j * k:=Nat.mul_le_mul_right k hgt
    rw [Nat.add_mul,Nat.one_mul] at this
    omega
theorem Row.take (h:Row enc k W blk off D) (n:Nat):Row enc k W blk off (D.take n):=fun i x hi c v hc =>
 h i x (by rw [List.getElem?_take] at hi;split at hi <;> simp_all) c v hc
theorem Row.holds (h:Row enc k W blk off D) (hk:∀ x,(enc x).length=k):HoldsK enc k W blk off D.toArray:=by
 intro t ht
 rw [size_flatK,List.size_toArray] at ht
 have hkp:0 < k:=Nat.pos_of_ne_zero fun e=>by rw [e,Nat.mul_zero] at ht;omega
 have hi:t / k < D.length:=Nat.div_lt_of_lt_mul (by rw [Nat.mul_comm];exact ht)
 have hc:t % k < k:=Nat.mod_lt _ hkp
 have e:off+t=off+(t / k) * k+t % k:=by have:=Nat.div_add_mod t k;rw [Nat.mul_comm (t / k) k];omega
 have hl:t % k < (enc D[t / k]).length:=by rw [hk];exact hc
 have:=h (t / k) D[t / k] (List.getElem?_eq_getElem hi) (t % k) (enc D[t / k])[t % k] (List.getElem?_eq_getElem hl)
 rw [e,get_flatK _ _ _ _ (by rw [List.size_toArray];exact ht)]
 have e2:D.toArray[t / k]! = D[t / k]:=by rw [getElem!_pos _ _ (by simpa using hi)];simp
 rw [e2,getElem!_pos (enc D[t / k]) (t % k) (by rw [hk];exact hc)]
 exact this
end Go.Proofs.Ytlcioegdmopppaa.RowAt
set_option linter.unusedSimpArgs false
namespace Go.Proofs.Ytlcioegdmopppaa.En
open Go.RowKit Go.Lib Go.Proofs.Ytlcioegdmopppaa.PEncodeBack Go.Proofs.YtlcioegdmopppaaW.PrintWords
set_option linter.unusedVariables false
theorem link {w a b:World} (h:Below w.heap.size w a) (k:Below a.heap.size a b):Below w.heap.size w b:=h.trans (k.mono h.size)
def badN (n:Int):Bool:=!okN n
set_option maxHeartbeats 1000000 in
theorem may1_calls (n:Int) (w:World):Calls Try.prog 63 #[.int .i64 n] w fun e w'=>e=.returned (.bool (badN n))∧w'=w:=by
 by_cases h:n < 0
 ·have e:badN n=true:=by unfold badN okN;simp;omega
  rw [e]
  go_enter Try.func63,Try.ntmps63
  go_wp2
  go_ret
  exact ⟨rfl,rfl⟩
 ·by_cases h2:n > 2147483647
  ·have e:badN n=true:=by unfold badN okN;simp;omega
   rw [e]
   go_enter Try.func63,Try.ntmps63
   go_wp2
   go_ret
   exact ⟨rfl,rfl⟩
  ·have e:badN n=false:=by unfold badN okN;simp;omega
   rw [e]
   go_enter Try.func63,Try.ntmps63
   go_wp2
   go_ret
   exact ⟨rfl,rfl⟩
theorem any_take {p:Int→Bool} {l:List Int} {k:Nat} (hk:k < l.length) (h:∀ j (hj:j < l.length),j < k→p l[j]=false) (hp:p l[k]=true):l.any p=true:=List.any_eq_true.2 ⟨_,List.getElem_mem hk,hp⟩
set_option maxHeartbeats 1000000 in
set_option maxRecDepth 100000 in
theorem indexFunc_may (w:World) (A:Option Addr) (c:Nat) (l:List Int) (hr:Kd.C (Kd.int .i64) w A l.length l) (hl:l.length≤big) :
 Calls Try.prog 73 #[.slice A l.length c,.func (.func 63) #[] #[]] w fun e w'=>(∃ i:Int,e=.returned (.int .i64 i)∧(decide (i ≥ 0)=l.any badN))∧w'=w:=by
 have e63:∀ args w,(callFunc 63 args).run Try.prog w=.ok (.enter 63 args) w:=enters_of Try.func63 (by kernel_rfl) rfl
 have HR:=Lib.hid hr
 obtain ⟨N,hN⟩:∃ N,l.length=N:=⟨_,rfl⟩
 have hNb:N≤1152921504606846976:=by rw [← hN];exact hl
 have HN:=Lib.hid hN
 rw [hN] at HR
 clear hr hl hN
 rw [HN.out]
 go_enter Try.func73,Try.ntmps73
 go_wp2
 go_loop [5,8] (fun _ v8=>∃ k:Nat,k≤N∧v8=.int .i64 k∧Aside (∀ j (hj:j < l.length),j < k→badN l[j]=false)) (fun _ v8=>N - (intOf v8).toNat)
 case atStart=>exact ⟨0,by omega,rfl,fun j _ h=>absurd h (by omega)⟩
 case round =>
  obtain ⟨k,hk,rfl,HA⟩:=hrel
  by_cases hlt:k < N
  ·have hkl:k < l.length:=by rw [HN.out];exact hlt
   obtain ⟨ad,rfl,hc⟩:=Kd.at_int HR.out (k:Int) (by omega) (by omega)
   rw [rdI hkl,Int.toNat_natCast] at hc
   have HX:=Lib.hid (rfl:l[k]=l[k])
   have HB:=Lib.hid (may1_calls l[k])
   have hlti:(k:Int) < N:=by omega
   cases hb:badN l[k] with
   | true =>
    have HF:Hid (l.any badN=true):=Lib.hid (any_take hkl HA.out hb)
    rw [hb] at HB
    clear hb HX
    generalize l[k]=x at *
    go_wp2_with (go_at_fn 63;refine (HB.out _).mono ?_;rintro e w' ⟨rfl,rfl⟩)
    go_ret
    refine ⟨⟨_,rfl,?_⟩,rfl⟩
    rw [HF.out];simp
   | false =>
    have HF:Aside (∀ j (hj:j < l.length),j < k+1→badN l[j]=false):=fun j hj hjk=>by
     rcases Nat.lt_or_ge j k with h|h
     ·exact HA.out j hj h
     ·have:j=k:=by omega
      subst this;exact hb
    rw [hb] at HB
    clear hb HX HA
    generalize l[k]=x at *
    go_wp2_with (go_at_fn 63;refine (HB.out _).mono ?_;rintro e w' ⟨rfl,rfl⟩)
    go_round
    case rel=>exact ⟨k+1,by omega,by go_num,HF⟩
    case measure=>simp [intOf];omega
  ·have hlti:¬ (k:Int) < N:=by omega
   have HF:Hid (l.any badN=false):=Lib.hid (by
    rw [List.any_eq_false]
    intro x hx
    obtain ⟨j,hj,rfl⟩:=List.getElem_of_mem hx
    rw [HA.out j hj (by rw [HN.out] at hj;omega)];decide)
   go_wp2
   go_ret
   refine ⟨⟨_,rfl,?_⟩,rfl⟩
   rw [HF.out];decide
theorem all_ok (l:List Int):l.any badN=!l.all okN:=by
 induction l with
 | nil=>rfl
 | cons x l ih=>rw [List.any_cons,List.all_cons,ih];unfold badN;cases okN x <;> cases l.all okN <;> rfl
set_option maxHeartbeats 1000000 in
theorem containsFunc_may (w:World) (A:Option Addr) (c:Nat) (l:List Int) (hr:Kd.C (Kd.int .i64) w A l.length l) (hl:l.length≤big) :
 Calls Try.prog 62 #[.slice A l.length c,.func (.func 63) #[] #[]] w fun e w'=>e=.returned (.bool (!l.all okN))∧w'=w:=by
 have HI:=Lib.hid (indexFunc_may w A c l hr hl)
 have HA:=Lib.hid (all_ok l)
 rw [HA.out] at HI
 clear hr
 generalize l.all okN=b at *
 generalize l.length=N at *
 go_enter Try.func62,Try.ntmps62
 go_wp2_with fail
 refine HI.out.mono ?_
 rintro e w' ⟨⟨i,rfl,hi⟩,rfl⟩
 have HI2:=Lib.hid hi
 clear hi
 go_wp2
 go_ret
 exact ⟨by first|rfl|(rw [HI2.out];rfl),rfl⟩
set_option maxHeartbeats 1000000 in
theorem may_c (w:World) (A:Option Addr) (c:Nat) (l:List Int) (hr:Kd.C (Kd.int .i64) w A l.length l) (hl:l.length≤big) :
 Calls Try.prog 44 #[.slice A l.length c] w fun e w'=>e=.returned (.bool (l.all okN))∧w'=w:=by
 have HI:=Lib.hid (containsFunc_may w A c l hr hl)
 clear hr
 generalize l.all okN=b at *
 generalize l.length=N at *
 go_enter Try.func44,Try.ntmps44
 go_wp2_with fail
 refine HI.out.mono ?_
 rintro e w' ⟨rfl,rfl⟩
 go_wp2
 go_ret
 exact ⟨by cases b <;> rfl,rfl⟩
end Go.Proofs.Ytlcioegdmopppaa.En
set_option linter.unusedSimpArgs false
namespace Go.Proofs.Ytlcioegdmopppaa.En
open Go.RowKit Go.Lib Go.Proofs.Ytlcioegdmopppaa.PEncodeBack Go.Proofs.YtlcioegdmopppaaW.PrintWords
set_option linter.unusedVariables false
theorem ints_laid {W:World} {g:Nat} {l:List Int} {t:TypeId} {fr:Nat × Nat} (hg:W.heap[g]?=some (.cells (nums .i64 l).toArray t fr)) (hl:l.length≤1000):Kd.C (Kd.int .i64) W (some ⟨g,0,none⟩) l.length l:=by
 refine ⟨rfl,by omega,fun _=>⟨_,rfl,fun j q hq=>⟨[.int .i64 q],rfl,rfl,fun i u hu=>?_⟩⟩⟩
 have hi:i=0:=by have:=(List.getElem?_eq_some_iff.1 hu).1;simp at this;omega
 subst hi
 simp at hu
 subst hu
 show W.cell? ((⟨g,0,none⟩:Addr).add (j * 1+0))=_
 rw [Addr.add_lit,cell_of_row _ _ _ _ _ _ hg]
 simp [nums,hq]
set_option maxHeartbeats 1000000 in
set_option maxRecDepth 100000 in
theorem mayOp_c (w:World) (o:S39) (A:Option Addr) (c:Nat) (hr:Kd.C (Kd.int .i64) w A o.f3.length o.f3) (hl:o.f3.length≤big) :
 Calls Try.prog 45 #[.agg #[.bool o.f0,.int .i64 o.f1,.int .i64 o.f2,.slice A o.f3.length c]] w fun e w'=>e=.returned (.bool (okOp o))∧Below w.heap.size w w':=by
 obtain ⟨f0,f1,f2,f3⟩:=o
 simp only at *
 have HL:=Lib.hid (fun (W:World) (hC:Kd.C (Kd.int .i64) W A f3.length f3)=>may_c W A c f3 hC hl)
 have H1:Hid (∀ (W:World) (g:Nat),Blk W g [.int .i64 f1] 3→Calls Try.prog 44 #[.slice (some ⟨g,0,none⟩) 1 1] W fun e w'=>e=.returned (.bool (okN f1))∧w'=W):=Lib.hid fun W g hg=>by
  have:=may_c W (some ⟨g,0,none⟩) 1 [f1] (ints_laid (l:=[f1]) hg (by simp)) (by unfold big;simp)
  simpa using this
 have H2:Hid (∀ (W:World) (g:Nat),Blk W g [.int .i64 f1,.int .i64 f2] 3→Calls Try.prog 44 #[.slice (some ⟨g,0,none⟩) 2 2] W fun e w'=>e=.returned (.bool (okN f1 && okN f2))∧w'=W):=Lib.hid fun W g hg=>by
  have:=may_c W (some ⟨g,0,none⟩) 2 [f1,f2] (ints_laid (l:=[f1,f2]) hg (by simp)) (by unfold big;simp)
  simpa using this
 have HR:=Lib.hid hr
 have hb1:Below w.heap.size w ((w.alloc (.cells #[.bool f0,.int .i64 f1,.int .i64 f2,.slice A f3.length c] 39)).alloc (.cells #[.int .i64 f1] 3)):=((Below.refl _ _).alloc (Nat.le_refl _) _).alloc (by simp) _
 have HE:Hid (decide (f3=[])=((f3.length:Int) == 0)):=Lib.hid (by cases f3 <;> simp;omega)
 clear hr hl
 cases f0 with
 | true =>
  have hfin:okOp ⟨true,f1,f2,f3⟩=(okN f1 && (decide (f2=0) && f3.all okN)):=rfl
  have HFIN:=Lib.hid hfin
  have HB1:=Lib.hid (hb1.mono (Nat.le_refl _))
  clear hfin hb1
  generalize f3.all okN=b3 at *
  generalize f3.length=N at *
  generalize hb0:okN f1=b0 at *
  clear hb0
  cases b0 with
  | false =>
   go_enter Try.func45,Try.ntmps45
   go_wp2_with (go_at_call 44;((with_reducible refine (H1.out _ _ (blk_new2 w _ [.int .i64 f1] 3)).mono ?_);rintro e w' ⟨rfl,rfl⟩))
   go_ret
   exact ⟨by rw [HFIN.out];rfl,HB1.out⟩
  | true =>
   by_cases h2:f2=0
   ·subst h2
    have HC:=Lib.hid (HL.out _ (Kd.C_below HR.out HB1.out))
    go_enter Try.func45,Try.ntmps45
    go_wp2_with (first
     | (go_at_call 44;((with_reducible refine (H1.out _ _ (blk_new2 w _ [.int .i64 f1] 3)).mono ?_);rintro e w' ⟨rfl,rfl⟩))
     | (go_at_call 44;((with_reducible refine HC.out.mono ?_);rintro e w' ⟨rfl,rfl⟩)))
    go_ret
    exact ⟨by rw [HFIN.out];cases b3 <;> rfl,HB1.out⟩
   ·have hd:(f2 == 0)=false:=by simp [h2]
    have HD:Hid (decide (f2=0)=false):=Lib.hid (decide_eq_false h2)
    clear h2
    go_enter Try.func45,Try.ntmps45
    go_wp2_with (go_at_call 44;((with_reducible refine (H1.out _ _ (blk_new2 w _ [.int .i64 f1] 3)).mono ?_);rintro e w' ⟨rfl,rfl⟩))
    go_ret
    exact ⟨by rw [HFIN.out,HD.out];rfl,HB1.out⟩
 | false =>
  have hfin:okOp ⟨false,f1,f2,f3⟩=(okN f1 && (okN f2 && decide (f3=[]))):=rfl
  rw [HE.out] at hfin
  have HFIN:=Lib.hid hfin
  have HB2:Hid (Below w.heap.size w ((w.alloc (.cells #[.bool false,.int .i64 f1,.int .i64 f2,.slice A f3.length c] 39)).alloc (.cells #[.int .i64 f1,.int .i64 f2] 3))):=Lib.hid (((Below.refl _ _).alloc (Nat.le_refl _) _).alloc (by simp) _)
  clear hfin hb1 HE HL HR H1
  generalize f3.length=N at *
  generalize hb0:okN f1=b0 at *
  generalize hb2:okN f2=b2 at *
  clear hb0 hb2
  have HD:Hid ((b0 && (b2 && ((N:Int) == 0)))=((b0 && b2) && ((N:Int) == 0))):=Lib.hid (by cases b0 <;> cases b2 <;> rfl)
  rw [HD.out] at HFIN
  clear HD
  generalize (b0 && b2)=b at *
  cases b with
  | false =>
   go_enter Try.func45,Try.ntmps45
   go_wp2_with (go_at_call 44;((with_reducible refine (H2.out _ _ (blk_new2 w _ [.int .i64 f1,.int .i64 f2] 3)).mono ?_);rintro e w' ⟨rfl,rfl⟩))
   go_ret
   exact ⟨by rw [HFIN.out];rfl,HB2.out⟩
  | true =>
   go_enter Try.func45,Try.ntmps45
   go_wp2_with (go_at_call 44;((with_reducible refine (H2.out _ _ (blk_new2 w _ [.int .i64 f1,.int .i64 f2] 3)).mono ?_);rintro e w' ⟨rfl,rfl⟩))
   go_ret
   exact ⟨by rw [HFIN.out];first|rfl|(simp;done),HB2.out⟩
end Go.Proofs.Ytlcioegdmopppaa.En
set_option linter.unusedSimpArgs false
namespace Go.Proofs.Ytlcioegdmopppaa.En
open Go.RowKit Go.Proofs.Ytlcioegdmopppaa.PEncodeBack Go.Proofs.YtlcioegdmopppaaW.PrintWords
set_option linter.unusedVariables false
theorem u8_info:(Try.prog.info? 5).map (fun i=>(i.zero,i.size,i.bytes))=some (some (.int .u8 0),1,1):=by kernel_rfl
theorem bytes_str (l:List Int) (h:∀ x ∈ l,0≤x∧x≤255):bytesOf (strOfNums l)=l:=by
 unfold bytesOf strOfNums
 induction l with
 | nil=>rfl
 | cons x l ih =>
  have hx:=h x (by simp)
  have:=ih fun y hy=>h y (by simp [hy])
  simp only [List.map_cons] at this ⊢
  rw [List.cons.injEq]
  refine ⟨?_,this⟩
  simp
  omega
theorem numS_bytes (n:Int):∀ x ∈ numS n,0≤x∧x≤255:=low_bytes _ _
theorem blank_bytes (n:Int):bytesOf ((⟨#[32]⟩:ByteArray) ++ strOfNums (numS n))=32 :: numS n:=by
 have e:(⟨#[32]⟩:ByteArray) ++ strOfNums (numS n)=strOfNums (32 :: numS n):=by
  have:(32:Int) :: numS n=[32] ++ numS n:=rfl
  rw [this,← str_append];rfl
 rw [e]
 exact bytes_str _ fun x hx=>by
  rcases List.mem_cons.1 hx with rfl|hx
  ·omega
  ·exact numS_bytes n x hx
theorem texts_take {l:List Int} {k:Nat} (h:k < l.length):texts (l.take (k+1))=texts (l.take k) ++ 32 :: numS l[k]:=by
 rw [List.take_succ_eq_append_getElem h,texts_append,texts_one]
theorem texts_ok_len (l:List Int) (h:l.all okN=true):(texts l).length≤11 * l.length:=texts_len l fun x hx=>okN_iff.1 (List.all_eq_true.1 h x hx)
def BOut (w:World) (xs:List Int) (e:Ending) (w':World):Prop:=∃ A n c,e=.returned (.slice A n c)∧BR w' w.heap.size (.slice A n c) xs∧Below w.heap.size w w'
def lineT (s t:ByteArray) (l:List Int):List Int:=bytesOf s ++ texts l ++ bytesOf t
set_option maxHeartbeats 2000000 in
set_option maxRecDepth 100000 in
theorem line_c (w:World) (s t:ByteArray) (hs:s.size≤10) (ht:t.size≤10) (A:Option Addr) (c:Nat) (l:List Int) (hr:Kd.C (Kd.int .i64) w A l.length l) (hok:l.all okN=true) (hl:l.length≤1000000000) :
 Calls Try.prog 61 #[.string s,.string t,.slice A l.length c] w (BOut w (lineT s t l)):=by
 have HR:=Lib.hid hr
 have HOK:=Lib.hid hok
 have HTL:=Lib.hid (texts_ok_len l hok)
 have kc:=fun (W:World)=>Lib.run_convert_string_bytes (P:=Try.prog) W 9 27 5 s Try.underlying9 Try.underlying27 Try.underlying5
 have hcv:=br_conv w 5 s (by omega)
 have HCV:=Lib.hid hcv
 have hsl:=bytesOf_len s
 have htl:=bytesOf_len t
 have HSL:=Lib.hid hsl
 have HTS:=Lib.hid htl
 obtain ⟨N,hN⟩:∃ N,l.length=N:=⟨_,rfl⟩
 have HN:=Lib.hid hN
 have hNb:N≤1000000000:=by omega
 clear hr hok hcv hsl htl hN hl
 rw [HN.out]
 go_enter Try.func61,Try.ntmps61
 go_wp2
 have hJ0:Aside (BR (Lib.bytesWorld w 5 s) w.heap.size (.slice (some ⟨w.heap.size,0,none⟩) s.size (grownCap w s.size 0 5)) (bytesOf s ++ texts (l.take 0))∧Below w.heap.size w (Lib.bytesWorld w 5 s)):=by
  have hJ:BR (Lib.bytesWorld w 5 s) w.heap.size (.slice (some ⟨w.heap.size,0,none⟩) s.size (grownCap w s.size 0 5)) (bytesOf s ++ texts (l.take 0))∧Below w.heap.size w (Lib.bytesWorld w 5 s):=by
   rw [List.take_zero]
   show BR _ _ _ (bytesOf s ++ [])∧_
   rw [List.append_nil]
   exact HCV.out
  exact hJ
 clear kc
 go_loopw [7,16] (fun v7 v16 wr=>∃ k:Nat,k≤N∧v16=.int .i64 k∧Aside (BR wr w.heap.size v7 (bytesOf s ++ texts (l.take k))∧Below w.heap.size w wr)) (fun _ v16 _=>N - (intOf v16).toNat)
 case atStart=>exact ⟨0,by omega,rfl,hJ0⟩
 case round =>
  clear hJ0 HCV
  obtain ⟨k,hk,rfl,HJ⟩:=hrel
  by_cases hlt:k < N
  ·have hkl:k < l.length:=by rw [HN.out];exact hlt
   obtain ⟨hB,hbel⟩:=HJ.out
   have hr:=HR.out
   obtain ⟨ad,rfl,hc⟩:=Kd.at_int (Kd.C_below hr hbel) (k:Int) (by omega) (by omega)
   rw [rdI hkl,Int.toNat_natCast] at hc
   have hxo:=okN_iff.1 (List.all_eq_true.1 HOK.out _ (List.getElem_mem hkl))
   have HT:=Lib.hid (texts_take hkl)
   have HNL:=Lib.hid (numS_len (List.all_eq_true.1 HOK.out _ (List.getElem_mem hkl)))
   have HBB:=Lib.hid (blank_bytes l[k])
   have hlti:(k:Int) < N:=by omega
   have hlen:(bytesOf s ++ texts (l.take k)).length≤20000000000:=by
    have h1:=texts_ok_len (l.take k) (List.all_eq_true.2 fun x hx=>List.all_eq_true.1 HOK.out x (List.mem_of_mem_take hx))
    have h2:=List.length_take_le k l
    have:=HSL.out
    rw [List.length_append];omega
   have HLEN:=Lib.hid hlen
   have HJN:Hid (∀ (W:World) (A1:Option Addr) (c1:Nat),BR W w.heap.size (.slice A1 (bytesOf s ++ texts (l.take k) ++ bytesOf ((⟨#[32]⟩:ByteArray) ++ strOfNums (numS l[k]))).length c1) (bytesOf s ++ texts (l.take k) ++ bytesOf ((⟨#[32]⟩:ByteArray) ++ strOfNums (numS l[k])))→Below w.heap.size w W→Aside (BR W w.heap.size (.slice A1 (bytesOf s ++ texts (l.take k) ++ bytesOf ((⟨#[32]⟩:ByteArray) ++ strOfNums (numS l[k]))).length c1) (bytesOf s ++ texts (l.take (k+1)))∧Below w.heap.size w W)):=Lib.hid fun W A1 c1 h1 h2=>by
    refine ⟨?_,h2⟩
    have e:bytesOf s ++ texts (l.take k) ++ bytesOf ((⟨#[32]⟩:ByteArray) ++ strOfNums (numS l[k]))=bytesOf s ++ texts (l.take (k+1)):=by rw [HT.out,HBB.out,List.append_assoc]
    rw [e] at h1 ⊢
    exact h1
   have HX:=Lib.hid hxo
   have HBR:=Lib.hid hB
   have HBEL:=Lib.hid hbel
   clear hB hbel hxo HJ HT hr hlen
   generalize l[k]=x at *
   obtain ⟨n,rfl⟩:=Int.eq_ofNat_of_zero_le HX.out.1
   have HP:=Lib.hid (fun W=>print_yes n (by have:=HX.out.2;omega) W)
   have hsz:(strOfNums (numS (n:Int))).size≤10:=by rw [str_len];exact HNL.out.2
   have hnum:numS (n:Int)=low (wd n) n:=by unfold numS;rw [Int.toNat_natCast]
   rw [← hnum] at HP
   clear hnum HX HNL HBB
   generalize strOfNums (numS (n:Int))=sx at *
   have hsz2:((⟨#[32]⟩:ByteArray) ++ sx).size≤11:=by rw [ByteArray.size_append];show 1+sx.size≤11;omega
   have HSZ:=Lib.hid hsz2
   clear hsz2
   generalize bytesOf s ++ texts (l.take k)=xs at *
   go_wp2_with (first
    | (go_at_call 72;((with_reducible refine (HP.out _).mono ?_);rintro e w1 ⟨rfl,hb1⟩;have HBR1:=Lib.hid (HBR.out.below hb1);have HB1:=Lib.hid (link HBEL.out hb1)))
    | (at_builtin;refine wpl_bapp_str (w0:=w) w.heap.size rfl (.tmp 25) (.tmp 27) 27 9 5 rfl Try.underlying27 Try.underlying9 u8_info _ xs ((⟨#[32]⟩:ByteArray) ++ sx) rfl rfl HBR1.out HB1.out HB1.out.size (by have:=HSZ.out;have:=HLEN.out;omega) ?_;intro A1 c1 w2 h1 h2 h3 h4;have HJ2:=HJN.out _ _ _ h1 h2;clear h1 h2 h3 h4;generalize (xs ++ bytesOf ((⟨#[32]⟩:ByteArray) ++ sx)).length=n1 at *))
   go_roundw
   case rel=>exact ⟨k+1,by omega,by go_num,HJ2⟩
   case measure=>simp [intOf];omega
  ·have hlti:¬ (k:Int) < N:=by omega
   obtain ⟨hB,hbel⟩:=HJ.out
   have hkN:k=l.length:=by rw [HN.out];omega
   rw [hkN,List.take_length] at hB
   have HBR:=Lib.hid hB
   have HBEL:=Lib.hid hbel
   clear hB hbel HJ hkN
   have hlen:(bytesOf s ++ texts l).length≤20000000000:=by
    have h1:=HTL.out
    have:=HSL.out
    have:=HN.out
    rw [List.length_append];omega
   have HFI:Hid (∀ W A1 c1,BR W w.heap.size (.slice A1 (bytesOf s ++ texts l ++ bytesOf t).length c1) (bytesOf s ++ texts l ++ bytesOf t)→Below w.heap.size w W→BOut w (lineT s t l) (.returned (.slice A1 (bytesOf s ++ texts l ++ bytesOf t).length c1)) W):=Lib.hid fun W A1 c1 h1 h2=>⟨A1,_,c1,rfl,h1,h2⟩
   generalize bytesOf s ++ texts l=xs at *
   go_wp2_with (at_builtin;refine wpl_bapp_str (w0:=w) w.heap.size rfl (.tmp 30) (.tmp 31) 27 9 5 rfl Try.underlying27 Try.underlying9 u8_info _ xs t rfl rfl HBR.out HBEL.out HBEL.out.size (by omega) ?_;intro A1 c1 w2 h1 h2 h3 h4;have HJ2:=HFI.out _ _ _ h1 h2;clear h1 h2 h3 h4 HFI;generalize (xs ++ bytesOf t).length=n1 at *)
   go_ret
   exact HJ2
end Go.Proofs.Ytlcioegdmopppaa.En
set_option linter.unusedVariables false
set_option linter.unusedSimpArgs false
namespace Go.Proofs.Ytlcioegdmopppaa
open Go.RowKit Go.Proofs.YtlcioegdmopppaaW.PrintWords
section
variable {P:Program} {ops:Array Oper} {rest:List Oper} {o:Oper} {a:Act} {Q:Exit→Act→World→Prop}
theorem wpl_app {w0 W:World} (base:Nat) (hgd:o.guard=none) (s x:Operand) (t e:TypeId) (z:Value) (bytes:Nat)
 (ho:o.op=.call { callee:=.builtin .append,args:=#[s,x],argTypes:=#[t,t] })
 (ht:P.underlying t=some (.slice e)) (hinfo:(P.info? e).map (fun i=>(i.zero,i.size,i.bytes))=some (some z,1,bytes)) (hz:z.cells.size=1) (hb0:0 < bytes)
 (v:Value) (xs ys:List Value) (A:Option Addr) (n m c:Nat) (hs:a.eval s=v) (hx:a.eval x=.slice A m c) (hn:xs.length=n) (hm:ys.length=m) (HO:W.ownsRow base e 1 v n xs) (HR:Cells W A ys) (h1:∀ u ∈ ys,u.oneCell'=true)
 (HB:Below base w0 W) (hbase:base≤W.heap.size) (hl:(n+m) * bytes≤140737488355328)
 (h:∀ A1 c1 w1,w1.ownsRow base e 1 (.slice A1 (n+m) c1) (n+m) (xs ++ ys)→Below base w0 w1→W.grownBy w1 v.ownBlock→((Value.slice A1 (n+m) c1).ownBlock=v.ownBlock ∨ ∃ b,(Value.slice A1 (n+m) c1).ownBlock=some b∧W.heap.size≤b)→n+m≤c1→wpList P ops Q rest (a.put o.dst (.slice A1 (n+m) c1)) w1) :
 wpList P ops Q (o :: rest) a W:=by
 subst hn
 obtain ⟨v1,w1,hr,hown,hg,hat⟩:=run_app (P:=P) W base t o.type e z bytes ht hinfo hz hb0 v xs ys A m c hm HO HR h1 hbase hl
 refine wpList_plain hgd fun K hK=>?_
 unfold Oper.wp execOp
 simp only [ho,resolve,invoke,builtin,Sem.run_bind,Sem.run_pure,Result.andThen_ok,List.map_toArray,List.map_cons,List.map_nil,hs,hx,hr]
 have hB:=HB.grown hg hbase (own_base HO)
 rcases hown.2 with ⟨rfl,h0⟩|⟨g,cap,cur,rfl,_,_,h2,_⟩
 ·have e0:xs.length+m=0:=h0
  have h3:=h none 0 w1
  rw [e0] at h3
  rw [e0] at hown
  exact hK _ _ (h3 hown hB hg hat (Nat.le_refl _))
 ·exact hK _ _ (h _ _ w1 hown hB hg hat h2)
end
end Go.Proofs.Ytlcioegdmopppaa
set_option linter.unusedSimpArgs false
namespace Go.Proofs.Ytlcioegdmopppaa.En
open Go.RowKit Go.Proofs.Ytlcioegdmopppaa.PEncodeBack Go.Proofs.YtlcioegdmopppaaW.PrintWords
set_option linter.unusedVariables false
theorem headT_yes (t:S42) (h:t.f1=true):lineT ⟨#[116]⟩ ⟨#[32,97,10]⟩ [t.f0]=headT t:=by unfold lineT headT;rw [if_pos h];rfl
theorem headT_no (t:S42) (h:t.f1=false):lineT ⟨#[116]⟩ ⟨#[32,99,10]⟩ [t.f0]=headT t:=by unfold lineT headT;rw [if_neg (by rw [h];decide)];rfl
theorem opT_yes (o:S39) (h:o.f0=true):lineT ⟨#[114]⟩ ⟨#[10]⟩ (o.f1 :: o.f3)=opT o:=by unfold lineT opT;rw [if_pos h];rfl
theorem opT_no (o:S39) (h:o.f0=false):lineT ⟨#[97]⟩ ⟨#[10]⟩ [o.f1,o.f2]=opT o:=by unfold lineT opT;rw [if_neg (by rw [h];decide)];rfl
theorem flat_take {α β:Type} (f:α→List β) {l:List α} {k:Nat} (h:k < l.length):(l.take (k+1)).flatMap f=(l.take k).flatMap f ++ f l[k]:=by
 rw [List.take_succ_eq_append_getElem h,List.flatMap_append];simp
theorem flat_take_len {α β:Type} (f:α→List β) (l:List α) (k:Nat):((l.take k).flatMap f).length≤(l.flatMap f).length:=by
 have h:l.flatMap f=(l.take k).flatMap f ++ (l.drop k).flatMap f:=by rw [← List.flatMap_append,List.take_append_drop]
 rw [h,List.length_append];omega
theorem C_cells {W:World} {A:Option Addr} {k:IntKind} {l:List Int} (h:Kd.C (Kd.int k) W A l.length l):Cells W A (nums k l):=fun h0=>by
 rw [nums_len] at h0
 obtain ⟨ad,e,hc⟩:=h.2.2 h0
 refine ⟨ad,e,fun j v hv=>?_⟩
 simp only [nums,List.getElem?_map] at hv
 obtain ⟨x,hx,rfl⟩:=Option.map_eq_some_iff.1 hv
 obtain ⟨c,hl,hK,hcell⟩:=hc j x hx
 have hK:c=[.int k x]:=hK
 subst hK
 have:=hcell 0 _ rfl
 have e2:j * (Kd.int k).sz+0=j:=by show j * 1+0=j;omega
 rw [e2] at this
 exact this
theorem cells_C {W:World} {A:Option Addr} {k:IntKind} {l:List Int} (h:Cells W A (nums k l)) (hl:l.length≤9223372036854775807):Kd.C (Kd.int k) W A l.length l:=by
 refine ⟨rfl,hl,fun h0=>?_⟩
 obtain ⟨ad,e,hc⟩:=h (by rw [nums_len];exact h0)
 refine ⟨ad,e,fun j x hx=>⟨[.int k x],rfl,rfl,fun i u hu=>?_⟩⟩
 have hi:i=0:=by have:=(List.getElem?_eq_some_iff.1 hu).1;simp at this;omega
 subst hi
 simp at hu
 subst hu
 have e2:j * (Kd.int k).sz+0=j:=by show j * 1+0=j;omega
 rw [e2]
 exact hc j _ (by simp [nums,hx])
theorem int_info:(Try.prog.info? 3).map (fun i=>(i.zero,i.size,i.bytes))=some (some (.int .i64 0),1,8):=by kernel_rfl
set_option maxHeartbeats 2000000 in
set_option maxRecDepth 100000 in
theorem txn_c (w:World) (t:S42) (A:Option Addr) (c:Nat) (hr:Kd.C k39 w A t.f2.length t.f2) (hok:okT t=true) (hl:t.f2.length≤1000000) (hl3:∀ o ∈ t.f2,o.f3.length≤1000000) (hbig:(txnT t).length≤1000000000) :
 Calls Try.prog 43 #[.agg #[.int .i64 t.f0,.bool t.f1,.slice A t.f2.length c]] w (BOut w (txnT t)):=by
 obtain ⟨f0,f1,f2⟩:=t
 simp only at *
 have HR:=Lib.hid hr
 unfold okT at hok
 simp only [Bool.and_eq_true] at hok
 have HOK:=Lib.hid hok
 have HL3:=Lib.hid hl3
 have HBIG:=Lib.hid hbig
 obtain ⟨N,hN⟩:∃ N,f2.length=N:=⟨_,rfl⟩
 have HN:=Lib.hid hN
 have hNb:N≤1000000:=by omega
 have HH:∀ (W:World) (b:Bool),f1=b→Blk W (w.heap.size+1) [.int .i64 f0] 3→Calls Try.prog 61 #[.string ⟨#[116]⟩,.string (if b=true then ⟨#[32,97,10]⟩ else ⟨#[32,99,10]⟩),.slice (some ⟨w.heap.size+1,0,none⟩) 1 1] W (BOut W (headT ⟨f0,f1,f2⟩)):=fun W b e hB=>by
  have:=line_c W ⟨#[116]⟩ (if b=true then ⟨#[32,97,10]⟩ else ⟨#[32,99,10]⟩) (by decide) (by split <;> decide) (some ⟨w.heap.size+1,0,none⟩) 1 [f0] (ints_laid (l:=[f0]) hB (by simp)) (by simp [HOK.out.1]) (by simp)
  subst e
  cases f1 with
  | true=>rw [← headT_yes ⟨f0,true,f2⟩ rfl];exact this
  | false=>rw [← headT_no ⟨f0,false,f2⟩ rfl];exact this
 clear hr hok hl3 hbig hN hl
 rw [HN.out]
 cases f1 with
 | true =>
  have HX:=Lib.hid (HH _ true rfl (blk_new2 w (.cells #[.int .i64 f0,.bool true,.slice A N c] 42) [.int .i64 f0] 3))
  have HZ:Hid (Blk ((w.alloc (.cells #[.int .i64 f0,.bool true,.slice A N c] 42)).alloc (.cells #[.int .i64 f0] 3)) w.heap.size [.int .i64 f0,.bool true,.slice A N c] 42):=Lib.hid ((Blk.new w [.int .i64 f0,.bool true,.slice A N c] 42).alloc _)
  have HB0:Hid (Below w.heap.size w ((w.alloc (.cells #[.int .i64 f0,.bool true,.slice A N c] 42)).alloc (.cells #[.int .i64 f0] 3))):=Lib.hid (((Below.refl _ _).alloc (Nat.le_refl _) _).alloc (by simp) _)
  clear HH
  go_enter Try.func43,Try.ntmps43
  go_wp2_with fail
  refine HX.out.mono ?_
  rintro e w1 ⟨A1,n1,c1,rfl,hB1,hb1⟩
  have hcell:=(HZ.out.below hb1 HZ.out.lt).cell 2
  simp only [List.getElem?_cons_succ,List.getElem?_cons_zero] at hcell
  have HJ:Aside (BR w1 w.heap.size (.slice A1 n1 c1) (headT ⟨f0,true,f2⟩ ++ (f2.take 0).flatMap opT)∧Below w.heap.size w w1):=by
   have hJ:BR w1 w.heap.size (.slice A1 n1 c1) (headT ⟨f0,true,f2⟩ ++ (f2.take 0).flatMap opT)∧Below w.heap.size w w1:=⟨by rw [List.take_zero,List.flatMap_nil,List.append_nil];exact hB1.lower (by simp;omega),link HB0.out hb1⟩
   exact hJ
  clear hB1 hb1 HX HZ HB0
  go_wp2_with fail
  have HTX:Hid (txnT ⟨f0,true,f2⟩=headT ⟨f0,true,f2⟩ ++ f2.flatMap opT):=Lib.hid rfl
  have hbg:=HBIG.out
  rw [HTX.out,List.length_append] at hbg
  have HBG:=Lib.hid hbg
  clear hbg HBIG
  generalize headT ⟨f0,true,f2⟩=hd at *
  go_loopw [4,17] (fun v4 v17 wr=>∃ k:Nat,k≤N∧v17=.int .i64 k∧Aside (BR wr w.heap.size v4 (hd ++ (f2.take k).flatMap opT)∧Below w.heap.size w wr)) (fun _ v17 _=>N - (intOf v17).toNat)
  case atStart=>exact ⟨0,by omega,rfl,HJ⟩
  case round =>
   clear HJ hcell
   obtain ⟨k,hk,rfl,HJ⟩:=hrel
   by_cases hlt:k < N
   ·have hkl:k < f2.length:=by rw [HN.out];exact hlt
    obtain ⟨hB,hbel⟩:=HJ.out
    obtain ⟨ad,A3,c3,rfl,g0,g1,g2,g3,l3,h3⟩:=at_T39 (Kd.C_below HR.out hbel) (k:Int) (by omega) (by omega)
    rw [rd39 hkl] at g0 g1 g2 g3 l3 h3
    rw [Int.toNat_natCast] at g0 g1 g2 g3
    have hlti:(k:Int) < N:=by omega
    have HBR:=Lib.hid hB
    have HBE:=Lib.hid hbel
    have hlen:(hd ++ (f2.take k).flatMap opT ++ opT f2[k]).length≤1000000000:=by
     have h1:=flat_take_len opT f2 (k+1)
     rw [flat_take opT hkl,List.length_append] at h1
     have:=HBG.out
     rw [List.length_append,List.length_append];omega
    have HLEN:=Lib.hid hlen
    have HJN:Hid (∀ (W:World) (A1:Option Addr) (c1:Nat),BR W w.heap.size (.slice A1 (hd ++ (f2.take k).flatMap opT ++ opT f2[k]).length c1) (hd ++ (f2.take k).flatMap opT ++ opT f2[k])→Below w.heap.size w W→Aside (BR W w.heap.size (.slice A1 (hd ++ (f2.take k).flatMap opT ++ opT f2[k]).length c1) (hd ++ (f2.take (k+1)).flatMap opT)∧Below w.heap.size w W)):=Lib.hid fun W A1 c1 h1 h2=>by
     have e:hd ++ (f2.take (k+1)).flatMap opT=hd ++ (f2.take k).flatMap opT ++ opT f2[k]:=by rw [flat_take opT hkl,List.append_assoc]
     rw [e]
     exact (⟨h1,h2⟩:BR W w.heap.size _ _∧_)
    have hoo:okOp f2[k]=true:=List.all_eq_true.1 HOK.out.2 _ (List.getElem_mem hkl)
    have hl3:=HL3.out _ (List.getElem_mem hkl)
    clear hB hbel hlen HJ
    generalize f2[k]=o at *
    obtain ⟨o0,o1,o2,o3⟩:=o
    simp only at *
    generalize hd ++ (f2.take k).flatMap opT=xs at *
    cases o0 with
    | true =>
     unfold okOp at hoo
     simp only [if_true,Bool.and_eq_true] at hoo
     have HOP:=Lib.hid (opT_yes ⟨true,o1,o2,o3⟩ rfl)
     have HOO:=Lib.hid hoo
     have h3b:=Kd.C_below h3 (((Below.refl wr.heap.size wr).alloc (Nat.le_refl _) (.cells #[.bool true,.int .i64 o1,.int .i64 o2,.slice A3 o3.length c3] 39)).alloc (by simp) (.cells #[.int .i64 o1] 3))
     have HY:=Lib.hid (C_cells h3b)
     have HB2:Hid (Below wr.heap.size wr ((wr.alloc (.cells #[.bool true,.int .i64 o1,.int .i64 o2,.slice A3 o3.length c3] 39)).alloc (.cells #[.int .i64 o1] 3))):=Lib.hid (((Below.refl _ _).alloc (Nat.le_refl _) _).alloc (by simp) _)
     have ho:=World.ownsRow_lit (base:=wr.heap.size) (e:=3) (size:=1) (wr.alloc (.cells #[.bool true,.int .i64 o1,.int .i64 o2,.slice A3 o3.length c3] 39)) #[.int .i64 o1] 1 (by simp) (by simp [maxLen]) (by simp)
     rw [World.size_alloc] at ho
     have HO:=Lib.hid ho
     have HNM:=Lib.hid (nums_len .i64 o3)
     have HONE:=Lib.hid (nums_one .i64 o3)
     have HLC:=Lib.hid (fun (W:World) (A:Option Addr) (c:Nat) (hC:Kd.C (Kd.int .i64) W A (o1 :: o3).length (o1 :: o3))=>line_c W ⟨#[114]⟩ ⟨#[10]⟩ (by decide) (by decide) A c (o1 :: o3) hC (by simp only [List.all_cons,Bool.and_eq_true];exact ⟨hoo.1,hoo.2.2⟩) (by simp;omega))
     rw [HOP.out] at HLC
     have HML:Hid ((o1 :: o3).length=1+o3.length):=Lib.hid (by simp;omega)
     rw [HML.out] at HLC
     have HCC:Hid (∀ W A c,W.ownsRow wr.heap.size 3 1 (.slice A (1+o3.length) c) (1+o3.length) ([Value.int .i64 o1] ++ nums .i64 o3)→Kd.C (Kd.int .i64) W A (1+o3.length) (o1 :: o3)):=Lib.hid fun W A c ho=>by
      have:=cells_C (k:=.i64) (l:=o1 :: o3) (Cells.of_own ho) (by simp;omega)
      rw [HML.out] at this
      exact this
     clear h3 h3b ho hoo HOO HML
     generalize hM:o3.length=M at *
     clear hM
     generalize opT ⟨true,o1,o2,o3⟩=ys at *
     go_wp2_with (at_builtin;refine wpl_app (w0:=wr) wr.heap.size rfl (.tmp 26) (.tmp 28) 37 3 (Value.int .i64 0) 8 rfl Try.underlying37 int_info rfl (by decide) (.slice (some ⟨wr.heap.size+1,0,none⟩) 1 1) [.int .i64 o1] (nums .i64 o3) A3 1 M c3 rfl rfl rfl HNM.out HO.out HY.out HONE.out HB2.out HB2.out.size (by omega) ?_;intro A5 c5 w5 hown hb5 hg5 hat5 hc5)
     have HC5:=Lib.hid (HLC.out w5 A5 c5 (HCC.out _ _ _ hown))
     have HBR5:=Lib.hid (HBR.out.below hb5)
     have HBE5:=Lib.hid (HBE.out.trans (hb5.mono HBE.out.size))
     clear hown hb5 hg5 hat5 hc5 HLC HCC HO HY HB2
     go_wp2_with fail
     refine HC5.out.mono ?_
     rintro e w6 ⟨A6,n6,c6,rfl,hB6,hb6⟩
     obtain ⟨e6,_,hY6⟩:=hB6.cells
     have HE6:=Lib.hid e6
     have HY6:=Lib.hid hY6
     have HBR6:=Lib.hid (HBR5.out.below hb6)
     have HBE6:=Lib.hid (link HBE5.out hb6)
     clear hB6 hb6 e6 hY6
     go_wp2_with (at_builtin;refine wpl_bapp_row (w0:=w) w.heap.size rfl (.tmp 23) (.tmp 30) 27 5 rfl Try.underlying27 u8_info _ xs ys A6 n6 c6 rfl rfl HE6.out HBR6.out HY6.out HBE6.out HBE6.out.size (by have:=HLEN.out;rw [List.length_append] at this;omega) ?_;intro A7 c7 w7 h1 h2 h3 h4;have HJ2:=HJN.out _ _ _ h1 h2;clear h1 h2 h3 h4;generalize (xs ++ ys).length=n7 at *)
     go_roundw
     case rel=>exact ⟨k+1,by omega,by go_num,HJ2⟩
     case measure=>simp [intOf];omega
    | false =>
     unfold okOp at hoo
     simp only [Bool.false_eq_true,if_false,Bool.and_eq_true] at hoo
     have HOP:=Lib.hid (opT_no ⟨false,o1,o2,o3⟩ rfl)
     have HLC:=Lib.hid (fun (W:World) (hB:Blk W (wr.heap.size+1) [.int .i64 o1,.int .i64 o2] 3)=>line_c W ⟨#[97]⟩ ⟨#[10]⟩ (by decide) (by decide) (some ⟨wr.heap.size+1,0,none⟩) 2 [o1,o2] (ints_laid (l:=[o1,o2]) hB (by simp)) (by simp [hoo.1,hoo.2.1]) (by simp))
     rw [HOP.out] at HLC
     have HC5:=Lib.hid (HLC.out _ (blk_new2 wr (.cells #[.bool false,.int .i64 o1,.int .i64 o2,.slice A3 o3.length c3] 39) [.int .i64 o1,.int .i64 o2] 3))
     have hb2:Below wr.heap.size wr ((wr.alloc (.cells #[.bool false,.int .i64 o1,.int .i64 o2,.slice A3 o3.length c3] 39)).alloc (.cells #[.int .i64 o1,.int .i64 o2] 3)):=((Below.refl _ _).alloc (Nat.le_refl _) _).alloc (by simp) _
     have HBR5:=Lib.hid (HBR.out.below hb2)
     have HBE5:=Lib.hid (HBE.out.trans (hb2.mono HBE.out.size))
     clear h3 hoo HLC hb2
     generalize opT ⟨false,o1,o2,o3⟩=ys at *
     go_wp2_with fail
     refine HC5.out.mono ?_
     rintro e w6 ⟨A6,n6,c6,rfl,hB6,hb6⟩
     obtain ⟨e6,_,hY6⟩:=hB6.cells
     have HE6:=Lib.hid e6
     have HY6:=Lib.hid hY6
     have HBR6:=Lib.hid (HBR5.out.below hb6)
     have HBE6:=Lib.hid (link HBE5.out hb6)
     clear hB6 hb6 e6 hY6
     go_wp2_with (at_builtin;refine wpl_bapp_row (w0:=w) w.heap.size rfl (.tmp 32) (.tmp 38) 27 5 rfl Try.underlying27 u8_info _ xs ys A6 n6 c6 rfl rfl HE6.out HBR6.out HY6.out HBE6.out HBE6.out.size (by have:=HLEN.out;rw [List.length_append] at this;omega) ?_;intro A7 c7 w7 h1 h2 h3 h4;have HJ2:=HJN.out _ _ _ h1 h2;clear h1 h2 h3 h4;generalize (xs ++ ys).length=n7 at *)
     go_roundw
     case rel=>exact ⟨k+1,by omega,by go_num,HJ2⟩
     case measure=>simp [intOf];omega
   ·have hlti:¬ (k:Int) < N:=by omega
    obtain ⟨hB,hbel⟩:=HJ.out
    have hkN:k=f2.length:=by rw [HN.out];omega
    rw [hkN,List.take_length] at hB
    rw [← HTX.out] at hB
    obtain ⟨A9,c9,e9,_⟩:=hB.slice
    have HFI:Hid (BOut w (txnT ⟨f0,true,f2⟩) (.returned u4) wr):=Lib.hid ⟨A9,_,c9,by rw [e9],by rw [e9] at hB;exact hB,hbel⟩
    clear hB hbel HJ hkN e9
    go_wp2
    go_ret
    exact HFI.out
 | false =>
  have HX:=Lib.hid (HH _ false rfl (blk_new2 w (.cells #[.int .i64 f0,.bool false,.slice A N c] 42) [.int .i64 f0] 3))
  have HZ:Hid (Blk ((w.alloc (.cells #[.int .i64 f0,.bool false,.slice A N c] 42)).alloc (.cells #[.int .i64 f0] 3)) w.heap.size [.int .i64 f0,.bool false,.slice A N c] 42):=Lib.hid ((Blk.new w [.int .i64 f0,.bool false,.slice A N c] 42).alloc _)
  have HB0:Hid (Below w.heap.size w ((w.alloc (.cells #[.int .i64 f0,.bool false,.slice A N c] 42)).alloc (.cells #[.int .i64 f0] 3))):=Lib.hid (((Below.refl _ _).alloc (Nat.le_refl _) _).alloc (by simp) _)
  clear HH
  go_enter Try.func43,Try.ntmps43
  go_wp2_with fail
  refine HX.out.mono ?_
  rintro e w1 ⟨A1,n1,c1,rfl,hB1,hb1⟩
  have hcell:=(HZ.out.below hb1 HZ.out.lt).cell 2
  simp only [List.getElem?_cons_succ,List.getElem?_cons_zero] at hcell
  have HJ:Aside (BR w1 w.heap.size (.slice A1 n1 c1) (headT ⟨f0,false,f2⟩ ++ (f2.take 0).flatMap opT)∧Below w.heap.size w w1):=by
   have hJ:BR w1 w.heap.size (.slice A1 n1 c1) (headT ⟨f0,false,f2⟩ ++ (f2.take 0).flatMap opT)∧Below w.heap.size w w1:=⟨by rw [List.take_zero,List.flatMap_nil,List.append_nil];exact hB1.lower (by simp;omega),link HB0.out hb1⟩
   exact hJ
  clear hB1 hb1 HX HZ HB0
  go_wp2_with fail
  have HTX:Hid (txnT ⟨f0,false,f2⟩=headT ⟨f0,false,f2⟩ ++ f2.flatMap opT):=Lib.hid rfl
  have hbg:=HBIG.out
  rw [HTX.out,List.length_append] at hbg
  have HBG:=Lib.hid hbg
  clear hbg HBIG
  generalize headT ⟨f0,false,f2⟩=hd at *
  go_loopw [4,17] (fun v4 v17 wr=>∃ k:Nat,k≤N∧v17=.int .i64 k∧Aside (BR wr w.heap.size v4 (hd ++ (f2.take k).flatMap opT)∧Below w.heap.size w wr)) (fun _ v17 _=>N - (intOf v17).toNat)
  case atStart=>exact ⟨0,by omega,rfl,HJ⟩
  case round =>
   clear HJ hcell
   obtain ⟨k,hk,rfl,HJ⟩:=hrel
   by_cases hlt:k < N
   ·have hkl:k < f2.length:=by rw [HN.out];exact hlt
    obtain ⟨hB,hbel⟩:=HJ.out
    obtain ⟨ad,A3,c3,rfl,g0,g1,g2,g3,l3,h3⟩:=at_T39 (Kd.C_below HR.out hbel) (k:Int) (by omega) (by omega)
    rw [rd39 hkl] at g0 g1 g2 g3 l3 h3
    rw [Int.toNat_natCast] at g0 g1 g2 g3
    have hlti:(k:Int) < N:=by omega
    have HBR:=Lib.hid hB
    have HBE:=Lib.hid hbel
    have hlen:(hd ++ (f2.take k).flatMap opT ++ opT f2[k]).length≤1000000000:=by
     have h1:=flat_take_len opT f2 (k+1)
     rw [flat_take opT hkl,List.length_append] at h1
     have:=HBG.out
     rw [List.length_append,List.length_append];omega
    have HLEN:=Lib.hid hlen
    have HJN:Hid (∀ (W:World) (A1:Option Addr) (c1:Nat),BR W w.heap.size (.slice A1 (hd ++ (f2.take k).flatMap opT ++ opT f2[k]).length c1) (hd ++ (f2.take k).flatMap opT ++ opT f2[k])→Below w.heap.size w W→Aside (BR W w.heap.size (.slice A1 (hd ++ (f2.take k).flatMap opT ++ opT f2[k]).length c1) (hd ++ (f2.take (k+1)).flatMap opT)∧Below w.heap.size w W)):=Lib.hid fun W A1 c1 h1 h2=>by
     have e:hd ++ (f2.take (k+1)).flatMap opT=hd ++ (f2.take k).flatMap opT ++ opT f2[k]:=by rw [flat_take opT hkl,List.append_assoc]
     rw [e]
     exact (⟨h1,h2⟩:BR W w.heap.size _ _∧_)
    have hoo:okOp f2[k]=true:=List.all_eq_true.1 HOK.out.2 _ (List.getElem_mem hkl)
    have hl3:=HL3.out _ (List.getElem_mem hkl)
    clear hB hbel hlen HJ
    generalize f2[k]=o at *
    obtain ⟨o0,o1,o2,o3⟩:=o
    simp only at *
    generalize hd ++ (f2.take k).flatMap opT=xs at *
    cases o0 with
    | true =>
     unfold okOp at hoo
     simp only [if_true,Bool.and_eq_true] at hoo
     have HOP:=Lib.hid (opT_yes ⟨true,o1,o2,o3⟩ rfl)
     have HOO:=Lib.hid hoo
     have h3b:=Kd.C_below h3 (((Below.refl wr.heap.size wr).alloc (Nat.le_refl _) (.cells #[.bool true,.int .i64 o1,.int .i64 o2,.slice A3 o3.length c3] 39)).alloc (by simp) (.cells #[.int .i64 o1] 3))
     have HY:=Lib.hid (C_cells h3b)
     have HB2:Hid (Below wr.heap.size wr ((wr.alloc (.cells #[.bool true,.int .i64 o1,.int .i64 o2,.slice A3 o3.length c3] 39)).alloc (.cells #[.int .i64 o1] 3))):=Lib.hid (((Below.refl _ _).alloc (Nat.le_refl _) _).alloc (by simp) _)
     have ho:=World.ownsRow_lit (base:=wr.heap.size) (e:=3) (size:=1) (wr.alloc (.cells #[.bool true,.int .i64 o1,.int .i64 o2,.slice A3 o3.length c3] 39)) #[.int .i64 o1] 1 (by simp) (by simp [maxLen]) (by simp)
     rw [World.size_alloc] at ho
     have HO:=Lib.hid ho
     have HNM:=Lib.hid (nums_len .i64 o3)
     have HONE:=Lib.hid (nums_one .i64 o3)
     have HLC:=Lib.hid (fun (W:World) (A:Option Addr) (c:Nat) (hC:Kd.C (Kd.int .i64) W A (o1 :: o3).length (o1 :: o3))=>line_c W ⟨#[114]⟩ ⟨#[10]⟩ (by decide) (by decide) A c (o1 :: o3) hC (by simp only [List.all_cons,Bool.and_eq_true];exact ⟨hoo.1,hoo.2.2⟩) (by simp;omega))
     rw [HOP.out] at HLC
     have HML:Hid ((o1 :: o3).length=1+o3.length):=Lib.hid (by simp;omega)
     rw [HML.out] at HLC
     have HCC:Hid (∀ W A c,W.ownsRow wr.heap.size 3 1 (.slice A (1+o3.length) c) (1+o3.length) ([Value.int .i64 o1] ++ nums .i64 o3)→Kd.C (Kd.int .i64) W A (1+o3.length) (o1 :: o3)):=Lib.hid fun W A c ho=>by
      have:=cells_C (k:=.i64) (l:=o1 :: o3) (Cells.of_own ho) (by simp;omega)
      rw [HML.out] at this
      exact this
     clear h3 h3b ho hoo HOO HML
     generalize hM:o3.length=M at *
     clear hM
     generalize opT ⟨true,o1,o2,o3⟩=ys at *
     go_wp2_with (at_builtin;refine wpl_app (w0:=wr) wr.heap.size rfl (.tmp 26) (.tmp 28) 37 3 (Value.int .i64 0) 8 rfl Try.underlying37 int_info rfl (by decide) (.slice (some ⟨wr.heap.size+1,0,none⟩) 1 1) [.int .i64 o1] (nums .i64 o3) A3 1 M c3 rfl rfl rfl HNM.out HO.out HY.out HONE.out HB2.out HB2.out.size (by omega) ?_;intro A5 c5 w5 hown hb5 hg5 hat5 hc5)
     have HC5:=Lib.hid (HLC.out w5 A5 c5 (HCC.out _ _ _ hown))
     have HBR5:=Lib.hid (HBR.out.below hb5)
     have HBE5:=Lib.hid (HBE.out.trans (hb5.mono HBE.out.size))
     clear hown hb5 hg5 hat5 hc5 HLC HCC HO HY HB2
     go_wp2_with fail
     refine HC5.out.mono ?_
     rintro e w6 ⟨A6,n6,c6,rfl,hB6,hb6⟩
     obtain ⟨e6,_,hY6⟩:=hB6.cells
     have HE6:=Lib.hid e6
     have HY6:=Lib.hid hY6
     have HBR6:=Lib.hid (HBR5.out.below hb6)
     have HBE6:=Lib.hid (link HBE5.out hb6)
     clear hB6 hb6 e6 hY6
     go_wp2_with (at_builtin;refine wpl_bapp_row (w0:=w) w.heap.size rfl (.tmp 23) (.tmp 30) 27 5 rfl Try.underlying27 u8_info _ xs ys A6 n6 c6 rfl rfl HE6.out HBR6.out HY6.out HBE6.out HBE6.out.size (by have:=HLEN.out;rw [List.length_append] at this;omega) ?_;intro A7 c7 w7 h1 h2 h3 h4;have HJ2:=HJN.out _ _ _ h1 h2;clear h1 h2 h3 h4;generalize (xs ++ ys).length=n7 at *)
     go_roundw
     case rel=>exact ⟨k+1,by omega,by go_num,HJ2⟩
     case measure=>simp [intOf];omega
    | false =>
     unfold okOp at hoo
     simp only [Bool.false_eq_true,if_false,Bool.and_eq_true] at hoo
     have HOP:=Lib.hid (opT_no ⟨false,o1,o2,o3⟩ rfl)
     have HLC:=Lib.hid (fun (W:World) (hB:Blk W (wr.heap.size+1) [.int .i64 o1,.int .i64 o2] 3)=>line_c W ⟨#[97]⟩ ⟨#[10]⟩ (by decide) (by decide) (some ⟨wr.heap.size+1,0,none⟩) 2 [o1,o2] (ints_laid (l:=[o1,o2]) hB (by simp)) (by simp [hoo.1,hoo.2.1]) (by simp))
     rw [HOP.out] at HLC
     have HC5:=Lib.hid (HLC.out _ (blk_new2 wr (.cells #[.bool false,.int .i64 o1,.int .i64 o2,.slice A3 o3.length c3] 39) [.int .i64 o1,.int .i64 o2] 3))
     have hb2:Below wr.heap.size wr ((wr.alloc (.cells #[.bool false,.int .i64 o1,.int .i64 o2,.slice A3 o3.length c3] 39)).alloc (.cells #[.int .i64 o1,.int .i64 o2] 3)):=((Below.refl _ _).alloc (Nat.le_refl _) _).alloc (by simp) _
     have HBR5:=Lib.hid (HBR.out.below hb2)
     have HBE5:=Lib.hid (HBE.out.trans (hb2.mono HBE.out.size))
     clear h3 hoo HLC hb2
     generalize opT ⟨false,o1,o2,o3⟩=ys at *
     go_wp2_with fail
     refine HC5.out.mono ?_
     rintro e w6 ⟨A6,n6,c6,rfl,hB6,hb6⟩
     obtain ⟨e6,_,hY6⟩:=hB6.cells
     have HE6:=Lib.hid e6
     have HY6:=Lib.hid hY6
     have HBR6:=Lib.hid (HBR5.out.below hb6)
     have HBE6:=Lib.hid (link HBE5.out hb6)
     clear hB6 hb6 e6 hY6
     go_wp2_with (at_builtin;refine wpl_bapp_row (w0:=w) w.heap.size rfl (.tmp 32) (.tmp 38) 27 5 rfl Try.underlying27 u8_info _ xs ys A6 n6 c6 rfl rfl HE6.out HBR6.out HY6.out HBE6.out HBE6.out.size (by have:=HLEN.out;rw [List.length_append] at this;omega) ?_;intro A7 c7 w7 h1 h2 h3 h4;have HJ2:=HJN.out _ _ _ h1 h2;clear h1 h2 h3 h4;generalize (xs ++ ys).length=n7 at *)
     go_roundw
     case rel=>exact ⟨k+1,by omega,by go_num,HJ2⟩
     case measure=>simp [intOf];omega
   ·have hlti:¬ (k:Int) < N:=by omega
    obtain ⟨hB,hbel⟩:=HJ.out
    have hkN:k=f2.length:=by rw [HN.out];omega
    rw [hkN,List.take_length] at hB
    rw [← HTX.out] at hB
    obtain ⟨A9,c9,e9,_⟩:=hB.slice
    have HFI:Hid (BOut w (txnT ⟨f0,false,f2⟩) (.returned u4) wr):=Lib.hid ⟨A9,_,c9,by rw [e9],by rw [e9] at hB;exact hB,hbel⟩
    clear hB hbel HJ hkN e9
    go_wp2
    go_ret
    exact HFI.out
end Go.Proofs.Ytlcioegdmopppaa.En
set_option linter.unusedSimpArgs false
namespace Go.Proofs.Ytlcioegdmopppaa.En
open Go.RowKit Go.Proofs.Ytlcioegdmopppaa.PEncodeBack Go.Proofs.YtlcioegdmopppaaW.PrintWords
set_option linter.unusedVariables false
structure Lim (h:List S42) (n:Nat):Prop where
 h0:h.length≤n
 h1:∀ t ∈ h,t.f2.length≤n
 h2:∀ t ∈ h,∀ o ∈ t.f2,o.f3.length≤n
theorem txn_le {h:List S42} {t:S42} (ht:t ∈ h):(txnT t).length≤(histT h).length:=by
 obtain ⟨i,hi,rfl⟩:=List.getElem_of_mem ht
 have h1:=flat_take_len txnT h (i+1)
 rw [flat_take txnT hi,List.length_append] at h1
 unfold histT;omega
set_option maxHeartbeats 2000000 in
set_option maxRecDepth 100000 in
theorem text_c (w:World) (h:List S42) (A:Option Addr) (c:Nat) (hr:Kd.C k42 w A h.length h) (hok:h.all okT=true) (hl:Lim h 1000000) (hbig:(histT h).length≤1000000000) :
 Calls Try.prog 26 #[.agg #[.slice A h.length c]] w (BOut w (histT h)):=by
 have HR:=Lib.hid hr
 have HOK:=Lib.hid hok
 have HL:=Lib.hid hl
 have HBIG:=Lib.hid hbig
 obtain ⟨N,hN⟩:∃ N,h.length=N:=⟨_,rfl⟩
 have HN:=Lib.hid hN
 have hNb:N≤1000000:=by rw [← hN];exact hl.h0
 have HJ:Aside (BR (w.alloc (.cells #[.slice A N c] 24)) w.heap.size (.slice none 0 0) ((h.take 0).flatMap txnT)∧Below w.heap.size w (w.alloc (.cells #[.slice A N c] 24))):=by
  have hJ:BR (w.alloc (.cells #[.slice A N c] 24)) w.heap.size (.slice none 0 0) ((h.take 0).flatMap txnT)∧Below w.heap.size w (w.alloc (.cells #[.slice A N c] 24)):=⟨BR.nil _ _,(Below.refl _ _).alloc (Nat.le_refl _) _⟩
  exact hJ
 clear hr hok hbig hN hl
 rw [HN.out]
 go_enter Try.func26,Try.ntmps26
 go_wp2_with fail
 go_loopw [3,9] (fun v3 v9 wr=>∃ k:Nat,k≤N∧v9=.int .i64 k∧Aside (BR wr w.heap.size v3 ((h.take k).flatMap txnT)∧Below w.heap.size w wr)) (fun _ v9 _=>N - (intOf v9).toNat)
 case atStart=>exact ⟨0,by omega,rfl,HJ⟩
 case round =>
  clear HJ
  obtain ⟨k,hk,rfl,HJ⟩:=hrel
  by_cases hlt:k < N
  ·have hkl:k < h.length:=by rw [HN.out];exact hlt
   obtain ⟨hB,hbel⟩:=HJ.out
   obtain ⟨ad,A2,c2,rfl,g0,g1,g2,l2,h2⟩:=at_T42 (Kd.C_below HR.out hbel) (k:Int) (by omega) (by omega)
   rw [rd42 hkl] at g0 g1 g2 l2 h2
   rw [Int.toNat_natCast] at g0 g1 g2
   have hlti:(k:Int) < N:=by omega
   have HBR:=Lib.hid hB
   have HBE:=Lib.hid hbel
   have hmem:=List.getElem_mem hkl
   have htx:=txn_le hmem
   have hlen:((h.take k).flatMap txnT ++ txnT h[k]).length≤1000000000:=by
    have h1:=flat_take_len txnT h (k+1)
    rw [flat_take txnT hkl] at h1
    have:=HBIG.out
    unfold histT at this;omega
   have HLEN:=Lib.hid hlen
   have HJN:Hid (∀ (W:World) (A1:Option Addr) (c1:Nat),BR W w.heap.size (.slice A1 ((h.take k).flatMap txnT ++ txnT h[k]).length c1) ((h.take k).flatMap txnT ++ txnT h[k])→Below w.heap.size w W→Aside (BR W w.heap.size (.slice A1 ((h.take k).flatMap txnT ++ txnT h[k]).length c1) ((h.take (k+1)).flatMap txnT)∧Below w.heap.size w W)):=Lib.hid fun W A1 c1 h1 h2=>by
    rw [flat_take txnT hkl]
    exact (⟨h1,h2⟩:BR W w.heap.size _ _∧_)
   have hoo:okT h[k]=true:=List.all_eq_true.1 HOK.out _ hmem
   have HTX:=Lib.hid (fun (W:World) (hb:Below wr.heap.size wr W)=>txn_c W h[k] A2 c2 (Kd.C_below h2 hb) hoo (HL.out.h1 _ hmem) (HL.out.h2 _ hmem) (by have:=HBIG.out;omega))
   clear hB hbel hlen HJ hoo h2 l2 hmem htx
   generalize txnT h[k]=ys at *
   generalize h[k]=t at *
   obtain ⟨t0,t1,t2⟩:=t
   simp only at *
   generalize t2.length=M at *
   generalize (h.take k).flatMap txnT=xs at *
   go_wp2_with fail
   have hb5:Below wr.heap.size wr (wr.alloc (.cells #[.int .i64 t0,.bool t1,.slice A2 M c2] 42)):=(Below.refl _ _).alloc (Nat.le_refl _) _
   have HBR5:=Lib.hid (HBR.out.below hb5)
   have HBE5:=Lib.hid (HBE.out.trans (hb5.mono HBE.out.size))
   refine (HTX.out _ hb5).mono ?_
   rintro e w6 ⟨A6,n6,c6,rfl,hB6,hb6⟩
   obtain ⟨e6,_,hY6⟩:=hB6.cells
   have HE6:=Lib.hid e6
   have HY6:=Lib.hid hY6
   have HBR6:=Lib.hid (HBR5.out.below hb6)
   have HBE6:=Lib.hid (link HBE5.out hb6)
   clear hB6 hb6 e6 hY6 hb5 HTX
   go_wp2_with (at_builtin;refine wpl_bapp_row (w0:=w) w.heap.size rfl (.tmp 13) (.tmp 15) 27 5 rfl Try.underlying27 u8_info _ xs ys A6 n6 c6 rfl rfl HE6.out HBR6.out HY6.out HBE6.out HBE6.out.size (by have:=HLEN.out;rw [List.length_append] at this;omega) ?_;intro A7 c7 w7 h1 h2 h3 h4;have HJ2:=HJN.out _ _ _ h1 h2;clear h1 h2 h3 h4;generalize (xs ++ ys).length=n7 at *)
   go_roundw
   case rel=>exact ⟨k+1,by omega,by go_num,HJ2⟩
   case measure=>simp [intOf];omega
  ·have hlti:¬ (k:Int) < N:=by omega
   obtain ⟨hB,hbel⟩:=HJ.out
   have hkN:k=h.length:=by rw [HN.out];omega
   rw [hkN,List.take_length] at hB
   obtain ⟨A9,c9,e9,_⟩:=hB.slice
   have HFI:Hid (BOut w (histT h) (.returned u3) wr):=Lib.hid ⟨A9,_,c9,by rw [e9],by rw [e9] at hB;exact hB,hbel⟩
   clear hB hbel HJ hkN e9
   go_wp2
   go_ret
   exact HFI.out
end Go.Proofs.Ytlcioegdmopppaa.En
set_option linter.unusedSimpArgs false
namespace Go.Proofs.Ytlcioegdmopppaa.En
open Go.RowKit Go.Maps Go.Proofs.Ytlcioegdmopppaa.PEncodeBack Go.Proofs.YtlcioegdmopppaaW.PrintWords
set_option linter.unusedVariables false
def opsP:List S39→List (Int × Int)→Int × List (Int × Int)
 | [],met=>(0,met)
 | o :: l,met=>if okOp o=false then (2,met) else if o.f0=true then opsP l met else if (o.f1,o.f2) ∈ met then (6,met) else opsP l ((o.f1,o.f2) :: met)
def txnsP:List S42→List Int→List (Int × Int)→Int
 | [],_,_=>0
 | t :: h,ids,met=>if okN t.f0=false then 2 else if t.f0 ∈ ids then 5 else if (opsP t.f2 met).1 ≠ 0 then (opsP t.f2 met).1 else txnsP h (t.f0 :: ids) (opsP t.f2 met).2
def partsP (h:List S42):Int:=txnsP h [] []
theorem laidOut:laidOutB Try.prog=true:=by kernel_rfl
theorem lawI:Keyed Try.prog 3:=int_keyed Try.underlying3
theorem lawP:Keyed Try.prog 80:=Keyed.of_law (deep_law_laid laidOut (m:=3) (by omega) (of_decide_eq_true (by kernel_rfl)) (by kernel_rfl) (by rw [Try.underlying80]))
theorem zeroI (w:World):(zeroValue 3).run Try.prog w=.ok (.int .i64 0) w:=Try.zeroValue3 w
theorem wf_ok {n:Int} (h:okN n=true):(Lit.int .i64 n).wf=true:=by
 have:=okN_iff.1 h
 exact WalkArith.wf_i64 (by omega)
theorem keyI {n:Int} (h:okN n=true):keyOf Try.prog 3 (.int .i64 n)=some (.int .i64 n):=keyOf_int_mk Try.underlying3 (wf_ok h)
theorem keyTy:Try.prog.keyType 80=true:=by kernel_rfl
theorem cellsP:Try.prog.cellsOf 80=2:=by kernel_rfl
theorem cellsI:Try.prog.cellsOf 3=1:=by kernel_rfl
theorem keyP {a b:Int} (ha:okN a=true) (hb:okN b=true):∃ kl,keyOf Try.prog 80 (.agg #[.int .i64 a,.int .i64 b])=some kl:=by
 have wa:=wf_ok ha
 have wb:=wf_ok hb
 obtain ⟨m,hm⟩:∃ m,Try.prog.types.size=m+1:=⟨Try.prog.types.size - 1,by have:0 < Try.prog.types.size:=of_decide_eq_true (by kernel_rfl);omega⟩
 unfold keyOf
 simp only [Try.underlying80]
 rw [if_pos (by simp [keyTy,Value.formed,Try.underlying80,cellsP]),hm]
 unfold Program.keyLits
 simp only [Try.underlying80,Value.cells]
 rw [if_pos (by rw [cellsP];exact ⟨rfl,by decide +kernel⟩)]
 simp [Program.keyLits,Try.underlying3,cellsI,wa,wb]
def POut (w:World) (r:Int) (e:Ending) (w':World):Prop:=e=.returned (.int .i64 r)∧Below w.heap.size w w'
def IdS (ids:List Int) (v:Value):Prop:=∃ i ∈ ids,v=.int .i64 i
def MetS (met:List (Int × Int)) (v:Value):Prop:=∃ p ∈ met,v=.agg #[.int .i64 p.1,.int .i64 p.2]
theorem idS_iff (ids:List Int) (n:Int):decide (n ∈ ids)=true ↔ IdS ids (.int .i64 n):=by
 unfold IdS
 simp
theorem metS_iff (met:List (Int × Int)) (a b:Int):decide ((a,b) ∈ met)=true ↔ MetS met (.agg #[.int .i64 a,.int .i64 b]):=by
 unfold MetS
 rw [decide_eq_true_iff]
 constructor
 ·exact fun h=>⟨_,h,rfl⟩
 ·rintro ⟨⟨x,y⟩,h,e⟩
  simp at e
  obtain ⟨rfl,rfl⟩:=e
  exact h
theorem idS_cons (ids:List Int) (n:Int) (v:Value):(v=.int .i64 n ∨ IdS ids v) ↔ IdS (n :: ids) v:=by unfold IdS;simp
theorem metS_cons (met:List (Int × Int)) (a b:Int) (v:Value):(v=.agg #[.int .i64 a,.int .i64 b] ∨ MetS met v) ↔ MetS ((a,b) :: met) v:=by unfold MetS;simp
structure PJ (h:List S42) (w wr:World) (k:Nat) (ids:List Int) (met:List (Int × Int)) (nm:Nat):Prop where
 ids_:MapI Try.prog 3 3 wr (w.heap.size+1) k (IdS ids)
 met_:MapI Try.prog 80 3 wr (w.heap.size+2) nm (MetS met)
 nm_:nm≤k * 1000000
 bel:Below w.heap.size w wr
 val:partsP h=txnsP (h.drop k) ids met
structure PO (ops:List S39) (w wr:World) (k j:Nat) (ids:List Int) (met0 met:List (Int × Int)) (nm:Nat):Prop where
 ids_:MapI Try.prog 3 3 wr (w.heap.size+1) (k+1) (IdS ids)
 met_:MapI Try.prog 80 3 wr (w.heap.size+2) nm (MetS met)
 nm_:nm≤k * 1000000+j
 bel:Below w.heap.size w wr
 val:opsP ops met0=opsP (ops.drop j) met
theorem PO.below {ops:List S39} {w wr w1:World} {k j:Nat} {ids:List Int} {met0 met:List (Int × Int)} {nm:Nat} (h:PO ops w wr k j ids met0 met nm) (hb:Below wr.heap.size wr w1):PO ops w w1 k j ids met0 met nm :=
 ⟨h.ids_.below hb,h.met_.below hb,h.nm_,link h.bel hb,h.val⟩
theorem PJ.below {h:List S42} {w wr w1:World} {k:Nat} {ids:List Int} {met:List (Int × Int)} {nm:Nat} (hj:PJ h w wr k ids met nm) (hb:Below wr.heap.size wr w1):PJ h w w1 k ids met nm :=
 ⟨hj.ids_.below hb,hj.met_.below hb,hj.nm_,link hj.bel hb,hj.val⟩
theorem below_map {w wr w1:World} {b:Nat} (hb:w.heap.size≤b) (h:Below w.heap.size w wr) (hg:wr.grownBy w1 (some b)):Below w.heap.size w w1:=h.grown hg h.size fun g hg'=>by have:=Option.some.inj hg';omega
end Go.Proofs.Ytlcioegdmopppaa.En
set_option linter.unusedSimpArgs false
namespace Go.Proofs.Ytlcioegdmopppaa.En
open Go.RowKit Go.Maps Go.Proofs.Ytlcioegdmopppaa.PEncodeBack Go.Proofs.YtlcioegdmopppaaW.PrintWords
set_option linter.unusedVariables false
set_option maxHeartbeats 4000000 in
set_option maxRecDepth 100000 in
theorem parts_c (w:World) (h:List S42) (A:Option Addr) (c:Nat) (hr:Kd.C k42 w A h.length h) (hl:Lim h 1000000) :
 Calls Try.prog 27 #[.agg #[.slice A h.length c]] w (POut w (partsP h)):=by
 have HR:=Lib.hid hr
 have HL:=Lib.hid hl
 obtain ⟨N,hN⟩:∃ N,h.length=N:=⟨_,rfl⟩
 have HN:=Lib.hid hN
 have hNb:N≤1000000:=by rw [← hN];exact hl.h0
 have hmm:=@run_makeMap Try.prog
 have hJ:PJ h w (((w.alloc (.cells #[.slice A N c] 24)).alloc (.map #[] 0)).alloc (.map #[] 0)) 0 [] [] 0:=by
  have h1:=MapI.made Try.prog 3 3 (w.alloc (.cells #[.slice A N c] 24))
  have h2:=MapI.made Try.prog 80 3 ((w.alloc (.cells #[.slice A N c] 24)).alloc (.map #[] 0))
  rw [World.size_alloc] at h1
  rw [World.size_alloc,World.size_alloc] at h2
  exact ⟨(h1.alloc _).imp fun v=>by simp [IdS],h2.imp fun v=>by simp [MetS],by omega,(((Below.refl _ _).alloc (Nat.le_refl _) _).alloc (by simp) _).alloc (by simp;omega) _,rfl⟩
 have HJ:Aside (PJ h w (((w.alloc (.cells #[.slice A N c] 24)).alloc (.map #[] 0)).alloc (.map #[] 0)) 0 [] [] 0):=hJ
 clear hr hN hl hJ
 rw [HN.out]
 go_enter Try.func27,Try.ntmps27
 go_wp2_with fail
 clear hmm
 go_loopw [19] (fun v19 wr=>∃ (k:Nat) (ids:List Int) (met:List (Int × Int)) (nm:Nat),k≤N∧v19=.int .i64 k∧Aside (PJ h w wr k ids met nm)) (fun v19 _=>N - (intOf v19).toNat)
 case atStart=>exact ⟨0,[],[],0,by omega,rfl,HJ⟩
 case round =>
  clear HJ
  obtain ⟨k,ids,met,nm,hk,rfl,HJ⟩:=hrel
  by_cases hlt:k < N
  ·have hkl:k < h.length:=by rw [HN.out];exact hlt
   have hj:=HJ.out
   obtain ⟨ad,A2,c2,rfl,g0,g1,g2,l2,h2⟩:=at_T42 HR.out (k:Int) (by omega) (by omega)
   rw [rd42 hkl] at g0 g1 g2 l2 h2
   rw [Int.toNat_natCast] at g0 g1 g2
   replace g0:=pw_cell_below hj.bel g0
   replace g1:=pw_cell_below hj.bel g1
   replace g2:=pw_cell_below hj.bel g2
   have hlti:(k:Int) < N:=by omega
   have hmem:=List.getElem_mem hkl
   have hv:=hj.val
   rw [List.drop_eq_getElem_cons hkl] at hv
   have hML:=HL.out.h1 _ hmem
   have HL3:=Lib.hid (HL.out.h2 _ hmem)
   have HPJ:=Lib.hid hj
   clear hj HJ
   generalize h[k]=t at *
   obtain ⟨t0,t1,t2⟩:=t
   unfold txnsP at hv
   simp only at *
   have HV:=Lib.hid hv
   have H2:=Lib.hid h2
   obtain ⟨M,hM⟩:∃ M,t2.length=M:=⟨_,rfl⟩
   have HM:=Lib.hid hM
   rw [hM] at g2 l2 hML
   have hb5:Below wr.heap.size wr ((wr.alloc (.cells #[.int .i64 t0,.bool t1,.slice A2 M c2] 42)).alloc (.cells #[.int .i64 t0] 3)):=((Below.refl _ _).alloc (Nat.le_refl _) _).alloc (by simp) _
   have hmay:=may_c ((wr.alloc (.cells #[.int .i64 t0,.bool t1,.slice A2 M c2] 42)).alloc (.cells #[.int .i64 t0] 3)) (some ⟨wr.heap.size+1,0,none⟩) 1 [t0] (ints_laid (l:=[t0]) (blk_new2 wr _ [.int .i64 t0] 3) (by simp)) (by unfold big;simp)
   simp only [List.length_cons,List.length_nil,List.all_cons,List.all_nil,Bool.and_true,Nat.zero_add] at hmay
   have HPJ5:=Lib.hid (HPJ.out.below hb5)
   have HT6:Hid (Blk ((wr.alloc (.cells #[.int .i64 t0,.bool t1,.slice A2 M c2] 42)).alloc (.cells #[.int .i64 t0] 3)) wr.heap.size [.int .i64 t0,.bool t1,.slice A2 M c2] 42):=Lib.hid ((Blk.new wr [.int .i64 t0,.bool t1,.slice A2 M c2] 42).alloc _)
   have HMAY:=Lib.hid hmay
   have HRO:=Lib.hid h2
   have hsz:=HPJ.out.met_.lt
   clear hv h2 hM hmay hb5 H2
   cases hok:okN t0 with
   | false =>
    rw [hok] at HMAY HV
    rw [if_pos rfl] at HV
    have HFI:Hid (∀ W,Below w.heap.size w W→POut w (partsP h) (.returned (.int .i64 2)) W):=Lib.hid fun W hb=>⟨by rw [HV.out],hb⟩
    clear hok
    go_wp2_with (go_at_call 44;((with_reducible refine HMAY.out.mono ?_);rintro e w' ⟨rfl,rfl⟩))
    go_ret
    exact HFI.out _ HPJ5.out.bel
   | true =>
    rw [hok] at HMAY HV
    rw [if_neg (by decide)] at HV
    have HKY:=Lib.hid (keyI hok)
    clear hok
    cases hin:decide (t0 ∈ ids) with
    | true =>
     have hmemi:t0 ∈ ids:=of_decide_eq_true hin
     rw [if_pos hmemi] at HV
     have HIS:Hid (IdS ids (.int .i64 t0)):=Lib.hid ((idS_iff ids t0).1 hin)
     have HFI:Hid (∀ W,Below w.heap.size w W→POut w (partsP h) (.returned (.int .i64 5)) W):=Lib.hid fun W hb=>⟨by rw [HV.out],hb⟩
     clear hin hmemi
     go_wp2_with (first
      | (go_at_call 44;((with_reducible refine HMAY.out.mono ?_);rintro e w' ⟨rfl,rfl⟩))
      | (at_lookup;refine wpl_ask rfl (.tmp 30) (.tmp 32) 62 rfl 3 3 .i64 lawI Try.underlying62 Try.underlying3 (zeroI _) (w.heap.size+1) k (IdS ids) rfl HPJ5.out.ids_ (.int .i64 t0) (.int .i64 t0) rfl HKY.out true ⟨fun _=>HIS.out,fun _=>rfl⟩ ?_;intro cq))
     go_ret
     exact HFI.out _ HPJ5.out.bel
    | false =>
     have hmemi:¬ t0 ∈ ids:=of_decide_eq_false hin
     rw [if_neg hmemi] at HV
     have HIS:Hid (false=true ↔ IdS ids (.int .i64 t0)):=Lib.hid (by have hq:=idS_iff ids t0;rw [hin] at hq;exact hq)
     have hkwf:(Lit.int .i64 (k:Int)).wf=true:=WalkArith.wf_i64 (by omega)
     have HKW:=Lib.hid hkwf
     clear hin hmemi hkwf
     go_wp2_with (first
      | (go_at_call 44;((with_reducible refine HMAY.out.mono ?_);rintro e w' ⟨rfl,rfl⟩))
      | (at_lookup;refine wpl_ask rfl (.tmp 30) (.tmp 32) 62 rfl 3 3 .i64 lawI Try.underlying62 Try.underlying3 (zeroI _) (w.heap.size+1) k (IdS ids) rfl HPJ5.out.ids_ (.int .i64 t0) (.int .i64 t0) rfl HKY.out false HIS.out ?_;intro cq)
      | (at_mapUpdate;refine wpl_put rfl (.tmp 37) (.tmp 39) (.tmp 40) 62 rfl 3 3 .i64 lawI Try.underlying62 Try.underlying3 (w.heap.size+1) k (IdS ids) rfl HPJ5.out.ids_ (by unfold maxLen;omega) (.int .i64 t0) (.int .i64 t0) rfl HKY.out (k:Int) rfl HKW.out ?_;intro w5 hM5 hg5;have HG5:=Lib.hid hg5;have HM5:=Lib.hid hM5;have hx2:=(HT6.out.block_ hg5 (by simp;omega)).cell 2;simp only [List.getElem?_cons_succ,List.getElem?_cons_zero] at hx2;clear hg5 hM5))
     have hp0:PO t2 w w5 k 0 (t0 :: ids) met met nm:=by
      refine ⟨HM5.out.imp (idS_cons ids t0),HPJ5.out.met_.grown HG5.out (by simp),Nat.le_trans HPJ5.out.nm_ (Nat.le_add_right _ _),below_map (by omega) HPJ5.out.bel HG5.out,rfl⟩
     have HP0:Aside (PO t2 w w5 k 0 (t0 :: ids) met met nm):=hp0
     clear hp0 hx2 HT6 HMAY HPJ5 HG5 HM5 HIS HKY HPJ
     go_loopw [44] (fun v44 wi=>∃ (j:Nat) (met2:List (Int × Int)) (nm2:Nat),j≤M∧v44=.int .i64 j∧Aside (PO t2 w wi k j (t0 :: ids) met met2 nm2)) (fun v44 _=>M - (intOf v44).toNat)
     case atStart=>exact ⟨0,met,nm,by omega,rfl,HP0⟩
     case round =>
      clear HP0
      obtain ⟨j,met2,nm2,hj,rfl,HP⟩:=hrel
      by_cases hjl:j < M
      ·have hjt:j < t2.length:=by rw [HM.out];exact hjl
       have hp:=HP.out
       obtain ⟨ad2,A3,c3,rfl,q0,q1,q2,q3,l3,h3⟩:=at_T39 HRO.out (j:Int) (by omega) (by omega)
       rw [rd39 hjt] at q0 q1 q2 q3 l3 h3
       rw [Int.toNat_natCast] at q0 q1 q2 q3
       replace q0:=pw_cell_below hp.bel q0
       replace q1:=pw_cell_below hp.bel q1
       replace q2:=pw_cell_below hp.bel q2
       replace q3:=pw_cell_below hp.bel q3
       have hjlt:(j:Int) < M:=by omega
       have hv:=hp.val
       rw [List.drop_eq_getElem_cons hjt] at hv
       have hol:=HL3.out _ (List.getElem_mem hjt)
       have HPO:=Lib.hid hp
       have hszi:=hp.met_.lt
       clear hp HP
       generalize t2[j]=o at *
       have HMO:=Lib.hid (fun (W:World) (hb:Below w.heap.size w W)=>mayOp_c W o A3 c3 (Kd.C_below h3 hb) (by unfold big;omega))
       obtain ⟨o0,o1,o2,o3⟩:=o
       simp only [opsP] at hv
       simp only at HMO q0 q1 q2 q3 l3 hol
       have HVV:=Lib.hid hv
       have HOKK:Hid (okOp ⟨o0,o1,o2,o3⟩=true→okN o1=true∧(o0=false→okN o2=true)):=Lib.hid fun hq=>by
        unfold okOp at hq
        simp only [Bool.and_eq_true] at hq
        refine ⟨hq.1,fun h0=>?_⟩
        subst h0
        have:=hq.2
        simp only [Bool.false_eq_true,if_false,Bool.and_eq_true] at this
        exact this.1
       generalize hokb:okOp ⟨o0,o1,o2,o3⟩=okb at *
       clear hokb hv
       generalize o3.length=L at *
       have hbA:Below wr.heap.size wr (wr.alloc (.cells #[.bool o0,.int .i64 o1,.int .i64 o2,.slice A3 L c3] 39)):=(Below.refl _ _).alloc (Nat.le_refl _) _
       have HM1:=Lib.hid (HMO.out _ (link HPO.out.bel hbA))
       have HT:Hid (Blk (wr.alloc (.cells #[.bool o0,.int .i64 o1,.int .i64 o2,.slice A3 L c3] 39)) wr.heap.size [.bool o0,.int .i64 o1,.int .i64 o2,.slice A3 L c3] 39):=Lib.hid (Blk.new wr [.bool o0,.int .i64 o1,.int .i64 o2,.slice A3 L c3] 39)
       have HPA:=Lib.hid (HPO.out.below hbA)
       clear HMO hbA h3
       cases okb with
       | false =>
        have HFI:Hid (∀ W,Below w.heap.size w W→POut w (partsP h) (.returned (.int .i64 2)) W):=Lib.hid fun W hb=>⟨by rw [HV.out,HVV.out];rfl,hb⟩
        go_wp2_with fail
        refine HM1.out.mono ?_
        rintro e w6 ⟨rfl,hb6⟩
        have hbF:=link HPA.out.bel hb6
        go_wp2
        go_ret
        exact HFI.out _ hbF
       | true =>
        cases o0 with
        | true =>
         have hpn:opsP t2 met=opsP (t2.drop (j+1)) met2:=by rw [HVV.out];rfl
         have HPN:=Lib.hid hpn
         clear hpn
         go_wp2_with fail
         refine HM1.out.mono ?_
         rintro e w6 ⟨rfl,hb6⟩
         have hx0:=(HT.out.below hb6 HT.out.lt).cell 0
         simp only [List.getElem?_cons_zero] at hx0
         have hpo:PO t2 w w6 k (j+1) (t0 :: ids) met met2 nm2:=by
          have hq:=HPA.out.below hb6
          exact ⟨hq.ids_,hq.met_,Nat.le_trans hq.nm_ (by omega),hq.bel,HPN.out⟩
         have HP2:Aside (PO t2 w w6 k (j+1) (t0 :: ids) met met2 nm2):=hpo
         clear hpo hb6
         go_wp2
         go_roundw
         case rel=>exact ⟨j+1,met2,nm2,by omega,by go_num,HP2⟩
         case measure=>simp [intOf];omega
        | false =>
         obtain ⟨hk1,hk2⟩:=HOKK.out rfl
         obtain ⟨kl,hkl2⟩:=keyP hk1 (hk2 rfl)
         have HKL:=Lib.hid hkl2
         clear hk1 hk2 hkl2 HOKK
         cases hin:decide ((o1,o2) ∈ met2) with
         | true =>
          have hmi:(o1,o2) ∈ met2:=of_decide_eq_true hin
          have hpn:opsP t2 met=(6,met2):=by rw [HVV.out];simp [hmi]
          have HFI:Hid (∀ W,Below w.heap.size w W→POut w (partsP h) (.returned (.int .i64 6)) W):=Lib.hid fun W hb=>⟨by rw [HV.out,hpn];rfl,hb⟩
          have HMS:Hid (MetS met2 (.agg #[.int .i64 o1,.int .i64 o2])):=Lib.hid ((metS_iff met2 o1 o2).1 hin)
          clear hin hmi hpn
          go_wp2_with fail
          refine HM1.out.mono ?_
          rintro e w6 ⟨rfl,hb6⟩
          have hx0:=(HT.out.below hb6 HT.out.lt).cell 0
          have hx1:=(HT.out.below hb6 HT.out.lt).cell 1
          have hx2:=(HT.out.below hb6 HT.out.lt).cell 2
          simp only [List.getElem?_cons_zero,List.getElem?_cons_succ] at hx0 hx1 hx2
          have hP6:=HPA.out.below hb6
          have hP7:=hP6.below ((Below.refl w6.heap.size w6).alloc (Nat.le_refl _) (.cells #[.int .i64 o1,.int .i64 o2] 80))
          have HP7:=Lib.hid hP7
          clear hP6 hP7 hb6
          go_wp2_with (at_lookup;refine wpl_ask rfl (.tmp 59) (.tmp 60) 76 rfl 80 3 .i64 lawP Try.underlying76 Try.underlying3 (zeroI _) (w.heap.size+2) nm2 (MetS met2) rfl HP7.out.met_ (.agg #[.int .i64 o1,.int .i64 o2]) kl rfl HKL.out true ⟨fun _=>HMS.out,fun _=>rfl⟩ ?_;intro cq2)
          go_ret
          exact HFI.out _ HP7.out.bel
         | false =>
          have hmi:¬ (o1,o2) ∈ met2:=of_decide_eq_false hin
          have hpn:opsP t2 met=opsP (t2.drop (j+1)) ((o1,o2) :: met2):=by rw [HVV.out];simp [hmi]
          have HPN:=Lib.hid hpn
          have HMS:Hid (false=true ↔ MetS met2 (.agg #[.int .i64 o1,.int .i64 o2])):=Lib.hid (by have hq:=metS_iff met2 o1 o2;rw [hin] at hq;exact hq)
          have hnmx:=HPO.out.nm_
          clear hin hmi hpn
          go_wp2_with fail
          refine HM1.out.mono ?_
          rintro e w6 ⟨rfl,hb6⟩
          have hx0:=(HT.out.below hb6 HT.out.lt).cell 0
          have hx1:=(HT.out.below hb6 HT.out.lt).cell 1
          have hx2:=(HT.out.below hb6 HT.out.lt).cell 2
          simp only [List.getElem?_cons_zero,List.getElem?_cons_succ] at hx0 hx1 hx2
          have hP6:=HPA.out.below hb6
          have hP7:=hP6.below ((Below.refl w6.heap.size w6).alloc (Nat.le_refl _) (.cells #[.int .i64 o1,.int .i64 o2] 80))
          have HP7:=Lib.hid hP7
          clear hP6 hP7 hb6
          go_wp2_with (first
           | (at_lookup;refine wpl_ask rfl (.tmp 59) (.tmp 60) 76 rfl 80 3 .i64 lawP Try.underlying76 Try.underlying3 (zeroI _) (w.heap.size+2) nm2 (MetS met2) rfl HP7.out.met_ (.agg #[.int .i64 o1,.int .i64 o2]) kl rfl HKL.out false HMS.out ?_;intro cq2)
           | (at_mapUpdate;refine wpl_put rfl (.tmp 65) (.tmp 66) (.tmp 67) 76 rfl 80 3 .i64 lawP Try.underlying76 Try.underlying3 (w.heap.size+2) nm2 (MetS met2) rfl HP7.out.met_ (by unfold maxLen;omega) (.agg #[.int .i64 o1,.int .i64 o2]) kl rfl HKL.out (k:Int) rfl HKW.out ?_;intro w8 hM8 hg8;have hpo:PO t2 w w8 k (j+1) (t0 :: ids) met ((o1,o2) :: met2) (nm2+1):=⟨HP7.out.ids_.grown hg8 (by simp),hM8.imp (metS_cons met2 o1 o2),by omega,below_map (by omega) HP7.out.bel hg8,HPN.out⟩;have HP2:Aside (PO t2 w w8 k (j+1) (t0 :: ids) met ((o1,o2) :: met2) (nm2+1)):=hpo;clear hpo hM8 hg8))
          go_roundw
          case rel=>exact ⟨j+1,(o1,o2) :: met2,nm2+1,by omega,by go_num,HP2⟩
          case measure=>simp [intOf];omega
      ·have hjlt:¬ (j:Int) < M:=by omega
       have hp:=HP.out
       have hjt:t2.length≤j:=by rw [HM.out];omega
       have hv:=hp.val
       rw [List.drop_eq_nil_of_le hjt] at hv
       have hpj:PJ h w wr (k+1) (t0 :: ids) met2 nm2:=⟨hp.ids_,hp.met_,by have:=hp.nm_;rw [Nat.add_mul];omega,hp.bel,by rw [HV.out,hv];rfl⟩
       have HPJ2:Aside (PJ h w wr (k+1) (t0 :: ids) met2 nm2):=hpj
       clear hp hv hpj HP
       go_wp2
       go_roundw
       case rel=>exact ⟨k+1,t0 :: ids,met2,nm2,by omega,by go_num,HPJ2⟩
       case measure=>simp [intOf];omega
  ·have hlti:¬ (k:Int) < N:=by omega
   have hj:=HJ.out
   have hkN:h.length≤k:=by rw [HN.out];omega
   have hv:=hj.val
   rw [List.drop_eq_nil_of_le hkN] at hv
   have HFI:Hid (POut w (partsP h) (.returned (.int .i64 0)) wr):=Lib.hid ⟨by rw [hv];rfl,hj.bel⟩
   clear hj HJ hkN hv
   go_wp2
   go_ret
   exact HFI.out
end Go.Proofs.Ytlcioegdmopppaa.En
set_option linter.unusedSimpArgs false
namespace Go.Proofs.Ytlcioegdmopppaa.En
open Go.RowKit Go.Proofs.Ytlcioegdmopppaa.PEncodeBack Go.Proofs.YtlcioegdmopppaaW.PrintWords
set_option linter.unusedVariables false
def opsN:List S42→Nat
 | []=>0
 | t :: h=>t.f2.length+opsN h
theorem opsN_le (n:Nat):∀ h:List S42,(∀ t ∈ h,t.f2.length≤n)→opsN h≤h.length * n
 | [],_=>by simp [opsN]
 | t :: h,hh=>by
  have h1:=hh t (by simp)
  have h2:=opsN_le n h fun x hx=>hh x (by simp [hx])
  unfold opsN
  rw [List.length_cons,Nat.add_mul,Nat.one_mul];omega
theorem opsN_drop {h:List S42} {k:Nat} (hk:k < h.length):opsN (h.drop k)=h[k].f2.length+opsN (h.drop (k+1)):=by
 rw [List.drop_eq_getElem_cons hk];rfl
theorem ops_loop (h:List S42) (hl:h.length≤big):∀ (d k:Nat) (x:Nat),k+d=h.length→x+opsN (h.drop k)≤big→Ev (fun r=>history_Ops.l0 r (x:Int) h (h.length:Int) (k:Int)) ((x+opsN (h.drop k):Nat):Int)
 | 0,k,x,hk,hb=>by
  rw [List.drop_eq_nil_of_le (by omega)]
  exact Ev.step (f:=fun _=>some _) (fun r=>by simp only [history_Ops.l0];rw [if_neg (by omega)];rfl) (Ev.now _)
 | d+1,k,x,hk,hb=>by
  have hlt:k < h.length:=by omega
  have hd:=opsN_drop hlt
  have ih:=ops_loop h hl d (k+1) (x+h[k].f2.length) (by omega) (by omega)
  have e:x+opsN (h.drop k)=x+h[k].f2.length+opsN (h.drop (k+1)):=by omega
  rw [e]
  unfold big at *
  refine Ev.step (fun r=>?_) ih
  simp only [history_Ops.l0]
  have hw:wrap64 ((x:Int)+(h[k].f2.length:Int))=((x+h[k].f2.length:Nat):Int):=by unfold wrap64;omega
  rw [if_pos (by omega),if_pos (by omega),if_pos (by omega),rd42 hlt,hw,wrapS hlt (by omega)]
theorem ops_ev (h:List S42) (hl:h.length≤big) (hb:opsN h≤big):Ev (fun r=>history_Ops.f r h) (opsN h:Int):=by
 have:=ops_loop h hl h.length 0 0 (by omega) (by rw [List.drop_zero];omega)
 simp only [Nat.zero_add,List.drop_zero] at this
 exact this
def checkP (h:List S42):Int:=if 1024 < h.length ∨ 4096 < opsN h then 3 else if partsP h ≠ 0 then partsP h else if 262144 < (histT h).length then 3 else 0
def encP (h:List S42):List Int:=if checkP h=0 then histT h else []
theorem opsP_ok:∀ (l:List S39) (met:List (Int × Int)),(opsP l met).1=0→l.all okOp=true
 | [],_,_=>rfl
 | o :: l,met,h=>by
  unfold opsP at h
  cases ho:okOp o with
  | false=>rw [ho,if_pos rfl] at h;cases h
  | true =>
   rw [ho,if_neg (by decide)] at h
   rw [List.all_cons,ho,Bool.true_and]
   by_cases hr:o.f0=true
   ·rw [if_pos hr] at h;exact opsP_ok l met h
   ·rw [if_neg hr] at h
    by_cases hm:(o.f1,o.f2) ∈ met
    ·rw [if_pos hm] at h;cases h
    ·rw [if_neg hm] at h;exact opsP_ok l _ h
theorem txnsP_ok:∀ (h:List S42) (ids:List Int) (met:List (Int × Int)),txnsP h ids met=0→h.all okT=true
 | [],_,_,_=>rfl
 | t :: h,ids,met,hh=>by
  unfold txnsP at hh
  cases ho:okN t.f0 with
  | false=>rw [ho,if_pos rfl] at hh;cases hh
  | true =>
   rw [ho,if_neg (by decide)] at hh
   by_cases hi:t.f0 ∈ ids
   ·rw [if_pos hi] at hh;cases hh
   ·rw [if_neg hi] at hh
    by_cases h0:(opsP t.f2 met).1=0
    ·rw [if_neg (by simp [h0])] at hh
     rw [List.all_cons,txnsP_ok h _ _ hh,Bool.and_true]
     unfold okT
     rw [ho,opsP_ok _ _ h0];rfl
    ·rw [if_pos h0] at hh;exact absurd hh h0
theorem parts_ok {h:List S42} (hp:partsP h=0):h.all okT=true:=txnsP_ok h [] [] hp
structure Fits (h:List S42):Prop where
 lim:Lim h 1000000
 txt:h.all okT=true→(histT h).length≤1000000000
theorem Fits.ops {h:List S42} (hf:Fits h):opsN h≤1000000000000:=by
 have h1:=opsN_le 1000000 h hf.lim.h1
 have h2:=hf.lim.h0
 have:h.length * 1000000≤1000000 * 1000000:=Nat.mul_le_mul_right _ h2
 omega
theorem ops_c (w:World) (h:List S42) (A:Option Addr) (c:Nat) (hr:Kd.C k42 w A h.length h) (hc:h.length≤c) (hf:Fits h):Calls Try.prog 23 #[.agg #[.slice A h.length c]] w fun e w'=>e=.returned (.int .i64 (opsN h:Nat))∧Below w.heap.size w w':=by
 obtain ⟨K,hK⟩:=(ops_ev h (by have:=hf.lim.h0;unfold big;omega) (by have:=hf.ops;unfold big;omega)).rounds
 exact history_Ops.calls K A c h _ w hr hc hK
set_option maxHeartbeats 2000000 in
set_option maxRecDepth 100000 in
theorem check_c (w:World) (h:List S42) (A:Option Addr) (c:Nat) (hr:Kd.C k42 w A h.length h) (hc:h.length≤c) (hf:Fits h) :
 Calls Try.prog 15 #[.agg #[.slice A h.length c]] w (POut w (checkP h)):=by
 have HR:=Lib.hid hr
 have HF:=Lib.hid hf
 have HB0:Hid (Below w.heap.size w (w.alloc (.cells #[.slice A h.length c] 24))):=Lib.hid ((Below.refl _ _).alloc (Nat.le_refl _) _)
 have HZ:Hid (Blk (w.alloc (.cells #[.slice A h.length c] 24)) w.heap.size [.slice A h.length c] 24):=Lib.hid (Blk.new w [.slice A h.length c] 24)
 have HO:=Lib.hid (fun (W:World) (hC:Kd.C k42 W A h.length h)=>ops_c W h A c hC hc hf)
 have HP:=Lib.hid (fun (W:World) (hC:Kd.C k42 W A h.length h)=>parts_c W h A c hC hf.lim)
 have HT:=Lib.hid (fun (W:World) (hC:Kd.C k42 W A h.length h) (hok:h.all okT=true)=>text_c W h A c hC hok hf.lim (hf.txt hok))
 have HV:Hid (checkP h=if 1024 < h.length ∨ 4096 < opsN h then 3 else if partsP h ≠ 0 then partsP h else if 262144 < (histT h).length then 3 else 0):=Lib.hid rfl
 have HOKP:=Lib.hid (@parts_ok h)
 clear hr hc hf
 generalize checkP h=res at *
 by_cases h1:1024 < h.length
 ·rw [if_pos (.inl h1)] at HV
  have h1i:(1024:Int) < h.length:=by omega
  clear h1
  go_enter Try.func15,Try.ntmps15
  go_wp2
  go_ret
  exact ⟨by rw [HV.out];rfl,HB0.out⟩
 ·have h1i:¬ (1024:Int) < h.length:=by omega
  by_cases h2:4096 < opsN h
  ·rw [if_pos (.inr h2)] at HV
   have h2i:(4096:Int) < (opsN h:Nat):=by omega
   clear h1 h2
   generalize opsN h=on at *
   go_enter Try.func15,Try.ntmps15
   go_wp2_with fail
   refine (HO.out _ (Kd.C_below HR.out HB0.out)).mono ?_
   rintro e w1 ⟨rfl,hb1⟩
   have hbF:=link HB0.out hb1
   clear hb1
   go_wp2
   go_ret
   exact ⟨by rw [HV.out];rfl,hbF⟩
  ·have h2i:¬ (4096:Int) < (opsN h:Nat):=by omega
   rw [if_neg (by omega)] at HV
   clear h1 h2
   generalize opsN h=on at *
   by_cases h3:partsP h=0
   ·rw [if_neg (by simp [h3])] at HV
    have HOK:=Lib.hid (HOKP.out h3)
    rw [h3] at HP
    clear h3
    by_cases h4:262144 < (histT h).length
    ·rw [if_pos h4] at HV
     have H4:=Lib.hid h4
     clear h4
     go_enter Try.func15,Try.ntmps15
     go_wp2_with fail
     refine (HO.out _ (Kd.C_below HR.out HB0.out)).mono ?_
     rintro e w1 ⟨rfl,hb1⟩
     have HB1:=Lib.hid (link HB0.out hb1)
     have HZ1:=Lib.hid (HZ.out.below hb1 HZ.out.lt)
     have hz1:=HZ1.out.cell 0
     simp only [List.getElem?_cons_zero] at hz1
     clear hb1
     go_wp2_with fail
     refine (HP.out _ (Kd.C_below HR.out HB1.out)).mono ?_
     rintro e w2 ⟨rfl,hb2⟩
     have HB2:=Lib.hid (link HB1.out hb2)
     have HZ2:=Lib.hid (HZ1.out.below hb2 HZ1.out.lt)
     have hz2:=HZ2.out.cell 0
     simp only [List.getElem?_cons_zero] at hz2
     clear hb2
     go_wp2_with fail
     refine (HT.out _ (Kd.C_below HR.out HB2.out) HOK.out).mono ?_
     rintro e w3 ⟨A3,n3,c3,rfl,hB3,hb3⟩
     have hbF:=link HB2.out hb3
     have hn3:=hB3.cells.1
     have hgt:(262144:Int) < (n3:Nat):=by have:=H4.out;omega
     clear hb3 hB3 hn3
     go_wp2
     go_ret
     exact ⟨by rw [HV.out];rfl,hbF⟩
    ·rw [if_neg h4] at HV
     have H4:=Lib.hid h4
     clear h4
     go_enter Try.func15,Try.ntmps15
     go_wp2_with fail
     refine (HO.out _ (Kd.C_below HR.out HB0.out)).mono ?_
     rintro e w1 ⟨rfl,hb1⟩
     have HB1:=Lib.hid (link HB0.out hb1)
     have HZ1:=Lib.hid (HZ.out.below hb1 HZ.out.lt)
     have hz1:=HZ1.out.cell 0
     simp only [List.getElem?_cons_zero] at hz1
     clear hb1
     go_wp2_with fail
     refine (HP.out _ (Kd.C_below HR.out HB1.out)).mono ?_
     rintro e w2 ⟨rfl,hb2⟩
     have HB2:=Lib.hid (link HB1.out hb2)
     have HZ2:=Lib.hid (HZ1.out.below hb2 HZ1.out.lt)
     have hz2:=HZ2.out.cell 0
     simp only [List.getElem?_cons_zero] at hz2
     clear hb2
     go_wp2_with fail
     refine (HT.out _ (Kd.C_below HR.out HB2.out) HOK.out).mono ?_
     rintro e w3 ⟨A3,n3,c3,rfl,hB3,hb3⟩
     have hbF:=link HB2.out hb3
     have hn3:=hB3.cells.1
     have hgt:¬ (262144:Int) < (n3:Nat):=by have:=H4.out;omega
     clear hb3 hB3 hn3
     go_wp2
     go_ret
     exact ⟨by rw [HV.out];rfl,hbF⟩
   ·rw [if_pos h3] at HV
    have hne:(partsP h != 0)=true:=by simp [h3]
    clear h3
    generalize partsP h=pp at *
    go_enter Try.func15,Try.ntmps15
    go_wp2_with fail
    refine (HO.out _ (Kd.C_below HR.out HB0.out)).mono ?_
    rintro e w1 ⟨rfl,hb1⟩
    have HB1:=Lib.hid (link HB0.out hb1)
    have HZ1:=Lib.hid (HZ.out.below hb1 HZ.out.lt)
    have hz1:=HZ1.out.cell 0
    simp only [List.getElem?_cons_zero] at hz1
    clear hb1
    go_wp2_with fail
    refine (HP.out _ (Kd.C_below HR.out HB1.out)).mono ?_
    rintro e w2 ⟨rfl,hb2⟩
    have hbF:=link HB1.out hb2
    clear hb2
    go_wp2
    go_ret
    exact ⟨by rw [HV.out];rfl,hbF⟩
def EOut (w:World) (h:List S42) (e:Ending) (w':World):Prop:=∃ A n c,e=.returned (.tuple #[.slice A n c,.int .i64 (checkP h)])∧BR w' w.heap.size (.slice A n c) (encP h)∧Below w.heap.size w w'
set_option maxHeartbeats 2000000 in
set_option maxRecDepth 100000 in
theorem encode_c (w:World) (h:List S42) (A:Option Addr) (c:Nat) (hr:Kd.C k42 w A h.length h) (hc:h.length≤c) (hf:Fits h) :
 Calls Try.prog 13 #[.agg #[.slice A h.length c]] w (EOut w h):=by
 have HR:=Lib.hid hr
 have HB0:Hid (Below w.heap.size w (w.alloc (.cells #[.slice A h.length c] 24))):=Lib.hid ((Below.refl _ _).alloc (Nat.le_refl _) _)
 have HZ:Hid (Blk (w.alloc (.cells #[.slice A h.length c] 24)) w.heap.size [.slice A h.length c] 24):=Lib.hid (Blk.new w [.slice A h.length c] 24)
 have HC:=Lib.hid (fun (W:World) (hC:Kd.C k42 W A h.length h)=>check_c W h A c hC hc hf)
 have HT:=Lib.hid (fun (W:World) (hC:Kd.C k42 W A h.length h) (hok:h.all okT=true)=>text_c W h A c hC hok hf.lim (hf.txt hok))
 have HOKP:Hid (checkP h=0→h.all okT=true):=Lib.hid fun h0=>by
  unfold checkP at h0
  split at h0
  ·cases h0
  ·split at h0
   ·rename_i hq;exact absurd h0 hq
   ·rename_i hq;exact parts_ok (by simpa using hq)
 have HFI:Hid (∀ W A n c,BR W w.heap.size (.slice A n c) (encP h)→Below w.heap.size w W→EOut w h (.returned (.tuple #[.slice A n c,.int .i64 (checkP h)])) W):=Lib.hid fun W A n c h1 h2=>⟨A,n,c,rfl,h1,h2⟩
 have HE:Hid (encP h=if checkP h=0 then histT h else []):=Lib.hid rfl
 clear hr hc hf
 by_cases h0:checkP h=0
 ·have HOK:=Lib.hid (HOKP.out h0)
  rw [if_pos h0] at HE
  have H0:=Lib.hid h0
  rw [h0] at HC HFI
  clear h0 HOKP
  go_enter Try.func13,Try.ntmps13
  go_wp2_with fail
  refine (HC.out _ (Kd.C_below HR.out HB0.out)).mono ?_
  rintro e w1 ⟨rfl,hb1⟩
  have HB1:=Lib.hid (link HB0.out hb1)
  have HZ1:=Lib.hid (HZ.out.below hb1 HZ.out.lt)
  have hz1:=HZ1.out.cell 0
  simp only [List.getElem?_cons_zero] at hz1
  clear hb1
  go_wp2_with fail
  refine (HT.out _ (Kd.C_below HR.out HB1.out) HOK.out).mono ?_
  rintro e w2 ⟨A2,n2,c2,rfl,hB2,hb2⟩
  have hbF:=link HB1.out hb2
  have HFF:=Lib.hid (HFI.out _ _ _ _ (by rw [HE.out];exact hB2.lower HB1.out.size) hbF)
  clear hb2 hB2 hbF HFI
  go_wp2
  go_ret2
  exact HFF.out
 ·rw [if_neg h0] at HE
  have hne:(checkP h != 0)=true:=by simp [h0]
  clear h0 HOKP
  generalize checkP h=cp at *
  go_enter Try.func13,Try.ntmps13
  go_wp2_with fail
  refine (HC.out _ (Kd.C_below HR.out HB0.out)).mono ?_
  rintro e w1 ⟨rfl,hb1⟩
  have HFF:=Lib.hid (HFI.out w1 none 0 0 (by rw [HE.out];exact BR.nil _ _) (link HB0.out hb1))
  clear hb1 HFI
  go_wp2
  go_ret2
  exact HFF.out
end Go.Proofs.Ytlcioegdmopppaa.En
set_option linter.unusedSimpArgs false
namespace Go.Proofs.Ytlcioegdmopppaa.En
open Go.RowKit Go.Proofs.Ytlcioegdmopppaa.PEncodeBack Go.Proofs.YtlcioegdmopppaaW.PrintWords
set_option linter.unusedVariables false
set_option maxRecDepth 1000000 in
theorem br_string {w:World} {base:Nat} {A:Option Addr} {n c:Nat} {xs:List Int} (h:BR w base (.slice A n c) xs):(convert 27 9 (.slice A n c)).run Try.prog w=.ok (.string (strOfNums xs)) w:=by
 rcases h with ⟨e,rfl⟩|⟨g,cap,e,_,_,h3,_,_,h6⟩
 ·injection e with e1 e2 e3
  subst e1;subst e2;subst e3
  exact run_convert_bytes_nil w 27 5 Try.underlying27 Try.underlying5 0 0 9 Try.underlying9
 ·injection e with e1 e2 e3
  subst e1;subst e2;subst e3
  refine run_convert_bytes_arg w 27 5 Try.underlying27 Try.underlying5 g 0 xs.length _ xs rfl (fun i hi=>?_) 9 Try.underlying9
  rw [Nat.zero_add]
  exact h6 i _ (by simp [nums,List.getElem?_eq_getElem hi,List.getD])
theorem one_row {α:Type} {d:Kd α} {W:World} {g:Nat} {x:α} {cs:List Value} {t:TypeId} (hg:Blk W g cs t) (hK:d.K W x cs):Kd.C d W (some ⟨g,0,none⟩) 1 [x]:=by
 refine ⟨rfl,by decide,fun _=>⟨_,rfl,fun j q hq=>?_⟩⟩
 have hj:j=0:=by have:=(List.getElem?_eq_some_iff.1 hq).1;simp at this;omega
 subst hj
 cases hq
 refine ⟨_,d.K_len hK,hK,fun i u hu=>?_⟩
 rw [Addr.add_lit,hg.cell]
 simpa using hu
def h7:List S42:=[⟨7,false,[⟨true,1,0,[5]⟩]⟩]
def hm1:List S42:=[⟨-1,false,[]⟩]
theorem numS_small {n:Nat} (h:n < 10):numS (n:Int)=[((n+48:Nat):Int)]:=by
 unfold numS
 rw [Int.toNat_natCast,wd_small h]
 unfold low low
 rw [Nat.pow_zero,Nat.div_one,Nat.mod_eq_of_lt h]
theorem h7_text:histT h7=[116,32,55,32,99,10,114,32,49,32,53,10]:=by
 have a:=numS_small (n:=7) (by decide)
 have b:=numS_small (n:=1) (by decide)
 have c:=numS_small (n:=5) (by decide)
 unfold histT h7 txnT headT opT
 simp only [List.flatMap_cons,List.flatMap_nil,texts_one,texts_cons]
 have a':numS 7=[55]:=a
 have b':numS 1=[49]:=b
 have c':numS 5=[53]:=c
 rw [a',b',c']
 rfl
theorem h7_check:checkP h7=0:=by
 unfold checkP
 rw [if_neg (by decide),if_neg (by decide),if_neg (by rw [h7_text];decide)]
theorem hm1_check:checkP hm1=2:=by
 unfold checkP
 rw [if_neg (by decide),if_pos (by decide)]
 decide
theorem h7_enc:encP h7=[116,32,55,32,99,10,114,32,49,32,53,10]:=by unfold encP;rw [if_pos h7_check,h7_text]
theorem h7_fits:Fits h7:=⟨⟨by decide,by decide,by decide⟩,fun _=>by rw [h7_text];decide⟩
theorem hm1_fits:Fits hm1:=⟨⟨by decide,by decide,by decide⟩,fun h=>absurd h (by decide)⟩
theorem h7_laid {W:World} {g:Nat} (h1:Blk W g [.int .i64 5] 3) (h2:Blk W (g+1) [.bool true,.int .i64 1,.int .i64 0,.slice (some ⟨g,0,none⟩) 1 1] 39) (h3:Blk W (g+2) [.int .i64 7,.bool false,.slice (some ⟨g+1,0,none⟩) 1 1] 42):Kd.C k42 W (some ⟨g+2,0,none⟩) 1 h7:=by
 refine one_row h3 (k42_mk W ⟨7,false,[⟨true,1,0,[5]⟩]⟩ (Nat.le_refl 1) (one_row h2 (k39_mk W ⟨true,1,0,[5]⟩ (Nat.le_refl 1) (one_row h1 rfl))))
theorem hm1_laid {W:World} {g:Nat} (h1:Blk W g [.int .i64 (-1),.bool false,.slice none 0 0] 42):Kd.C k42 W (some ⟨g,0,none⟩) 1 hm1 :=
 one_row h1 (k42_mk W ⟨-1,false,[]⟩ (Nat.le_refl 0) ⟨rfl,by decide,fun h=>absurd h (by decide)⟩)
set_option maxHeartbeats 2000000 in
set_option maxRecDepth 100000 in
theorem works (w:World):Calls Try.prog 12 #[] w fun e w'=>e=.returned (.bool true)∧Below w.heap.size w w':=by
 have hb0:Below w.heap.size w (((w.alloc (.cells #[.int .i64 5] 3)).alloc (.cells #[.bool true,.int .i64 1,.int .i64 0,.slice (some ⟨w.heap.size,0,none⟩) 1 1] 39)).alloc (.cells #[.int .i64 7,.bool false,.slice (some ⟨w.heap.size+1,0,none⟩) 1 1] 42)):=(((Below.refl _ _).alloc (Nat.le_refl _) _).alloc (by simp) _).alloc (by simp;omega) _
 have HB0:=Lib.hid hb0
 have hl:Kd.C k42 (((w.alloc (.cells #[.int .i64 5] 3)).alloc (.cells #[.bool true,.int .i64 1,.int .i64 0,.slice (some ⟨w.heap.size,0,none⟩) 1 1] 39)).alloc (.cells #[.int .i64 7,.bool false,.slice (some ⟨w.heap.size+1,0,none⟩) 1 1] 42)) (some ⟨w.heap.size+2,0,none⟩) 1 h7:=by
  refine h7_laid (((Blk.new w [.int .i64 5] 3).alloc _).alloc _) ((blk_new2 w (.cells #[.int .i64 5] 3) [.bool true,.int .i64 1,.int .i64 0,.slice (some ⟨w.heap.size,0,none⟩) 1 1] 39).alloc _) ?_
  have:=Blk.new ((w.alloc (.cells #[.int .i64 5] 3)).alloc (.cells #[.bool true,.int .i64 1,.int .i64 0,.slice (some ⟨w.heap.size,0,none⟩) 1 1] 39)) [.int .i64 7,.bool false,.slice (some ⟨w.heap.size+1,0,none⟩) 1 1] 42
  rw [World.size_alloc,World.size_alloc] at this
  exact this
 have HE:Hid (Calls Try.prog 13 #[.agg #[.slice (some ⟨w.heap.size+1+1,0,none⟩) 1 1]] (((w.alloc (.cells #[.int .i64 5] 3)).alloc (.cells #[.bool true,.int .i64 1,.int .i64 0,.slice (some ⟨w.heap.size,0,none⟩) 1 1] 39)).alloc (.cells #[.int .i64 7,.bool false,.slice (some ⟨w.heap.size+1,0,none⟩) 1 1] 42)) fun e w'=>∃ A n c,e=.returned (.tuple #[.slice A n c,.int .i64 0])∧(convert 27 9 (.slice A n c)).run Try.prog w'=.ok (.string ⟨#[116,32,55,32,99,10,114,32,49,32,53,10]⟩) w'∧Below w.heap.size w w'):=Lib.hid <|
  (encode_c _ h7 (some ⟨w.heap.size+2,0,none⟩) 1 hl (by decide) h7_fits).mono fun e w' ⟨A,n,c,he,hB,hb⟩=>by
   rw [h7_check] at he
   rw [h7_enc] at hB
   exact ⟨A,n,c,he,br_string hB,link HB0.out hb⟩
 have HC:Hid (∀ (W:World),Calls Try.prog 15 #[.agg #[.slice (some ⟨W.heap.size,0,none⟩) 1 1]] (W.alloc (.cells #[.int .i64 (-1),.bool false,.slice none 0 0] 42)) fun e w'=>e=.returned (.int .i64 2)∧Below W.heap.size W w'):=Lib.hid fun W=>by
  have:=check_c (W.alloc (.cells #[.int .i64 (-1),.bool false,.slice none 0 0] 42)) hm1 (some ⟨W.heap.size,0,none⟩) 1 (hm1_laid (Blk.new W [.int .i64 (-1),.bool false,.slice none 0 0] 42)) (by decide) hm1_fits
  rw [hm1_check] at this
  exact this.mono fun e w' ⟨h1,h2⟩=>⟨h1,link ((Below.refl _ _).alloc (Nat.le_refl _) _) h2⟩
 clear hb0 hl
 go_enter Try.func12,Try.ntmps12
 go_wp2_with fail
 refine HE.out.mono ?_
 rintro e w1 ⟨A1,n1,c1,rfl,kc,hb1⟩
 go_wp2_with fail
 refine (HC.out _).mono ?_
 rintro e w2 ⟨rfl,hb2⟩
 have hbF:=link hb1 hb2
 clear kc
 go_wp2
 go_ret
 exact ⟨rfl,hbF⟩
end Go.Proofs.Ytlcioegdmopppaa.En
