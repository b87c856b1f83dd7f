/- Printed by shake.py. -/
import Derived.Test.YtlcioegdmopppaaShE26
import Derived.Lib.AppendStr
import Derived.Lib.ConvBytes
import Derived.Laws.IdiomCopy
set_option linter.unusedVariables false
set_option linter.unusedSimpArgs false
namespace Go.Proofs.Ytlcioegdmopppaa
open Go.RowKit Go.Proofs.YtlcioegdmopppaaW.PrintWords
def BR (w:World) (base:Nat) (v:Value) (xs:List Int):Prop:=(v=.slice none 0 0∧xs=[]) ∨
 ∃ g cap,v=.slice (some ⟨g,0,none⟩) xs.length cap∧base≤g∧g < w.heap.size∧xs.length≤cap∧cap≤maxLen∧(∀ j,j < cap→(w.cell? ⟨g,j,none⟩).isSome=true∧w.frozen? ⟨g,j,none⟩=false)∧∀ j u,(nums .u8 xs)[j]?=some u→w.cell? ⟨g,j,none⟩=some u
theorem BR.nil (w:World) (base:Nat):BR w base (.slice none 0 0) []:=.inl ⟨rfl,rfl⟩
theorem nums_len (k:IntKind) (l:List Int):(nums k l).length=l.length:=by simp [nums]
theorem nums_app (k:IntKind) (l m:List Int):nums k (l ++ m)=nums k l ++ nums k m:=by simp [nums]
theorem nums_one (k:IntKind) (l:List Int):∀ u ∈ nums k l,u.oneCell'=true:=by
 intro u hu
 simp only [nums,List.mem_map] at hu
 obtain ⟨x,_,rfl⟩:=hu
 rfl
section
variable {w w1:World} {base:Nat} {v:Value} {xs:List Int}
theorem BR.block (h:BR w base v xs) (hs:w.heap.size≤w1.heap.size) (hb:∀ g,v.ownBlock=some g→w1.heap[g]?=w.heap[g]?):BR w1 base v xs:=by
 rcases h with h|⟨g,cap,rfl,h1,h2,h3,h4,h5,h6⟩
 ·exact .inl h
 ·have e:=hb g rfl
  refine .inr ⟨g,cap,rfl,h1,by omega,h3,h4,fun j hj=>?_,fun j u hu=>?_⟩
  ·rw [World.cell?_of_block (w:=w) (w':=w1) (a:=⟨g,j,none⟩) e,World.frozen?_of_block (w:=w) (w':=w1) (a:=⟨g,j,none⟩) e];exact h5 j hj
  ·rw [World.cell?_of_block (w:=w) (w':=w1) (a:=⟨g,j,none⟩) e];exact h6 j u hu
theorem BR.lt (h:BR w base v xs) (g:Nat) (hg:v.ownBlock=some g):base≤g∧g < w.heap.size:=by
 rcases h with ⟨rfl,_⟩|⟨g',cap,rfl,h1,h2,_⟩
 ·simp [Value.ownBlock] at hg
 ·simp [Value.ownBlock] at hg;subst hg;exact ⟨h1,h2⟩
theorem BR.below (h:BR w base v xs) (hb:Below w.heap.size w w1):BR w1 base v xs:=h.block hb.size fun g hg=>hb.block g (h.lt g hg).2
theorem BR.lower {b:Nat} (h:BR w base v xs) (hb:b≤base):BR w b v xs:=by
 rcases h with h|⟨g,cap,rfl,h1,h2⟩
 ·exact .inl h
 ·exact .inr ⟨g,cap,rfl,by omega,h2⟩
theorem BR.slice (h:BR w base v xs):∃ A c,v=.slice A xs.length c∧xs.length≤c:=by
 rcases h with ⟨rfl,rfl⟩|⟨g,cap,rfl,_,_,h3,_⟩
 ·exact ⟨none,0,rfl,Nat.le_refl _⟩
 ·exact ⟨_,cap,rfl,h3⟩
theorem BR.cells {A:Option Addr} {n c:Nat} (h:BR w base (.slice A n c) xs):n=xs.length∧xs.length≤c∧Cells w A (nums .u8 xs):=by
 rcases h with ⟨e,rfl⟩|⟨g,cap,e,_,_,h3,_,_,h6⟩
 ·injection e with e1 e2 e3
  subst e2
  exact ⟨rfl,Nat.zero_le _,fun h0=>absurd h0 (by simp [nums])⟩
 ·injection e with e1 e2 e3
  subst e1;subst e2;subst e3
  refine ⟨rfl,h3,fun _=>⟨_,rfl,fun j u hu=>?_⟩⟩
  rw [Addr.add_lit,Nat.zero_add];exact h6 j u hu
theorem BR.of_own {e:TypeId} (h:w.ownsRow base e 1 v xs.length (nums .u8 xs)):BR w base v xs:=by
 rcases h.2 with ⟨rfl,h0⟩|⟨g,cap,cur,hv,hb,hg,hcap,hmax,hsz,ht⟩
 ·exact .inl ⟨rfl,List.eq_nil_of_length_eq_zero h0⟩
 ·have hlt:g < w.heap.size:=by
   rcases Nat.lt_or_ge g w.heap.size with h'|h'
   ·exact h'
   ·rw [Array.getElem?_eq_none h'] at hg;cases hg
  refine .inr ⟨g,cap,hv,hb,hlt,hcap,hmax,fun j hj=>⟨?_,frozen_of_row _ _ _ _ _ hg⟩,fun j u hu=>?_⟩
  ·rw [cell_of_row _ _ _ _ _ _ hg,Array.getElem?_eq_getElem (by omega)];rfl
  ·rw [cell_of_row _ _ _ _ _ _ hg]
   rw [← ht,List.getElem?_take] at hu
   split at hu
   ·simpa using hu
   ·cases hu
end
theorem grown_setCells (b:Nat):∀ (vs:List Value) (o:Nat) (w:World),w.grownBy (w.setCells b o vs) (some b)
 | [],o,w=>World.grownBy.refl w _
 | v :: r,o,w=>(⟨rfl,rfl,rfl,by simp,fun k hk hne=>Below.heap_setCell w ⟨b,o,none⟩ v k (fun e=>hne (by rw [e]))⟩:w.grownBy (w.setCell ⟨b,o,none⟩ v) (some b)).trans (grown_setCells b r (o+1) _)
theorem size_setCells (b:Nat):∀ (vs:List Value) (o:Nat) (w:World),(w.setCells b o vs).heap.size=w.heap.size
 | [],o,w=>rfl
 | v :: r,o,w=>(size_setCells b r (o+1) _).trans (by simp)
section
variable {P:Program}
theorem br_grown (W:World) (base old:Nat) (e:TypeId) (xs ys:List Int) (hbase:base≤W.heap.size) (hl:xs.length+ys.length≤140737488355328) (row:Option Nat) :
 BR (W.drew.alloc (.cells ((nums .u8 xs).toArray ++ (nums .u8 ys).toArray ++ Builtin.zeroCells (Value.int .u8 0).cells (grownCap W (xs.length+ys.length) old e - (xs.length+ys.length))) e)) base (.slice (some ⟨W.heap.size,0,none⟩) (xs.length+ys.length) (grownCap W (xs.length+ys.length) old e)) (xs ++ ys) ∧
  W.grownBy (W.drew.alloc (.cells ((nums .u8 xs).toArray ++ (nums .u8 ys).toArray ++ Builtin.zeroCells (Value.int .u8 0).cells (grownCap W (xs.length+ys.length) old e - (xs.length+ys.length))) e)) row:=by
 have hge:=grownCap_ge W (xs.length+ys.length) old e
 have hcm:grownCap W (xs.length+ys.length) old e≤maxLen:=grownCap_le_maxLen W (xs.length+ys.length) old e (by unfold maxLen;omega)
 refine ⟨?_,⟨rfl,rfl,rfl,by simp,fun k hk _=>Below.heap_alloc W.drew _ k hk⟩⟩
 have hown:(W.drew.alloc (.cells ((nums .u8 xs).toArray ++ (nums .u8 ys).toArray ++ Builtin.zeroCells (Value.int .u8 0).cells (grownCap W (xs.length+ys.length) old e - (xs.length+ys.length))) e)).ownsRow base e 1 (.slice (some ⟨W.heap.size,0,none⟩) (xs.length+ys.length) (grownCap W (xs.length+ys.length) old e)) (xs ++ ys).length (nums .u8 (xs ++ ys)):=by
  refine ⟨by rw [nums_len,Nat.mul_one],.inr ⟨W.heap.size,_,_,by rw [List.length_append],hbase,heap_alloc_new W.drew _,by rw [List.length_append];exact hge,hcm,?_,?_⟩⟩
  ·have hz1:(Value.int IntKind.u8 0).cells.size=1:=rfl
   simp only [Array.size_append,List.size_toArray,size_zeroCells,hz1,nums_len]
   omega
  ·simp only [Array.toList_append]
   rw [← nums_app,Nat.mul_one]
   have e1:(xs ++ ys).length=(nums .u8 (xs ++ ys)).length:=(nums_len _ _).symm
   rw [e1]
   exact List.take_left
 exact BR.of_own hown
theorem br_room {W:World} {base g cap:Nat} {xs ys:List Int} (hbg:base≤g) (hgl:g < W.heap.size) (hroom:xs.length+ys.length≤cap) (hcm:cap≤maxLen) (hcell:∀ j,j < cap→(W.cell? ⟨g,j,none⟩).isSome=true∧W.frozen? ⟨g,j,none⟩=false) (hxs:∀ j u,(nums .u8 xs)[j]?=some u→W.cell? ⟨g,j,none⟩=some u) :
 (storeCells ⟨g,xs.length,none⟩ (nums .u8 ys) 0).run P W=.ok () (W.setCells g xs.length (nums .u8 ys))∧BR (W.setCells g xs.length (nums .u8 ys)) base (.slice (some ⟨g,0,none⟩) (xs.length+ys.length) cap) (xs ++ ys):=by
 have hst:=run_storeCells_cells (P:=P) g xs.length (nums .u8 ys) 0 W (fun j hj=>by rw [nums_len] at hj;rw [Nat.add_zero];exact (hcell _ (by omega)).1) (fun j hj=>by rw [nums_len] at hj;rw [Nat.add_zero];exact (hcell _ (by omega)).2) (nums_one _ _)
 rw [Nat.add_zero] at hst
 have hin:∀ j,j < (nums .u8 ys).length→(W.setCells g xs.length (nums .u8 ys)).cell? ⟨g,xs.length+j,none⟩=(nums .u8 ys)[j]?:=fun j hj=>by
  rw [World.cell?_setCells_in g _ _ _ (fun c hc=>by rw [nums_len] at hc;exact (hcell _ (by omega)).1) j hj,List.getElem?_eq_getElem hj]
 have hout:∀ j,j < xs.length ∨ xs.length+ys.length≤j→(W.setCells g xs.length (nums .u8 ys)).cell? ⟨g,j,none⟩=W.cell? ⟨g,j,none⟩:=fun j hj =>
  World.cell?_setCells_out g _ _ _ _ (fun _ _=>by rw [nums_len];exact hj)
 refine ⟨hst,.inr ⟨g,cap,by rw [List.length_append],hbg,by rw [size_setCells];exact hgl,by rw [List.length_append];exact hroom,hcm,fun j hj=>⟨?_,?_⟩,fun j u hu=>?_⟩⟩
 ·by_cases h:j < xs.length ∨ xs.length+ys.length≤j
  ·rw [hout j h];exact (hcell j hj).1
  ·have:=hin (j - xs.length) (by rw [nums_len];omega)
   rw [show xs.length+(j - xs.length)=j by omega] at this
   rw [this,List.getElem?_eq_getElem (by rw [nums_len];omega)];rfl
 ·rw [World.frozen?_setCells];exact (hcell j hj).2
 ·rw [nums_app] at hu
  have hjl:=(List.getElem?_eq_some_iff.1 hu).1
  rw [List.length_append,nums_len,nums_len] at hjl
  by_cases h:j < xs.length
  ·rw [List.getElem?_append_left (by rw [nums_len];exact h)] at hu
   rw [hout j (.inl h)];exact hxs j u hu
  ·rw [List.getElem?_append_right (by rw [nums_len];omega),nums_len] at hu
   have:=hin (j - xs.length) (by rw [nums_len];omega)
   rw [show xs.length+(j - xs.length)=j by omega] at this
   rw [this];exact hu
theorem strCells_nums (s:ByteArray):Lib.strCells s=nums .u8 (bytesOf s):=by simp [nums,bytesOf,Lib.strCells]
theorem bytesOf_len (s:ByteArray):(bytesOf s).length=s.size:=by simp [bytesOf]
theorem run_bapp_str (W:World) (base:Nat) (t u ty e:TypeId) (ht:P.underlying t=some (.slice e)) (hu:P.underlying u=some .string) (hinfo:(P.info? e).map (fun i=>(i.zero,i.size,i.bytes))=some (some (.int .u8 0),1,1))
 (v:Value) (xs:List Int) (s:ByteArray) (h:BR W base v xs) (hbase:base≤W.heap.size) (hl:xs.length+s.size≤140737488355328) :
 ∃ v1 w1,(Builtin.append_ #[t,u] ty #[v,.string s]).run P W=.ok v1 w1∧BR w1 base v1 (xs ++ bytesOf s)∧W.grownBy w1 v.ownBlock∧(v1.ownBlock=v.ownBlock ∨ ∃ b,v1.ownBlock=some b∧W.heap.size≤b):=by
 obtain ⟨i0,hi,hzz⟩:=Option.map_eq_some_iff.1 hinfo
 simp only [Prod.mk.injEq] at hzz
 obtain ⟨hz0,hz1,hz2⟩:=hzz
 have hsl:=bytesOf_len s
 rcases h with ⟨rfl,rfl⟩|⟨g,cap,rfl,hbg,hgl,hnc,hcm,hcell,hxs⟩
 ·simp only [List.length_nil,Nat.zero_add] at hl
  by_cases hm:s.size=0
  ·have hy:bytesOf s=[]:=List.eq_nil_of_length_eq_zero (by omega)
   refine ⟨.slice none 0 0,W,?_,by rw [hy];exact BR.nil W base,World.grownBy.refl W _,.inl rfl⟩
   have hf:=Lib.run_firstCells_string (P:=P) W 1 s
   rw [hm] at hf
   simp [Builtin.append_,run_underlying ht,run_underlying hu,sizeOf,typeInfo,hi,hz1,Builtin.lenOf,hm,hf]
  ·have hr:=run_append_nil_string (P:=P) W t u ty e i0 (.int .u8 0) ht hu hi hz0 s (by omega) (by omega) (by rw [hz2];omega)
   have hgr:=br_grown W base 0 e [] (bytesOf s) hbase (by simp;omega) (Value.ownBlock (.slice none 0 0))
   have e1:(s.data.map fun b=>Value.int .u8 b.toNat)=(nums .u8 (bytesOf s)).toArray:=by
    rw [← strCells_nums]
    apply Array.ext'
    simp [Lib.strCells]
   rw [e1] at hr
   simp only [List.length_nil,Nat.zero_add,nums,List.map_nil,List.nil_append,Array.empty_append,hsl] at hgr hr
   exact ⟨_,_,hr,hgr.1,hgr.2,.inr ⟨_,rfl,Nat.le_refl _⟩⟩
 ·by_cases hroom:xs.length+s.size≤cap
  ·obtain ⟨hst,hB⟩:=br_room (P:=P) (ys:=bytesOf s) hbg hgl (by omega) hcm hcell hxs
   have hf:=Lib.run_firstCells_string (P:=P) W 1 s
   rw [strCells_nums] at hf
   rw [hsl] at hB
   refine ⟨_,_,?_,hB,grown_setCells g _ _ W,.inl rfl⟩
   simp [Builtin.append_,run_underlying ht,run_underlying hu,sizeOf,typeInfo,hi,hz1,Builtin.lenOf,hroom,hf,Addr.add_lit,hst]
  ·have hr:=Lib.run_append_grow_string (P:=P) W t u ty e i0 (.int .u8 0) ht hu hi hz0 ⟨g,0,none⟩ xs.length cap (nums .u8 xs) (by rw [nums_len,hz1,Nat.mul_one]) (fun j v hv=>by rw [Addr.add_lit,Nat.zero_add];exact hxs j v hv) s (by omega) (by omega) (by rw [hz2];exact growslice_fits (by omega) (by omega))
   have hgr:=br_grown W base cap e xs (bytesOf s) hbase (by omega) (Value.ownBlock (.slice (some ⟨g,0,none⟩) xs.length cap))
   rw [strCells_nums] at hr
   rw [hsl] at hgr
   exact ⟨_,_,hr,hgr.1,hgr.2,.inr ⟨_,rfl,Nat.le_refl _⟩⟩
theorem run_bapp_row (W:World) (base:Nat) (t ty e:TypeId) (ht:P.underlying t=some (.slice e)) (hinfo:(P.info? e).map (fun i=>(i.zero,i.size,i.bytes))=some (some (.int .u8 0),1,1))
 (v:Value) (xs ys:List Int) (A:Option Addr) (c:Nat) (h:BR W base v xs) (hY:Cells W A (nums .u8 ys)) (hbase:base≤W.heap.size) (hl:xs.length+ys.length≤140737488355328) :
 ∃ v1 w1,(Builtin.append_ #[t,t] ty #[v,.slice A ys.length c]).run P W=.ok v1 w1∧BR w1 base v1 (xs ++ ys)∧W.grownBy w1 v.ownBlock∧(v1.ownBlock=v.ownBlock ∨ ∃ b,v1.ownBlock=some b∧W.heap.size≤b):=by
 rcases h with ⟨rfl,rfl⟩|⟨g,cap,rfl,hbg,hgl,hnc,hcm,hcell,hxs⟩
 ·obtain ⟨v1,w1,hr,h2,hg,hat⟩:=run_app (P:=P) W base t ty e (.int .u8 0) 1 ht hinfo rfl (by decide) (.slice none 0 0) [] (nums .u8 ys) A ys.length c (nums_len _ _) (World.ownsRow_nil W base e 1) hY (nums_one _ _) hbase (by simpa using hl)
  refine ⟨v1,w1,hr,BR.of_own (e:=e) ?_,hg,hat⟩
  simpa using h2
 ·obtain ⟨i0,hi,hzz⟩:=Option.map_eq_some_iff.1 hinfo
  simp only [Prod.mk.injEq] at hzz
  obtain ⟨hz0,hz1,hz2⟩:=hzz
  cases A with
  | none =>
   have hy:ys=[]:=by
    rcases List.eq_nil_or_concat ys with h|⟨l,x,h⟩
    ·exact h
    ·obtain ⟨ad,e,_⟩:=hY (by rw [nums_len,h];simp)
     cases e
   subst hy
   refine ⟨.slice (some ⟨g,0,none⟩) xs.length cap,W,?_,by rw [List.append_nil];exact .inr ⟨g,cap,rfl,hbg,hgl,hnc,hcm,hcell,hxs⟩,World.grownBy.refl W _,.inl rfl⟩
   simp [Builtin.append_,run_underlying ht,sizeOf,typeInfo,hi,Builtin.lenOf,Builtin.firstCells,hnc,storeCells]
  | some ad =>
   have hnews:∀ j u,(nums .u8 ys)[j]?=some u→W.cell? (ad.add j)=some u:=fun j u hu=>by
    have h0:=(List.getElem?_eq_some_iff.1 hu).1
    obtain ⟨ad',he,hc⟩:=hY (by omega)
    injection he with he;subst he
    exact hc j u hu
   by_cases hroom:xs.length+ys.length≤cap
   ·obtain ⟨hst,hB⟩:=br_room (P:=P) (ys:=ys) hbg hgl hroom hcm hcell hxs
    have hf:=run_firstCells_some (P:=P) W 1 ys.length ad ys.length c (nums .u8 ys) (by rw [nums_len,Nat.mul_one]) hnews
    refine ⟨_,_,?_,hB,grown_setCells g _ _ W,.inl rfl⟩
    simp [Builtin.append_,run_underlying ht,sizeOf,typeInfo,hi,hz1,Builtin.lenOf,hroom,hf,Addr.add_lit,hst]
   ·have hr:=run_append_grow (P:=P) W t ty e i0 (.int .u8 0) ht hi hz0 ⟨g,0,none⟩ xs.length cap (nums .u8 xs) (by rw [nums_len,hz1,Nat.mul_one]) (fun j v hv=>by rw [Addr.add_lit,Nat.zero_add];exact hxs j v hv) ad ys.length c (nums .u8 ys) (by rw [nums_len,hz1,Nat.mul_one]) hnews (by omega) (by omega) (by rw [hz2];exact growslice_fits (by omega) (by omega))
    have hgr:=br_grown W base cap e xs ys hbase hl (Value.ownBlock (.slice (some ⟨g,0,none⟩) xs.length cap))
    exact ⟨_,_,hr,hgr.1,hgr.2,.inr ⟨_,rfl,Nat.le_refl _⟩⟩
theorem br_conv (w:World) (e:TypeId) (s:ByteArray) (hs:s.size≤1000000):BR (Lib.bytesWorld w e s) w.heap.size (.slice (some ⟨w.heap.size,0,none⟩) s.size (grownCap w s.size 0 e)) (bytesOf s)∧Below w.heap.size w (Lib.bytesWorld w e s):=by
 have hge:=grownCap_ge w s.size 0 e
 have hcm:grownCap w s.size 0 e≤maxLen:=grownCap_le_maxLen w s.size 0 e (by unfold maxLen;omega)
 have hat:=Lib.bytesWorld_at_new w e s
 have hsz:(Lib.bytesCells w e s).size=grownCap w s.size 0 e:=by simp [Lib.bytesCells];omega
 refine ⟨.inr ⟨w.heap.size,grownCap w s.size 0 e,by rw [bytesOf_len],Nat.le_refl _,by rw [Lib.bytesWorld_size];omega,by rw [bytesOf_len];exact hge,hcm,fun j hj=>⟨?_,?_⟩,fun j u hu=>?_⟩,?_⟩
 ·rw [cell_of_row _ _ _ _ _ _ hat,Array.getElem?_eq_getElem (by omega)];rfl
 ·unfold World.frozen?
  rw [hat]
  simp;omega
 ·rw [cell_of_row _ _ _ _ _ _ hat]
  rw [← strCells_nums] at hu
  have hj:=(List.getElem?_eq_some_iff.1 hu).1
  rw [Lib.strCells_length] at hj
  unfold Lib.bytesCells
  rw [Array.getElem?_append_left (by simpa using hj)]
  simpa [Lib.strCells] using hu
 ·refine ⟨?_,?_,?_,by rw [Lib.bytesWorld_size];omega,fun k hk=>Lib.bytesWorld_at_old w e s k hk⟩
  ·unfold Lib.bytesWorld World.freeze;split <;> rfl
  ·unfold Lib.bytesWorld World.freeze;split <;> rfl
  ·unfold Lib.bytesWorld World.freeze;split <;> rfl
end
section
variable {P:Program} {ops:Array Oper} {rest:List Oper} {o:Oper} {a:Act} {Q:Exit→Act→World→Prop}
theorem wpl_bapp_str {w0 W:World} (base:Nat) (hgd:o.guard=none) (s x:Operand) (t u e:TypeId) (ho:o.op=.call { callee:=.builtin .append,args:=#[s,x],argTypes:=#[t,u] })
 (ht:P.underlying t=some (.slice e)) (hu:P.underlying u=some .string) (hinfo:(P.info? e).map (fun i=>(i.zero,i.size,i.bytes))=some (some (.int .u8 0),1,1))
 (v:Value) (xs:List Int) (y:ByteArray) (hs:a.eval s=v) (hx:a.eval x=.string y) (h:BR W base v xs) (HB:Below base w0 W) (hbase:base≤W.heap.size) (hl:xs.length+y.size≤140737488355328)
 (hK:∀ A1 c1 w1,BR w1 base (.slice A1 (xs ++ bytesOf y).length c1) (xs ++ bytesOf y)→Below base w0 w1→W.grownBy w1 v.ownBlock→((Value.slice A1 (xs ++ bytesOf y).length c1).ownBlock=v.ownBlock ∨ ∃ b,(Value.slice A1 (xs ++ bytesOf y).length c1).ownBlock=some b∧W.heap.size≤b)→wpList P ops Q rest (a.put o.dst (.slice A1 (xs ++ bytesOf y).length c1)) w1) :
 wpList P ops Q (o :: rest) a W:=by
 obtain ⟨v1,w1,hr,h2,hg,hat⟩:=run_bapp_str (P:=P) W base t u o.type e ht hu hinfo v xs y h hbase hl
 refine wpList_plain hgd fun K hK'=>?_
 unfold Oper.wp execOp
 simp only [ho,resolve,invoke,builtin,Sem.run_bind,Sem.run_pure,Result.andThen_ok,List.map_toArray,List.map_cons,List.map_nil,hs,hx,hr]
 obtain ⟨A1,c1,rfl,_⟩:=h2.slice
 exact hK' _ _ (hK A1 c1 w1 h2 (HB.grown hg hbase fun g hg'=>(h.lt g hg').1) hg hat)
theorem wpl_bapp_row {w0 W:World} (base:Nat) (hgd:o.guard=none) (s x:Operand) (t e:TypeId) (ho:o.op=.call { callee:=.builtin .append,args:=#[s,x],argTypes:=#[t,t] })
 (ht:P.underlying t=some (.slice e)) (hinfo:(P.info? e).map (fun i=>(i.zero,i.size,i.bytes))=some (some (.int .u8 0),1,1))
 (v:Value) (xs ys:List Int) (A:Option Addr) (n c:Nat) (hs:a.eval s=v) (hx:a.eval x=.slice A n c) (hn:n=ys.length) (h:BR W base v xs) (hY:Cells W A (nums .u8 ys)) (HB:Below base w0 W) (hbase:base≤W.heap.size) (hl:xs.length+ys.length≤140737488355328)
 (hK:∀ A1 c1 w1,BR w1 base (.slice A1 (xs ++ ys).length c1) (xs ++ ys)→Below base w0 w1→W.grownBy w1 v.ownBlock→((Value.slice A1 (xs ++ ys).length c1).ownBlock=v.ownBlock ∨ ∃ b,(Value.slice A1 (xs ++ ys).length c1).ownBlock=some b∧W.heap.size≤b)→wpList P ops Q rest (a.put o.dst (.slice A1 (xs ++ ys).length c1)) w1) :
 wpList P ops Q (o :: rest) a W:=by
 subst hn
 obtain ⟨v1,w1,hr,h2,hg,hat⟩:=run_bapp_row (P:=P) W base t o.type e ht hinfo v xs ys A c h hY hbase hl
 refine wpList_plain hgd fun K hK'=>?_
 unfold Oper.wp execOp
 simp only [ho,resolve,invoke,builtin,Sem.run_bind,Sem.run_pure,Result.andThen_ok,List.map_toArray,List.map_cons,List.map_nil,hs,hx,hr]
 obtain ⟨A1,c1,rfl,_⟩:=h2.slice
 exact hK' _ _ (hK A1 c1 w1 h2 (HB.grown hg hbase fun g hg'=>(h.lt g hg').1) hg hat)
end
end Go.Proofs.Ytlcioegdmopppaa
