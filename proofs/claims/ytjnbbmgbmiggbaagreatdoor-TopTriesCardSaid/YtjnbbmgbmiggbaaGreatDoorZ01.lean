/- For the tied card of TopTries (see the last text): at every input that lays the table the law answers true and leaves its arguments as they were. Texts Z01 .. are packed by program: short names, few spaces. -/
import Derived.WalkKit
import Derived.WalkSpells
import Derived.WalkLawsBesides
import Derived.Lib.Hide
import Derived.Maps.OwnOps
import Derived.Maps.AppendAt
import Derived.Test.YtjnbbmgbmiggbaaGreatDoorRows
import Derived.DeepKeys4
import Derived.Deep.QuietTactic
import Derived.BigQuiet
import Derived.Deep.RegionHeld3
import Derived.Deep.AppendLies
import Derived.StillTailTactics
import Derived.Deep.RegionLaw
import Derived.Lib.SliceRun
import Derived.Laws.StructEq
import Derived.ProofKit
import Derived.OpenShut
import Derived.ChangeOld
import Derived.SizedLaws
import Derived.Deep.Slices
set_option linter.unusedSimpArgs false
set_option linter.unusedVariables false
set_option maxRecDepth 20000
set_option maxHeartbeats 4000000
namespace Go.Proofs.YtjnbbmgbmiggbaaGreatDoor
open Go Go.RowKit Go.Maps Go.Proofs.Tryz
@[reducible] def J (n:Int):Value:=.int .i64 n
@[reducible] def Ju (n:Int):Value:=.int .u64 n
@[reducible] def At (w:World) (p j:Nat) (v:Value):Prop:=w.cell? ⟨p,j,none⟩=some v
theorem zd {p:Prop} (h:p):RowKit.Hid p:=h
@[reducible] def nS:Value:=.slice none 0 0
structure dE (S:List Nat) (w w':World):Prop where
 os:w'.os=w.os
 tape:w'.tape=w.tape
 output:w'.output=w.output
 size:w.heap.size≤w'.heap.size
 block:∀ k,k<w.heap.size→k∉S→w'.heap[k]? =w.heap[k]?
theorem dE.refl (S:List Nat) (w:World):dE S w w:=⟨rfl,rfl,rfl,Nat.le_refl _,fun _ _ _=>rfl⟩
theorem dE.mono {S S':List Nat} {a b:World} (h:dE S a b) (hs:∀ k,k∈S→k<a.heap.size→k∈S'):dE S' a b:=
 ⟨h.os,h.tape,h.output,h.size,fun k hk hn=>h.block k hk (fun hm=>hn (hs k hm hk))⟩
theorem dE.trans {S S':List Nat} {a b c:World} (h:dE S a b) (k:dE S' b c) (hs:∀ i,i∈S'→i∈S∨a.heap.size≤i):dE S a c:=
 ⟨k.os.trans h.os,k.tape.trans h.tape,k.output.trans h.output,Nat.le_trans h.size k.size,fun i hi hn=>
  (k.block i (Nat.lt_of_lt_of_le hi h.size) (fun hm=>(hs i hm).elim hn (fun h'=>by omega))).trans (h.block i hi hn)⟩
theorem dE.same {S:List Nat} {a b c:World} (h:dE S a b) (k:dE S b c):dE S a c:=h.trans k (fun _ hi=>.inl hi)
theorem dE.quiet {S:List Nat} {a b c:World} (h:dE S a b) (k:dE [] b c):dE S a c:=h.trans k (fun _ hi=>by cases hi)
theorem dE.alloc {S:List Nat} {a w:World} (h:dE S a w) (o:Obj):dE S a (w.alloc o):=
 h.quiet ⟨rfl,rfl,rfl,by simp,fun k hk _=>Below.heap_alloc _ _ _ hk⟩
theorem dE.drew {S:List Nat} {a w:World} (h:dE S a w):dE S a w.drew:=⟨h.os,h.tape,h.output,h.size,h.block⟩
theorem dE.drewN {S:List Nat} {a w:World} (h:dE S a w) (n:Nat):dE S a (w.drewN n):=⟨h.os,h.tape,h.output,h.size,h.block⟩
theorem dE.setCell {S:List Nat} {a w:World} (h:dE S a w) {p:Addr} (hp:p.block∈S∨a.heap.size≤p.block) (u:Value):dE S a (w.setCell p u):=
 h.trans (S':=[p.block]) ⟨rfl,rfl,rfl,by simp[World.setCell],fun k _ hn=>Below.heap_setCell _ _ _ _ (fun e=>hn (by simp[e]))⟩ (fun i hi=>by simp at hi;subst hi;exact hp)
theorem dE.grown {S:List Nat} {a w w':World} {row:Option Nat} (h:dE S a w) (hg:w.grownBy w' row) (hr:∀ k,row=some k→k∈S∨a.heap.size≤k):dE S a w':=
 h.trans (S':=row.toList) ⟨hg.os,hg.tape,hg.output,hg.size,fun k hk hn=>hg.block k hk (fun e=>hn (by cases row<;>simp_all))⟩ (fun i hi=>by cases row with|none=>simp at hi|some r=>simp at hi;subst hi;exact hr _ rfl)
theorem dE.below {S:List Nat} {a w:World} {B:Nat} (h:dE S a w) (hB:B≤a.heap.size) (hS:∀ k,k∈S→B≤k):Below B a w:=
 ⟨h.os,h.tape,h.output,h.size,fun k hk=>h.block k (by omega) (fun hm=>by have:=hS k hm;omega)⟩
theorem Below.iZ {S:List Nat} {a b c:World} {B:Nat} (h:Below B a b) (k:dE S b c) (hB:B≤b.heap.size) (hS:∀ i,i∈S→B≤i):Below B a c:=h.trans (k.below hB hS)
theorem dE.cell {S:List Nat} {a w:World} (h:dE S a w) {p:Addr} {v:Value} (hc:a.cell? p=some v) (hn:p.block∉S):w.cell? p=some v:=
 (World.cell?_of_block (h.block _ (World.block_lt_of_cell? a p hc) hn)).trans hc
def Own (fp fp':List Nat) (w:World):Prop:=∀ k,k∈fp'→k∈fp∨w.heap.size≤k
theorem Own.refl (fp:List Nat) (w:World):Own fp fp w:=fun _ h=>.inl h
theorem Own.trans {f g h:List Nat} {w w1:World} (a:Own f g w) (b:Own g h w1) (hs:w.heap.size≤w1.heap.size):Own f h w:=fun k hk=>(b k hk).elim (a k) (fun h=>.inr (by omega))
theorem Own.from {f g:List Nat} {w:World} {B:Nat} (a:Own f g w) (hB:B≤w.heap.size) (h:∀ k,k∈f→B≤k):∀ k,k∈g→B≤k:=fun k hk=>(a k hk).elim (h k) (fun h=>by omega)
theorem Own.apart {f g h:List Nat} {w:World} (a:Own f g w) (hd:∀ k,k∈f→k∉h) (hl:∀ k,k∈h→k<w.heap.size):∀ k,k∈g→k∉h:=fun k hk hm=>(a k hk).elim (fun x=>hd k x hm) (fun x=>by have:=hl k hm;omega)
def Row (w:World) (k:Nat) (vs:List Value) (t:TypeId):Prop:=w.heap[k]? =some (.cells vs.toArray t (0,0))
section
variable {w w':World} {k:Nat} {vs:List Value} {t:TypeId}
theorem Row.lt (h:Row w k vs t):k<w.heap.size:=(Array.getElem?_eq_some_iff.1 h).1
theorem Row.cell (h:Row w k vs t) {j:Nat} {v:Value} (hj:vs[j]? =some v):w.cell? ⟨k,j,none⟩=some v:=by
 unfold Row at h
 simp[World.cell?,h,hj]
theorem Row.free (h:Row w k vs t) (j:Nat):w.frozen? ⟨k,j,none⟩=false:=by
 unfold Row at h
 simp[World.frozen?,h]
theorem Row.new (w:World) (vs:List Value) (t:TypeId):Row (w.alloc (.cells vs.toArray t)) w.heap.size vs t:=heap_alloc_new w _
theorem Row.alloc (h:Row w k vs t) (o:Obj):Row (w.alloc o) k vs t:=(Below.heap_alloc _ _ _ h.lt).trans h
theorem Row.drew (h:Row w k vs t):Row w.drew k vs t:=h
theorem Row.iZ {S:List Nat} (h:Row w k vs t) (c:dE S w w') (hn:k∉S):Row w' k vs t:=(c.block k h.lt hn).trans h
theorem Row.set (h:Row w k vs t) (j:Nat) (v:Value):Row (w.setCell ⟨k,j,none⟩ v) k (vs.set j v) t:=by
 unfold Row at h ⊢
 simp[World.setCell,Array.getElem?_modify,h]
theorem Row.other (h:Row w k vs t) {a:Addr} (hne:k≠a.block) (v:Value):Row (w.setCell a v) k vs t:=(Below.heap_setCell _ _ _ _ hne).trans h
theorem Row.grown (h:Row w k vs t) {row:Option Nat} (hg:w.grownBy w' row) (hn:row≠some k):Row w' k vs t:=(hg.block k h.lt (fun e=>hn e.symm)).trans h
theorem Row.c2 {a b:Value} {l:List Value} (h:Row w k (a::b::l) t):w.cell? ⟨k,0,none⟩=some a∧w.cell? ⟨k,1,none⟩=some b:=⟨h.cell rfl,h.cell rfl⟩
theorem Row.c3 {a b c:Value} {l:List Value} (h:Row w k (a::b::c::l) t):w.cell? ⟨k,0,none⟩=some a∧w.cell? ⟨k,1,none⟩=some b∧w.cell? ⟨k,2,none⟩=some c:=⟨h.cell rfl,h.cell rfl,h.cell rfl⟩
theorem Row.c4 {a b c d:Value} {l:List Value} (h:Row w k (a::b::c::d::l) t):w.cell? ⟨k,0,none⟩=some a∧w.cell? ⟨k,1,none⟩=some b∧w.cell? ⟨k,2,none⟩=some c∧w.cell? ⟨k,3,none⟩=some d:=⟨h.cell rfl,h.cell rfl,h.cell rfl,h.cell rfl⟩
theorem Row.c5 {a b c d e:Value} {l:List Value} (h:Row w k (a::b::c::d::e::l) t):w.cell? ⟨k,0,none⟩=some a∧w.cell? ⟨k,1,none⟩=some b∧w.cell? ⟨k,2,none⟩=some c∧w.cell? ⟨k,3,none⟩=some d∧w.cell? ⟨k,4,none⟩=some e:=⟨h.cell rfl,h.cell rfl,h.cell rfl,h.cell rfl,h.cell rfl⟩
theorem Row.c6 {a b c d e f:Value} {l:List Value} (h:Row w k (a::b::c::d::e::f::l) t):w.cell? ⟨k,0,none⟩=some a∧w.cell? ⟨k,1,none⟩=some b∧w.cell? ⟨k,2,none⟩=some c∧w.cell? ⟨k,3,none⟩=some d∧w.cell? ⟨k,4,none⟩=some e∧w.cell? ⟨k,5,none⟩=some f:=⟨h.cell rfl,h.cell rfl,h.cell rfl,h.cell rfl,h.cell rfl,h.cell rfl⟩
theorem Row.cells3 {x0 x1 x2:Value} (h:Row w k [x0,x1,x2] t):w.cell? ⟨k,0,none⟩=some x0∧w.cell? ⟨k,1,none⟩=some x1∧w.cell? ⟨k,2,none⟩=some x2:=⟨h.cell rfl,h.cell rfl,h.cell rfl⟩
theorem Row.cells4 {x0 x1 x2 x3:Value} (h:Row w k [x0,x1,x2,x3] t):w.cell? ⟨k,0,none⟩=some x0∧w.cell? ⟨k,1,none⟩=some x1∧w.cell? ⟨k,2,none⟩=some x2∧w.cell? ⟨k,3,none⟩=some x3:=⟨h.cell rfl,h.cell rfl,h.cell rfl,h.cell rfl⟩
end
def dD (P:Program) (k:TypeId) (w:World) (b n:Nat) (f:Value→Option Value):Prop:=
 ∃ es clock,w.heap[b]? =some (.map es clock)∧es.size≤n∧(∀ e∈es.toList,∃ l,keyOf P k e.key=some l)∧es.toList.Pairwise (fun x y=>x.key≠y.key)∧
  (∀ e∈es.toList,f e.key=some e.val)∧∀ x v,f x=some v→∃ e∈es.toList,e.key=x∧e.val=v
section
variable {P:Program} {k:TypeId} {w w':World} {b n:Nat} {f:Value→Option Value}
theorem dD.lt (h:dD P k w b n f):b<w.heap.size:=by
 obtain⟨es,clock,hb,_⟩:=h
 exact(Array.getElem?_eq_some_iff.1 hb).1
theorem dD.made (P:Program) (k:TypeId) (w:World):dD P k (w.alloc (.map #[] 0)) w.heap.size 0 (fun _=>none):=
 ⟨#[],0,heap_alloc_new w _,by simp,by simp,by simp,by simp,by simp⟩
theorem dD.kept (h:dD P k w b n f) (hb:w'.heap[b]? =w.heap[b]?):dD P k w' b n f:=by
 obtain⟨es,clock,h1,h2⟩:=h
 exact⟨es,clock,hb.trans h1,h2⟩
theorem dD.iZ {S:List Nat} (h:dD P k w b n f) (c:dE S w w') (hn:b∉S):dD P k w' b n f:=h.kept (c.block b h.lt hn)
theorem dD.alloc (h:dD P k w b n f) (o:Obj):dD P k (w.alloc o) b n f:=h.kept (Below.heap_alloc _ _ _ h.lt)
theorem dD.drew (h:dD P k w b n f):dD P k w.drew b n f:=h
theorem dD.setCell (h:dD P k w b n f) {a:Addr} (hn:b≠a.block) (v:Value):dD P k (w.setCell a v) b n f:=h.kept (Below.heap_setCell _ _ _ _ hn)
theorem dD.grown (h:dD P k w b n f) {row:Option Nat} (hg:w.grownBy w' row) (hn:row≠some b):dD P k w' b n f:=h.kept (hg.block b h.lt (fun e=>hn e.symm))
theorem dD.not_row {vs:List Value} {t:TypeId} {j:Nat} (h:dD P k w b n f) (r:Row w j vs t):j≠b:=fun e=>by
 obtain⟨es,clock,h1,_⟩:=h;subst e;unfold Row at r;rw[r]at h1
 cases h1
theorem dD.mono (h:dD P k w b n f) {n':Nat} (hn:n≤n'):dD P k w b n' f:=by
 obtain⟨es,clock,h1,h2,h3⟩:=h
 exact⟨es,clock,h1,Nat.le_trans h2 hn,h3⟩
theorem dD.key (h:dD P k w b n f) {x v:Value} (hx:f x=some v):∃ l,keyOf P k x=some l:=by
 obtain⟨es,clock,_,_,h3,_,_,h6⟩:=h;obtain⟨e,he,rfl,_⟩:=h6 x v hx
 exact h3 e he
theorem dD.lookup {t e:TypeId} {z:Value} (h:dD P k w b n f) (K:Keyed P k) (ht:P.underlying t=some (.map k e)) (hz:(zeroValue e).run P w=.ok z w) {key:Value} {kl:Lit} (hkey:keyOf P k key=some kl):
  (Instr.lookup t (.map (some b)) key false).run P w=.ok ((f key).getD z) w:=by
 obtain⟨es,clock,hb,_,h3,_,h5,h6⟩:=h
 rcases K.find w hkey es.toList h3 with⟨h1,h2⟩|⟨j,e0,h1,h2,h3'⟩
 ·have hn:f key=none:=by
   cases hf:f key with
   |none=>rfl
   |some v=>
    obtain⟨e,he,hk,_⟩:=h6 key v hf
    exact absurd hk (h2 e he)
  simp[Instr.lookup,run_underlying ht,MapKept.run_getObj_map hb,K.check w _ hkey,h1,hz,hn,Result.andThen]
 ·have hs:f key=some e0.val:=by rw[←h3'];exact h5 e0 (List.mem_of_getElem? h2)
  simp[Instr.lookup,run_underlying ht,MapKept.run_getObj_map hb,K.check w _ hkey,h1,hs,Result.andThen]
theorem dD.update {t e:TypeId} (h:dD P k w b n f) (K:Keyed P k) (ht:P.underlying t=some (.map k e)) {key val:Value} {kl:Lit} (hkey:keyOf P k key=some kl):
  ∃ w',(Instr.mapUpdate t (.map (some b)) key val).run P w=.ok () w'∧dD P k w' b (n+1) (fun x=>open Classical in if x=key then some val else f x)∧dE [b] w w':=by
 classical
 obtain⟨es,clock,hb,hn,h3,h4,h5,h6⟩:=h;have hch:∀ o,dE [b] w (ChangeMaps.setBlock w b o):=fun o=>⟨rfl,rfl,rfl,by simp[ChangeMaps.setBlock],fun i _ hi=>ChangeMaps.heap_setBlock_other hb _ (fun e=>hi (by simp[e]))⟩
 rcases K.find w hkey es.toList h3 with⟨h1,h2⟩|⟨j,e0,h1,h2,h3'⟩
 ·refine⟨ChangeMaps.setBlock w b (.map (es.push ⟨key,val,clock⟩) (clock+1)),?_,⟨_,_,ChangeMaps.heap_setBlock_same hb _,by simp;omega,?_,?_,?_,?_⟩,hch _⟩
  ·simp[Instr.mapUpdate,run_underlying ht,MapKept.run_getObj_map hb,K.check w false hkey,h1,MapKept.run_setObj_map _ hb,Result.andThen,ChangeMaps.setBlock]
  ·intro x hx
   simp only[Array.toList_push,List.mem_append,List.mem_singleton]at hx
   rcases hx with hx|rfl
   ·exact h3 x hx
   ·exact⟨kl,hkey⟩
  ·simp only[Array.toList_push]
   refine List.pairwise_append.2 ⟨h4,by simp,?_⟩
   intro x hx y hy
   simp at hy
   subst hy
   exact h2 x hx
  ·intro x hx
   simp only[Array.toList_push,List.mem_append,List.mem_singleton]at hx
   rcases hx with hx|rfl
   ·exact(if_neg (h2 x hx)).trans (h5 x hx)
   ·exact if_pos rfl
  ·intro x v hx
   by_cases e:x=key
   ·subst e
    have hx:=(if_pos rfl).symm.trans hx
    exact⟨⟨x,val,clock⟩,by simp,rfl,by simpa using hx⟩
   ·have hx:=(if_neg e).symm.trans hx
    obtain⟨y,hy,r⟩:=h6 x v hx
    exact⟨y,by simp[hy],r⟩
 ·have hj:es[j]? =some e0:=by simpa using h2
  have hjl:j<es.toList.length:=(List.getElem?_eq_some_iff.1 h2).1;have hlist:(es.modify j (fun e'=>{ e' with key:=key,val:=val })).toList=es.toList.set j { e0 with key:=key,val:=val }:=by rw[Array.toList_modify,ChangeMaps.modify_eq_set _ _ _ _ h2]
  have hel:es.toList[j]=e0:=(List.getElem?_eq_some_iff.1 h2).2;have hpw:=List.pairwise_iff_getElem.1 h4;refine⟨ChangeMaps.setBlock w b (.map (es.modify j (fun e'=>{ e' with key:=key,val:=val })) clock),?_,⟨_,_,ChangeMaps.heap_setBlock_same hb _,by simp;omega,?_,?_,?_,?_⟩,hch _⟩
  ·simp[Instr.mapUpdate,run_underlying ht,MapKept.run_getObj_map hb,K.check w false hkey,h1,hj,h3',K.stays w hkey,MapKept.run_setObj_map _ hb,Result.andThen,ChangeMaps.setBlock]
  ·intro x hx
   rw[hlist]at hx
   rcases List.mem_or_eq_of_mem_set hx with hx|rfl
   ·exact h3 x hx
   ·exact⟨kl,hkey⟩
  ·rw[hlist,List.pairwise_iff_getElem]
   intro i i' hi hi' hlt
   simp only[List.length_set]at hi hi';rw[List.getElem_set,List.getElem_set]
   split
   ·rename_i e1
    subst e1;rw[if_neg (by omega)]
    have:=hpw j i' hjl hi' hlt
    rw[hel,h3']at this
    exact this
   ·split
    ·rename_i e1 e2
     subst e2
     have:=hpw i j hi hjl hlt
     rw[hel,h3']at this
     exact this
    ·exact hpw i i' hi hi' hlt
  ·intro x hx
   rw[hlist]at hx;obtain⟨i,hi,ex⟩:=List.getElem_of_mem hx;rw[List.getElem_set]at ex
   split at ex
   ·subst ex;exact if_pos rfl
   ·rename_i hne
    have hi':i<es.toList.length:=by simpa using hi
    have hm:x∈es.toList:=by rw[←ex];exact List.getElem_mem hi'
    have hk:x.key≠key:=by
     rcases Nat.lt_or_gt_of_ne hne with hlt|hlt
     ·have:=hpw j i hjl hi' hlt
      rw[hel,h3',ex]at this
      exact fun e=>this e.symm
     ·have:=hpw i j hi' hjl hlt
      rw[hel,h3',ex]at this
      exact this
    exact(if_neg hk).trans (h5 x hm)
  ·intro x v hx
   by_cases e:x=key
   ·subst e
    have hx:=(if_pos rfl).symm.trans hx
    exact⟨{ e0 with key:=x,val:=val },by rw[hlist];exact List.mem_iff_getElem.2 ⟨j,by simpa using hjl,by simp⟩,rfl,by simpa using hx⟩
   ·have hx:=(if_neg e).symm.trans hx
    obtain⟨y,hy,hyk,hyv⟩:=h6 x v hx;obtain⟨i,hi,ey⟩:=List.getElem_of_mem hy;have hne:j≠i:=fun e'=>by
     subst e';rw[hel]at ey;subst ey
     exact e (hyk.symm.trans h3')
    exact⟨y,by rw[hlist];exact List.mem_iff_getElem.2 ⟨i,by simpa using hi,by rw[List.getElem_set,if_neg hne];exact ey⟩,hyk,hyv⟩
end
theorem jV {P:Program} (w:World) {ops:Array Oper} {rest:List Oper} {o:Oper} {a:Act} {Q:Exit→Act→World→Prop}
  (hg:o.guard=none) (m x v:Operand) (t:TypeId) (hop:o.op=Op.mapUpdate t m x v)
  (k e:TypeId) (K:Keyed P k) (ht:P.underlying t=some (.map k e)) (b n:Nat) (f:Value→Option Value)
  (hm:a.eval m=.map (some b)) (hown:dD P k w b n f) (key val:Value) (kl:Lit) (hx:a.eval x=key) (hv:a.eval v=val) (hkey:keyOf P k key=some kl)
  (hK:∀ w',dD P k w' b (n+1) (fun x=>open Classical in if x=key then some val else f x)→dE [b] w w'→wpList P ops Q rest (a.put o.dst undef) w'):
  wpList P ops Q (o::rest) a w:=by
 refine wpList_plain hg fun K' hK'=>?_
 obtain⟨w',hrun,r1,r2⟩:=hown.update (val:=val) K ht hkey;unfold Oper.wp
 simp[execOp,hop,hm,hx,hv,hrun,Result.andThen]
 exact hK' _ _ (hK w' r1 r2)
theorem gY {w w':World} {S:List Nat} {base:Nat} {e:TypeId} {size:Nat} {v:Value} {n:Nat} {xs:List Value} (h:w.ownsRow base e size v n xs) (c:dE S w w') (hn:∀ k,v.ownBlock=some k→k∉S):w'.ownsRow base e size v n xs:=by
 refine⟨h.1,?_⟩
 rcases h.2 with hn'|⟨g,cap,cur,rfl,hb,hgg,rest⟩
 ·exact .inl hn'
 ·exact .inr ⟨g,cap,cur,rfl,hb,(c.block g (Array.getElem?_eq_some_iff.1 hgg).1 (hn g rfl)).trans hgg,rest⟩
theorem dw {w:World} {base:Nat} {e:TypeId} {size:Nat} {v:Value} {n:Nat} {xs:List Value} (h:w.ownsRow base e size v n xs) {g:Nat} (hg:v.ownBlock=some g) {j:Nat} {u:Value} (hu:xs[j]? =some u):w.cell? ⟨g,j,none⟩=some u:=by
 have:=h.cells hg j u hu
 have e:(⟨g,0,none⟩:Addr).add j=⟨g,j,none⟩:=by unfold Addr.add;split<;>simp_all
 rwa [e]at this
theorem ownsRow_form {w:World} {base:Nat} {e:TypeId} {size:Nat} {v:Value} {n:Nat} {xs:List Value} (h:w.ownsRow base e size v n xs):(v=nS∧n=0)∨∃ g cap,v=.slice (some ⟨g,0,none⟩) n cap∧g<w.heap.size∧n≤cap∧cap≤maxLen:=by
 rcases h.2 with h1|⟨g,cap,cur,hv,_,hgg,hc,hm,_⟩
 ·exact .inl h1
 ·exact .inr ⟨g,cap,hv,(Array.getElem?_eq_some_iff.1 hgg).1,hc,hm⟩
theorem mG {w:World} {base:Nat} {e t:TypeId} {size:Nat} {v:Value} {n k:Nat} {xs vs:List Value} (h:w.ownsRow base e size v n xs) (r:Row w k vs t) (ht:t≠e):v.ownBlock≠some k:=by
 intro hk
 rcases h.2 with⟨rfl,_⟩|⟨g,cap,cur,rfl,_,hgg,_⟩
 ·simp[Value.ownBlock]at hk
 ·simp[Value.ownBlock]at hk
  subst hk;unfold Row at r;rw[r]at hgg
  simp at hgg
  exact ht hgg.2
theorem kH {P:Program} {w:World} {base:Nat} {e q:TypeId} {size:Nat} {v:Value} {n b nn:Nat} {f:Value→Option Value} {xs:List Value} (h:w.ownsRow base e size v n xs) (m:dD P q w b nn f):v.ownBlock≠some b:=by
 intro hk
 obtain⟨es,clock,h1,_⟩:=m
 rcases h.2 with⟨rfl,_⟩|⟨g,cap,cur,rfl,_,hgg,_⟩
 ·simp[Value.ownBlock]at hk
 ·simp[Value.ownBlock]at hk
  subst hk;rw[h1]at hgg
  cases hgg
theorem ag {α:Type} (l:List α) (i:Nat) (h:i<l.toArray.size):l.toArray[i]=l[i]'(List.size_toArray▸h):=rfl
theorem ah {α:Type} (a:α) (l:List α) (i:Nat) (h:i+1<(a::l).length):(a::l)[i+1]=l[i]'(by simpa using h):=rfl
theorem aj {α:Type} (a:α) (l:List α) (h:0<(a::l).length):(a::l)[0]=a:=rfl
theorem aF {α:Type} (l:List α) (i:Nat) (a:α):l.toArray.setIfInBounds i a=(l.set i a).toArray:=List.setIfInBounds_toArray l i a
theorem aB {α:Type} (x:α) (l:List α) (a:α):(x::l).set 0 a=a::l:=rfl
theorem aC {α:Type} (x:α) (l:List α) (n:Nat) (a:α):(x::l).set (n+1) a=x::l.set n a:=rfl
open Go Go.Proofs.Tryz
@[reducible] def O8 (sh sl wk wi:Int) (un:Nat):Value:=.agg #[J sh,J sl,J wk,J wi,Ju un]
structure TL (sh sl wk wd un:Nat):Prop where
 sh1:1≤sh
 sh4:sh≤4
 sl1:1≤sl
 sl4:sl≤4
 wk1:1≤wk
 wk6:wk≤6
 wd:wd≤40
 un1:1≤un
 un2:un≤4611686018427387904
open Go Go.RowKit Go.Maps Go.Proofs.Tryz
structure Lc where
 k:Int
 a:Int
 b:Int
 deriving DecidableEq
def I64 (n:Int):Prop:= -9223372036854775808≤n∧n≤9223372036854775807
def dC (n:Int):Prop:=0≤n∧n≤18446744073709551615
def Lc.wf (l:Lc):Prop:=I64 l.k∧I64 l.a∧I64 l.b
def Lc.cells (l:Lc):List Value:=[J l.k,J l.a,J l.b]
@[reducible] def Lc.val (l:Lc):Value:=.agg #[J l.k,J l.a,J l.b]
structure Ev where
 who:Int
 kind:Int
 loc:Lc
 deriving DecidableEq
def Ev.cells (e:Ev):List Value:=[J e.who,J e.kind,J e.loc.k,J e.loc.a,J e.loc.b]
structure MS where
 log:List Ev
 num:Lc→Int
def evs (l:List Ev):List Value:=l.flatMap Ev.cells
theorem Iz (l:List Ev):(evs l).length=l.length*5:=by
 unfold evs
 induction l with
 |nil=>rfl
 |cons e l ih=>simp[Ev.cells,ih];omega
theorem GV (l:List Ev) (e:Ev):evs (l++[e])=evs l++e.cells:=by simp[evs]
theorem laidOut:laidOutB prog=true:=by kernel_rfl
theorem Um:(40:TypeId)<prog.types.size:=of_decide_eq_true (by kernel_rfl)
theorem Tf:(match prog.underlying 40 with|some (.array _ _)|some (.struct _)=>true|_=>false)=true:=by rw[underlying40]
theorem zl:prog.cellsOf 40=3:=by kernel_rfl
theorem Ff:prog.cellsOf 3=1:=by kernel_rfl
theorem Ui:prog.keyType 40=true:=by kernel_rfl
theorem Np:∃ n,prog.types.size+1=n+2:=by
 have h:decide (1≤prog.types.size)=true:=by kernel_rfl
 have:=of_decide_eq_true h
 exact⟨prog.types.size - 1,by omega⟩
theorem IK:Keyed prog 40:=Keyed.of_law (deep_law_laid laidOut (m:=2) (by omega) Um (by kernel_rfl) Tf)
theorem zeroCell (w:World):(zeroValue 267).run prog w=.ok (.agg #[Ju 0]) w:=by kernel_rfl
theorem BB {n:Int} (h:I64 n):(Lit.int .i64 n).wf=true:=WalkArith.wf_i64 h
theorem vW {l:Lc} (h:l.wf):∃ x,keyOf prog 40 l.val=some x:=by
 have f:l.val.formed prog 40=true:=by simp[Value.formed,underlying40,zl]
 have e:∀ n,prog.keyLits (n+2) 40 l.val.cells.toList=some [.int .i64 l.k,.int .i64 l.a,.int .i64 l.b]:=by
  intro n
  simp[Program.keyLits,Value.cells,underlying40,underlying3,zl,Ff,BB h.1,BB h.2.1,BB h.2.2]
 obtain⟨n,hn⟩:=Np;refine⟨.string (keyBytes [.int .i64 l.k,.int .i64 l.a,.int .i64 l.b]),?_⟩;unfold keyOf;rw[underlying40,hn,e]
 simp[Ui,f]
@[go_sem] theorem UB (a:Int) (w:World):(Instr.field 267 (.agg #[Ju a]) 0).run prog w=.ok (Ju a) w:=by kernel_rfl
theorem vS (x y:Lc) (w:World):(Op.equalIn 10000 40 (.agg #[J x.k,J x.a,J x.b]) (.agg #[J y.k,J y.a,J y.b])).run prog w=.ok (decide (x=y)) w:=by
 have e:decide (x=y)=(x.k==y.k&&(x.a==y.a&&x.b==y.b)):=by
  rw[Bool.eq_iff_iff]
  cases x;cases y
  simp
 rw[e]
 simp[go_sem]
 cases h1:x.k==y.k<;>cases h2:x.a==y.a<;>cases h3:x.b==y.b<;>simp_all
theorem uB {x y:Lc} (h:x≠y) (w:World):(Op.equalIn 10000 40 (.agg #[J x.k,J x.a,J x.b]) (.agg #[J y.k,J y.a,J y.b])).run prog w=.ok false w:=by
 rw[vS,decide_eq_false h]
def intOne:List Value→Int
 | [.int .u64 a]=>a
 |_=>0
def numOf:Option Value→Int
 |some (.agg a)=>intOne a.toList
 |_=>0
def gZ (w:World) (p:Nat) (fp:List Nat) (σ:MS):Prop:=
 ∃ mb v n f,Row w p [.map (some mb),v] 102∧dD prog 40 w mb n f∧(∀ x y,f x=some y→∃ a,y=.agg #[Ju a]∧dC a)∧(∀ l:Lc,l.wf→numOf (f l.val)=σ.num l)∧
  w.ownsRow 0 42 5 v σ.log.length (evs σ.log)∧fp=p::mb::v.ownBlock.toList
section
variable {w w':World} {p:Nat} {fp:List Nat} {σ:MS}
theorem gZ.lt (h:gZ w p fp σ):∀ k,k∈fp→k<w.heap.size:=by
 obtain⟨mb,v,n,f,h1,h2,_,_,h5,rfl⟩:=h
 intro k hk
 simp only[List.mem_cons,Option.mem_toList]at hk
 rcases hk with rfl|rfl|hk
 ·exact h1.lt
 ·exact h2.lt
 ·exact(h5.lt k hk).2
theorem gZ.head (h:gZ w p fp σ):p∈fp:=by
 obtain⟨mb,v,n,f,h1,h2,_,_,h5,rfl⟩:=h
 simp
theorem gZ.iZ {S:List Nat} (h:gZ w p fp σ) (c:dE S w w') (hn:∀ k,k∈fp→k∉S):gZ w' p fp σ:=by
 obtain⟨mb,v,n,f,h1,h2,h3,h4,h5,rfl⟩:=h
 exact⟨mb,v,n,f,h1.iZ c (hn p (by simp)),h2.iZ c (hn mb (by simp)),h3,h4,gY h5 c (fun k hk=>hn k (by simp[hk])),rfl⟩
theorem gZ.alloc (h:gZ w p fp σ) (o:Obj):gZ (w.alloc o) p fp σ:=h.iZ (S:=[]) ((dE.refl _ _).alloc o) (by simp)
end
set_option maxHeartbeats 400000 in
theorem qI {w:World} {p:Nat} {fp:List Nat} {σ:MS} (h:gZ w p fp σ) (l:Lc) (hl:l.wf):
  Calls prog 192 #[.pointer (some ⟨p,0,none⟩),l.val] w fun e w'=>e=.returned (Ju (σ.num l))∧dE [] w w':=by
 obtain⟨mb,v,n,f,h1,h2,h3,h4,h5,_⟩:=h;obtain⟨x,hx⟩:=vW hl;have e1:((f l.val).getD (.agg #[Ju 0]))=.agg #[Ju (σ.num l)]:=by
  rw[←h4 l hl]
  cases hf:f l.val with
  |none=>rfl
  |some y=>
   obtain⟨a,rfl,_⟩:=h3 _ _ hf
   rfl
 have hrun:∀ k,(Instr.lookup 100 (.map (some mb)) (.agg #[J l.k,J l.a,J l.b]) false).run prog ((w.alloc (.cells #[J l.k,J l.a,J l.b] 40)).drewN k)=.ok (.agg #[Ju (σ.num l)]) ((w.alloc (.cells #[J l.k,J l.a,J l.b] 40)).drewN k):=fun k=>by
  have hm:dD prog 40 ((w.alloc (.cells #[J l.k,J l.a,J l.b] 40)).drewN k) mb n f:=(h2.alloc _).kept rfl
  have:=hm.lookup (t:=100) IK underlying100 (zeroCell _) hx
  rw[e1]at this
  exact this
 have c0:At w p 0 (.map (some mb)):=h1.cell rfl;have lp:=h1.lt;clear h1 h2 h3 h4 h5 e1 hx hl;unfold Lc.val
 go_enter func192,ntmps192
 go_wp2
 go_quiet (fail)
 go_wp2
 go_ret
 exact⟨rfl,((dE.refl _ _).alloc _).drewN _⟩
def Left (w:World) (p:Nat) (fp:List Nat) (σ:MS) (w':World):Prop:=∃ fp',gZ w' p fp' σ∧dE fp w w'∧Own fp fp' w
def MS.put (σ:MS) (who kind:Int) (l:Lc):MS:=⟨σ.log++[⟨who,kind,l⟩],σ.num⟩
theorem Aw:(prog.info? 42).map (fun i=>(i.zero,i.size,i.bytes))=some (some (.agg #[J 0,J 0,J 0,J 0,J 0]),5,40):=by kernel_rfl
theorem zI {w:World} {k:Nat} (h:w.heap.size=k) (o:Obj):(w.alloc o).drew.heap[k]? =some o:=by subst h;exact heap_alloc_new w o
theorem Left.qf {w:World} {p:Nat} {fp:List Nat} {σ:MS} {o:Obj} {w':World} (h:Left (w.alloc o) p fp σ w'):Left w p fp σ w':=by
 obtain⟨fp',h1,h2,h3⟩:=h;refine⟨fp',h1,((dE.refl fp w).alloc o).same h2,fun k hk=>?_⟩
 rcases h3 k hk with h|h
 ·exact .inl h
 ·right;simp at h;omega
theorem OH {w W w1:World} {p mb n gg cap:Nat} {v:Value} {f:Value→Option Value} {σ:MS} {fp:List Nat} {who kind:Int} {l:Lc} (hW:dE [] w W)
  (h1:Row w p [.map (some mb),v] 102) (h2:dD prog 40 w mb n f) (h3:∀ x y,f x=some y→∃ a,y=.agg #[Ju a]∧dC a) (h4:∀ l:Lc,l.wf→numOf (f l.val)=σ.num l)
  (h5:w.ownsRow 0 42 5 v σ.log.length (evs σ.log)) (hfp:fp=p::mb::v.ownBlock.toList) (hgrow:W.grownBy w1 v.ownBlock)
  (hown:w1.ownsRow 0 42 5 (.slice (some ⟨gg,0,none⟩) (σ.log.length+1) cap) (σ.log.length+1) (evs σ.log++[J who,J kind,J l.k,J l.a,J l.b]))
  (hat:v.ownBlock=some gg∨gg=W.heap.size):Left w p fp (σ.put who kind l) (w1.setCell ⟨p,1,none⟩ (.slice (some ⟨gg,0,none⟩) (σ.log.length+1) cap)):=by
 have np:v.ownBlock≠some p:=mG h5 h1 (by decide);have nm:v.ownBlock≠some mb:=kH h5 h2;have nmp:p≠mb:=h2.not_row h1;have r1:Row w1 p [.map (some mb),v] 102:=(h1.iZ hW (by simp)).grown hgrow np;have m1:dD prog 40 w1 mb n f:=(h2.iZ hW (by simp)).grown hgrow nm;have ng:gg≠p:=fun e=>by
  have:=mG hown r1 (by decide)
  exact this (by simp[Value.ownBlock,e])
 have c1:dE fp w w1:=((dE.refl fp w).quiet hW).grown hgrow (fun k hk=>.inl (by rw[hfp];simp[hk]));refine⟨p::mb::[gg],⟨mb,_,n,f,r1.set 1 _,m1.setCell (Ne.symm nmp) _,h3,h4,?_,rfl⟩,c1.setCell (.inl (by rw[hfp];simp)) _,?_⟩
 ·have e:(σ.put who kind l).log.length=σ.log.length+1:=by simp[MS.put]
  have e2:evs (σ.put who kind l).log=evs σ.log++[J who,J kind,J l.k,J l.a,J l.b]:=by simp[MS.put,GV,Ev.cells]
  rw[e,e2]
  exact gY hown ((dE.refl [p] w1).setCell (.inl (by simp)) _) (fun k hk=>by simp[Value.ownBlock]at hk;subst hk;simpa using ng)
 ·intro k hk
  simp at hk
  rw[hfp]
  rcases hk with rfl|rfl|rfl
  ·simp
  ·simp
  ·rcases hat with h|h
   ·simp[h]
   ·right;rw[h];exact hW.size
set_option maxHeartbeats 1000000 in
theorem note_any {w:World} {p:Nat} {fp:List Nat} {σ:MS} (h:gZ w p fp σ) (who kind:Int) (l:Lc) (hn:σ.log.length≤1000000):
  Calls prog 174 #[.pointer (some ⟨p,0,none⟩),J who,J kind,l.val] w fun e w'=>e=.returned (.tuple #[])∧Left w p fp (σ.put who kind l) w':=by
 obtain⟨mb,v,n,f,h1,h2,h3,h4,h5,hfp⟩:=h;obtain⟨i0,hi,hz0,hz1,hz2⟩:=info_parts Aw;have c0:At w p 1 v:=h1.cell rfl;have lp:=h1.lt;have np:v.ownBlock≠some p:=mG h5 h1 (by decide);have nm:v.ownBlock≠some mb:=kH h5 h2;have nmp:p≠mb:=h2.not_row h1;have lv:=h5.lt;have r2:∀ o1 o2,Row ((w.alloc o1).alloc o2).drew p [.map (some mb),v] 102:=fun o1 o2=>((h1.alloc o1).alloc o2).drew
 have fin:=fun W w1 gg cap=>OH (W:=W) (w1:=w1) (gg:=gg) (cap:=cap) (who:=who) (kind:=kind) (l:=l) (hfp:=hfp) (h1:=h1) (h2:=h2) (h3:=h3) (h4:=h4) (h5:=h5)
 have R2:=zd r2;have Fin:=zd fin;have Hnp:=zd np;clear h1 h2 h3 h4 hfp np lv nm nmp r2 fin;unfold Lc.val
 go_enter func174,ntmps174
 go_wp2
 go_region_law
  ((refine step_append_lies _ (by rfl) _ _ _ (by rfl) 0 42 i0 _ 5 40 underlying37 hi hz0 hz1 hz2 rfl (by omega) v σ.log.length (evs σ.log) (by rfl) ((h5.alloc _).alloc _).drew ⟨w.heap.size+1,0,none⟩ 1 1 [J who,J kind,J l.k,J l.a,J l.b] (by rfl) (by rfl) (World.news_of_block (cs:=#[J who,J kind,J l.k,J l.a,J l.b]) (t:=42) (fr:=(0,0)) (zI (by simp) _)) (by simp[Value.oneCell']) (by omega) (by unfold maxLen;omega) (by omega) (by omega) (w.heap.size+2) (by simp) ?_;intro gg cap w1 hown1 hgrow hat hlt;have r1:=(R2.out _ _).grown hgrow Hnp.out;have hc1:=r1.cell (j:=1) rfl;have hf1:=r1.free 1;have Hown:=zd hown1;have Hg:=zd hgrow;have Hat:=zd hat;clear r1 hown1 hgrow hat))
 all_goals (go_wp2;go_end0;exact⟨rfl,Fin.out _ _ _ _ ((((dE.refl _ _).alloc _).alloc _).drew) Hg.out Hown.out (by simpa using Hat.out)⟩)
def MS.set (σ:MS) (l:Lc) (v:Int):MS:=⟨σ.log,fun x=>if x=l then v else σ.num x⟩
section
variable {w w' w'':World} {p:Nat} {fp:List Nat} {σ σ':MS}
theorem Left.quiet (h:Left w p fp σ w') (c:dE [] w' w''):Left w p fp σ w'':=by
 obtain⟨fp',h1,h2,h3⟩:=h
 exact⟨fp',h1.iZ c (by simp),h2.quiet c,h3⟩
theorem gZ.drew (h:gZ w p fp σ):gZ w.drew p fp σ:=h.iZ (S:=[]) (dE.refl _ _).drew (by simp)
theorem Own.up {f g:List Nat} {w w1:World} (h:Own f g w1) (hs:w.heap.size≤w1.heap.size):Own f g w:=fun k hk=>(h k hk).imp id (fun h=>Nat.le_trans hs h)
theorem Left.chain {fp2:List Nat} (c:dE fp w w') (o:Own fp fp2 w) (h:Left w' p fp2 σ w''):Left w p fp σ w'':=by
 obtain⟨fp',h1,h2,h3⟩:=h
 exact⟨fp',h1,c.trans h2 o,o.trans h3 c.size⟩
theorem Left.refl (h:gZ w p fp σ):Left w p fp σ w:=⟨fp,h,dE.refl _ _,Own.refl _ _⟩
theorem Left.row (h:Left w p fp σ w') {k:Nat} {vs:List Value} {t:TypeId} (r:Row w k vs t) (hk:k∉fp):Row w' k vs t:=by
 obtain⟨fp',h1,h2,h3⟩:=h
 exact r.iZ h2 hk
theorem gZ.new (h:gZ w p fp σ):w.heap.size∉fp:=fun hk=>by have:=h.lt _ hk;omega
end
theorem yH {w w2 w3:World} {p mb n:Nat} {v:Value} {f:Value→Option Value} {σ:MS} {fp:List Nat} {l:Lc} {x:Int} (hl:l.wf) (hx:dC x)
  (h1:Row w2 p [.map (some mb),v] 102) (h3:∀ x y,f x=some y→∃ a,y=.agg #[Ju a]∧dC a) (h4:∀ l:Lc,l.wf→numOf (f l.val)=σ.num l)
  (h5:w2.ownsRow 0 42 5 v σ.log.length (evs σ.log)) (hfp:fp=p::mb::v.ownBlock.toList) (hc:dE fp w w2) (hmb:mb∈fp)
  (h2:dD prog 40 w2 mb n f) (m3:dD prog 40 w3 mb (n+1) (fun y=>open Classical in if y=l.val then some (.agg #[Ju x])else f y)) (c3:dE [mb] w2 w3):Left w p fp (σ.set l x) w3:=by
 have np:=h2.not_row h1;have no:=kH h5 h2;refine⟨fp,⟨mb,v,n+1,_,h1.iZ c3 (by simpa using np),m3,?_,?_,gY h5 c3 (fun k hk=>?_),hfp⟩,hc.trans c3 (fun i hi=>.inl (by simp at hi;subst hi;exact hmb)),Own.refl _ _⟩
 ·intro y z hz
  by_cases e:y=l.val
  ·have hz:=(if_pos e).symm.trans hz
   exact⟨x,by simpa using hz.symm,hx⟩
  ·have hz:=(if_neg e).symm.trans hz
   exact h3 y z hz
 ·intro q hq
  unfold MS.set
  by_cases e:q=l
  ·subst e
   simp[numOf,intOne]
  ·have ne:q.val≠l.val:=fun h=>e (by cases q;cases l;simp[Lc.val]at h;simp[h])
   rw[if_neg ne];simp only[];rw[if_neg e]
   exact h4 q hq
 ·intro hm
  simp at hm
  subst hm
  exact no hk
set_option maxHeartbeats 400000 in
theorem zq {w:World} {p:Nat} {fp:List Nat} {σ:MS} (h:gZ w p fp σ) (who:Int) (l:Lc) (hl:l.wf) (x:Int) (hx:dC x) (hn:σ.log.length≤1000000):
  Calls prog 193 #[.pointer (some ⟨p,0,none⟩),J who,l.val,Ju x] w fun e w'=>e=.returned (Ju (σ.num l))∧Left w p fp ((σ.put who 3 l).set l x) w':=by
 have hnew:=h.new;have hlt:=h.lt;have rb:=Row.new w [J l.k,J l.a,J l.b] 40;have H:=zd h;have Hnew:=zd hnew;have Hlt:=zd hlt;have Rb:=zd rb;clear h hnew hlt rb;unfold Lc.val
 go_enter func193,ntmps193
 go_wp2_with fail
 refine(qI (H.out.alloc _) l hl).mono ?_
 rintro e w1 ⟨rfl,hc⟩
 have r1:=Rb.out.iZ hc (by simp);have h1:=(H.out.alloc (.cells #[J l.k,J l.a,J l.b] 40)).iZ hc (by simp);obtain⟨d0,d1,d2⟩:=r1.c3;have H1:=zd h1;have R1:=zd r1;have C1:=zd hc;clear h1 r1 hc
 go_wp2_with fail
 refine(note_any H1.out who 3 l hn).mono ?_
 rintro e w2 ⟨rfl,hL⟩
 have r2:=hL.row R1.out Hnew.out;obtain⟨e0,e1,e2⟩:=r2.c3;clear d0 d1 d2;obtain⟨fp2,⟨mb,v,n,f,k1,k2,k3,k4,k5,k6⟩,k7,k8⟩:=hL;have c0:At w2 p 0 (.map (some mb)):=k1.cell rfl;have K1:=zd k1;have K3:=zd k3;have K4:=zd k4;have K5:=zd k5;have K6:=zd k6;have K7:=zd k7;have K8:=zd k8;have R2:=zd r2;clear k1 k3 k4 k5 k6 k7 k8 r2;obtain⟨y,hy⟩:=vW hl
 go_wp2_with fail
 go_still_tail 7,(by kernel_rfl)
 change wpList _ _ _ _ _ w2.drew;refine jV _ rfl _ _ _ 100 rfl 40 267 IK underlying100 mb n f rfl (k2.drew) _ _ y rfl rfl hy ?_
 intro w3 m3 c3
 go_wp2
 go_ret
 refine⟨rfl,?_⟩;have fin:=yH (w:=w2) (w2:=w2.drew) hl hx K1.out.drew K3.out K4.out K5.out.drew K6.out (dE.refl _ w2).drew (by rw[K6.out];simp) k2.drew m3 c3
 exact Left.chain ((((dE.refl fp w).alloc _).quiet C1.out).same K7.out) (K8.out.up (by have:=C1.out.size;simp at this;omega)) fin
set_option maxHeartbeats 400000 in
theorem PG {w:World} {p:Nat} {fp:List Nat} {σ:MS} (h:gZ w p fp σ) (who:Int) (l:Lc) (hl:l.wf) (hn:σ.log.length≤1000000):
  Calls prog 184 #[.pointer (some ⟨p,0,none⟩),J who,l.val] w fun e w'=>e=.returned (Ju (σ.num l))∧Left w p fp (σ.put who 1 l) w':=by
 have hnew:=h.new;have rb:=Row.new w [J l.k,J l.a,J l.b] 40;have H:=zd h;have Hnew:=zd hnew;have Rb:=zd rb;clear h hnew rb;unfold Lc.val
 go_enter func184,ntmps184
 go_wp2_with fail
 refine(note_any (H.out.alloc _) who 1 l hn).mono ?_
 rintro e w1 ⟨rfl,hL⟩
 have r1:=hL.row Rb.out Hnew.out;obtain⟨e0,e1,e2⟩:=r1.c3;clear r1;obtain⟨fp1,k1,k2,k3⟩:=hL;have K1:=zd k1;have K2:=zd k2;have K3:=zd k3;clear k1 k2 k3
 go_wp2_with fail
 refine(qI K1.out l hl).mono ?_
 rintro e w2 ⟨rfl,hc⟩
 have C2:=zd hc;clear hc
 go_wp2
 go_ret
 exact⟨rfl,Left.quiet (Left.qf ⟨fp1,K1.out,K2.out,K3.out⟩) C2.out⟩
set_option maxHeartbeats 400000 in
theorem OB {w:World} {p:Nat} {fp:List Nat} {σ:MS} (h:gZ w p fp σ) (who:Int) (l:Lc) (hl:l.wf) (x:Int) (hx:dC x) (hn:σ.log.length≤1000000):
  Calls prog 175 #[.pointer (some ⟨p,0,none⟩),J who,l.val,Ju x] w fun e w'=>e=.returned (.tuple #[])∧Left w p fp ((σ.put who 2 l).set l x) w':=by
 have hnew:=h.new;have rb:=Row.new w [J l.k,J l.a,J l.b] 40;have H:=zd h;have Hnew:=zd hnew;have Rb:=zd rb;clear h hnew rb;unfold Lc.val
 go_enter func175,ntmps175
 go_wp2_with fail
 refine(note_any (H.out.alloc _) who 2 l hn).mono ?_
 rintro e w2 ⟨rfl,hL⟩
 have r2:=hL.row Rb.out Hnew.out;obtain⟨e0,e1,e2⟩:=r2.c3;obtain⟨fp2,⟨mb,v,n,f,k1,k2,k3,k4,k5,k6⟩,k7,k8⟩:=hL;have c0:At w2 p 0 (.map (some mb)):=k1.cell rfl;have K1:=zd k1;have K3:=zd k3;have K4:=zd k4;have K5:=zd k5;have K6:=zd k6;have K7:=zd k7;have K8:=zd k8;have R2:=zd r2;clear k1 k3 k4 k5 k6 k7 k8 r2;obtain⟨y,hy⟩:=vW hl
 go_wp2_with fail
 go_still_tail 7,(by kernel_rfl)
 change wpList _ _ _ _ _ w2.drew;refine jV _ rfl _ _ _ 100 rfl 40 267 IK underlying100 mb n f rfl (k2.drew) _ _ y rfl rfl hy ?_
 intro w3 m3 c3
 go_wp2
 go_end0
 refine⟨rfl,?_⟩;have fin:=yH (w:=w2) (w2:=w2.drew) hl hx K1.out.drew K3.out K4.out K5.out.drew K6.out (dE.refl _ w2).drew (by rw[K6.out];simp) k2.drew m3 c3
 exact Left.chain (((dE.refl fp w).alloc _).same K7.out) (K8.out.up (by simp)) fin
set_option maxHeartbeats 400000 in
theorem take_any {w:World} {p:Nat} {fp:List Nat} {σ:MS} (h:gZ w p fp σ) (who:Int) (l:Lc) (hl:l.wf) (x:Int) (hx:dC x) (hn:σ.log.length≤1000000):
  Calls prog 270 #[.pointer (some ⟨p,0,none⟩),J who,l.val,Ju x] w fun e w'=>e=.returned (Ju (σ.num l))∧Left w p fp ((σ.put who 3 l).set l x) w':=by
 have hlt:=h.lt;have H:=zd h;have Hlt:=zd hlt;clear h hlt;unfold Lc.val
 go_enter func270,ntmps270
 go_wp2_with fail
 refine(zq (H.out.alloc _) who l hl x hx hn).mono ?_
 rintro e w2 ⟨rfl,hL⟩
 have L:=zd hL;clear hL
 go_wp2
 go_ret
 exact⟨rfl,Left.qf L.out⟩
theorem xN (n:Int):dC (IntKind.u64.wrap n):=by
 rw[IntKind.wrap_u64];unfold dC
 omega
set_option maxHeartbeats 1000000 in
theorem add_any {w:World} {p:Nat} {fp:List Nat} {σ:MS} (h:gZ w p fp σ) (who:Int) (l:Lc) (hl:l.wf) (x:Int) (hx:dC x) (hn:σ.log.length≤1000000):
  Calls prog 252 #[.pointer (some ⟨p,0,none⟩),J who,l.val,Ju x] w fun e w'=>e=.returned (Ju (σ.num l))∧Left w p fp ((σ.put who 3 l).set l (IntKind.u64.wrap (σ.num l+x))) w':=by
 have hnew:=h.new;have hlt:=h.lt;have rb:=Row.new w [J l.k,J l.a,J l.b] 40;have H:=zd h;have Hnew:=zd hnew;have Hlt:=zd hlt;have Rb:=zd rb;have hu:=xN (σ.num l+x);have Hu:=zd hu;clear h hnew hlt rb hu;unfold Lc.val
 go_enter func252,ntmps252
 go_wp2_with fail
 go_region_held3 (fun w'=>w'.cell? ⟨w.heap.size,0,none⟩=some (J l.k)∧w'.cell? ⟨w.heap.size,1,none⟩=some (J l.a)∧w'.cell? ⟨w.heap.size,2,none⟩=some (J l.b))
  (go_keep)
  (first
   |(go_at_call 192
     refine(qI (H.out.alloc _).drew l hl).mono ?_
     rintro e w1 ⟨rfl,hc⟩
     have d0:=(Rb.out.drew.iZ hc (by simp)).cell (j:=0) rfl;have d1:=(Rb.out.drew.iZ hc (by simp)).cell (j:=1) rfl;have d2:=(Rb.out.drew.iZ hc (by simp)).cell (j:=2) rfl;have C1:=zd hc
     clear hc)
   |(go_at_call 193
     refine(zq ((H.out.alloc _).drew.iZ C1.out (by simp)) who l hl _ Hu.out hn).mono ?_
     rintro e w2 ⟨rfl,hL⟩
     have r2:=hL.row (Rb.out.drew.iZ C1.out (by simp)) Hnew.out;have d3:=r2.cell (j:=0) rfl;have d4:=r2.cell (j:=1) rfl;have d5:=r2.cell (j:=2) rfl;have L:=zd hL
     clear hL r2))
 go_wp2
 go_ret
 exact⟨rfl,Left.chain ((((dE.refl fp w).alloc _).drew).quiet C1.out) (Own.refl _ _) L.out⟩
def MS.swap (σ:MS) (who:Int) (l:Lc) (was now:Int):MS:=if σ.num l=was then(σ.put who 3 l).set l now else σ.put who 4 l
set_option maxHeartbeats 400000 in
theorem TN {w:World} {p:Nat} {fp:List Nat} {σ:MS} (h:gZ w p fp σ) (who:Int) (l:Lc) (hl:l.wf) (was now:Int) (hne:(σ.num l != was)=true) (hn:σ.log.length≤1000000):
  Calls prog 168 #[.pointer (some ⟨p,0,none⟩),J who,l.val,Ju was,Ju now] w fun e w'=>e=.returned (.bool false)∧Left w p fp (σ.put who 4 l) w':=by
 have rb:=Row.new w [J l.k,J l.a,J l.b] 40;have H:=zd h;have Rb:=zd rb;clear h rb;unfold Lc.val
 go_enter func168,ntmps168
 go_wp2_with fail
 refine(qI (H.out.alloc _) l hl).mono ?_
 rintro e w1 ⟨rfl,hc⟩
 have r1:=Rb.out.iZ hc (by simp);obtain⟨e0,e1,e2⟩:=r1.c3;have C1:=zd hc;clear r1 hc
 go_wp2_with fail
 refine(note_any ((H.out.alloc _).iZ C1.out (by simp)) who 4 l hn).mono ?_
 rintro e w2 ⟨rfl,hL⟩
 have L:=zd hL;clear hL
 go_wp2
 go_ret
 exact⟨rfl,Left.chain (((dE.refl fp w).alloc _).quiet C1.out) (Own.refl _ _) L.out⟩
set_option maxHeartbeats 400000 in
theorem QD {w:World} {p:Nat} {fp:List Nat} {σ:MS} (h:gZ w p fp σ) (who:Int) (l:Lc) (hl:l.wf) (now:Int) (hx:dC now) (hn:σ.log.length≤1000000):
  Calls prog 168 #[.pointer (some ⟨p,0,none⟩),J who,l.val,Ju (σ.num l),Ju now] w fun e w'=>e=.returned (.bool true)∧Left w p fp ((σ.put who 3 l).set l now) w':=by
 have rb:=Row.new w [J l.k,J l.a,J l.b] 40;have H:=zd h;have Rb:=zd rb;clear h rb;unfold Lc.val
 go_enter func168,ntmps168
 go_wp2_with fail
 refine(qI (H.out.alloc _) l hl).mono ?_
 rintro e w1 ⟨rfl,hc⟩
 have r1:=Rb.out.iZ hc (by simp);obtain⟨e0,e1,e2⟩:=r1.c3;have C1:=zd hc;clear r1 hc
 go_wp2_with fail
 refine(zq ((H.out.alloc _).iZ C1.out (by simp)) who l hl now hx hn).mono ?_
 rintro e w2 ⟨rfl,hL⟩
 have L:=zd hL;clear hL
 go_wp2
 go_ret
 exact⟨rfl,Left.chain (((dE.refl fp w).alloc _).quiet C1.out) (Own.refl _ _) L.out⟩
theorem swap_any {w:World} {p:Nat} {fp:List Nat} {σ:MS} (h:gZ w p fp σ) (who:Int) (l:Lc) (hl:l.wf) (was now:Int) (hx:dC now) (hn:σ.log.length≤1000000):
  Calls prog 168 #[.pointer (some ⟨p,0,none⟩),J who,l.val,Ju was,Ju now] w fun e w'=>e=.returned (.bool (decide (σ.num l=was)))∧Left w p fp (σ.swap who l was now) w':=by
 unfold MS.swap
 by_cases e:σ.num l=was
 ·subst e
  simp only[if_true,decide_true]
  exact QD h who l hl now hx hn
 ·simp only[if_neg e,decide_eq_false e]
  exact TN h who l hl was now (by simpa using e) hn
set_option maxHeartbeats 400000 in
theorem Rw {w:World} {p:Nat} {fp:List Nat} {σ:MS} (h:gZ w p fp σ) (who:Int) (l:Lc) (hn:σ.log.length≤1000000):
  Calls prog 187 #[.pointer (some ⟨p,0,none⟩),J who,l.val] w fun e w'=>e=.returned (.tuple #[])∧Left w p fp (σ.put who 5 l) w':=by
 have H:=zd h;clear h;unfold Lc.val
 go_enter func187,ntmps187
 go_wp2_with fail
 refine(note_any (H.out.alloc _) who 5 l hn).mono ?_
 rintro e w1 ⟨rfl,hL⟩
 have L:=zd hL;clear hL
 go_wp2
 go_end0
 exact⟨rfl,Left.qf L.out⟩
set_option maxHeartbeats 400000 in
theorem write_any {w:World} {p:Nat} {fp:List Nat} {σ:MS} (h:gZ w p fp σ) (who:Int) (l:Lc) (hn:σ.log.length≤1000000):
  Calls prog 141 #[.pointer (some ⟨p,0,none⟩),J who,l.val] w fun e w'=>e=.returned (.tuple #[])∧Left w p fp (σ.put who 6 l) w':=by
 have H:=zd h;clear h;unfold Lc.val
 go_enter func141,ntmps141
 go_wp2_with fail
 refine(note_any (H.out.alloc _) who 6 l hn).mono ?_
 rintro e w1 ⟨rfl,hL⟩
 have L:=zd hL;clear hL
 go_wp2
 go_end0
 exact⟨rfl,Left.qf L.out⟩
def MS.zero:MS:=⟨[],fun _=>0⟩
def Made (w:World) (p:Nat) (w':World):Prop:=gZ w' p [p,w.heap.size] MS.zero∧w'.heap.size=w.heap.size+2∧p=w.heap.size+1∧dE [] w w'
theorem new_any (w:World):Calls prog 33 #[] w fun e w'=>e=.returned (.pointer (some ⟨w.heap.size+1,0,none⟩))∧Made w (w.heap.size+1) w':=by
 have hmm:= @run_makeMap prog
 go_enter func33,ntmps33
 go_wp2
 go_ret
 refine⟨rfl,⟨w.heap.size,nS,0,fun _=>none,?_,(dD.made _ _ w).alloc _,by simp,fun _ _=>rfl,World.ownsRow_nil _ _ _ _,by simp[Value.ownBlock]⟩,by simp,rfl,((dE.refl _ _).alloc _).alloc _⟩
 have:=Row.new (w.alloc (.map #[] 0)) [.map (some w.heap.size),nS] 102
 simpa using this
@[reducible] def Ev.val (e:Ev):Value:=.agg #[J e.who,J e.kind,J e.loc.k,J e.loc.a,J e.loc.b]
def pR (w:World) (v:Value) (L:List Ev):Prop:=
 (v=nS∧L=[])∨∃ g off c,v=.slice (some ⟨g,off,none⟩) L.length c∧∀ j u,(evs L)[j]? =some u→w.cell? ⟨g,off+j,none⟩=some u
theorem DC {a b:Bool} (h:a=b):Ending.returned (.bool a)=.returned (.bool b):=by rw[h]
theorem jg {k:IntKind} {a b:Int} (h:a=b):Ending.returned (.int k a)=.returned (.int k b):=by rw[h]
theorem SG (L:List Ev):∀ (k:Nat) (e:Ev),L[k]? =some e→∀ j u,e.cells[j]? =some u→(evs L)[5*k+j]? =some u:=by
 induction L with
 |nil=>intro k e h;simp at h
 |cons x L ih=>
  intro k e h j u hu
  have hj:j<5:=by
   have:=(List.getElem?_eq_some_iff.1 hu).1
   simpa [Ev.cells]using this
  cases k with
  |zero=>
   simp at h
   subst h
   have:evs (x::L)=x.cells++evs L:=by simp[evs]
   rw[this,List.getElem?_append_left (by simpa [Ev.cells]using hj)]
   simpa using hu
  |succ k=>
   have e1:evs (x::L)=x.cells++evs L:=by simp[evs]
   rw[e1,List.getElem?_append_right (by simp[Ev.cells];omega)]
   have:=ih k e (by simpa using h) j u hu
   rw[show 5*(k+1)+j - x.cells.length=5*k+j by simp[Ev.cells];omega]
   exact this
theorem o9 {w:World} {g o k:Nat} {L:List Ev} {x:Ev} (hc:∀ j u,(evs L)[j]? =some u→w.cell? ⟨g,o+j,none⟩=some u) (hx:L[k]? =some x):
  At w g (o+k*5) (J x.who)∧At w g (o+k*5+1) (J x.kind)∧At w g (o+k*5+2) (J x.loc.k)∧
  At w g (o+k*5+3) (J x.loc.a)∧At w g (o+k*5+4) (J x.loc.b):=by
 have h:=fun j u hu=>hc _ u (SG L k x hx j u hu)
 have e:∀ j,o+(5*k+j)=o+k*5+j:=fun j=>by omega
 simp only[e]at h
 exact⟨h 0 _ rfl,h 1 _ rfl,h 2 _ rfl,h 3 _ rfl,h 4 _ rfl⟩
theorem pR.jk {w:World} {v:Value} {L:List Ev} (h:w.ownsRow 0 42 5 v L.length (evs L)):pR w v L:=by
 rcases ownsRow_form h with⟨rfl,h0⟩|⟨g,cap,rfl,_⟩
 ·exact .inl ⟨rfl,List.eq_nil_of_length_eq_zero h0⟩
 ·exact .inr ⟨g,0,cap,rfl,fun j u hu=>by simpa using dw h rfl hu⟩
def yM (w:World) (t:TypeId) (size n:Nat) (xs:List Value) (e:Ending) (w':World):Prop:=
 ∃ v,e=.returned v∧w'.ownsRow 0 t size v n xs∧dE [] w w'∧∀ k,v.ownBlock=some k→w.heap.size≤k
set_option maxHeartbeats 400000 in
theorem Fa {w:World} {v:Value} {n:Nat} {xs:List Value} (h:w.ownsRow 0 42 5 v n xs) (h1:∀ u∈xs,u.oneCell'=true) (hn:n≤1000000):
  Calls prog 30 #[v] w (yM w 42 5 n xs):=by
 obtain⟨i0,hi,hz0,hz1,hz2⟩:=info_parts Aw
 rcases ownsRow_form h with⟨rfl,rfl⟩|⟨g,cap,rfl,hg,hc,hm⟩
 ·have e0:=fun w=>Lib.run_eql_slice_nil (P:=prog) w 37 42 none 0 0 0 0 underlying37
  have H:=zd h;clear h
  go_enter func30,ntmps30
  go_wp2
  go_ret
  exact⟨_,rfl,H.out,dE.refl _ _,fun k hk=>by simp[Value.ownBlock]at hk⟩
 ·have e0:=fun w=>Lib.run_eql_slice_nil (P:=prog) w 37 42 (some ⟨g,0,none⟩) n cap 0 0 underlying37
  have hl:=h.1;have hcell:∀ j u,xs[j]? =some u→(w.alloc (.cells #[] 42)).cell? ((⟨g,0,none⟩:Addr).add j)=some u:=(h.alloc _).cells rfl;have hown:(w.alloc (.cells #[] 42)).ownsRow 0 42 5 (.slice (some ⟨w.heap.size,0,none⟩) 0 0) 0 []:=World.ownsRow_made w #[] 0 (by omega) (by unfold maxLen;omega) (by simp);have H:=zd h;have Hl:=zd hl;have Hcell:=zd hcell;have H1:=zd h1;have Hown:=zd hown;clear h hl hcell h1 hown
  go_enter func30,ntmps30
  go_wp2_with (at_builtin;go_must (refine wpList_append_own_at _ rfl (.tmp 5) (.tmp 6) 37 rfl 0 42 i0 _ 5 40 underlying37 hi hz0 hz1 hz2 rfl (by decide) (.slice (some ⟨w.heap.size,0,none⟩) 0 0) 0 [] rfl Hown.out ⟨g,0,none⟩ n cap xs rfl Hl.out Hcell.out H1.out (by unfold maxLen;omega) (by omega) (by omega) ?_);intro v' w1 hown' hgrow hnil hat)
  go_ret
  refine⟨v',rfl,by simpa using hown',((dE.refl _ _).alloc _).grown hgrow (fun k hk=>?_),fun k hk=>?_⟩
  ·simp[Value.ownBlock]at hk;subst hk;exact .inr (Nat.le_refl _)
  ·rcases hat with h|h
   ·rw[h]at hk;simp[Value.ownBlock]at hk;omega
   ·rw[h]at hk;simp at hk;omega
theorem Sv (L:List Ev):∀ u∈evs L,u.oneCell'=true:=by
 intro u hu
 unfold evs at hu;obtain⟨e,_,he⟩:=List.mem_flatMap.1 hu
 simp[Ev.cells]at he
 rcases he with rfl|rfl|rfl|rfl|rfl<;>rfl
set_option maxHeartbeats 400000 in
theorem GK {w:World} {p:Nat} {fp:List Nat} {σ:MS} (h:gZ w p fp σ) (hn:σ.log.length≤1000000):
  Calls prog 21 #[.pointer (some ⟨p,0,none⟩)] w (yM w 42 5 σ.log.length (evs σ.log)):=by
 obtain⟨mb,v,n,f,h1,h2,h3,h4,h5,_⟩:=h;have c0:At w p 1 v:=h1.cell rfl;have H5:=zd h5;clear h1 h2 h3 h4 h5
 go_enter func21,ntmps21
 go_wp2_with fail
 refine(Fa H5.out (Sv _) hn).mono ?_
 intro e w1 hc
 obtain⟨v',he,k1,k2,k3⟩:=hc;subst he;have K1:=zd k1;have K2:=zd k2;have K3:=zd k3;clear k1 k2 k3
 go_wp2
 go_ret
 exact⟨v',rfl,K1.out,K2.out,K3.out⟩
structure HA where
 holds:World→List Nat→Prop
 lt:∀ {w:World} {fp:List Nat},holds w fp→∀ k,k∈fp→k<w.heap.size
 iZ:∀ {w w':World} {S fp:List Nat},holds w fp→dE S w w'→(∀ k,k∈fp→k∉S)→holds w' fp
def After (A:HA) (w:World) (fp:List Nat) (w':World):Prop:=∃ fp',A.holds w' fp'∧dE fp w w'∧Own fp fp' w
def Apart (f g:List Nat):Prop:=∀ k,k∈f→k∉g
def star (A B:HA):HA where
 holds w fp:=∃ f g,A.holds w f∧B.holds w g∧Apart f g∧fp=f++g
 lt:=by
  rintro w fp ⟨f,g,ha,hb,_,rfl⟩ k hk
  rcases List.mem_append.1 hk with h|h
  ·exact A.lt ha k h
  ·exact B.lt hb k h
 iZ:=by
  rintro w w' S fp ⟨f,g,ha,hb,hd,rfl⟩ c hn
  exact⟨f,g,A.iZ ha c (fun k hk=>hn k (by simp[hk])),B.iZ hb c (fun k hk=>hn k (by simp[hk])),hd,rfl⟩
def emp:HA where
 holds _ fp:=fp=[]
 lt:=by rintro w fp rfl k hk;cases hk
 iZ:=by rintro w w' S fp rfl _ _;rfl
def aG:List HA→HA
 | []=>emp
 |A::As=>star A (aG As)
def box (k:Nat) (vs:List Value) (t:TypeId):HA where
 holds w fp:=Row w k vs t∧fp=[k]
 lt:=by rintro w fp ⟨h,rfl⟩ k hk;simp at hk;subst hk;exact h.lt
 iZ:=by rintro w w' S fp ⟨h,rfl⟩ c hn;exact⟨h.iZ c (hn _ (by simp)),rfl⟩
def aU (v:Value) (t:TypeId) (size n:Nat) (xs:List Value):HA where
 holds w fp:=w.ownsRow 0 t size v n xs∧fp=v.ownBlock.toList
 lt:=by rintro w fp ⟨h,rfl⟩ k hk;exact(h.lt k (by simpa using hk)).2
 iZ:=by rintro w w' S fp ⟨h,rfl⟩ c hn;exact⟨gY h c (fun k hk=>hn k (by simp[hk])),rfl⟩
def fact (P:Prop):HA where
 holds _ fp:=P∧fp=[]
 lt:=by rintro w fp ⟨_,rfl⟩ k hk;cases hk
 iZ:=by rintro w w' S fp h _ _;exact h
section
variable {w w' w0 w1:World} {S fp:List Nat} {A A' B:HA} {As As' Bs:List HA}
theorem jL (h:(aG (As++Bs)).holds w fp):∃ f g,(aG As).holds w f∧(aG Bs).holds w g∧Apart f g∧(∀ k,k∈fp↔k∈f∨k∈g):=by
 induction As generalizing fp with
 |nil=>exact⟨[],fp,rfl,h,(fun k hk=>by cases hk),by simp⟩
 |cons A As ih=>
  obtain⟨f,g,ha,hb,hd,rfl⟩:=h;obtain⟨f1,g1,h1,h2,h3,h4⟩:=ih hb;refine⟨f++f1,g1,⟨f,f1,ha,h1,fun k hk hm=>hd k hk ((h4 k).2 (.inl hm)),rfl⟩,h2,fun k hk hm=>?_,fun k=>by simp[h4,or_assoc]⟩
  rcases List.mem_append.1 hk with h|h
  ·exact hd k h ((h4 k).2 (.inr hm))
  ·exact h3 k h hm
theorem nR {f g:List Nat} (h1:(aG As).holds w f) (h2:(aG Bs).holds w g) (hd:Apart f g):∃ fp,(aG (As++Bs)).holds w fp∧∀ k,k∈fp↔k∈f∨k∈g:=by
 induction As generalizing f with
 |nil=>cases (show f=[]from h1);exact⟨g,h2,by simp⟩
 |cons A As ih=>
  obtain⟨f0,f1,ha,hb,hd',rfl⟩:=h1;obtain⟨fp,h3,h4⟩:=ih hb (fun k hk=>hd k (by simp[hk]));refine⟨f0++fp,⟨f0,fp,ha,h3,fun k hk hm=>?_,rfl⟩,fun k=>by simp[h4,or_assoc]⟩
  rcases(h4 k).1 hm with h|h
  ·exact hd' k hk h
  ·exact hd k (by simp[hk]) h
def Scope (S:List Nat) (w0 w:World) (As:List HA):Prop:=dE S w0 w∧∃ fp,(aG As).holds w fp∧∀ k,k∈fp→k∈S∨w0.heap.size≤k
theorem Scope.start (h:(aG As).holds w fp):Scope fp w w As:=⟨dE.refl _ _,fp,h,fun _ h=>.inl h⟩
theorem Scope.empty (w:World):Scope [] w w []:=⟨dE.refl _ _,[],rfl,fun _ h=>by cases h⟩
theorem Scope.after (h:Scope fp w0 w As):After (aG As) w0 fp w:=by
 obtain⟨c,f,h1,h2⟩:=h
 exact⟨f,h1,c,h2⟩
theorem Scope.size (h:Scope S w0 w As):w0.heap.size≤w.heap.size:=h.1.size
theorem Scope.drew (h:Scope S w0 w As):Scope S w0 w.drew As:=by
 obtain⟨c,f,h1,h2⟩:=h
 exact⟨c.drew,f,(aG As).iZ h1 (dE.refl [] w).drew (by simp),h2⟩
theorem Scope.quiet (h:Scope S w0 w As) (c':dE [] w w'):Scope S w0 w' As:=by
 obtain⟨c,f,h1,h2⟩:=h
 exact⟨c.quiet c',f,(aG As).iZ h1 c' (by simp),h2⟩
theorem Scope.alloc (h:Scope S w0 w As) (o:Obj):Scope S w0 (w.alloc o) As:=h.quiet ((dE.refl _ _).alloc o)
theorem Scope.drop (h:Scope S w0 w (As++Bs)):Scope S w0 w As:=by
 obtain⟨c,f,h1,h2⟩:=h;obtain⟨f1,g1,a1,_,_,a4⟩:=jL h1
 exact⟨c,f1,a1,fun k hk=>h2 k ((a4 k).2 (.inl hk))⟩
theorem Scope.drop_left (h:Scope S w0 w (As++Bs)):Scope S w0 w Bs:=by
 obtain⟨c,f,h1,h2⟩:=h;obtain⟨f1,g1,_,a1,_,a4⟩:=jL h1
 exact⟨c,g1,a1,fun k hk=>h2 k ((a4 k).2 (.inr hk))⟩
theorem Scope.does (h:Scope S w0 w (As++Bs)):∃ f,(aG As).holds w f∧∀ As' w',After (aG As') w f w'→Scope S w0 w' (As'++Bs):=by
 obtain⟨c,fp,h1,h2⟩:=h;obtain⟨f,g,a1,a2,a3,a4⟩:=jL h1;refine⟨f,a1,fun As' w' ⟨f',b1,b2,b3⟩=>?_⟩;obtain⟨fp',d1,d2⟩:=nR b1 ((aG Bs).iZ a2 b2 (fun k hk hm=>a3 k hm hk)) (b3.apart a3 ((aG Bs).lt a2));refine⟨c.trans b2 (fun k hk=>h2 k ((a4 k).2 (.inl hk))),fp',d1,fun k hk=>?_⟩
 rcases(d2 k).1 hk with h|h
 ·rcases b3 k h with h|h
  ·exact h2 k ((a4 k).2 (.inl h))
  ·exact .inr (Nat.le_trans c.size h)
 ·exact h2 k ((a4 k).2 (.inr h))
theorem Scope.swap {Cs:List HA} (h:Scope S w0 w (As++(Bs++Cs))):Scope S w0 w (Bs++(As++Cs)):=by
 obtain⟨c,fp,h1,h2⟩:=h;obtain⟨f,g,a1,a2,a3,a4⟩:=jL h1;obtain⟨f',g',b1,b2,b3,b4⟩:=jL a2;obtain⟨x,x1,x2⟩:=nR a1 b2 (fun k hk hm=>a3 k hk ((b4 k).2 (.inr hm)))
 obtain⟨y,y1,y2⟩:=nR b1 x1 (fun k hk hm=>by
  rcases(x2 k).1 hm with h|h
  ·exact a3 k h ((b4 k).2 (.inl hk))
  ·exact b3 k hk h)
 refine⟨c,y,y1,fun k hk=>h2 k ((a4 k).2 ?_)⟩
 rcases(y2 k).1 hk with h|h
 ·exact .inr ((b4 k).2 (.inl h))
 ·rcases(x2 k).1 h with h|h
  ·exact .inl h
  ·exact .inr ((b4 k).2 (.inr h))
theorem Scope.join (h:Scope S w0 w As) {g:List Nat} (hb:(aG Bs).holds w' g) (c':dE [] w w') (hn:∀ k,k∈g→w.heap.size≤k):Scope S w0 w' (As++Bs):=by
 obtain⟨c,f,h1,h2⟩:=h;obtain⟨fp,d1,d2⟩:=nR ((aG As).iZ h1 c' (by simp)) hb (fun k hk hm=>by have:=(aG As).lt h1 k hk;have:=hn k hm;omega);refine⟨c.quiet c',fp,d1,fun k hk=>?_⟩
 rcases(d2 k).1 hk with h|h
 ·exact h2 k h
 ·exact .inr (Nat.le_trans c.size (hn k h))
theorem Scope.box (h:Scope S w0 w As) (vs:List Value) (t:TypeId):Scope S w0 (w.alloc (.cells vs.toArray t)) (As++[box w.heap.size vs t]):=
 h.join (g:=[w.heap.size]) ⟨[w.heap.size],[],⟨Row.new w vs t,rfl⟩,rfl,(fun _ _ h=>by cases h),rfl⟩ ((dE.refl _ _).alloc _) (by simp)
theorem Scope.joinL (h:Scope S w0 w As) {g:List Nat} (hb:(aG Bs).holds w' g) (c':dE [] w w') (hn:∀ k,k∈g→w.heap.size≤k):Scope S w0 w' (Bs++As):=by
 have:=h.join hb c' hn
 have h2:Scope S w0 w' (As++(Bs++[])):=by simpa using this
 simpa using h2.swap
theorem Scope.get (h:Scope S w0 w As) (i:Nat) (hi:As[i]? =some A):∃ f,A.holds w f∧∀ k,k∈f→k∈S∨w0.heap.size≤k:=by
 obtain⟨c,fp,h1,h2⟩:=h
 induction As generalizing fp i with
 |nil=>simp at hi
 |cons X Xs ih=>
  obtain⟨f,g,ha,hb,hd,rfl⟩:=h1
  cases i with
  |zero=>simp at hi;subst hi;exact⟨f,ha,fun k hk=>h2 k (by simp[hk])⟩
  |succ i=>exact ih i (by simpa using hi) g hb (fun k hk=>h2 k (by simp[hk]))
theorem Scope.row (h:Scope S w0 w As) {k:Nat} {vs:List Value} {t:TypeId} (i:Nat) (hi:As[i]? =some (Go.Proofs.YtjnbbmgbmiggbaaGreatDoor.box k vs t)):Row w k vs t:=by
 obtain⟨f,h1,_⟩:=h.get i hi
 exact h1.1
theorem Scope.fact (h:Scope S w0 w As) {P:Prop} (i:Nat) (hi:As[i]? =some (Go.Proofs.YtjnbbmgbmiggbaaGreatDoor.fact P)):P:=by
 obtain⟨f,h1,_⟩:=h.get i hi
 exact h1.1
theorem After.intro1 (h:After A w fp w'):After (aG [A]) w fp w':=by
 obtain⟨f,h1,h2,h3⟩:=h
 exact⟨f,⟨f,[],h1,rfl,fun _ _ h=>(by cases h),by simp⟩,h2,h3⟩
theorem bZ (h:(aG [A]).holds w fp):A.holds w fp:=by
 obtain⟨f,g,h1,h2,_,rfl⟩:=h
 cases (show g=[]from h2)
 simpa using h1
theorem dh (h:A.holds w fp):(aG [A]).holds w fp:=⟨fp,[],h,rfl,fun _ _ h=>(by cases h),by simp⟩
end
def Does (P:Program) (As:List HA) (f:FuncId) (args:Array Value) (r:Value) (As':List HA):Prop:=
 ∀ w fp,(aG As).holds w fp→Calls P f args w fun e w'=>e=.returned r∧After (aG As') w fp w'
theorem Does.call {P:Program} {As As' Bs:List HA} {f:FuncId} {args:Array Value} {r:Value} {S:List Nat} {w0 w:World} (d:Does P As f args r As') (h:Scope S w0 w (As++Bs)):
  Calls P f args w fun e w'=>e=.returned r∧Scope S w0 w' (As'++Bs):=by
 obtain⟨fp,h1,h2⟩:=h.does
 exact(d w fp h1).mono fun e w' ⟨he,ha⟩=>⟨he,h2 As' w' ha⟩
def zH (L:List Ev):Prop:=∀ x∈L,x.kind≤4→x.loc.wf
theorem zH.put {σ:MS} (h:zH σ.log) (who kd:Int) {l:Lc} (hl:kd≤4→l.wf):zH (σ.put who kd l).log:=fun x hx hk=>by
 have hx:x∈σ.log++[⟨who,kd,l⟩]:=hx
 rcases List.mem_append.1 hx with h1|h1
 ·exact h x h1 hk
 ·simp at h1;subst h1;exact hl hk
theorem zH.swap {σ:MS} (h:zH σ.log) (who:Int) {l:Lc} (was now:Int) (hl:l.wf):zH (σ.swap who l was now).log:=by
 unfold MS.swap
 split
 ·exact h.put who 3 (fun _=>hl)
 ·exact h.put who 4 (fun _=>hl)
def bF (p:Nat) (σ:MS):HA:=⟨fun w fp=>gZ w p fp σ∧zH σ.log,fun h=>h.1.lt,fun h c hn=>⟨h.1.iZ c hn,h.2⟩⟩
theorem Left.mem {w w':World} {p:Nat} {fp:List Nat} {σ:MS} (hL:Left w p fp σ w') (h:zH σ.log):After (bF p σ) w fp w':=by
 obtain⟨f,h1,h2,h3⟩:=hL
 exact⟨f,⟨h1,h⟩,h2,h3⟩
@[reducible] def ptr (p:Nat):Value:=.pointer (some ⟨p,0,none⟩)
section
variable {p:Nat} {σ:MS}
theorem jP (who:Int) (l:Lc) (hl:l.wf) (hn:σ.log.length≤1000000):Does prog [bF p σ] 184 #[ptr p,J who,l.val] (Ju (σ.num l)) [bF p (σ.put who 1 l)]:=fun w fp h=>
 (PG (bZ h).1 who l hl hn).mono fun _ _ ⟨he,hL⟩=>⟨he,After.intro1 (hL.mem ((bZ h).2.put who 1 (fun _=>hl)))⟩
theorem jA (who:Int) (l:Lc) (hl:l.wf) (x:Int) (hx:dC x) (hn:σ.log.length≤1000000):Does prog [bF p σ] 175 #[ptr p,J who,l.val,Ju x] (.tuple #[]) [bF p ((σ.put who 2 l).set l x)]:=fun w fp h=>
 (OB (bZ h).1 who l hl x hx hn).mono fun _ _ ⟨he,hL⟩=>⟨he,After.intro1 (hL.mem ((bZ h).2.put who 2 (fun _=>hl)))⟩
theorem mY (who:Int) (l:Lc) (hl:l.wf) (was now:Int) (hx:dC now) (hn:σ.log.length≤1000000):Does prog [bF p σ] 168 #[ptr p,J who,l.val,Ju was,Ju now] (.bool (decide (σ.num l=was))) [bF p (σ.swap who l was now)]:=fun w fp h=>
 (swap_any (bZ h).1 who l hl was now hx hn).mono fun _ _ ⟨he,hL⟩=>⟨he,After.intro1 (hL.mem ((bZ h).2.swap who was now hl))⟩
theorem yL (who:Int) (l:Lc) (hl:l.wf) (x:Int) (hx:dC x) (hn:σ.log.length≤1000000):Does prog [bF p σ] 252 #[ptr p,J who,l.val,Ju x] (Ju (σ.num l)) [bF p ((σ.put who 3 l).set l (IntKind.u64.wrap (σ.num l+x)))]:=fun w fp h=>
 (add_any (bZ h).1 who l hl x hx hn).mono fun _ _ ⟨he,hL⟩=>⟨he,After.intro1 (hL.mem ((bZ h).2.put who 3 (fun _=>hl)))⟩
theorem NL (who:Int) (l:Lc) (hl:l.wf) (x:Int) (hx:dC x) (hn:σ.log.length≤1000000):Does prog [bF p σ] 270 #[ptr p,J who,l.val,Ju x] (Ju (σ.num l)) [bF p ((σ.put who 3 l).set l x)]:=fun w fp h=>
 (take_any (bZ h).1 who l hl x hx hn).mono fun _ _ ⟨he,hL⟩=>⟨he,After.intro1 (hL.mem ((bZ h).2.put who 3 (fun _=>hl)))⟩
theorem oO (who:Int) (l:Lc) (hn:σ.log.length≤1000000):Does prog [bF p σ] 187 #[ptr p,J who,l.val] (.tuple #[]) [bF p (σ.put who 5 l)]:=fun w fp h=>
 (Rw (bZ h).1 who l hn).mono fun _ _ ⟨he,hL⟩=>⟨he,After.intro1 (hL.mem ((bZ h).2.put who 5 (fun e=>absurd e (by omega))))⟩
theorem nO (who:Int) (l:Lc) (hn:σ.log.length≤1000000):Does prog [bF p σ] 141 #[ptr p,J who,l.val] (.tuple #[]) [bF p (σ.put who 6 l)]:=fun w fp h=>
 (write_any (bZ h).1 who l hn).mono fun _ _ ⟨he,hL⟩=>⟨he,After.intro1 (hL.mem ((bZ h).2.put who 6 (fun e=>absurd e (by omega))))⟩
end
section
variable {S:List Nat} {w0 w:World} {As Bs:List HA}
def Uh (S:List Nat) (w0:World) (As:List HA) (e:Ending) (w':World):Prop:=∃ p,e=.returned (ptr p)∧Scope S w0 w' ([bF p MS.zero]++As)
theorem NH (h:Scope S w0 w As):Calls prog 33 #[] w (Uh S w0 As):=
 (new_any w).mono fun _ _ ⟨he,hm,_,_,hc⟩=>⟨_,he,h.joinL (dh (A:=bF _ _) ⟨hm,fun x hx=>by cases hx⟩) hc (by simp)⟩
def Uk (S:List Nat) (w0:World) (As:List HA) (t:TypeId) (size n:Nat) (xs:List Value) (e:Ending) (w':World):Prop:=∃ v,e=.returned v∧Scope S w0 w' (As++[aU v t size n xs])
theorem CP {p:Nat} {σ:MS} (h:Scope S w0 w ([bF p σ]++Bs)) (hn:σ.log.length≤1000000):
  Calls prog 21 #[ptr p] w (Uk S w0 ([bF p σ]++Bs) 42 5 σ.log.length (evs σ.log)):=by
 obtain⟨f,hf,_⟩:=h.get 0 rfl
 exact(GK hf.1 hn).mono fun _ _ ⟨v,he,h1,h2,h3⟩=>⟨v,he,h.join (dh (A:=aU v _ _ _ _) ⟨h1,rfl⟩) h2 (fun k hk=>h3 k (by simpa using hk))⟩
theorem Scope.VC {p:Nat} {σ:MS} (h:Scope S w0 w As) (i:Nat) (hi:As[i]? =some (bF p σ)):zH σ.log:=by
 obtain⟨f,hf,_⟩:=h.get i hi
 exact hf.2
theorem Scope.evs (h:Scope S w0 w As) {v:Value} {L:List Ev} (i:Nat) (hi:As[i]? =some (aU v 42 5 L.length (Go.Proofs.YtjnbbmgbmiggbaaGreatDoor.evs L))):pR w v L:=by
 obtain⟨f,h1,_⟩:=h.get i hi
 exact pR.jk h1.1
end
open Go.ChangeShapes Go.WideShapes Go.ChangeAt Go.Proofs.Tryz
def flatFields (P:Program) (g:TypeId→Option (List IntKind)):List Field→Nat→Option (List IntKind)
 | [],_=>some []
 |f::r,pos=>(g f.type).bind fun a=>if f.offset=pos∧P.cellsOf f.type=a.length then(flatFields P g r (pos+a.length)).map (a++ ·)else none
def flatK (P:Program):Nat→TypeId→Option (List IntKind)
 |0,_=>none
 |n+1,t=>match P.underlying t with
  |some (.int k)=>some [k]
  |some (.struct fs)=>(flatFields P (flatK P n) fs.toList 0).bind fun ks=>if P.cellsOf t=ks.length then some ks else none
  |_=>none
def VJ (ks:List IntKind) (ns:List Int):Prop:=∀ (i:Nat) (k:IntKind) (n:Int),ks[i]? =some k→ns[i]? =some n→(Lit.int k n).wf=true
def Ints (ks:List IntKind) (ns:List Int) (cs:List Value):Prop:=ns.length=ks.length∧cs=List.zipWith Value.int ks ns∧VJ ks ns
theorem Ints.append {ks ks':List IntKind} {ns ns':List Int} {cs cs':List Value} (h:Ints ks ns cs) (h':Ints ks' ns' cs'):Ints (ks++ks') (ns++ns') (cs++cs'):=by
 obtain⟨a,b,c⟩:=h;obtain⟨a',b',c'⟩:=h';refine⟨by simp[a,a'],by rw[b,b',List.zipWith_append a.symm],fun i k n hk hn=>?_⟩
 rcases Nat.lt_or_ge i ks.length with hi|hi
 ·rw[List.getElem?_append_left hi]at hk
  rw[List.getElem?_append_left (by omega)]at hn
  exact c i k n hk hn
 ·rw[List.getElem?_append_right hi]at hk
  rw[List.getElem?_append_right (by omega),a]at hn
  exact c' _ k n hk hn
theorem mapM_each {α β:Type} {f:α→Option β}:∀ {l:List α} {xs:List β},l.mapM f=some xs→∀ a,a∈l→∃ b,f a=some b:=by
 intro l
 induction l with
 |nil=>intro xs _ a ha;cases ha
 |cons x l ih=>
  intro xs h a ha
  simp only[List.mapM_cons,Option.bind_eq_bind,Option.bind_eq_some_iff]at h;obtain⟨b,hb,ys,hys,_⟩:=h
  rcases List.mem_cons.1 ha with rfl|ha
  ·exact⟨b,hb⟩
  ·exact ih hys a ha
section
variable {H:Type} {enc:TypeId×Value→H} {P:Program} {w:World} {base:Nat} {spare:Nat→Bool} {held:Bool}
theorem Es {g:TypeId→Option (List IntKind)} {cs:List Value} {fuel:Nat}
  (ih:∀ t ks cs' x,g t=some ks→DataW.trod enc P w base spare held fuel t cs'=some x→∃ ns,Ints ks ns cs'):
  ∀ (fs:List Field) (pos:Nat) (ks:List IntKind),flatFields P g fs pos=some ks→pos+ks.length≤cs.length→(∀ f,f∈fs→∃ x,DataW.trod enc P w base spare held fuel f.type ((cs.drop f.offset).take (P.cellsOf f.type))=some x)→
   ∃ ns,Ints ks ns ((cs.drop pos).take ks.length):=by
 intro fs
 induction fs with
 |nil=>
  intro pos ks h _ _
  simp[flatFields]at h
  subst h
  exact⟨[],rfl,by simp,fun i k n hk=>by simp at hk⟩
 |cons f r ihr=>
  intro pos ks h hl hx
  simp only[flatFields,Option.bind_eq_some_iff]at h;obtain⟨a,ha,h⟩:=h
  split at h
  ·rename_i hc
   obtain⟨hoff,hcells⟩:=hc;simp only[Option.map_eq_some_iff]at h;obtain⟨b,hb,rfl⟩:=h;simp only[List.length_append]at hl;obtain⟨x,hfx⟩:=hx f (by simp);rw[hoff,hcells]at hfx;obtain⟨ns,hns⟩:=ih f.type a _ x ha hfx;obtain⟨ms,hms⟩:=ihr (pos+a.length) b hb (by omega) (fun f' hf'=>hx f' (by simp[hf']));refine⟨ns++ms,?_⟩
   have:=hns.append hms
   rwa [←List.drop_drop, ←List.take_add, ←List.length_append]at this
  ·cases h
theorem AZ:∀ (n:Nat) (t:TypeId) (ks:List IntKind) (fuel:Nat) (cs:List Value) (x:DataW H×List MemPlace),flatK P n t=some ks→DataW.trod enc P w base spare held fuel t cs=some x→∃ ns,Ints ks ns cs:=by
 intro n
 induction n with
 |zero=>intro t ks fuel cs x h;simp[flatK]at h
 |succ n ih=>
  intro t ks fuel cs x h hx
  cases fuel with
  |zero=>simp[DataW.trod]at hx
  |succ fuel=>
   unfold flatK at h
   cases hu:P.underlying t with
   |none=>simp[hu]at h
   |some d=>
    cases d
    case int k=>
     simp only[hu,Option.some.injEq]at h;subst h;unfold DataW.trod at hx;simp only[hu]at hx
     split at hx<;>simp_all
     rename_i k' m hm
     obtain⟨⟨rfl,hw⟩,_⟩:=hx;refine⟨[m],by simp,by simp,fun i k n hk hn=>?_⟩
     cases i with
     |zero=>simp at hk hn;subst hk;subst hn;exact hw
     |succ i=>simp at hk
    case struct fs=>
     simp only[hu,Option.bind_eq_some_iff]at h;obtain⟨ks',hks,h⟩:=h
     split at h
     ·rename_i hc
      simp only[Option.some.injEq]at h;subst h;unfold DataW.trod at hx;simp only[hu]at hx
      split at hx
      ·rename_i hl
       simp only[Option.map_eq_some_iff]at hx;obtain⟨xs,hxs,_⟩:=hx;obtain⟨ns,hns⟩:=Es (fun t ks cs' x h hx=>ih t ks fuel cs' x h hx) fs.toList 0 ks' hks (by omega) (mapM_each hxs);refine⟨ns,?_⟩;rw[List.drop_zero,List.take_of_length_le (by omega)]at hns
       exact hns
      ·cases hx
     ·cases h
    all_goals simp[hu]at h
theorem LY {t:TypeId} {fs:Array Field} {ks:List IntKind} {v:Value} {d:DataW H} {p:List MemPlace} (n:Nat) (hf:flatK P n t=some ks) (hs:P.underlying t=some (.struct fs)) {r:Reach} {b0:Nat}
  (hv:Value.okWide P w r b0 t v) (h:DataW.Trod enc P w base spare held t v d p):∃ ns,ns.length=ks.length∧v=.agg (List.zipWith Value.int ks ns).toArray∧VJ ks ns:=by
 obtain⟨cs,rfl,hsz⟩:=okWide_struct hs hv;obtain⟨fuel,hf'⟩:=h;obtain⟨ns,h1,h2,h3⟩:=AZ n t ks fuel _ _ hf hf';refine⟨ns,h1,?_,h3⟩
 have:(Value.agg cs).cells=cs:=rfl
 rw[this]at h2;rw[←h2]
def Vl (w:World) (v:Value) (size:Nat) (rows:List (List Value)):Prop:=
 ∃ oa c,v=.slice oa rows.length c∧rows.length≤c∧c≤maxLen∧(rows≠ []→∃ g off,oa=some ⟨g,off,none⟩∧g<w.heap.size∧∀ i row,rows[i]? =some row→∀ j u,row[j]? =some u→w.cell? ⟨g,off+i*size+j,none⟩=some u)
theorem addr_add (a:Addr) (h:a.spot=none) (i:Nat):a.add i=⟨a.block,a.off+i,none⟩:=by
 obtain⟨b,o,s⟩:=a
 simp only at h
 subst h;unfold Addr.add
 split<;>simp_all
theorem Oq {a:Addr} {n:Nat} {cs:List Value} (h:w.cells? base a n=some cs):cs.length=n∧∀ (j:Nat) (u:Value),cs[j]? =some u→w.cell? (a.add j)=some u:=by
 obtain⟨_,h1,h2⟩:=World.cells?_some h;refine⟨h1,fun j u hu=>?_⟩;rw[h2 j (by have:=(List.getElem?_eq_some_iff.1 hu).1;omega)]
 exact hu
end
end Go.Proofs.YtjnbbmgbmiggbaaGreatDoor
