/- Lemmas for TopTries' card: package wheel, first part; slices.DeleteFunc. -/
import Derived.Lib.SliceRun
import Derived.Laws.CopyRow
import Derived.Test.YtjnbbmgbmiggbaaGreatDoorZ05
set_option linter.unusedSimpArgs false
set_option linter.unusedVariables false
set_option maxRecDepth 20000
set_option maxHeartbeats 4000000
namespace Go.Proofs.YtjnbbmgbmiggbaaGreatDoor
open Go Go.RowKit Go.Maps Go.Proofs.Tryz
theorem TU (v:Int):hw v≤40:=by unfold hw;omega
theorem DX {wd:Nat} (h:wd≤40):hw (wd:Int)=wd:=by unfold hw;omega
theorem rf (v:Int):Same 101 #[J v] (J (hw v:Nat)):=fun w=>by
 have E:(hw v:Int)=min (max v 0) 40:=by unfold hw;omega
 have E':=zd E
 by_cases a:v<0
 ·have e0:=zd (show(0:Int)=(hw v:Nat) by rw[E];omega)
  clear E
  go_enter func101,ntmps101
  go_wp2
  go_ret
  exact⟨jg e0.out,rfl⟩
 ·by_cases b:v≤40
  ·have e0:=zd (show v=(hw v:Nat) by rw[E];omega)
   have a':0≤v:=by omega
   clear E
   go_enter func101,ntmps101
   go_wp2
   all_goals (go_ret;exact⟨jg (by have:=e0.out;omega),rfl⟩)
  ·have e0:=zd (show(40:Int)=(hw v:Nat) by rw[E];omega)
   have a':0≤v:=by omega
   have b':40<v:=by omega
   clear E
   go_enter func101,ntmps101
   go_wp2
   all_goals (go_ret;exact⟨jg (by have:=e0.out;omega),rfl⟩)
theorem Ce (x n:Nat):x >>> n=x / 2 ^ n:=Nat.shiftRight_eq_div_pow x n
theorem kQ (wd key l:Nat):jv wd key l<64:=Nat.mod_lt _ (by omega)
theorem pX (key m:Nat):((key:Int) / 2 ^ m)=((key / 2 ^ m:Nat):Int):=by push_cast;rfl
theorem JW (key m:Nat):wrap64 (((key:Int) / 2 ^ m).tmod 64)=((key >>> m % 64:Nat):Int):=by
 rw[pX,Int.tmod_eq_emod_of_nonneg (Int.natCast_nonneg _),Ce];generalize key / 2 ^ m=x;unfold wrap64
 omega
theorem wP (key l:Nat) (v:Int) (hl:l<3):Same 147 #[Ju key,J l,J v] (J (jv (hw v) key l:Nat)):=fun w=>by
 have l1:(0:Int)≤(l:Int):=by omega
 have l2:(l:Int)<3:=by omega
 have hb:=TU v;have E:=zd (JW key (hw v+6*l))
 go_enter func147,ntmps147
 go_wp2_with fail
 refine(rf v _).mono ?_
 rintro e w1 ⟨rfl,rfl⟩
 go_wp2
 go_ret
 exact⟨jg E.out,rfl⟩
theorem ML (base key:Nat) (v:Int) (h:key<base):Same 77 #[Ju base,Ju key,J v] (J (-1)):=fun w=>by
 have d:decide ((key:Int)<(base:Int))=true:=by simpa using h
 go_enter func77,ntmps77
 go_wp2
 go_ret
 exact⟨rfl,rfl⟩
def lev (x wd:Nat):Nat→Nat→Nat
 |0,k=>k
 |f+1,k=>if x >>> (wd+6*(k+1))=0 then k else lev x wd f (k+1)
theorem Ou {wd base key:Nat} (h:base≤key):eY wd base key=(lev (base ^^^ key) wd 3 0:Nat):=by
 unfold eY;rw[if_neg (by omega)];simp only[lev]
 by_cases a:(base ^^^ key) >>> (wd+6)=0
 ·simp[a]
 ·by_cases b:(base ^^^ key) >>> (wd+12)=0
  ·simp[a,b]
  ·by_cases c:(base ^^^ key) >>> (wd+18)=0<;>simp[a,b,c]
theorem O3 (base key:Nat) (v:Int) (hb:base<18446744073709551616) (hk:key<18446744073709551616) (h:base≤key):Same 77 #[Ju base,Ju key,J v] (J (lev (base ^^^ key) (hw v) 3 0:Nat)):=fun w=>by
 have d:decide (key<base)=false:=by simpa using h
 have h40:=TU v;obtain⟨R,hR⟩:∃ R,R=lev (base ^^^ key) (hw v) 3 0:=⟨_,rfl⟩
 have ex:=u64_xor_nat base key hb hk;rw[←hR];generalize base ^^^ key=x at *;have HR:=zd hR;have Ex:=zd ex;clear hR ex
 go_enter func77,ntmps77
 go_wp2_with fail
 go_loopw [11] (fun a wr=>∃ k f:Nat,k+f=3∧a=J k∧lev x (hw v) f k=R∧w=wr) (fun a _=>3 - (intOf a).toNat)
 case atStart=>exact⟨0,3,rfl,rfl,HR.out.symm,rfl⟩
 case round=>
  obtain⟨k,f,hkf,rfl,hl,rfl⟩:=hrel
  by_cases k3:k<3
  ·have i1:(k:Int)<3:=by omega
   have i0:(0:Int)≤(k:Int):=by omega
   have VK:=Ex.out;obtain⟨f,rfl⟩:∃ f',f=f'+1:=⟨f - 1,by omega⟩
   unfold lev at hl
   by_cases c:x >>> (hw v+6*(k+1))=0
   ·rw[if_pos c]at hl
    have q:((x:Int) / 2 ^ (hw v+6*(k+1))==0)=true:=by rw[pX, ←Ce,c];rfl
    have Hl:=zd hl;clear hl c
    go_wp2_with fail
    refine(rf v _).mono ?_
    rintro e w1 ⟨rfl,rfl⟩
    go_wp2
    go_ret
    exact⟨jg (by rw[Hl.out]),rfl⟩
   ·rw[if_neg c]at hl
    have q:((x:Int) / 2 ^ (hw v+6*(k+1))==0)=false:=by rw[pX, ←Ce];exact beq_eq_false_iff_ne.2 (by omega)
    have Hl:=zd hl;clear hl c
    go_wp2_with fail
    refine(rf v _).mono ?_
    rintro e w1 ⟨rfl,rfl⟩
    go_wp2
    go_roundw
    case rel=>exact⟨k+1,f,by omega,by go_num,Hl.out,trivial⟩
    case measure=>simp[intOf];omega
  ·obtain rfl:k=3:=by omega
   obtain rfl:f=0:=by omega
   have hl':R=3:=hl.symm;subst hl'
   go_wp2
   go_ret
   exact⟨rfl,rfl⟩
theorem x9 (base key:Nat) (v:Int) (hb:base<18446744073709551616) (hk:key<18446744073709551616):Same 77 #[Ju base,Ju key,J v] (J (eY (hw v) base key)):=by
 by_cases h:key<base
 ·rw[show eY (hw v) base key= -1 from if_pos h]
  exact ML base key v h
 ·rw[Ou (by omega)]
  exact O3 base key v hb hk (by omega)
@[reducible] def dW:Value:=nS
def Fe (N:Nat) (t:TypeId) (size:Nat) (vals:Nat→Value) (ns:Nat→Nat) (xs:Nat→List Value):HA where
 holds w fp:=(∀ i,i<N→w.ownsRow 0 t size (vals i) (ns i) (xs i))∧(∀ i j g,i<N→j<N→(vals i).ownBlock=some g→(vals j).ownBlock=some g→i=j)∧∀ k,k∈fp↔∃ i,i<N∧(vals i).ownBlock=some k
 lt:=by
  rintro w fp ⟨h1,_,h3⟩ k hk
  obtain⟨i,hi,he⟩:=(h3 k).1 hk
  exact((h1 i hi).lt k he).2
 iZ:=by
  rintro w w' S fp ⟨h1,h2,h3⟩ c hn
  exact⟨fun i hi=>gY (h1 i hi) c (fun k hk=>hn k ((h3 k).2 ⟨i,hi,hk⟩)),h2,h3⟩
section
variable {S:List Nat} {w0 w:World} {Bs:List HA} {N:Nat} {t:TypeId} {size:Nat} {vals:Nat→Value} {ns:Nat→Nat} {xs:Nat→List Value}
theorem Scope.Qn (h:Scope S w0 w (Fe N t size vals ns xs::Bs)) {i:Nat} (hi:i<N):
  Scope S w0 w (aU (vals i) t size (ns i) (xs i)::Fe N t size (upd vals i dW) (upd ns i 0) (upd xs i [])::Bs):=by
 obtain⟨c,fp,⟨f,g,⟨h1,h2,h3⟩,k2,k3,rfl⟩,k5⟩:=h;have e0:∀ j,j≠i→upd vals i dW j=vals j:=fun j hj=>upd_ne _ _ hj
 refine⟨c,(vals i).ownBlock.toList++((f.filter fun k=>decide ((vals i).ownBlock≠some k))++g),⟨_,_,⟨h1 i hi,rfl⟩,⟨_,g,⟨fun j hj=>?_,fun j j' b hj hj' a1 a2=>?_,fun k=>?_⟩,k2,fun k hk hm=>k3 k ((List.mem_filter.1 hk).1) hm,rfl⟩,fun k hk hm=>?_,rfl⟩,fun k hk=>?_⟩
 ·by_cases e:j=i
  ·subst e;rw[upd_same,upd_same,upd_same];exact World.ownsRow_nil _ _ _ _
  ·rw[upd_ne _ _ e,upd_ne _ _ e,upd_ne _ _ e];exact h1 j hj
 ·have q1:j≠i:=fun e=>by subst e;rw[upd_same]at a1;simp[Value.ownBlock]at a1
  have q2:j'≠i:=fun e=>by subst e;rw[upd_same]at a2;simp[Value.ownBlock]at a2
  rw[e0 j q1]at a1;rw[e0 j' q2]at a2
  exact h2 j j' b hj hj' a1 a2
 ·rw[List.mem_filter,h3]
  constructor
  ·rintro⟨⟨j,hj,he⟩,hn⟩
   have hn':(vals i).ownBlock≠some k:=of_decide_eq_true hn;have q:j≠i:=fun e=>by subst e;exact hn' he
   exact⟨j,hj,by rw[e0 j q];exact he⟩
  ·rintro⟨j,hj,he⟩
   have q:j≠i:=fun e=>by subst e;rw[upd_same]at he;simp[Value.ownBlock]at he
   rw[e0 j q]at he
   exact⟨⟨j,hj,he⟩,decide_eq_true (fun e=>q (h2 j i k hj hi he e))⟩
 ·simp only[Option.mem_toList]at hk
  rcases List.mem_append.1 hm with hm|hm
  ·have:=List.mem_filter.1 hm
   exact absurd hk (of_decide_eq_true this.2)
  ·exact k3 k ((h3 k).2 ⟨i,hi,hk⟩) hm
 ·refine k5 k ?_
  rcases List.mem_append.1 hk with hk|hk
  ·exact List.mem_append.2 (.inl ((h3 k).2 ⟨i,hi,by simpa using hk⟩))
  ·rcases List.mem_append.1 hk with hk|hk
   ·exact List.mem_append.2 (.inl ((List.mem_filter.1 hk).1))
   ·exact List.mem_append.2 (.inr hk)
theorem Scope.SC {v:Value} {n:Nat} {ys:List Value} (h:Scope S w0 w (aU v t size n ys::Fe N t size vals ns xs::Bs)) {i:Nat} (hi:i<N) (hv:vals i=dW):
  Scope S w0 w (Fe N t size (upd vals i v) (upd ns i n) (upd xs i ys)::Bs):=by
 obtain⟨c,fp,⟨f0,g0,⟨ho,rfl⟩,⟨f,g,⟨h1,h2,h3⟩,k2,k3,rfl⟩,j3,rfl⟩,k5⟩:=h;refine⟨c,(v.ownBlock.toList++f)++g,⟨_,g,⟨fun j hj=>?_,fun j j' b hj hj' a1 a2=>?_,fun k=>?_⟩,k2,fun k hk hm=>?_,rfl⟩,fun k hk=>k5 k (by rw[←List.append_assoc];exact hk)⟩
 ·by_cases e:j=i
  ·subst e;rw[upd_same,upd_same,upd_same];exact ho
  ·rw[upd_ne _ _ e,upd_ne _ _ e,upd_ne _ _ e];exact h1 j hj
 ·by_cases e:j=i
  ·by_cases e':j'=i
   ·omega
   ·subst e
    rw[upd_same]at a1;rw[upd_ne _ _ e']at a2
    exact absurd (List.mem_append.2 (.inl ((h3 b).2 ⟨j',hj',a2⟩))) (j3 b (by simpa using a1))
  ·by_cases e':j'=i
   ·subst e'
    rw[upd_same]at a2;rw[upd_ne _ _ e]at a1
    exact absurd (List.mem_append.2 (.inl ((h3 b).2 ⟨j,hj,a1⟩))) (j3 b (by simpa using a2))
   ·rw[upd_ne _ _ e]at a1
    rw[upd_ne _ _ e']at a2
    exact h2 j j' b hj hj' a1 a2
 ·rw[List.mem_append,h3]
  constructor
  ·rintro(hk|⟨j,hj,he⟩)
   ·exact⟨i,hi,by rw[upd_same];simpa using hk⟩
   ·have q:j≠i:=fun e=>by subst e;rw[hv]at he;simp[Value.ownBlock]at he
    exact⟨j,hj,by rw[upd_ne _ _ q];exact he⟩
  ·rintro⟨j,hj,he⟩
   by_cases e:j=i
   ·subst e;rw[upd_same]at he;exact .inl (by simp[he])
   ·rw[upd_ne _ _ e]at he;exact .inr ⟨j,hj,he⟩
 ·rcases List.mem_append.1 hk with hk|hk
  ·exact j3 k hk (List.mem_append.2 (.inr hm))
  ·exact k3 k hk hm
end
@[reducible] def pF (vals:Nat→Value) (bk:Nat→List It):HA:=Fe 192 156 2 vals (fun i=>(bk i).length) (fun i=>its (bk i))
theorem KL (bk:Nat→List It) (i:Nat) (l:List It):upd (fun j=>(bk j).length) i l.length=fun j=>(upd bk i l j).length:=funext fun j=>by unfold upd;split<;>rfl
theorem LC (bk:Nat→List It) (i:Nat) (l:List It):upd (fun j=>its (bk j)) i (its l)=fun j=>its (upd bk i l j):=funext fun j=>by unfold upd;split<;>rfl
theorem xx {α β:Type} [DecidableEq α] (f:α→β) (i:α) (v u:β):upd (upd f i v) i u=upd f i u:=funext fun j=>by unfold upd;split<;>rfl
section
variable {S:List Nat} {w0 w:World} {Bs:List HA} {vals:Nat→Value} {bk:Nat→List It}
theorem Scope.J9 (h:Scope S w0 w (pF vals bk::Bs)) {i:Nat} (hi:i<192):Scope S w0 w (aU (vals i) 156 2 (bk i).length (its (bk i))::pF (upd vals i dW) (upd bk i [])::Bs):=by
 have:=h.Qn hi
 rw[show(0:Nat)=([]:List It).length from rfl,show([]:List Value)=its []from rfl,KL,LC]at this
 exact this
theorem Scope.TZ {v:Value} {l:List It} (h:Scope S w0 w (aU v 156 2 l.length (its l)::pF vals bk::Bs)) {i:Nat} (hi:i<192) (hv:vals i=dW):Scope S w0 w (pF (upd vals i v) (upd bk i l)::Bs):=by
 have:=h.SC hi hv
 rw[KL,LC]at this
 exact this
end
def iW (base wd:Nat) (vals:Nat→Value) (mp:Nat→Nat) (mb:Nat):List Value:=[Ju base,J wd]++((List.range 192).map vals++[Ju (mp 0),Ju (mp 1),Ju (mp 2),.map (some mb)])
section
variable {base wd mb:Nat} {vals:Nat→Value} {mp:Nat→Nat}
theorem Bi:(iW base wd vals mp mb)[0]? =some (Ju base):=rfl
theorem KJ:(iW base wd vals mp mb)[1]? =some (J wd):=rfl
theorem nZ {n:Nat} (h:n<192):(iW base wd vals mp mb)[2+n]? =some (vals n):=by
 unfold iW;rw[List.getElem?_append_right (by simp),List.getElem?_append_left (by simp;omega)]
 simp[h]
theorem BI {l:Nat} (h:l<3):(iW base wd vals mp mb)[194+l]? =some (Ju (mp l)):=by
 unfold iW;rw[List.getElem?_append_right (by simp;omega),List.getElem?_append_right (by simp;omega)]
 have:l=0∨l=1∨l=2:=by omega
 rcases this with rfl|rfl|rfl<;>simp
theorem xC:(iW base wd vals mp mb)[197]? =some (.map (some mb)):=by
 unfold iW;rw[List.getElem?_append_right (by simp),List.getElem?_append_right (by simp)]
 simp
theorem Dp (b:Nat):(iW base wd vals mp mb).set 0 (Ju b)=iW b wd vals mp mb:=rfl
theorem vC {n:Nat} (h:n<192) (v:Value):(iW base wd vals mp mb).set (2+n) v=iW base wd (upd vals n v) mp mb:=by
 unfold iW;rw[List.set_append_right _ _ (by simp),List.set_append_left _ _ (by simp;omega)]
 congr 2
 apply List.ext_getElem?
 intro j
 rw[List.getElem?_set];simp only[List.length_cons,List.length_nil]
 by_cases e:2+n - (0+1+1)=j
 ·rw[if_pos e]
  obtain rfl:n=j:=by omega
  simp[h,upd_same]
 ·rw[if_neg e]
  simp only[List.getElem?_map]
  by_cases hj:j<192
  ·simp[hj,upd_ne _ v (show j≠n by omega)]
  ·simp[hj]
theorem Ai {l:Nat} (h:l<3) (m:Nat):(iW base wd vals mp mb).set (194+l) (Ju m)=iW base wd vals (upd mp l m) mb:=by
 unfold iW;rw[List.set_append_right _ _ (by simp;omega),List.set_append_right _ _ (by simp;omega)]
 have:l=0∨l=1∨l=2:=by omega
 rcases this with rfl|rfl|rfl<;>simp[upd]
end
def xE (keys:Int→Option Nat) (f:Value→Option Value):Prop:=∀ id,f (J id)=(keys id).map fun k:Nat=>Ju (k:Int)
def keysA (b:Nat) (keys:Int→Option Nat):HA where
 holds w fp:=(∃ f,fM prog 3 w b f∧xE keys f)∧fp=[b]
 lt:=by rintro w fp ⟨⟨f,h,_⟩,rfl⟩ k hk;simp at hk;subst hk;exact h.lt
 iZ:=by rintro w w' S fp ⟨⟨f,h,h2⟩,rfl⟩ c hn;exact⟨⟨f,h.iZ c (hn _ (by simp)),h2⟩,rfl⟩
theorem xE.put {keys:Int→Option Nat} {f:Value→Option Value} (h:xE keys f) (id:Int) (k:Option Nat):xE (upd keys id k) (lI f (J id) (k.map fun k:Nat=>Ju (k:Int))):=fun j=>by
 by_cases e:j=id
 ·subst e;rw[dM,upd_same]
 ·rw[eU _ _ (fun q=>e (by simpa using q)),upd_ne _ _ e,h j]
@[reducible] def Fp (p wd:Nat) (W:Wh) (c:(Nat→Value)×Nat):HA:=box p (iW W.base wd c.1 W.mp c.2) 203
@[reducible] def dm (p wd:Nat) (W:Wh) (c:(Nat→Value)×Nat):List HA:=[Fp p wd W c,pF c.1 W.bk,keysA c.2 W.keys]
@[reducible] def bY (p wd:Nat) (W:Wh):HA:=uk fun c=>aG (dm p wd W c)
def bP:HA where
 holds w fp:=w.heap[0]? =some (.cells (Lib.deBruijn64tab.map fun k:Nat=>Value.int .u8 (k:Int)).toArray 270 (0,0))∧fp=[0]
 lt:=by rintro w fp ⟨h,rfl⟩ k hk;simp at hk;subst hk;exact(Array.getElem?_eq_some_iff.1 h).1
 iZ:=by rintro w w' S fp ⟨h,rfl⟩ c hn;exact⟨(c.block 0 (Array.getElem?_eq_some_iff.1 h).1 (hn 0 (by simp))).trans h,rfl⟩
theorem Ur {w:World} {fp:List Nat} (h:(bP).holds w fp):TabAt 0 Lib.deBruijn64tab w:=fun j hj=>by
 obtain⟨h,_⟩:=h;simp only[World.cell?,h]
 simp[List.getD_eq_getElem?_getD,List.getElem?_map,List.getElem?_eq_getElem hj]
structure Qj (W:Wh):Prop where
 base:W.base<18446744073709551616
 mp:∀ l,W.mp l<18446744073709551616
 items:∀ n,fH (W.bk n)
 keys:∀ id k,W.keys id=some k→k<18446744073709551616
 ne:∀ l b,l<3→b<64→(W.mp l).testBit b=true→W.bk (64*l+b)≠ []
section
variable {p wd:Nat} {W:Wh}
theorem GU:Does prog [bY p wd W] 102 #[ptr p] (Ju W.base) [bY p wd W]:=
 Does.ex (F:=fun c=>aG (dm p wd W c)) (G:=fun c=>aG (dm p wd W c)) fun c=>Does.pack fun S w0 w h=>by
 have c0:At w p 0 (Ju W.base):=(h.row 0 rfl).cell Bi;have H0:=zd h;clear h
 go_enter func102,ntmps102
 go_wp2
 go_ret
 exact Ends.mk [] (by simpa using H0.out)
theorem Bv (w:World):(zeroValue 22).run prog w=.ok (Ju 0) w:=by kernel_rfl
theorem vF (id:Int) (hid:I64 id):Does prog [bY p wd W] 103 #[ptr p,J id] (.bool (W.has id)) [bY p wd W]:=
 Does.ex (F:=fun c=>aG (dm p wd W c)) (G:=fun c=>aG (dm p wd W c)) fun c=>Does.pack fun S w0 w h=>by
 have c0:At w p 197 (.map (some c.2)):=(h.row 0 rfl).cell xC;obtain⟨fp,⟨⟨f,h1,h2⟩,_⟩,_⟩:=h.get 2 rfl;obtain⟨x,hx⟩:=qy hid;have hrun:=h1.look_ok (t:=120) nV underlying120 (Bv w) hx;have e:(f (J id)).isSome=W.has id:=by rw[h2 id];unfold Wh.has;cases W.keys id<;>rfl
 rw[e]at hrun;generalize (f (J id)).getD (Ju 0)=u at hrun;have H0:=zd h;clear h h1 h2 hx e
 go_enter func103,ntmps103
 go_wp2
 go_ret
 exact Ends.mk [] (by simpa using H0.out)
def Pq (q:Option (Nat×Nat)):Value:=match q with|none=>.tuple #[J 0,J 0,.bool false]|some x=>.tuple #[J (x.1:Nat),J (x.2:Nat),.bool true]
theorem kS (wd:Nat) (W:Wh) (key:Nat):(W.place wd key=none∧(eY wd W.base key<0∨3≤eY wd W.base key))∨∃ l:Nat,l<3∧eY wd W.base key=l∧W.place wd key=some (l,jv wd key l):=by
 unfold Wh.place
 by_cases h:0≤eY wd W.base key∧eY wd W.base key<3
 ·obtain⟨n,hn⟩:=Int.eq_ofNat_of_zero_le h.1
  refine .inr ⟨n,by omega,hn,?_⟩;rw[if_pos h,hn]
  rfl
 ·exact .inl ⟨if_neg h,by omega⟩
theorem lQ (key:Nat) (hk:key<18446744073709551616) (hb:W.base<18446744073709551616) (hwd:wd≤40):Does prog [bY p wd W] 107 #[ptr p,Ju key] (Pq (W.place wd key)) [bY p wd W]:=
 Does.ex (F:=fun c=>aG (dm p wd W c)) (G:=fun c=>aG (dm p wd W c)) fun c=>Does.pack fun S w0 w h=>by
 have c0:At w p 0 (Ju W.base):=(h.row 0 rfl).cell Bi;have c1:At w p 1 (J wd):=(h.row 0 rfl).cell KJ;have lv:=x9 W.base key (wd:Int) hb hk;rw[DX hwd]at lv;have H0:=zd h;have Lv:=zd lv;clear h lv
 rcases kS wd W key with⟨e,hl⟩|⟨l,l3,hl,e⟩
 ·have hlr: -1≤eY wd W.base key∧eY wd W.base key≤3:=by unfold eY;split<;>(try split)<;>(try split)<;>(try split)<;>omega
  generalize eY wd W.base key=lev at *;have E:=zd e;clear e;have h2:lev= -1∨lev=3:=by omega
  rcases h2 with rfl|rfl
  all_goals
   clear hl hlr
   go_enter func107,ntmps107
   go_wp2_with fail
   go_quiet ((go_at_call 77;exact Calls.quiet_of_same ((Lv.out _).mono fun _ _ ⟨a,b⟩=>⟨a,b.symm⟩)))
   go_wp2
   refine bodyPost_ret (v:=.tuple #[J 0,J 0,.bool false]) (by simp[results,results107,go_sem]) rfl (Ends.mk' (by rw[E.out];rfl) [] (by simpa using H0.out.drewN _))
 ·rw[hl]at Lv
  have bs:=wP key l (wd:Int) l3;rw[DX hwd]at bs;have E:=zd e;have Bs:=zd bs;have i0:(0:Int)≤(l:Int):=by omega
  have i1:(l:Int)<3:=by omega
  clear e bs hl
  go_enter func107,ntmps107
  go_wp2_with fail
  go_quiet ((go_at_call 77;exact Calls.quiet_of_same ((Lv.out _).mono fun _ _ ⟨a,b⟩=>⟨a,b.symm⟩)))
  go_wp2_with fail
  refine(Bs.out _).mono ?_
  rintro e w1 ⟨rfl,rfl⟩
  go_wp2
  refine bodyPost_ret (v:=.tuple #[J l,J (jv wd key l:Nat),.bool true]) (by simp[results,results107,go_sem]) rfl (Ends.mk' (by rw[E.out];rfl) [] (by simpa using H0.out.drewN _))
end
theorem Scope.sO {S:List Nat} {w0 w:World} {As:List HA} {k:Nat} {vs:List Value} {t:TypeId} (h:Scope S w0 w As) (i:Nat) (hi:As[i]? =some (Go.Proofs.YtjnbbmgbmiggbaaGreatDoor.box k vs t)) {j j':Nat} {v:Value} (hv:vs[j]? =some v) (hj:j'=j):w.cell? ⟨k,j',none⟩=some v:=by
 subst hj
 exact(h.row i hi).cell hv
section
variable {p wd:Nat} {W:Wh}
theorem UO (x:It) (hx:okI x) (hb:W.base<18446744073709551616) (hwd:wd≤40) (hn:W.place wd x.key=none):Does prog [bY p wd W] 108 #[ptr p,x.val] (.tuple #[]) [bY p wd W]:=Does.ax fun S w0 w h=>by
 have s1:=zd (h.box x.cells 156);have Hn:=zd hn;have Hx:=zd hx;have Hb:=zd hb;clear h hn hx hb;obtain⟨xk,xi⟩:=x;unfold It.val
 go_enter func108,ntmps108
 go_wp2_with fail
 refine((lQ xk Hx.out.2 Hb.out hwd).at0 s1.out).mono ?_
 rintro e wq ⟨he,sq⟩
 rw[show W.place wd xk=none from Hn.out]at he;have he':e=.returned (.tuple #[J 0,J 0,.bool false]):=he;subst he';have Hq:=zd sq;clear sq he
 go_wp2
 go_end0
 exact Ends.mk [box w.heap.size (It.cells ⟨xk,xi⟩) 156] (by simpa using Hq.out)
theorem LG (x:It) (hx:okI x) (hW:Qj W) (hwd:wd≤40) {l b:Nat} (hl:l<3) (hb:b<64) (hn:W.place wd x.key=some (l,b)) (hlen:(W.bk (64*l+b)).length<100000):Does prog [bY p wd W] 108 #[ptr p,x.val] (.tuple #[]) [bY p wd (W.add l b x)]:=Does.ax fun S w0 w h=>by
 have s1:=zd (h.box x.cells 156);obtain⟨B,hB⟩:∃ B,B=w.heap.size:=⟨_,rfl⟩
 obtain⟨n,hnn⟩:∃ n,n=64*l+b:=⟨_,rfl⟩
 have hn192:n<192:=by omega
 rw[←hnn]at hlen;have Hn:=zd hn;have Hx:=zd hx;have Hb:=zd hW.base;have HW:=zd hW;have HB:=zd hB;have Hnn:=zd hnn;clear h hn hx hW hB hnn;obtain⟨i0,hi,hz0,hz1,hz2⟩:=info_parts D7;obtain⟨xk,xi⟩:=x;have l0:(0:Int)≤(l:Int):=by omega
 have l1:(l:Int)<3:=by omega
 have b0:(0:Int)≤(b:Int):=by omega
 have b1:(b:Int)<64:=by omega
 unfold It.val
 go_enter func108,ntmps108
 go_wp2_with fail
 rw[←HB.out];refine((lQ xk Hx.out.2 Hb.out hwd).at0 s1.out).mono ?_
 rintro e wq ⟨he,sq⟩
 rw[show W.place wd xk=some (l,b)from Hn.out]at he;have he':e=.returned (.tuple #[J l,J b,.bool true]):=he;subst he';obtain⟨⟨vals,mb⟩,sq1⟩:=Scope.xq (F:=fun c=>aG (dm p wd W c)) sq;have sq2:Scope S w0 wq (dm p wd W (vals,mb)++[box B [Ju xk,J xi] 156]):=by rw[HB.out];exact Scope.gU sq1
 clear sq sq1 he;have s2:=(sq2.front 1 rfl).J9 hn192;have s3:Scope S w0 wq [aU (vals n) 156 2 (W.bk n).length (its (W.bk n)),pF (upd vals n dW) (upd W.bk n []),Fp p wd W (vals,mb),keysA mb W.keys,box B [Ju xk,J xi] 156]:=s2;have cb:At wq.drew p (2+l*64+b) (vals n):=s3.drew.sO 2 rfl (nZ hn192) (by rw[Hnn.out];omega);have x0:At wq.drew B 0 (Ju xk):=(s3.drew.row (k:=B) 4 rfl).cell rfl;have x1:At wq.drew B 1 (J xi):=(s3.drew.row (k:=B) 4 rfl).cell rfl;have S3:=zd s3;clear s2 s3 sq2
 go_wp2_with fail
 refine aP (by kernel_rfl) ?_;refine aY [0,1,2,14,15,16] ?_
 repeat (refine ay _ rfl (by kernel_rfl) (fun _ _ _ h=>h) (fun w'=>by(try simp only[ag,ah,aj]);go_simp;try with_reducible rfl) ?_;try simp only[Act.put,ag,ah,aj,aF,aB,aC])
 refine aH ?_;have h0:At wq.drew p (2+l*64+b) (vals n)∧At wq.drew B 0 (Ju xk)∧At wq.drew B 1 (J xi):=⟨cb,x0,x1⟩
 refine bu (S:=fun w'=>At w' p (2+l*64+b) (vals n)∧At w' B 0 (Ju xk)∧At w' B 1 (J xi)) (U:=[3,4,5,6,7,8,9,10,11,12]) _ _ _ _ ?_;refine dB [3,4,5,6,7,8,9,10,11] ?_
 repeat (refine aN _ rfl (by kernel_rfl) (fun _ _ _ h=>h) h0 (fun w' hS=>by(try dsimp only at hS);(try simp only[ag,ah,aj]);go_simp;try with_reducible rfl) ?_;try simp only[Act.put,ag,ah,aj,aF,aB,aC])
 refine bM ?_;have s7:=(S3.out.box [Ju xk,J xi] 156).drew;have h1:(wq.alloc (.cells #[Ju xk,J xi] 156)).drew.cell? ⟨p,2+l*64+b,none⟩=some (vals n)∧(wq.alloc (.cells #[Ju xk,J xi] 156)).drew.cell? ⟨B,0,none⟩=some (Ju xk)∧(wq.alloc (.cells #[Ju xk,J xi] 156)).drew.cell? ⟨B,1,none⟩=some (J xi):=⟨s7.sO 2 rfl (nZ hn192) (by rw[Hnn.out];omega),(s7.row (k:=B) 4 rfl).cell rfl,(s7.row (k:=B) 4 rfl).cell rfl⟩
 have S7:=zd s7;clear s7 h0 cb x0 x1;refine aK 12 (by kernel_rfl) rfl (by rfl) fun K hK=>?_
 go_simp;refine hK _ _ ⟨fun _=>h1,?_⟩;clear hK K h1
 try simp only[Act.put,ag,ah,aj,aF,aB,aC]
 refine aX _ _ _ _ (fun j hj=>?_) ?_
 ·simp at hj;rcases hj with rfl|rfl|rfl|rfl|rfl|rfl|rfl|rfl|rfl|rfl<;>rfl
 refine af 13 (by kernel_rfl) rfl (by rfl) fun K hK=>?_
 refine wp_append_lies _ _ _ _ rfl 0 156 i0 _ 2 16 underlying161 hi hz0 hz1 hz2 rfl (by omega) (vals n) (W.bk n).length (its (W.bk n)) (by rfl) (S7.out.owns 0 rfl) ⟨wq.heap.size,0,none⟩ 1 1 [Ju xk,J xi] (by rfl) (by rfl) (World.news_of_block (cs:=#[Ju xk,J xi]) (t:=156) (fr:=(0,0)) (S7.out.row (k:=wq.heap.size) 5 rfl)) (by simp[Value.oneCell'])
    (by omega) (by unfold maxLen;omega) (by omega) (by omega) (wq.heap.size+1) (by simp) ?_
 intro gg cap' w4 hown hgrow hat hlt
 refine hK _ _ ?_;clear hK K
 try simp only[Act.put,ag,ah,aj,aF,aB,aC]
 have hown':w4.ownsRow 0 156 2 (.slice (some ⟨gg,0,none⟩) (W.bk n++[(⟨xk,xi⟩:It)]).length cap') (W.bk n++[(⟨xk,xi⟩:It)]).length (its (W.bk n++[(⟨xk,xi⟩:It)])):=by
  rw[x8,List.length_append];exact hown
 have s8:=S7.out.grew hgrow hown' (fun k hk=>by
  simp[Value.ownBlock]at hk
  subst hk
  rcases hat with h|h
  ·exact .inl h
  ·right;rw[h];simp)
 have s9:=s8.TZ hn192 (upd_same _ _ _);rw[xx,xx]at s9;have hlen2:(W.bk n++[(⟨xk,xi⟩:It)]).length=(W.bk n).length+1:=by simp
 rw[hlen2]at s9;have rp:=s9.row (k:=p) 1 rfl;have y0:At w4 p (2+l*64+b) (vals n):=s9.sO 1 rfl (nZ hn192) (by rw[Hnn.out];omega);have yf:=rp.free (2+l*64+b);have S9:=zd s9;clear s8 s9 rp hown hown' hgrow hat hlen2;refine aY [17] ?_
 repeat (refine ay _ rfl (by kernel_rfl) (fun _ _ _ h=>h) (fun w'=>by(try simp only[ag,ah,aj]);go_simp;try with_reducible rfl) ?_;try simp only[Act.put,ag,ah,aj,aF,aB,aC])
 refine aH ?_;refine af 18 (by kernel_rfl) rfl (by rfl) fun K hK=>?_
 go_simp;refine hK _ _ ?_;clear hK K
 try simp only[Act.put,ag,ah,aj,aF,aB,aC]
 refine wpAny_done (by kernel_rfl) ?_ _;clear y0 yf;have t1:=Scope.au (As:=[pF (upd vals n (.slice (some ⟨gg,0,none⟩) ((W.bk n).length+1) cap')) (upd W.bk n (W.bk n++[(⟨xk,xi⟩:It)]))]) (Bs:=[keysA mb W.keys,box B [Ju xk,J xi] 156,box wq.heap.size [Ju xk,J xi] 156]) S9.out (2+l*64+b) (.slice (some ⟨gg,0,none⟩) ((W.bk n).length+1) cap');rw[show 2+l*64+b=2+n by rw[Hnn.out];omega,vC hn192]at t1;rw[show 2+l*64+b=2+n by rw[Hnn.out];omega];obtain⟨w5,hw5⟩:∃ w5,w5=w4.setCell ⟨p,2+n,none⟩ (.slice (some ⟨gg,0,none⟩) ((W.bk n).length+1) cap'):=⟨_,rfl⟩
 rw[←hw5]at t1 ⊢
 have cm:At w5.drew p (194+l) (Ju (W.mp l)):=t1.drew.sO 1 rfl (BI hl) rfl;have T1:=zd t1;clear t1 hw5 S9 S7 S3 hi hz0 hz1 hz2
 go_wp2_with fail
 refine aP (by kernel_rfl) ?_;refine aY [0,1,8,10,11] ?_
 repeat (refine ay _ rfl (by kernel_rfl) (fun _ _ _ h=>h) (fun w'=>by(try simp only[ag,ah,aj]);go_simp;try with_reducible rfl) ?_;try simp only[Act.put,ag,ah,aj,aF,aB,aC])
 refine aH ?_;refine bu (S:=fun w'=>At w' p (194+l) (Ju (W.mp l))) (U:=[2,3,4,5,6,7,9]) _ _ _ _ ?_;refine dB [2,3,4,5,6,7] ?_
 repeat (refine aN _ rfl (by kernel_rfl) (fun _ _ _ h=>h) cm (fun w' hS=>by(try dsimp only at hS);(try simp only[ag,ah,aj]);go_simp;try with_reducible rfl) ?_;try simp only[Act.put,ag,ah,aj,aF,aB,aC])
 refine bM ?_;refine aK 9 (by kernel_rfl) rfl (by rfl) fun K hK=>?_
 go_simp;refine(J5 (W.mp l) b (HW.out.mp l) hb _).mono ?_
 rintro e w6 ⟨rfl,rfl⟩
 generalize hm2:W.mp l ||| 2 ^ b=m2
 refine hK _ _ ⟨fun _=>cm,?_⟩;clear hK K
 try simp only[Act.put,ag,ah,aj,aF,aB,aC]
 refine aX _ _ _ _ (fun j hj=>?_) ?_
 ·simp at hj;rcases hj with rfl|rfl|rfl|rfl|rfl|rfl|rfl<;>rfl
 have cf:=(T1.out.row (k:=p) 1 rfl).free (194+l);refine aY [12] ?_
 repeat (refine ay _ rfl (by kernel_rfl) (fun _ _ _ h=>h) (fun w'=>by(try simp only[ag,ah,aj]);go_simp;try with_reducible rfl) ?_;try simp only[Act.put,ag,ah,aj,aF,aB,aC])
 refine aH ?_;refine af 13 (by kernel_rfl) rfl (by rfl) fun K hK=>?_
 go_simp;refine hK _ _ ?_;clear hK K
 try simp only[Act.put,ag,ah,aj,aF,aB,aC]
 refine wpAny_done (by kernel_rfl) ?_ _;clear cm cf;have t2:=Scope.au (As:=[pF (upd vals n (.slice (some ⟨gg,0,none⟩) ((W.bk n).length+1) cap')) (upd W.bk n (W.bk n++[(⟨xk,xi⟩:It)]))]) (Bs:=[keysA mb W.keys,box B [Ju xk,J xi] 156,box wq.heap.size [Ju xk,J xi] 156]) T1.out (194+l) (Ju m2);rw[Ai hl]at t2;obtain⟨w7,hw7⟩:∃ w7,w7=w5.setCell ⟨p,194+l,none⟩ (Ju m2):=⟨_,rfl⟩
 rw[←hw7]at t2 ⊢
 have T2:=zd (t2.drew.front 1 rfl);clear t2 hw7 T1
 go_wp2
 go_end0
 refine Ends.mk [box B [Ju xk,J xi] 156,box wq.heap.size [Ju xk,J xi] 156] ?_;have e1:W.add l b ⟨xk,xi⟩=⟨W.base,upd W.bk n (W.bk n++[(⟨xk,xi⟩:It)]),upd W.mp l m2,W.keys⟩:=by unfold Wh.add;rw[hm2,Hnn.out]
 rw[e1]
 exact Scope.tX (F:=fun c=>aG (dm p wd ⟨W.base,upd W.bk n (W.bk n++[(⟨xk,xi⟩:It)]),upd W.mp l m2,W.keys⟩ c)) (upd vals n (.slice (some ⟨gg,0,none⟩) ((W.bk n).length+1) cap'),mb) (Scope.shut1 T2.out)
end
section
variable {p wd:Nat} {W:Wh}
def Tm (S:List Nat) (w0:World) (p wd:Nat) (W:Wh) (l b:Nat) (Bs:List HA) (e:Ending) (w':World):Prop:=∃ v,e=.returned v∧Scope S w0 w' (bY p wd (W.empty l b)::aU v 156 2 (W.bk (64*l+b)).length (its (W.bk (64*l+b)))::Bs)
theorem wW {S:List Nat} {w0 w:World} {Bs:List HA} (h:Scope S w0 w (bY p wd W::Bs)) {l b:Nat} (hm:W.mp l<18446744073709551616) (hl:l<3) (hb:b<64):Calls prog 154 #[ptr p,J l,J b] w (Tm S w0 p wd W l b Bs):=by
 obtain⟨⟨vals,mb⟩,sq1⟩:=Scope.xq (F:=fun c=>aG (dm p wd W c)) h;have sq2:Scope S w0 w (dm p wd W (vals,mb)++Bs):=Scope.gU sq1;obtain⟨n,hnn⟩:∃ n,n=64*l+b:=⟨_,rfl⟩
 have hn192:n<192:=by omega
 have s3:Scope S w0 w ([aU (vals n) 156 2 (W.bk n).length (its (W.bk n)),pF (upd vals n dW) (upd W.bk n [])]++([Fp p wd W (vals,mb)]++(keysA mb W.keys::Bs))):=(sq2.front 1 rfl).J9 hn192;have l0:(0:Int)≤(l:Int):=by omega
 have l1:(l:Int)<3:=by omega
 have b0:(0:Int)≤(b:Int):=by omega
 have b1:(b:Int)<64:=by omega
 have cb:At w p (2+l*64+b) (vals n):=s3.sO 2 rfl (nZ hn192) (by rw[hnn];omega);have cf:=(s3.row (k:=p) 2 rfl).free (2+l*64+b);have t1:=s3.au (2+l*64+b) dW;rw[show 2+l*64+b=2+n by rw[hnn];omega,vC hn192]at t1;obtain⟨w5,hw5⟩:∃ w5,w5=w.setCell ⟨p,2+n,none⟩ dW:=⟨_,rfl⟩
 have hw6:w.setCell ⟨p,2+l*64+b,none⟩ dW=w5:=by rw[hw5,show 2+l*64+b=2+n by rw[hnn];omega]
 rw[←hw5]at t1;have cm:At w5.drew p (194+l) (Ju (W.mp l)):=t1.drew.sO 2 rfl (BI hl) rfl;have H6:=zd hw6;have Hm:=zd hm;have T1:=zd t1;have Hnn:=zd hnn;clear h sq1 sq2 s3 t1 hw6 hm hw5 hnn
 go_enter func154,ntmps154
 go_wp2_with fail
 rw[show w.setCell ⟨p,2+l*64+b,none⟩ (nS)=w5 from H6.out];refine aP (by kernel_rfl) ?_;refine aY [0,1,8,10,11] ?_
 repeat (refine ay _ rfl (by kernel_rfl) (fun _ _ _ h=>h) (fun w'=>by(try simp only[ag,ah,aj]);go_simp;try with_reducible rfl) ?_;try simp only[Act.put,ag,ah,aj,aF,aB,aC])
 refine aH ?_;refine bu (S:=fun w'=>At w' p (194+l) (Ju (W.mp l))) (U:=[2,3,4,5,6,7,9]) _ _ _ _ ?_;refine dB [2,3,4,5,6,7] ?_
 repeat (refine aN _ rfl (by kernel_rfl) (fun _ _ _ h=>h) cm (fun w' hS=>by(try dsimp only at hS);(try simp only[ag,ah,aj]);go_simp;try with_reducible rfl) ?_;try simp only[Act.put,ag,ah,aj,aF,aB,aC])
 refine bM ?_;refine aK 9 (by kernel_rfl) rfl (by rfl) fun K hK=>?_
 go_simp;refine(zD (W.mp l) b Hm.out hb _).mono ?_
 rintro e w6 ⟨rfl,rfl⟩
 generalize hm2:W.mp l &&& (18446744073709551615 - 2 ^ b)=m2;refine hK _ _ ⟨fun _=>cm,?_⟩;clear hK K
 try simp only[Act.put,ag,ah,aj,aF,aB,aC]
 refine aX _ _ _ _ (fun j hj=>?_) ?_
 ·simp at hj;rcases hj with rfl|rfl|rfl|rfl|rfl|rfl|rfl<;>rfl
 have cf2:=(T1.out.row (k:=p) 2 rfl).free (194+l);refine aY [12] ?_
 repeat (refine ay _ rfl (by kernel_rfl) (fun _ _ _ h=>h) (fun w'=>by(try simp only[ag,ah,aj]);go_simp;try with_reducible rfl) ?_;try simp only[Act.put,ag,ah,aj,aF,aB,aC])
 refine aH ?_;refine af 13 (by kernel_rfl) rfl (by rfl) fun K hK=>?_
 go_simp;refine hK _ _ ?_;clear hK K
 try simp only[Act.put,ag,ah,aj,aF,aB,aC]
 refine wpAny_done (by kernel_rfl) ?_ _;clear cm cf2;have t2:=T1.out.au (194+l) (Ju m2);rw[Ai hl]at t2;obtain⟨w7,hw7⟩:∃ w7,w7=w5.setCell ⟨p,194+l,none⟩ (Ju m2):=⟨_,rfl⟩
 rw[←hw7]at t2 ⊢
 have T2:=zd t2.drew;clear t2 hw7 T1
 go_wp2
 go_ret
 have e1:W.empty l b=⟨W.base,upd W.bk n [],upd W.mp l m2,W.keys⟩:=by unfold Wh.empty;rw[hm2,Hnn.out]
 refine⟨vals n,rfl,?_⟩;rw[e1, ←Hnn.out]
 have t3:=(T2.out.front 2 rfl).perm (Bs:=dm p wd ⟨W.base,upd W.bk n [],upd W.mp l m2,W.keys⟩ (upd vals n dW,mb)++(aU (vals n) 156 2 (W.bk n).length (its (W.bk n))::Bs)) (by
  refine List.Perm.cons _ ?_;refine(List.Perm.swap _ _ _).trans (List.Perm.cons _ ?_)
  exact List.Perm.swap _ _ _)
 exact Scope.tX (F:=fun c=>aG (dm p wd ⟨W.base,upd W.bk n [],upd W.mp l m2,W.keys⟩ c)) (upd vals n dW,mb) (Scope.shut1 t3)
end
theorem Qj.key {W:Wh} (h:Qj W) (id:Int) {k:Option Nat} (hk:∀ x,k=some x→x<18446744073709551616):Qj (W.key id k) where
 base:=h.base
 mp:=h.mp
 items:=h.items
 keys:=fun i x hx=>by
  by_cases e:i=id
  ·subst e;exact hk x ((upd_same _ _ _).symm.trans hx)
  ·exact h.keys i x ((upd_ne _ _ e).symm.trans hx)
 ne:=h.ne
section
variable {p wd:Nat} {W:Wh}
theorem Gj (x:It) (hx:okI x) (hb:W.base<18446744073709551616) (hwd:wd≤40) (hn:W.place wd x.key=none):Does prog [bY p wd W] 81 #[ptr p,x.val] (.bool false) [bY p wd W]:=Does.ax fun S w0 w h=>by
 have s1:=zd (h.box x.cells 156);have Hn:=zd hn;have Hx:=zd hx;have Hb:=zd hb;clear h hn hx hb;obtain⟨xk,xi⟩:=x;unfold It.val
 go_enter func81,ntmps81
 go_wp2_with fail
 refine((lQ xk Hx.out.2 Hb.out hwd).at0 s1.out).mono ?_
 rintro e wq ⟨he,sq⟩
 rw[show W.place wd xk=none from Hn.out]at he;have he':e=.returned (.tuple #[J 0,J 0,.bool false]):=he;subst he';have Hq:=zd sq;clear sq he
 go_wp2
 go_ret
 exact Ends.mk [box w.heap.size (It.cells ⟨xk,xi⟩) 156] (by simpa using Hq.out)
theorem ND (x:It) (hx:okI x) (hb:W.base<18446744073709551616) (hwd:wd≤40) {l b:Nat} (hn:W.place wd x.key=some (l,b)) (hh:W.has x.id=true):Does prog [bY p wd W] 81 #[ptr p,x.val] (.bool false) [bY p wd W]:=Does.ax fun S w0 w h=>by
 have s1:=zd (h.box x.cells 156);have Hn:=zd hn;have Hx:=zd hx;have Hb:=zd hb;have Hh:=zd hh;clear h hn hx hb hh;obtain⟨xk,xi⟩:=x;unfold It.val
 go_enter func81,ntmps81
 go_wp2_with fail
 refine((lQ xk Hx.out.2 Hb.out hwd).at0 s1.out).mono ?_
 rintro e wq ⟨he,sq⟩
 rw[show W.place wd xk=some (l,b)from Hn.out]at he;have he':e=.returned (.tuple #[J l,J b,.bool true]):=he;subst he';have r1:At wq w.heap.size 1 (J xi):=(sq.row (k:=w.heap.size) 1 rfl).cell rfl;have Hq:=zd sq;clear sq he
 go_wp2_with fail
 refine((vF xi Hx.out.1).at0 Hq.out).mono ?_
 rintro e wr ⟨he,sr⟩
 rw[show W.has xi=true from Hh.out]at he;subst he;have Hr:=zd sr;clear sr
 go_wp2
 go_ret
 exact Ends.mk [box w.heap.size (It.cells ⟨xk,xi⟩) 156] (by simpa using Hr.out)
theorem NM (x:It) (hx:okI x) (hW:Qj W) (hwd:wd≤40) {l b:Nat} (hl:l<3) (hb:b<64) (hn:W.place wd x.key=some (l,b)) (hh:W.has x.id=false) (hlen:(W.bk (64*l+b)).length<100000):Does prog [bY p wd W] 81 #[ptr p,x.val] (.bool true) [bY p wd ((W.key x.id (some x.key)).put wd x)]:=Does.ax fun S w0 w h=>by
 have s1:=zd (h.box x.cells 156);have hput:(W.key x.id (some x.key)).put wd x=(W.key x.id (some x.key)).add l b x:=by
  have:(W.key x.id (some x.key)).place wd x.key=some (l,b):=hn
  unfold Wh.put;rw[this]
 rw[hput];have py:=LG (p:=p) (wd:=wd) (W:=W.key x.id (some x.key)) x hx (hW.key x.id (fun y hy=>by cases hy;exact hx.2)) hwd hl hb hn hlen;obtain⟨B,hB⟩:∃ B,B=w.heap.size:=⟨_,rfl⟩
 have Hn:=zd hn;have Hx:=zd hx;have Hb:=zd hW.base;have Hh:=zd hh;have HB:=zd hB;have Py:=zd py;clear h hn hx hh hput hlen hB py hW;obtain⟨xk,xi⟩:=x;unfold It.val
 go_enter func81,ntmps81
 go_wp2_with fail
 rw[←HB.out];refine((lQ xk Hx.out.2 Hb.out hwd).at0 s1.out).mono ?_
 rintro e wq ⟨he,sq⟩
 rw[show W.place wd xk=some (l,b)from Hn.out]at he;have he':e=.returned (.tuple #[J l,J b,.bool true]):=he;subst he';rw[←HB.out]at sq;have r1:At wq B 1 (J xi):=(sq.row (k:=B) 1 rfl).cell rfl;have Hq:=zd sq;clear sq he
 go_wp2_with fail
 refine((vF xi Hx.out.1).at0 Hq.out).mono ?_
 rintro e wr ⟨he,sr⟩
 rw[show W.has xi=false from Hh.out]at he;subst he;clear r1;obtain⟨⟨vals,mb⟩,sr1⟩:=Scope.xq (F:=fun c=>aG (dm p wd W c)) sr;have sr2:Scope S w0 wr (dm p wd W (vals,mb)++[box B [Ju xk,J xi] 156]):=Scope.gU sr1;have c0:At wr.drew p 197 (.map (some mb)):=(sr2.drew.row (k:=p) 0 rfl).cell xC;have c1:At wr.drew B 0 (Ju xk):=(sr2.drew.row (k:=B) 3 rfl).cell rfl;have c2:At wr.drew B 1 (J xi):=(sr2.drew.row (k:=B) 3 rfl).cell rfl;obtain⟨fi,⟨⟨f,hm,hf⟩,_⟩,_⟩:=sr2.drew.get 2 rfl;have Hr:=zd sr2;have Hf:=zd hf;clear sr sr1 sr2 hf
 go_wp2_with fail
 refine aP (by kernel_rfl) ?_;have h0:At wr.drew p 197 (.map (some mb))∧At wr.drew B 0 (Ju xk)∧At wr.drew B 1 (J xi):=⟨c0,c1,c2⟩
 refine bu (S:=fun w'=>At w' p 197 (.map (some mb))∧At w' B 0 (Ju xk)∧At w' B 1 (J xi)) (U:=[0,1,2,3,4,5,6,7]) _ _ _ _ ?_;refine dB [0,1,2,3,4,5,6,7] ?_
 repeat (refine aN _ rfl (by kernel_rfl) (fun _ _ _ h=>h) h0 (fun w' hS=>by(try dsimp only at hS);(try simp only[ag,ah,aj]);go_simp;try with_reducible rfl) ?_;try simp only[Act.put,ag,ah,aj,aF,aB,aC])
 refine bM ?_;refine aX _ _ _ _ (fun j hj=>?_) ?_
 ·simp at hj;rcases hj with rfl|rfl|rfl|rfl|rfl|rfl|rfl|rfl<;>rfl
 obtain⟨kx,hkx⟩:=qy Hx.out.1;obtain⟨w3,r3,m3,d3⟩:=hm.update (t:=120) nV underlying120 (Ju xk) hkx;have M3:=zd m3;have D3:=zd d3;clear m3 d3 h0 c0 c1 c2 hm;refine af 8 (by kernel_rfl) rfl (by rfl) fun K hK=>?_
 go_simp;refine hK _ _ ?_;clear hK K
 try simp only[Act.put,ag,ah,aj,aF,aB,aC]
 clear r3;refine wpAny_done (by kernel_rfl) ?_ _;obtain⟨fp,⟨_,rfl⟩,s4⟩:=(Hr.out.drew.front 2 rfl).turned;have s5:=s4 (keysA mb (upd W.keys xi (some xk))) w3 [mb] ⟨⟨_,M3.out,Hf.out.put xi (some xk)⟩,rfl⟩ D3.out (Own.refl _ _);have s6:Scope S w0 w3 (dm p wd (W.key xi (some xk)) (vals,mb)++[box B [Ju xk,J xi] 156]):=s5.perm ((List.Perm.swap _ _ _).trans (List.Perm.cons _ (List.Perm.swap _ _ _)));have c1:At w3 B 0 (Ju xk):=(s6.row (k:=B) 3 rfl).cell rfl;have c2:At w3 B 1 (J xi):=(s6.row (k:=B) 3 rfl).cell rfl;have S7:=zd (Scope.tX (F:=fun c=>aG (dm p wd (W.key xi (some xk)) c)) (vals,mb) (Scope.shut1 s6));clear s4 s5 s6
 go_wp2_with fail
 refine(Py.out.at0 S7.out).mono ?_
 rintro e w8 ⟨rfl,s8⟩
 have S8:=zd s8;clear s8
 go_wp2
 go_ret
 exact Ends.mk [box B [Ju xk,J xi] 156] (by simpa using S8.out)
theorem zn (x:It) (hx:okI x) (hW:Qj W) (hwd:wd≤40) (hlen:∀ n,(W.bk n).length<100000):Does prog [bY p wd W] 81 #[ptr p,x.val] (.bool (W.push wd x).2) [bY p wd (W.push wd x).1]:=by
 unfold Wh.push
 rcases kS wd W x.key with⟨e,_⟩|⟨l,l3,_,e⟩
 ·rw[if_pos (.inl (by rw[e];rfl))]
  exact Gj x hx hW.base hwd e
 ·cases hh:W.has x.id
  ·rw[if_neg (by rw[e];simp)]
   exact NM x hx hW hwd l3 (kQ _ _ _) e hh (hlen _)
  ·rw[if_pos (.inr rfl)]
   exact ND x hx hW.base hwd e hh
end
section
variable {S:List Nat} {w0 w:World} {As:List HA} {vals:Nat→Value} {bk:Nat→List It}
theorem Scope.Cf (h:Scope S w0 w As) (i:Nat) (hi:As[i]? =some (pF vals bk)) {n:Nat} (hn:n<192):w.ownsRow 0 156 2 (vals n) (bk n).length (its (bk n)):=by
 obtain⟨f,⟨h1,_,_⟩,_⟩:=h.get i hi
 exact h1 n hn
theorem Scope.Lh (h:Scope S w0 w As) (i:Nat) (hi:As[i]? =some (pF vals bk)) {n:Nat} (hn:n<192) {g:Nat} (hg:(vals n).ownBlock=some g) {k:Nat} {x:It} (hx:(bk n)[k]? =some x):
  At w g (k*2) (Ju x.key)∧At w g (k*2+1) (J x.id):=by
 obtain⟨e0,e1⟩:=vg _ k x hx
 exact⟨dw (h.Cf i hi hn) hg e0,dw (h.Cf i hi hn) hg e1⟩
theorem Scope.TE (h:Scope S w0 w As) (i:Nat) (hi:As[i]? =some (pF vals bk)) {n:Nat} (hn:n<192) (hne:bk n≠ []):∃ g cap,vals n=.slice (some ⟨g,0,none⟩) (bk n).length cap:=by
 rcases ownsRow_form (h.Cf i hi hn)with⟨_,h0⟩|⟨g,cap,hv,_⟩
 ·exact absurd (List.eq_nil_of_length_eq_zero h0) hne
 ·exact⟨g,cap,hv⟩
end
def P7 (x y:It):It:=if ahead y x=true then y else x
theorem KQ (L:List It):Ns L=L.foldl P7 (L.headD .zero):=rfl
theorem xn (L:List It) (a:It) {j:Nat} {y:It} (hy:L[j]? =some y):(L.take (j+1)).foldl P7 a=P7 ((L.take j).foldl P7 a) y:=by
 rw[List.take_add_one,hy]
 simp
theorem OZ (x:Nat) (h0:x≠0) (hx:x<18446744073709551616):Lib.ctz 64 x<64∧x.testBit (Lib.ctz 64 x)=true:=by
 obtain⟨h1,h2⟩:=Lib.lowest_bit 64 x h0 hx;refine⟨h2,?_⟩;have h3:(2 ^ Lib.ctz 64 x).testBit (Lib.ctz 64 x)=true:=Nat.testBit_two_pow_self;rw[←h1,Nat.testBit_and,Bool.and_eq_true]at h3
 exact h3.1
theorem O7 {W:Wh} (h:∀ j,j<3→W.mp j=0):W.min=none:=by
 unfold Wh.min Wh.minL;rw[if_pos (h 0 (by omega)),if_pos (h 1 (by omega)),if_pos (h 2 (by omega))]
theorem PD {W:Wh} {k:Nat} (hk:k<3) (h:∀ j,j<k→W.mp j=0) (h0:W.mp k≠0):W.min=some (Ns (W.bk (64*k+Lib.ctz 64 (W.mp k)))):=by
 unfold Wh.min Wh.minL
 rcases(show k=0∨k=1∨k=2 by omega)with rfl|rfl|rfl
 ·rw[if_neg h0]
 ·rw[if_pos (h 0 (by omega)),if_neg h0]
 ·rw[if_pos (h 0 (by omega)),if_pos (h 1 (by omega)),if_neg h0]
def qX (x:Option It):Value:=.tuple #[(x.getD .zero).val,.bool x.isSome]
section
variable {p wd:Nat} {W:Wh}
theorem zX (hW:Qj W) (hlen:∀ n,(W.bk n).length<100000):Does prog [bY p wd W,bP] 109 #[ptr p] (qX W.min) [bY p wd W,bP]:=Does.ax fun S w0 w h=>by
 obtain⟨⟨vals,mb⟩,sq1⟩:=Scope.xq (F:=fun c=>aG (dm p wd W c)) h;have sq2:Scope S w0 w (dm p wd W (vals,mb)++[bP]):=Scope.gU sq1;have s3:=sq2.box [Ju 0,J 0] 156;obtain⟨B,hB⟩:∃ B,B=w.heap.size:=⟨_,rfl⟩
 rw[←hB]at s3;have S3:=zd s3;have HB:=zd hB;have HW:=zd hW;have HL:=zd hlen;clear h sq1 sq2 s3 hB hW hlen
 go_enter func109,ntmps109
 go_wp2_with fail
 rw[←HB.out]
 go_loopw [9] (fun a wr=>∃ k:Nat,k≤3∧a=J k∧(∀ j,j<k→W.mp j=0)∧Scope S w0 wr (dm p wd W (vals,mb)++[bP]++[box B [Ju 0,J 0] 156])) (fun a _=>3 - (intOf a).toNat)
 case atStart=>exact⟨0,by omega,rfl,fun j hj=>by omega,S3.out⟩
 case round=>
  obtain⟨k,k3,rfl,hz,hs⟩:=hrel;have Hs:=zd hs;have Hz:=zd hz;clear hs hz
  by_cases hk:k<3
  ·have i0:(0:Int)≤(k:Int):=by omega
   have i1:(k:Int)<3:=by omega
   have cm:At wr p (194+k) (Ju (W.mp k)):=Hs.out.sO 0 rfl (BI hk) rfl
   by_cases h0:W.mp k=0
   ·rw[h0]at cm
    have H0:=zd h0;clear h0
    go_wp2_with fail
    refine(QS _).mono ?_
    rintro e w1 ⟨rfl,rfl⟩
    go_wp2
    go_roundw
    case rel=>exact⟨k+1,by omega,by go_num,fun j hj=>by rcases Nat.lt_or_ge j k with h|h;exact Hz.out j h;exact(show j=k by omega)▸H0.out,Hs.out⟩
    case measure=>simp[intOf];omega
   ·obtain⟨b,hb⟩:∃ b,b=Lib.ctz 64 (W.mp k):=⟨_,rfl⟩
    obtain⟨c1,c2⟩:=OZ (W.mp k) h0 (HW.out.mp k);rw[←hb]at c1 c2;have hne:=HW.out.ne k b hk c1 c2;obtain⟨n,hn⟩:∃ n,n=64*k+b:=⟨_,rfl⟩
    have n192:n<192:=by omega
    rw[←hn]at hne;have hmin:=PD hk Hz.out h0;rw[←hb, ←hn]at hmin;obtain⟨g,cap,hv'⟩:=Hs.out.TE 1 rfl n192 hne;have hv:vals n=.slice (some ⟨g,0,none⟩) (W.bk n).length cap:=hv';have lp:=(Hs.out.row (k:=p) 0 rfl).lt;have hown:(vals n).ownBlock=some g:=by rw[hv];rfl
    have cb:wr.cell? ⟨p,2+k*64+b,none⟩=some (.slice (some ⟨g,0,none⟩) (W.bk n).length cap):=by rw[←hv];exact Hs.out.sO 0 rfl (nZ n192) (by omega)
    obtain⟨L,hL⟩:∃ L,L=W.bk n:=⟨_,rfl⟩
    rw[←hL]at cb hne;obtain⟨m,hm⟩:∃ m,m=L.length:=⟨_,rfl⟩
    rw[←hm]at cb;have m0:0<m:=by rw[hm];exact List.length_pos_iff.2 hne
    have mB:m<100000:=by rw[hm,hL];exact HL.out n
    obtain⟨z,hz0⟩:∃ z,L[0]? =some z:=⟨_,List.getElem?_eq_getElem (by omega)⟩
    obtain⟨z0,z1⟩:=Hs.out.Lh 1 rfl n192 hown (by rw[←hL];exact hz0);have hhd:L.headD .zero=z:=by cases L with|nil=>simp at hz0|cons y l=>simpa using hz0
    have b0:(0:Int)≤(b:Int):=by omega
    have b1:(b:Int)<64:=by omega
    have m1:(0:Int)<(m:Int):=by omega
    have bn:decide ((b:Int)<0)=false:=by simp
    obtain⟨fd,hfd,_⟩:=Hs.out.get 3 rfl;have hT:=Ur hfd;have Hb:=zd hb;have Hn:=zd hn;have Hmin:=zd hmin;have Hv:=zd hv;have Hown:=zd hown;have HL2:=zd hL;have Hm:=zd hm;have Hhd:=zd hhd;have H0:=zd h0;have HT:=zd hT;clear hb hn hmin hv hown hL hm hhd h0 hT hne c2 hz0 hfd
    go_wp2_with fail
    refine(Nq (W.mp k) (HW.out.mp k) H0.out _ HT.out).mono ?_
    rintro e w1 ⟨he,rfl⟩
    rw[←Hb.out]at he;subst he;clear cm;have t0:=Hs.out.box z.cells 156;obtain⟨C,hC⟩:∃ C,C=wr.heap.size:=⟨_,rfl⟩
    obtain⟨V,hV⟩:∃ V,V=wr.alloc (.cells #[Ju z.key,J z.id] 156):=⟨_,rfl⟩
    rw[←hC,show wr.alloc (.cells z.cells.toArray 156)=V from hV.symm]at t0;have T0:=zd t0;have HC:=zd hC;have HV:=zd hV;clear t0 hC hV
    go_wp2_with fail
    rw[show wr.alloc (.cells #[Ju z.key,J z.id] 156)=V from HV.out.symm, ←HC.out];clear cb z0 z1 lp
    go_loopw [40] (fun a wx=>∃ j:Nat,j≤m∧a=J j∧Scope S w0 wx (dm p wd W (vals,mb)++[bP]++[box B [Ju 0,J 0] 156]++[box C ((L.take j).foldl P7 z).cells 156])) (fun a _=>m - (intOf a).toNat)
    case atStart=>exact⟨0,by omega,rfl,T0.out⟩
    case round=>
     obtain⟨j,hj,rfl,hx⟩:=hrel;have Hx:=zd hx;clear hx;have lp:=(Hx.out.row (k:=p) 0 rfl).lt
     by_cases hjm:j<m
     ·obtain⟨y,hy⟩:∃ y,L[j]? =some y:=⟨_,List.getElem?_eq_getElem (by rw[←Hm.out];exact hjm)⟩
      have hst:=xn L z hy;obtain⟨y0,y1⟩:=Hx.out.Lh 1 rfl n192 Hown.out (by rw[←HL2.out];exact hy);generalize hcur:(L.take j).foldl P7 z=cur at *;have rc:=Hx.out.row (k:=C) 5 rfl;have q0:At wr C 0 (Ju cur.key):=rc.cell rfl;have q1:At wr C 1 (J cur.id):=rc.cell rfl;have lc:=rc.lt;have j0:(0:Int)≤(j:Int):=by omega
      have j1:(j:Int)<(m:Int):=by omega
      have t1:=Hx.out.box y.cells 156;obtain⟨D,hD⟩:∃ D,D=wr.heap.size:=⟨_,rfl⟩
      obtain⟨V1,hV1⟩:∃ V1,V1=wr.alloc (.cells #[Ju y.key,J y.id] 156):=⟨_,rfl⟩
      rw[←hD,show wr.alloc (.cells y.cells.toArray 156)=V1 from hV1.symm]at t1;have T1:=zd t1;have HD:=zd hD;have HV1:=zd hV1;have Hst:=zd hst;obtain⟨bb,hbb⟩:∃ bb,ahead y cur=bb:=⟨_,rfl⟩
      have Hbb:=zd hbb;clear t1 hD hV1 hst hbb hy rc hcur
      cases bb
      all_goals
       go_wp2_with fail
       rw[show wr.alloc (.cells #[Ju y.key,J y.id] 156)=V1 from HV1.out.symm, ←HD.out];refine((l9 y cur).at T1.out).mono ?_
       rintro e wq ⟨he,sq⟩
       rw[Hbb.out]at he;subst he;clear q0 q1 lc y0 y1
      ·have Sq:=zd sq
       clear sq
       go_wp2
       go_roundw
       case rel=>exact⟨j+1,by omega,by go_num,by rw[Hst.out];unfold P7;rw[Hbb.out];exact Sq.out.drop⟩
       case measure=>simp[intOf];omega
      ·have rd:=sq.row (k:=D) 6 rfl
       obtain⟨d0,d1⟩:=rd.c2;have rc:=sq.row (k:=C) 5 rfl;obtain⟨e0,e1⟩:=rc.c2;have f0:=rc.free 0;have f1:=rc.free 1;have g1:=Scope.au (As:=dm p wd W (vals,mb)++[bP]++[box B [Ju 0,J 0] 156]) (Bs:=[box D y.cells 156]) sq 0 (Ju y.key);have g2:=Scope.au (As:=dm p wd W (vals,mb)++[bP]++[box B [Ju 0,J 0] 156]) (Bs:=[box D y.cells 156]) g1 1 (J y.id);have G2:Hid (Scope S w0 ((wq.setCell ⟨C,0,none⟩ (Ju y.key)).setCell ⟨C,1,none⟩ (J y.id)) ((dm p wd W (vals,mb)++[bP]++[box B [Ju 0,J 0] 156]++[box C y.cells 156])++[box D y.cells 156])):=zd g2;clear rd rc g1 g2 sq
       go_wp2
       go_roundw
       case rel=>exact⟨j+1,by omega,by go_num,by rw[Hst.out];unfold P7;rw[Hbb.out];exact G2.out.drop⟩
       case measure=>simp[intOf];omega
     ·obtain rfl:j=m:=by omega
      have hfin:L.foldl P7 z=Ns (W.bk n):=by rw[←HL2.out,KQ,Hhd.out]
      rw[show L.take j=L by rw[Hm.out,List.take_length],hfin]at Hx;generalize hcur:Ns (W.bk n)=cur at *;have rc:=Hx.out.row (k:=C) 5 rfl;obtain⟨e0,e1⟩:=rc.c2;have rb:=Hx.out.row (k:=B) 4 rfl;obtain⟨b0',b1'⟩:=rb.c2;have f0:=rb.free 0;have f1:=rb.free 1;have q1:=Scope.au (As:=dm p wd W (vals,mb)++[bP]) (Bs:=[box C cur.cells 156]) Hx.out 0 (Ju cur.key);have q2:=Scope.au (As:=dm p wd W (vals,mb)++[bP]) (Bs:=[box C cur.cells 156]) q1 1 (J cur.id);have Q2:=zd q2;clear hfin hcur rc rb q1 q2 lp
      go_wp2
      obtain⟨V2,hV2⟩:∃ V2,V2=(wr.setCell ⟨B,0,none⟩ (Ju cur.key)).setCell ⟨B,1,none⟩ (J cur.id):=⟨_,rfl⟩
      have q3:=Q2.out;rw[←hV2]at q3 ⊢
      have z0:At V2 B 0 (Ju cur.key):=(q3.row (k:=B) 4 rfl).cell rfl;have z1:At V2 B 1 (J cur.id):=(q3.row (k:=B) 4 rfl).cell rfl
      exact bodyPost_ret (v:=.tuple #[.agg #[Ju cur.key,J cur.id],.bool true]) (by simp[results,results109,go_sem,z0,z1]) rfl (Ends.mk' (by rw[Hmin.out];rfl) [box B [Ju cur.key,J cur.id] 156,box C cur.cells 156] (Scope.tX (F:=fun c=>aG (dm p wd W c)) (vals,mb) (Scope.shut1 q3)))
  ·obtain rfl:k=3:=by omega
   have hmin:=O7 Hz.out;have rb:=Hs.out.row (k:=B) 4 rfl;obtain⟨c0,c1⟩:=rb.c2;have f0:=rb.free 0;have f1:=rb.free 1;have q1:=Scope.au (As:=dm p wd W (vals,mb)++[bP]) (Bs:=[]) Hs.out 0 (Ju 0);have q2:=Scope.au (As:=dm p wd W (vals,mb)++[bP]) (Bs:=[]) q1 1 (J 0);have Hmin:=zd hmin;have Q2:=zd q2;clear hmin rb q1 q2
   go_wp2
   obtain⟨V,hV⟩:∃ V,V=(wr.setCell ⟨B,0,none⟩ (Ju 0)).setCell ⟨B,1,none⟩ (J 0):=⟨_,rfl⟩
   have q3:=Q2.out;rw[←hV]at q3 ⊢
   have z0:At V B 0 (Ju 0):=(q3.row (k:=B) 4 rfl).cell rfl;have z1:At V B 1 (J 0):=(q3.row (k:=B) 4 rfl).cell rfl
   exact bodyPost_ret (v:=.tuple #[.agg #[Ju 0,J 0],.bool false]) (by simp[results,results109,go_sem,z0,z1]) rfl (Ends.mk' (by rw[Hmin.out];rfl) [box B [Ju 0,J 0] 156] (Scope.tX (F:=fun c=>aG (dm p wd W c)) (vals,mb) (Scope.shut1 q3)))
end
@[reducible] def eqF (C:Nat):Value:=.func (.func 153) #[] #[ptr C]
theorem QY (w:World):(zeroValue 156).run prog w=.ok (.agg #[Ju 0,J 0]) w:=by kernel_rfl
theorem size_zeroCells (z:Array Value) (n:Nat):(Builtin.zeroCells z n).size=n*z.size:=by simp[Builtin.zeroCells]
theorem Nw {w:World} {g:Nat} {vs:List Value} (h:Row w g vs 156) {i n c:Nat} (hn:0<n) (hl:i*2+n*2≤vs.length) (ty:TypeId):
  ∃ w' rest,(Builtin.clear_ #[161] ty #[.slice (some ⟨g,i*2,none⟩) n c]).run prog w=.ok (.tuple #[]) w'∧Row w' g (vs.take (i*2)++rest) 156∧(vs.take (i*2)++rest).length=vs.length∧dE [g] w w':=by
 obtain⟨m,rfl⟩:∃ m,n=m+1:=⟨n - 1,by omega⟩
 have hsz:(Builtin.zeroCells #[Ju 0,J 0] (m+1)).toList.length=(m+1)*2:=by simp[size_zeroCells]
 have h1:∀ v∈(Builtin.zeroCells #[Ju 0,J 0] (m+1)).toList,v.oneCell'=true:=by
  intro v hv
  simp only[Builtin.zeroCells,Array.toList_map,List.mem_map]at hv;obtain⟨j,_,rfl⟩:=hv
  have:j % 2=0∨j % 2=1:=by omega
  rcases this with e|e<;>simp[e,Value.oneCell']
 have hst:=run_storeCells_at (P:=prog) g (i*2) 156 (Builtin.zeroCells #[Ju 0,J 0] (m+1)).toList 0 vs.toArray w h (by rw[hsz];simpa using hl) h1;refine⟨w.setRow g (vs.take (i*2)++((Builtin.zeroCells #[Ju 0,J 0] (m+1)).toList++vs.drop (i*2+(m+1)*2))).toArray,(Builtin.zeroCells #[Ju 0,J 0] (m+1)).toList++vs.drop (i*2+(m+1)*2),?_,?_,?_,?_⟩
 ·simp only[Nat.add_zero,hsz]at hst
  rw[List.append_assoc]at hst
  simp[Builtin.clear_,run_underlying underlying161,QY,Value.cells,Result.andThen]
  rw[hst]
 ·exact setRow_heap w g vs.toArray (vs.take (i*2)++((Builtin.zeroCells #[Ju 0,J 0] (m+1)).toList++vs.drop (i*2+(m+1)*2))).toArray 156 (0,0) h
 ·rw[List.length_append,List.length_append,hsz,List.length_take,List.length_drop]
  omega
 ·exact⟨rfl,rfl,rfl,by simp,fun k _ hk=>setRow_other w g k _ (fun e=>hk (by simp[e]))⟩
theorem QF (x y:It) (w:World):(Op.equalIn 10000 156 (.agg #[Ju x.key,J x.id]) (.agg #[Ju y.key,J y.id])).run prog w=.ok (decide (x=y)) w:=by
 obtain⟨xk,xi⟩:=x;obtain⟨yk,yi⟩:=y
 by_cases a:xk=yk
 ·subst a
  by_cases b:xi=yi
  ·subst b;simp[go_sem]
  ·simp[go_sem,b]
 ·have a':¬ (xk:Int)=(yk:Int):=by omega
  simp[go_sem,a,a']
theorem xJ (C:Nat) (x y:It):Does prog [box C x.cells 156] 153 #[y.val,ptr C] (.bool (decide (y=x))) [box C x.cells 156]:=Does.ax fun S w0 w h=>by
 have c0:At w C 0 (Ju x.key):=(h.row 0 rfl).cell rfl;have c1:At w C 1 (J x.id):=(h.row 0 rfl).cell rfl;have lc:=(h.row 0 rfl).lt;have q:=QF y x;have s1:=zd (h.box y.cells 156);clear h;unfold It.val
 go_enter func153,ntmps153
 go_wp2
 go_ret
 exact Ends.mk [box w.heap.size y.cells 156] s1.out
def O4 (L:List It) (x:It):Int:=match L.findIdx? (fun y=>decide (y=x))with|none=> -1|some i=>i
theorem Bc {L:List It} {x:It} (h:∀ y∈L,y≠x):O4 L x= -1:=by
 unfold O4;rw[List.findIdx?_eq_none_iff.2 (fun y hy=>decide_eq_false (h y hy))]
theorem Be {L:List It} {x:It} {i:Nat} (hi:L[i]? =some x) (h:∀ j y,j<i→L[j]? =some y→y≠x):O4 L x=i:=by
 have hlt:=(List.getElem?_eq_some_iff.1 hi).1;unfold O4
 rw[show L.findIdx? (fun y=>decide (y=x))=some i from by
  rw[List.findIdx?_eq_some_iff_getElem];refine⟨hlt,by rw[(List.getElem?_eq_some_iff.1 hi).2];simp,fun j hj=>?_⟩
  simp
  exact h j _ hj (List.getElem?_eq_getElem (by omega))]
section
variable {C:Nat} {x:It} {L:List It} {g cap:Nat}
theorem wY {n:Nat} (hn:n=L.length) (hlen:n<100000):Does prog [aU (.slice (some ⟨g,0,none⟩) n cap) 156 2 n (its L),box C x.cells 156] 181 #[.slice (some ⟨g,0,none⟩) n cap,eqF C] (J (O4 L x)) [aU (.slice (some ⟨g,0,none⟩) n cap) 156 2 n (its L),box C x.cells 156]:=Does.ax fun S w0 w h=>by
 have H:=zd h;have Hn:=zd hn;clear h hn
 go_enter func181,ntmps181
 go_wp2_with fail
 go_loopw [8] (fun a wr=>∃ k:Nat,k≤n∧a=J k∧(∀ j y,j<k→L[j]? =some y→y≠x)∧Scope S w0 wr [aU (.slice (some ⟨g,0,none⟩) n cap) 156 2 n (its L),box C x.cells 156]) (fun a _=>n - (intOf a).toNat)
 case atStart=>exact⟨0,by omega,rfl,fun j y hj=>by omega,H.out⟩
 case round=>
  obtain⟨k,hk,rfl,hz,hs⟩:=hrel;have Hz:=zd hz;have Hs:=zd hs;clear hz hs
  by_cases hkn:k<n
  ·obtain⟨y,hy⟩:∃ y,L[k]? =some y:=⟨_,List.getElem?_eq_getElem (by rw[←Hn.out];exact hkn)⟩
   obtain⟨y0,y1⟩:=Hs.out.item (i:=0) rfl hy;have k0:(0:Int)≤(k:Int):=by omega
   have k1:(k:Int)<(n:Int):=by omega
   have Hy:=zd hy;clear hy
   by_cases e:y=x
   ·subst e
    have hd:decide (y=y)=true:=by simp
    have hfin:=Be Hy.out Hz.out;have Hfin:=zd hfin;have Hd:=zd hd;clear hfin hd
    go_wp2_with fail
    refine((xJ C y y).fC Hs.out).mono ?_
    rintro e w1 ⟨he,s1⟩
    rw[decide_eq_true rfl]at he;subst he;have S1:=zd s1;clear s1
    go_wp2
    go_ret
    exact Ends.mk' (by rw[Hfin.out];rfl) [] S1.out
   ·have hd:decide (y=x)=false:=decide_eq_false e
    have He:=zd e;have Hd:=zd hd;clear e hd
    go_wp2_with fail
    refine((xJ C x y).fC Hs.out).mono ?_
    rintro e w1 ⟨he,s1⟩
    rw[Hd.out]at he;subst he;have S1:=zd s1;clear s1
    go_wp2
    go_roundw
    case rel=>exact⟨k+1,by omega,by go_num,fun j z hj hzz=>by
     rcases Nat.lt_or_ge j k with h|h
     ·exact Hz.out j z h hzz
     ·obtain rfl:j=k:=by omega
      rw[Hy.out]at hzz
      cases hzz
      exact He.out,S1.out⟩
    case measure=>simp[intOf];omega
  ·obtain rfl:k=n:=by omega
   have hfin:=Bc (L:=L) (x:=x) (fun y hy=>by
    obtain⟨j,hj⟩:=List.mem_iff_getElem?.1 hy
    exact Hz.out j y (by rw[Hn.out];exact(List.getElem?_eq_some_iff.1 hj).1) hj)
   have Hfin:=zd hfin;clear hfin
   go_wp2
   go_ret
   exact Ends.mk' (by rw[Hfin.out];rfl) [] Hs.out
theorem Io (v:Value) (hv:v=nS∨∃ g c,v=.slice (some ⟨g,0,none⟩) 0 c) (fv:Value):Same 181 #[v,fv] (J (-1)):=fun w=>by
 rcases hv with rfl|⟨g,c,rfl⟩
 all_goals
  go_enter func181,ntmps181
  go_wp2_with fail
  go_loop [8] (fun a=>a=J 0) (fun _=>0)
  case atStart=>rfl
  case round=>
   subst hrel
   go_wp2
   go_ret
   exact⟨rfl,rfl⟩
def zC (x:It) (y:It):Bool:= !decide (y=x)
theorem RY (v:Value) (hv:v=nS∨∃ g c,v=.slice (some ⟨g,0,none⟩) 0 c) (fv:Value):Same 152 #[v,fv] v:=fun w=>by
 have Hv:=zd (Io v hv fv)
 rcases hv with rfl|⟨g,c,rfl⟩
 all_goals
  go_enter func152,ntmps152
  go_wp2_with fail
  refine(Hv.out _).mono ?_
  rintro e w1 ⟨rfl,rfl⟩
  go_wp2
  go_ret
  exact⟨rfl,rfl⟩
theorem OY {n:Nat} (hn:n=L.length) (hlen:n<100000) (h:∀ y∈L,y≠x):Does prog [aU (.slice (some ⟨g,0,none⟩) n cap) 156 2 n (its L),box C x.cells 156] 152 #[.slice (some ⟨g,0,none⟩) n cap,eqF C] (.slice (some ⟨g,0,none⟩) n cap) [aU (.slice (some ⟨g,0,none⟩) n cap) 156 2 n (its L),box C x.cells 156]:=Does.ax fun S w0 w hs=>by
 have d:=wY (C:=C) (x:=x) (g:=g) (cap:=cap) hn hlen;rw[Bc h]at d;have H:=zd hs;have D:=zd d;clear hs d h hn
 go_enter func152,ntmps152
 go_wp2_with fail
 refine(D.out.call (Bs:=[]) H.out).mono ?_
 rintro e w1 ⟨rfl,s1⟩
 have S1:=zd s1;clear s1
 go_wp2
 go_ret
 exact Ends.mk [] S1.out
end
structure sG (L:List It) (x:It) (n i j:Nat) (M:List It):Prop where
 len:M.length=n
 lt:i<j
 le:j≤n
 kept:M.take i=(L.take j).filter (zC x)
 rest:∀ k,j≤k→M[k]? =L[k]?
theorem filter_none {L:List It} {x:It} (h:∀ y∈L,y≠x):L.filter (zC x)=L:=by
 rw[List.filter_eq_self]
 intro y hy
 simp[zC,h y hy]
theorem sG.start {L:List It} {x:It} {n i:Nat} (hn:n=L.length) (hi:L[i]? =some x) (h:∀ j y,j<i→L[j]? =some y→y≠x):sG L x n i (i+1) L where
 len:=hn.symm
 lt:=by omega
 le:=by have:=(List.getElem?_eq_some_iff.1 hi).1;omega
 kept:=by
  rw[List.take_add_one,hi,List.filter_append]
  have:(L.take i).filter (zC x)=L.take i:=filter_none (fun y hy=>by
   obtain⟨j,hj⟩:=List.mem_iff_getElem?.1 hy;rw[List.getElem?_take]at hj
   split at hj
   ·exact h j y (by assumption) hj
   ·cases hj)
  rw[this]
  simp[zC]
 rest:=fun _ _=>rfl
theorem sG.skip {L M:List It} {x:It} {n i j:Nat} (h:sG L x n i j M) (hj:L[j]? =some x):sG L x n i (j+1) M where
 len:=h.len
 lt:=by have:=h.lt;omega
 le:=by have:=(List.getElem?_eq_some_iff.1 (h.rest j (Nat.le_refl _)▸hj)).1;have:=h.len;omega
 kept:=by rw[h.kept,List.take_add_one,hj,List.filter_append];simp[zC]
 rest:=fun k hk=>h.rest k (by omega)
theorem sG.keep {L M:List It} {x y:It} {n i j:Nat} (h:sG L x n i j M) (hj:L[j]? =some y) (hy:y≠x):sG L x n (i+1) (j+1) (M.set i y) where
 len:=by rw[List.length_set];exact h.len
 lt:=by have:=h.lt;omega
 le:=by have:=(List.getElem?_eq_some_iff.1 (h.rest j (Nat.le_refl _)▸hj)).1;have:=h.len;omega
 kept:=by
  have hj':=(List.getElem?_eq_some_iff.1 (h.rest j (Nat.le_refl _)▸hj)).1;have hil:i<M.length:=by have:=h.lt;omega
  rw[List.take_add_one,List.take_set_of_le (Nat.le_refl _),h.kept,List.getElem?_set,if_pos rfl,if_pos hil,List.take_add_one,hj,List.filter_append]
  simp[zC,hy]
 rest:=fun k hk=>by rw[List.getElem?_set,if_neg (by have:=h.lt;omega)];exact h.rest k (by omega)
section
variable {C:Nat} {x:It} {L:List It} {g cap:Nat}
theorem PI {n i0:Nat} (hn:n=L.length) (hlen:n<100000) (hi:L[i0]? =some x) (h:∀ j y,j<i0→L[j]? =some y→y≠x) {F:List It} (hF:F=L.filter (zC x)) {m:Nat} (hm:m=F.length):Does prog [aU (.slice (some ⟨g,0,none⟩) n cap) 156 2 n (its L),box C x.cells 156] 152 #[.slice (some ⟨g,0,none⟩) n cap,eqF C] (.slice (some ⟨g,0,none⟩) m cap) [aU (.slice (some ⟨g,0,none⟩) m cap) 156 2 m (its F),box C x.cells 156]:=Does.ax fun S w0 w hs=>by
 have d:=wY (C:=C) (x:=x) (g:=g) (cap:=cap) hn hlen;rw[Be hi h]at d;have hst:=sG.start hn hi h;have H:=zd hs;have D:=zd d;have Hst:=zd hst;have HF:=zd hF;have Hm:=zd hm;have Hn:=zd hn;have hi0:i0<n:=by have:=(List.getElem?_eq_some_iff.1 hi).1;omega
 have n1:((i0:Int)== -1)=false:=beq_eq_false_iff_ne.2 (by omega);clear hs d h hn hst hi hF hm
 go_enter func152,ntmps152
 go_wp2_with fail
 refine(D.out.call (Bs:=[]) H.out).mono ?_
 rintro e w1 ⟨rfl,s1⟩
 obtain⟨g',cap',rest,hgg,s2,k1,k2,k3,k4⟩:=Scope.qj s1 (by omega);obtain⟨rfl,rfl⟩:g=g'∧cap=cap':=by simp at hgg;exact⟨hgg.1,hgg.2⟩
 have S2:=zd s2;have K3:=zd k3;have K4:=zd k4;clear s1 s2 hgg k3 k4
 go_wp2_with fail
 go_loopw [5,6] (fun a b wr=>∃ (i j:Nat) (M:List It),a=J i∧b=J j∧sG L x n i j M∧Scope S w0 wr [box g (its M++rest) 156,box C x.cells 156]) (fun _ b _=>n - (intOf b).toNat)
 case atStart=>exact⟨i0,i0+1,L,rfl,by go_num,Hst.out,S2.out⟩
 case round=>
  obtain⟨i,j,M,rfl,rfl,hd,hs⟩:=hrel;have h1:=hd.lt;have h2:=hd.le;have Hd:=zd hd;have Hs:=zd hs;clear hd hs
  by_cases hjn:j<n
  ·obtain⟨y,hy⟩:∃ y,L[j]? =some y:=⟨_,List.getElem?_eq_getElem (by rw[←Hn.out];exact hjn)⟩
   have hy2:=(Hd.out.rest j (Nat.le_refl _)).trans hy;have rg:=Hs.out.row (k:=g) 0 rfl;have y0:=rg.cell (gX hy2 rest).1;have y1:=rg.cell (gX hy2 rest).2;have lg:=rg.lt;have j0:(0:Int)≤(j:Int):=by omega
   have j1:(j:Int)<(n:Int):=by omega
   have i0':(0:Int)≤(i:Int):=by omega
   have i1':(i:Int)<(n:Int):=by omega
   have t1:=Hs.out.box y.cells 156;obtain⟨E,hE⟩:∃ E,E=wr.heap.size:=⟨_,rfl⟩
   obtain⟨V1,hV1⟩:∃ V1,V1=wr.alloc (.cells #[Ju y.key,J y.id] 156):=⟨_,rfl⟩
   rw[←hE,show wr.alloc (.cells y.cells.toArray 156)=V1 from hV1.symm]at t1;have T1:=zd t1;have HE:=zd hE;have HV1:=zd hV1;have Hy:=zd hy;obtain⟨bb,hbb⟩:∃ bb,decide (y=x)=bb:=⟨_,rfl⟩
   have Hbb:=zd hbb;clear t1 hE hV1 hy hy2 rg hbb
   go_wp2_with fail
   rw[show wr.alloc (.cells #[Ju y.key,J y.id] 156)=V1 from HV1.out.symm, ←HE.out];refine((xJ C x y).fC T1.out).mono ?_
   rintro e wq ⟨he,sq⟩
   rw[Hbb.out]at he;subst he;clear y0 y1 lg
   cases bb
   ·have hyx:=of_decide_eq_false Hbb.out
    have rd:=sq.row (k:=E) 2 rfl;obtain⟨d0,d1⟩:=rd.c2;have hil:i<M.length:=by rw[Hd.out.len];omega
    obtain⟨z,hz⟩:∃ z,M[i]? =some z:=⟨_,List.getElem?_eq_getElem hil⟩
    have rg:=sq.row (k:=g) 0 rfl;have x0:=rg.cell (gX hz rest).1;have x1:=rg.cell (gX hz rest).2;have f0:=rg.free (i*2);have f1:=rg.free (i*2+1);have g1:=Scope.au (As:=[]) (Bs:=[box C x.cells 156,box E y.cells 156]) sq (i*2) (Ju y.key);have g2:=Scope.au (As:=[]) (Bs:=[box C x.cells 156,box E y.cells 156]) g1 (i*2+1) (J y.id);rw[pV M i y hil rest]at g2;have G2:Hid (Scope S w0 ((wq.setCell ⟨g,i*2,none⟩ (Ju y.key)).setCell ⟨g,i*2+1,none⟩ (J y.id)) ([box g (its (M.set i y)++rest) 156,box C x.cells 156]++[box E y.cells 156])):=zd g2;have Hyx:=zd hyx;have Hil:=zd hil;clear rd rg g1 g2 sq hz hyx hil
    go_wp2
    go_roundw
    case rel=>exact⟨i+1,j+1,M.set i y,by go_num,by go_num,Hd.out.keep Hy.out Hyx.out,G2.out.drop⟩
    case measure=>simp[intOf];omega
   ·have hyx:=of_decide_eq_true Hbb.out
    subst hyx;have Sq:=zd sq;clear sq
    go_wp2
    go_roundw
    case rel=>exact⟨i,j+1,M,rfl,by go_num,Hd.out.skip Hy.out,Scope.drop (As:=[box g (its M++rest) 156,box C y.cells 156]) Sq.out⟩
    case measure=>simp[intOf];omega
  ·obtain rfl:j=n:=by omega
   have hkept:=Hd.out.kept;rw[show L.take j=L by rw[Hn.out,List.take_length], ←HF.out]at hkept;have hMl:=Hd.out.len;have hFl:F.length=i:=by rw[←hkept,List.length_take];omega
   obtain rfl:m=i:=by rw[Hm.out,hFl]
   have hicap:(m:Int)<(cap:Int):=by omega
   have hcn:¬ cap=m:=by omega
   have rg:=Hs.out.row (k:=g) 0 rfl;have k3:=K3.out;have k4:=K4.out;have hM2:=jf M;have hln:(its M++rest).length=cap*2:=by rw[←k3,List.length_append,List.length_append,hM2,hMl,jf L, ←Hn.out]
   obtain⟨w5,rest',r5,row5,len5,d5⟩:=Nw rg (i:=m) (n:=j - m) (c:=cap - m) (by omega) (by rw[hln];omega) 0;have e5:(its M++rest).take (m*2)=its F:=by rw[List.take_append_of_le_length (by omega), ←EM,hkept]
   rw[e5]at row5 len5;rw[hln]at len5;obtain⟨fg,⟨_,rfl⟩,st⟩:=Hs.out.turned;have s6:=st (box g (its F++rest') 156) w5 [g] ⟨row5,rfl⟩ d5 (Own.refl _ _);have s7:=Scope.own (size:=2) (n:=m) (cap:=cap) s6 (by omega) k2 len5 (by rw[jf,hFl]);have S7:=zd s7;clear hkept hFl rg k3 k4 hM2 hln row5 len5 e5 s6 s7 st d5 hMl
   go_wp2
   go_ret
   exact Ends.mk [] S7.out
def cutV (v:Value) (m:Nat):Value:=match v with|.slice (some a) _ c=>.slice (some a) m c|v=>v
theorem Ri {v:Value} (hlen:L.length<100000) {F:List It} (hF:F=L.filter (zC x)) (hv:(v=nS∧L=[])∨∃ g c,v=.slice (some ⟨g,0,none⟩) L.length c):
  Does prog [aU v 156 2 L.length (its L),box C x.cells 156] 152 #[v,eqF C] (cutV v F.length) [aU (cutV v F.length) 156 2 F.length (its F),box C x.cells 156]:=by
 rcases hv with⟨rfl,rfl⟩|⟨g,c,rfl⟩
 ·obtain rfl:F=[]:=hF
  intro w fp h
  exact(RY dW (.inl rfl) (eqF C) w).mono fun e w' ⟨he,hw⟩=>⟨he,by subst hw;exact⟨fp,h,dE.refl _ _,Own.refl _ _⟩⟩
 ·by_cases hx:∃ y∈L,y=x
  ·obtain⟨y,hy,rfl⟩:=hx
   obtain⟨i,hi,hb⟩:∃ i,L[i]? =some y∧∀ (j:Nat) (z:It),j<i→L[j]? =some z→z≠y:=by
    cases hf:L.findIdx? (fun z=>decide (z=y))with
    |none=>
     have:=List.findIdx?_eq_none_iff.1 hf y hy
     simp at this
    |some i=>
     obtain⟨hlt,h1,h2⟩:=List.findIdx?_eq_some_iff_getElem.1 hf;refine⟨i,by rw[List.getElem?_eq_getElem hlt];simpa using h1,fun j z hj hz e=>?_⟩;obtain⟨hjl,hje⟩:=List.getElem?_eq_some_iff.1 hz
     have:=h2 j hj
     simp at this
     exact this (hje.trans e)
   exact PI (g:=g) (cap:=c) rfl hlen hi hb hF rfl
  ·have hall:∀ y∈L,y≠x:=fun y hy e=>hx ⟨y,hy,e⟩
   rw[filter_none hall]at hF;subst hF
   exact OY (g:=g) (cap:=c) rfl hlen hall
end
end Go.Proofs.YtjnbbmgbmiggbaaGreatDoor
