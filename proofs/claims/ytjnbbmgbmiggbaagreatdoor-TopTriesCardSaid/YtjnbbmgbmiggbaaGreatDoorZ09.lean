/- Lemmas for TopTries' card: package queue; package core, first part. -/
import Derived.Test.YtjnbbmgbmiggbaaGreatDoorZ08
set_option linter.unusedSimpArgs false
set_option linter.unusedVariables false
set_option maxRecDepth 20000
set_option maxHeartbeats 4000000
namespace Go.Proofs.YtjnbbmgbmiggbaaGreatDoor
open Go Go.RowKit Go.Maps Go.Proofs.Tryz
theorem qK {α:Type}:∀ (i:Nat) (l:List α) (x:α),i<l.length→(x::l.eraseIdx i).Perm (l.set i x)
 |_,[],_,h=>by simp at h
 |0,_::l,x,_=>List.Perm.refl _
 |i+1,y::l,x,h=>by
  show(x::y::l.eraseIdx i).Perm (y::l.set i x)
  exact(List.Perm.swap _ _ _).trans (List.Perm.cons _ (qK i l x (by simpa using h)))
section
variable {S:List Nat} {w0 w:World}
theorem Does.inp {P:Program} {A A':HA} {As:List HA} {f:FuncId} {args:Array Value} {r:Value} (d:Does P [A] f args r [A']) (i:Nat) (hi:As[i]? =some A) (h:Scope S w0 w As):
  Calls P f args w fun e w'=>e=.returned r∧Scope S w0 w' (As.set i A'):=
 (Does.nth d i hi h).mono fun _ _ ⟨h1,h2⟩=>⟨h1,h2.perm (qK i As A' (List.getElem?_eq_some_iff.1 hi).1)⟩
theorem Does.Qx {P:Program} {A A' B:HA} {As:List HA} {f:FuncId} {args:Array Value} {r:Value} (d:Does P [A,B] f args r [A',B]) (i j:Nat) (hi:As[i]? =some A) (hj:(As.eraseIdx i)[j]? =some B) (h:Scope S w0 w As):
  Calls P f args w fun e w'=>e=.returned r∧Scope S w0 w' (As.set i A'):=
 (Does.two d i j hi hj h).mono fun _ _ ⟨h1,h2⟩=>⟨h1,h2.perm ((List.Perm.cons _ (jF j _ _ hj).symm).trans (qK i As A' (List.getElem?_eq_some_iff.1 hi).1))⟩
end
def shards (wd:Nat) (ps:List Nat) (sh:List Sh):List HA:=List.zipWith (fun p s=>dF p wd s) ps sh
theorem yU {wd:Nat} {ps:List Nat} {sh:List Sh} {i p:Nat} {s:Sh} (hp:ps[i]? =some p) (hs:sh[i]? =some s):(shards wd ps sh)[i]? =some (dF p wd s):=by
 unfold shards;rw[List.getElem?_zipWith,hp,hs]
theorem ug {wd:Nat} {i p:Nat} {s:Sh}:∀ {ps:List Nat} {sh:List Sh} {j:Nat},ps[j]? =some p→(shards wd ps sh).set j (dF p wd s)=shards wd ps (sh.set j s)
 | [],_,_,h=>by simp at h
 |q::ps,[],_,h=>by simp[shards]
 |q::ps,z::sh,0,h=>by simp at h;subst h;simp[shards]
 |q::ps,z::sh,j+1,h=>by
  have:=ug (wd:=wd) (i:=i) (s:=s) (ps:=ps) (sh:=sh) (j:=j) (by simpa using h)
  simp only[shards,List.zipWith_cons_cons,List.set_cons_succ]at this ⊢
  rw[this]
def ptrs (ps:List Nat):List Value:=ps.map fun p=>ptr p
theorem xG {ps:List Nat} {i p:Nat} (h:ps[i]? =some p) (rest:List Value):(ptrs ps++rest)[i]? =some (ptr p):=by
 have hk:=(List.getElem?_eq_some_iff.1 h).1;rw[List.getElem?_append_left (by simpa [ptrs]using hk)]
 simp[ptrs,h]
structure Vu where
 gs:Nat
 cap:Nat
 rest:List Value
 pt:Nat
 ps:List Nat
@[reducible] def IP (p:Nat) (q:Qu) (c:Vu):HA:=box p [.slice (some ⟨c.gs,0,none⟩) q.sh.length c.cap,ptr c.pt] 152
@[reducible] def dP (p wd:Nat) (q:Qu) (c:Vu):List HA:=IP p q c::box c.gs (ptrs c.ps++c.rest) 153::kD c.pt q.t::shards wd c.ps q.sh
structure Ue (q:Qu) (c:Vu):Prop where
 len:c.ps.length=q.sh.length
def Dy (F:Prop) (A:HA):HA where
 holds w fp:=F∧A.holds w fp
 lt h:=A.lt h.2
 iZ h c hn:=⟨h.1,A.iZ h.2 c hn⟩
@[reducible] def dR (p wd:Nat) (q:Qu):HA:=uk fun c=>Dy (Ue q c) (aG (dP p wd q c))
section
variable {S:List Nat} {w0 w:World} {p wd:Nat} {q:Qu} {Bs:List HA}
theorem Scope.DT {F:Prop} {A:HA} (h:Scope S w0 w (Dy F A::Bs)):F∧Scope S w0 w (A::Bs):=by
 obtain⟨f,hf⟩:=h.head
 exact⟨hf.1,h.as fun _ hm=>hm.2⟩
theorem Scope.Dv {F:Prop} {A:HA} (hF:F) (h:Scope S w0 w (A::Bs)):Scope S w0 w (Dy F A::Bs):=h.as fun _ hm=>⟨hF,hm⟩
theorem Scope.tV (h:Scope S w0 w (dR p wd q::Bs)):∃ c,Ue q c∧Scope S w0 w (dP p wd q c++Bs):=by
 obtain⟨c,s1⟩:=Scope.xq (F:=fun c=>Dy (Ue q c) (aG (dP p wd q c))) h;obtain⟨hF,s2⟩:=s1.DT
 exact⟨c,hF,Scope.gU s2⟩
theorem Scope.nK {c:Vu} (hF:Ue q c) (h:Scope S w0 w (dP p wd q c++Bs)):Scope S w0 w (dR p wd q::Bs):=
 Scope.tX (F:=fun c=>Dy (Ue q c) (aG (dP p wd q c))) c (Scope.Dv hF (Scope.shut1 (As:=dP p wd q c) h))
structure zy (q:Qu) (m:Nat):Prop where
 pos:1≤q.sh.length
 most:q.sh.length≤4
 tour:KW q.t
 leaves:q.t.leaves.length=q.sh.length
 sh:∀ s∈q.sh,pG s m
theorem NT {m:Nat} {s:Sh} (h:pG s m):okI (qP s.min).1:=by
 cases hq:s.min with
 |none=>exact oU
 |some x=>exact uK h hq
theorem zy.turn {m m':Nat} (h:zy q m) (hm:m≤m') {i:Nat} {s:Sh} (hi:i<q.sh.length) (hs:pG s m'):zy (q.turn i s) m':=by
 obtain⟨h1,h2⟩:=h.tour.qx (i:=i) (f:=qP s.min) (by rw[h.leaves];exact hi) (NT hs);refine⟨by simp[Qu.turn];exact h.pos,by simp[Qu.turn];exact h.most,h1,by rw[show(q.turn i s).t.leaves.length=_ from h2];simp[Qu.turn,h.leaves],fun z hz=>?_⟩
 rcases List.mem_or_eq_of_mem_set hz with k|k
 ·exact(h.sh z k).le' hm
 ·subst k;exact hs
end
section
variable {S:List Nat} {w0 w:World} {p wd:Nat} {q:Qu} {c:Vu} {Bs:List HA} {P:Program} {f:FuncId} {args:Array Value} {r:Value}
theorem yx {ps:List Nat} {sh:List Sh} (h:ps.length=sh.length):(shards wd ps sh).length=sh.length:=by
 unfold shards;rw[List.length_zipWith];omega
theorem Does.UA {pi i:Nat} {s s':Sh} (d:Does P [dF pi wd s] f args r [dF pi wd s']) (hF:Ue q c) (hp:c.ps[i]? =some pi) (hs:q.sh[i]? =some s) (h:Scope S w0 w (dP p wd q c++Bs)):
  Calls P f args w fun e w'=>e=.returned r∧Scope S w0 w' (dP p wd ⟨q.sh.set i s',q.t⟩ c++Bs):=by
 have hi:=(List.getElem?_eq_some_iff.1 hs).1;have hl:=yx (wd:=wd) hF.len;have h1:(dP p wd q c++Bs)[i+3]? =some (dF pi wd s):=by
  show(shards wd c.ps q.sh++Bs)[i]? =_
  rw[List.getElem?_append_left (by omega)]
  exact yU hp hs
 refine(Does.inp d (i+3) h1 h).mono fun e w' ⟨he,h2⟩=>⟨he,?_⟩
 have e:(dP p wd q c++Bs).set (i+3) (dF pi wd s')=dP p wd ⟨q.sh.set i s',q.t⟩ c++Bs:=by
  show _::_::_::(shards wd c.ps q.sh++Bs).set i (dF pi wd s')=_::_::_::(shards wd c.ps (q.sh.set i s')++Bs)
  rw[List.set_append_left _ _ (by omega),ug (i:=i) hp];rw[show IP p ⟨q.sh.set i s',q.t⟩ c=IP p q c from congrArg (fun n=>box p [.slice (some ⟨c.gs,0,none⟩) n c.cap,ptr c.pt] 152) (List.length_set ..)]
 rwa [e]at h2
theorem Does.PH {pi i:Nat} {s s':Sh} (d:Does P [dF pi wd s,bP] f args r [dF pi wd s',bP]) (hF:Ue q c) (hp:c.ps[i]? =some pi) (hs:q.sh[i]? =some s) (h:Scope S w0 w (bP::(dP p wd q c++Bs))):
  Calls P f args w fun e w'=>e=.returned r∧Scope S w0 w' (bP::(dP p wd ⟨q.sh.set i s',q.t⟩ c++Bs)):=by
 have hi:=(List.getElem?_eq_some_iff.1 hs).1;have hl:=yx (wd:=wd) hF.len;have h1:(bP::(dP p wd q c++Bs))[i+4]? =some (dF pi wd s):=by
  show(shards wd c.ps q.sh++Bs)[i]? =_
  rw[List.getElem?_append_left (by omega)]
  exact yU hp hs
 refine(Does.Qx d (i+4) 0 h1 rfl h).mono fun e w' ⟨he,h2⟩=>⟨he,?_⟩
 have e:(bP::(dP p wd q c++Bs)).set (i+4) (dF pi wd s')=bP::(dP p wd ⟨q.sh.set i s',q.t⟩ c++Bs):=by
  show _::_::_::_::(shards wd c.ps q.sh++Bs).set i (dF pi wd s')=_::_::_::_::(shards wd c.ps (q.sh.set i s')++Bs)
  rw[List.set_append_left _ _ (by omega),ug (i:=i) hp];rw[show IP p ⟨q.sh.set i s',q.t⟩ c=IP p q c from congrArg (fun n=>box p [.slice (some ⟨c.gs,0,none⟩) n c.cap,ptr c.pt] 152) (List.length_set ..)]
 rwa [e]at h2
theorem Does.QO {t':To} (d:Does P [kD c.pt q.t] f args r [kD c.pt t']) (h:Scope S w0 w (bP::(dP p wd q c++Bs))):
  Calls P f args w fun e w'=>e=.returned r∧Scope S w0 w' (bP::(dP p wd ⟨q.sh,t'⟩ c++Bs)):=Does.inp d 3 rfl h
theorem yS {α:Type} {l:List α} {i:Nat} {x:α} (h:l[i]? =some x):l.set i x=l:=by
 apply List.ext_getElem?
 intro j
 rw[List.getElem?_set]
 split
 ·rename_i e;subst e;rw[h];simp[(List.getElem?_eq_some_iff.1 h).1]
 ·rfl
end
section
variable {p wd:Nat} {q:Qu}
theorem yY {i m:Nat} (hq:zy q m) (hm:m<100000) (hi:i<q.sh.length):Does prog [dR p wd q,bP] 60 #[ptr p,J i] (.tuple #[]) [dR p wd ⟨q.sh,q.t.qx i (qP (q.sh.getD i .new).min)⟩,bP]:=Does.ax fun S w0 w h=>by
 obtain⟨c,hF,s0⟩:=Scope.tV h;have s1:Scope S w0 w (bP::(dP p wd q c++[])):=s0.perm (List.perm_append_comm (l₁:=dP p wd q c) (l₂:=[bP])) |>.perm (by rw[List.append_nil];exact List.Perm.refl _)
 obtain⟨s,hs⟩:∃ s,q.sh[i]? =some s:=⟨_,List.getElem?_eq_getElem hi⟩
 obtain⟨pi,hpi⟩:∃ pi,c.ps[i]? =some pi:=⟨_,List.getElem?_eq_getElem (by rw[hF.len];exact hi)⟩
 have okS:=hq.sh s (List.mem_of_getElem? hs);obtain⟨n,hn⟩:∃ n,n=q.sh.length:=⟨_,rfl⟩
 have c0:w.cell? ⟨p,0,none⟩=some (.slice (some ⟨c.gs,0,none⟩) n c.cap):=by rw[hn];exact(s1.row (k:=p) 1 rfl).cell rfl
 have ci:At w c.gs i (ptr pi):=(s1.row (k:=c.gs) 2 rfl).cell (xG hpi c.rest);have hin:i<n:=by rw[hn];exact hi
 have hg:q.sh.getD i .new=s:=by rw[List.getD_eq_getElem?_getD,hs];rfl
 rw[hg];have hit:i<q.t.leaves.length:=by rw[hq.leaves];exact hi
 have hT:=hq.tour;have S1:=zd s1;have HF:=zd hF;have Hs:=zd hs;have Hpi:=zd hpi;have OkS:=zd okS;have HT:=zd hT;have Hit:=zd hit;clear h s0 s1 hF hs hpi okS hg hT hit hq hi hn
 go_enter func60,ntmps60
 go_wp2_with fail
 refine(Does.PH (vO OkS.out hm) HF.out Hpi.out Hs.out S1.out).mono ?_
 rintro e w1 ⟨he,s2⟩
 rw[yS Hs.out]at s2;obtain⟨xk,xi,is,hx,hx1,hx0⟩:=jE s.min;rw[hx]at he;subst he;obtain⟨X,hX⟩:∃ X,X=w1.heap.size:=⟨_,rfl⟩
 obtain⟨V,hV⟩:∃ V,V=w1.alloc (.cells #[Ju xk,J xi] 156):=⟨_,rfl⟩
 have s3:=s2.box [Ju xk,J xi] 156;rw[←hX,show w1.alloc (.cells [Ju xk,J xi].toArray 156)=V from hV.symm]at s3;have s4:Scope S w0 V (bP::(dP p wd q c++[box X [Ju xk,J xi] 156])):=by simpa using s3
 have c1:At w1 p 1 (ptr c.pt):=(s2.row (k:=p) 1 rfl).cell rfl;have lp:=(s2.row (k:=p) 1 rfl).lt;have fin:∀ {t':To} {w':World},Scope S w0 w' (bP::(dP p wd ⟨q.sh,t'⟩ c++[box X [Ju xk,J xi] 156]))→Scope S w0 w' ([dR p wd ⟨q.sh,t'⟩,bP]++[box X [Ju xk,J xi] 156]):=fun {t' w'} s=>by
  refine Scope.nK (q:=⟨q.sh,t'⟩) (c:=c) ⟨HF.out.len⟩ (s.perm ?_)
  exact(List.perm_middle (a:=bP) (l₁:=dP p wd ⟨q.sh,t'⟩ c) (l₂:=[box X [Ju xk,J xi] 156])).symm
 have S4:=zd s4;have HX:=zd hX;have HV:=zd hV
 cases is
 ·obtain⟨h1,_,_⟩:=hx0 rfl
  have hl:qP s.min=(It.zero,false):=by rw[h1];rfl
  have Hl:=zd hl;clear s2 s3 s4 hX hV hx hx1 hx0 h1 hl S1 c0 ci
  rename_i e1 e2
  clear e1 e2
  go_wp2_with fail
  rw[←HV.out];refine(Does.QO (DJ HT.out Hit.out) S4.out).mono ?_
  rintro e w2 ⟨rfl,s5⟩
  rw[←Hl.out]at s5;have S5:=zd (fin s5);clear s5 fin
  go_wp2
  go_end0
  exact Ends.mk _ S5.out
 ·have h1:=hx1 rfl
  have hl:qP s.min=(⟨xk,xi⟩,true):=by rw[h1];rfl
  have okx:okI ⟨xk,xi⟩:=uK OkS.out h1;have Hl:=zd hl;have sd:=s4.drew;have h0:V.drew.cell? ⟨p,1,none⟩=some (ptr c.pt)∧V.drew.cell? ⟨X,0,none⟩=some (Ju xk)∧V.drew.cell? ⟨X,1,none⟩=some (J xi):=by
   have hi2:(bP::(dP p wd q c++[box X [Ju xk,J xi] 156]))[4+(shards wd c.ps q.sh).length]? =some (box X [Ju xk,J xi] 156):=by
    rw[show 4+(shards wd c.ps q.sh).length=(shards wd c.ps q.sh).length+4 by omega]
    show(shards wd c.ps q.sh++[box X [Ju xk,J xi] 156])[(shards wd c.ps q.sh).length]? =_
    simp
   exact⟨(sd.row (k:=p) 1 rfl).cell rfl,(sd.row (k:=X) _ hi2).cell rfl,(sd.row (k:=X) _ hi2).cell rfl⟩
  have Sd:=zd sd;clear s2 s3 s4 hX hV hx hx1 hx0 h1 hl S1 c0 ci sd S4
  go_wp2_with fail
  rw[←HV.out, ←HX.out];clear c1 lp;refine aP (by kernel_rfl) ?_;generalize V.drew=V2 at Sd h0 ⊢
  refine aY [0,4] ?_
  repeat (refine ay _ rfl (by kernel_rfl) (fun _ _ _ h=>h) (fun w'=>by(try simp only[ag,ah,aj]);go_simp;try with_reducible rfl) ?_;try simp only[Act.put,ag,ah,aj,aF,aB,aC])
  refine aH ?_;refine bu (S:=fun w'=>At w' p 1 (ptr c.pt)∧At w' X 0 (Ju xk)∧At w' X 1 (J xi)) (U:=[1,2,3,5]) _ _ _ _ ?_;refine dB [1,2,3,5] ?_
  repeat (refine aN _ rfl (by kernel_rfl) (fun _ _ _ h=>h) h0 (fun w' hS=>by(try dsimp only at hS);(try simp only[ag,ah,aj]);go_simp;try with_reducible rfl) ?_;try simp only[Act.put,ag,ah,aj,aF,aB,aC])
  refine bM ?_;refine aX _ _ _ _ (fun j hj=>?_) ?_
  ·simp at hj;rcases hj with rfl|rfl|rfl|rfl<;>rfl
  refine af 6 (by kernel_rfl) rfl (by rfl) fun K hK=>?_
  go_simp;refine(Does.QO (NY (x:=⟨xk,xi⟩) HT.out Hit.out okx) Sd.out).mono ?_
  rintro e w2 ⟨rfl,s5⟩
  refine hK _ _ ?_;rw[←Hl.out]at s5;have S5:=zd (fin s5);clear s5 fin hK K h0
  try simp only[Act.put,ag,ah,aj,aF,aB,aC]
  refine wpAny_done (by kernel_rfl) ?_ _
  go_wp2
  go_end0
  exact Ends.mk _ S5.out
end
theorem FP {l:List It} {x:It} (h:(hpush l x).2=false):(hpush l x).1=l:=by
 unfold hpush at h ⊢
 split at h
 ·rename_i k;rw[if_pos k]
 ·cases h
theorem Fj {wd:Nat} {W:Wh} {x:It} (h:(W.push wd x).2=false):(W.push wd x).1=W:=by
 unfold Wh.push at h ⊢
 split at h
 ·rename_i k;rw[if_pos k]
 ·cases h
theorem Dh {wd:Nat} {Z:Sh} {x:It} (h:(Z.push wd x).2=false):(Z.push wd x).1=Z:=by
 rcases wK wd Z x with⟨_,e⟩|⟨_,⟨_,e⟩|⟨_,⟨_,e⟩|⟨_,e⟩⟩⟩
 ·rw[e]
 ·rw[e]
 ·rw[e]at h ⊢;simp only at h ⊢;rw[FP h]
 ·rw[e]at h ⊢;simp only at h ⊢;rw[Fj h]
theorem KH (q:Qu) (k:Nat) (h:1≤q.sh.length):q.ix (k:Int)=k % q.sh.length∧q.ix (k:Int)<q.sh.length:=by
 have e:q.ix (k:Int)=k % q.sh.length:=by unfold Qu.ix;omega
 exact⟨e,by rw[e];exact Nat.mod_lt _ h⟩
section
variable {p wd:Nat} {q:Qu}
theorem xO (x:It) (hx:okI x) {m:Nat} (hq:zy q m) (hm:m+1<100000) (hwd:wd≤40):Does prog [dR p wd q,bP] 46 #[ptr p,x.val] (.bool (q.push wd x).2) [dR p wd (q.push wd x).1,bP]:=Does.ax fun S w0 w h=>by
 obtain⟨xk,xi⟩:=x;obtain⟨B,hB⟩:∃ B,B=w.heap.size:=⟨_,rfl⟩
 obtain⟨W,hW⟩:∃ W,W=w.alloc (.cells #[Ju xk,J xi] 156):=⟨_,rfl⟩
 have s1:=h.box [Ju xk,J xi] 156;rw[←hB,show w.alloc (.cells [Ju xk,J xi].toArray 156)=W from hW.symm]at s1;have H:=zd s1;have HB:=zd hB;have HW:=zd hW;have Hq:=zd hq;unfold It.val
 by_cases hneg:xi<0
 ·have hr:q.push wd ⟨xk,xi⟩=(q,false):=by unfold Qu.push;rw[if_pos hneg]
  have Hr:=zd hr;clear h s1 hB hW hq hr
  go_enter func46,ntmps46
  go_wp2
  go_ret
  rw[show w.alloc (.cells #[Ju xk,J xi] 156)=W from HW.out.symm];refine Ends.mk' (by rw[Hr.out];rfl) [box B [Ju xk,J xi] 156] ?_;rw[Hr.out]
  exact H.out
 ·obtain⟨k,rfl⟩:=Int.eq_ofNat_of_zero_le (show 0≤xi by omega)
  obtain⟨ei,hil⟩:=KH q k hq.pos;obtain⟨i,hi⟩:∃ i,i=q.ix (k:Int):=⟨_,rfl⟩
  rw[←hi]at ei hil;obtain⟨s,hs⟩:∃ s,q.sh[i]? =some s:=⟨_,List.getElem?_eq_getElem hil⟩
  have hg:q.sh.getD i .new=s:=by rw[List.getD_eq_getElem?_getD,hs];rfl
  have hr:q.push wd ⟨xk,k⟩=if (s.push wd ⟨xk,k⟩).2=true then(q.turn i (s.push wd ⟨xk,k⟩).1,true)else(q,false):=by
   unfold Qu.push;rw[if_neg hneg]
   simp only
   rw[←hi,hg]
  obtain⟨c,hF,s2⟩:=Scope.tV s1;obtain⟨pi,hpi⟩:∃ pi,c.ps[i]? =some pi:=⟨_,List.getElem?_eq_getElem (by rw[hF.len];exact hil)⟩
  obtain⟨n,hn⟩:∃ n,n=q.sh.length:=⟨_,rfl⟩
  have ei':k % n=i:=by rw[hn,ei]
  have hin:i<n:=by rw[hn];exact hil
  have npos:0<n:=by omega
  have s3:Scope S w0 W (bP::(dP p wd q c++[box B [Ju xk,J k] 156])):=s2.perm (List.perm_middle (a:=bP) (l₁:=dP p wd q c) (l₂:=[box B [Ju xk,J k] 156]));have bix:∀ (Y:Qu),(bP::(dP p wd Y c++[box B [Ju xk,J k] 156]))[(shards wd c.ps Y.sh).length+4]? =some (box B [Ju xk,J k] 156):=fun Y=>by
   show(shards wd c.ps Y.sh++[box B [Ju xk,J k] 156])[(shards wd c.ps Y.sh).length]? =_
   simp
  have S3:=zd s3.drew;have HF:=zd hF;have Hs:=zd hs;have Hpi:=zd hpi;have Hr:=zd hr;have Hil:=zd hil;have Bix:=zd bix;have Hn:=zd hn;have okS:=zd (hq.sh s (List.mem_of_getElem? hs));clear h s1 s2 s3 hB hW hq hr hs hpi hF hg hi ei hil bix H hn
  go_enter func46,ntmps46
  go_wp2_with fail
  rw[show w.alloc (.cells #[Ju xk,J k] 156)=W from HW.out.symm, ←HB.out];refine aP (by kernel_rfl) ?_;generalize W.drew=V at S3 ⊢
  have rb:=S3.out.row (k:=B) _ (Bix.out q);have h0:At V p 0 (.slice (some ⟨c.gs,0,none⟩) n c.cap)∧At V B 1 (J k):=⟨by rw[Hn.out];exact(S3.out.row (k:=p) 1 rfl).cell rfl,rb.cell rfl⟩
  clear rb;refine aY [2] ?_
  repeat (refine ay _ rfl (by kernel_rfl) (fun _ _ _ h=>h) (fun w'=>by(try simp only[ag,ah,aj]);go_simp;try with_reducible rfl) ?_;try simp only[Act.put,ag,ah,aj,aF,aB,aC])
  refine aH ?_;refine bu (S:=fun w'=>At w' p 0 (.slice (some ⟨c.gs,0,none⟩) n c.cap)∧At w' B 1 (J k)) (U:=[0,1,3,4,5,6]) _ _ _ _ ?_;refine dB [0,1,3,4,5,6] ?_
  repeat (refine aN _ rfl (by kernel_rfl) (fun _ _ _ h=>h) h0 (fun w' hS=>by(try dsimp only at hS);(try simp only[ag,ah,aj]);go_simp;try with_reducible rfl) ?_;try simp only[Act.put,ag,ah,aj,aF,aB,aC])
  refine bM ?_;refine aX _ _ _ _ (fun j hj=>?_) ?_
  ·simp at hj;rcases hj with rfl|rfl|rfl|rfl|rfl|rfl<;>rfl
  have n0:¬ n=0:=by omega
  have et:(k:Int).tmod (n:Int)=(i:Int):=by rw[←ei',Int.tmod_eq_emod_of_nonneg (Int.natCast_nonneg _)];simp
  refine af 7 (by kernel_rfl) rfl (by rfl) fun K hK=>?_
  go_simp;refine hK _ _ ?_;clear hK K
  try simp only[Act.put,ag,ah,aj,aF,aB,aC]
  refine af 8 (by kernel_rfl) rfl (by rfl) fun K hK=>?_
  go_simp;refine hK _ _ ?_;clear hK K
  try simp only[Act.put,ag,ah,aj,aF,aB,aC]
  refine wpAny_done (by kernel_rfl) ?_ _;clear et n0 h0 ei' npos
  go_wp2_with fail
  refine aP (by kernel_rfl) ?_;have sd:=S3.out.drew;generalize V.drew=V2 at sd ⊢
  have rb:=sd.row (k:=B) _ (Bix.out q);have h0:At V2 p 0 (.slice (some ⟨c.gs,0,none⟩) n c.cap)∧At V2 c.gs i (ptr pi)∧At V2 B 0 (Ju xk)∧At V2 B 1 (J k):=⟨by rw[Hn.out];exact(sd.row (k:=p) 1 rfl).cell rfl,(sd.row (k:=c.gs) 2 rfl).cell (xG Hpi.out c.rest),rb.cell rfl,rb.cell rfl⟩
  have Sd:=zd sd;clear rb sd S3;refine aY [0,4] ?_
  repeat (refine ay _ rfl (by kernel_rfl) (fun _ _ _ h=>h) (fun w'=>by(try simp only[ag,ah,aj]);go_simp;try with_reducible rfl) ?_;try simp only[Act.put,ag,ah,aj,aF,aB,aC])
  refine aH ?_;refine bu (S:=fun w'=>At w' p 0 (.slice (some ⟨c.gs,0,none⟩) n c.cap)∧At w' c.gs i (ptr pi)∧At w' B 0 (Ju xk)∧At w' B 1 (J k)) (U:=[1,2,3,5,6,7]) _ _ _ _ ?_;refine dB [1,2,3,5,6,7] ?_
  repeat (refine aN _ rfl (by kernel_rfl) (fun _ _ _ h=>h) h0 (fun w' hS=>by(try dsimp only at hS);(try simp only[ag,ah,aj]);go_simp;try with_reducible rfl) ?_;try simp only[Act.put,ag,ah,aj,aF,aB,aC])
  refine bM ?_;refine aX _ _ _ _ (fun j hj=>?_) ?_
  ·simp at hj;rcases hj with rfl|rfl|rfl|rfl|rfl|rfl<;>rfl
  refine af 8 (by kernel_rfl) rfl (by rfl) fun K hK=>?_
  go_simp;refine(Does.UA (JP ⟨xk,k⟩ hx okS.out (by omega) hwd) HF.out Hpi.out Hs.out (Sd.out.perm (List.perm_middle (a:=bP) (l₁:=dP p wd q c) (l₂:=[box B [Ju xk,J k] 156])).symm)).mono ?_
  rintro e w2 ⟨rfl,s4⟩
  refine hK _ _ ?_;obtain⟨bb,hbb⟩:∃ bb,(s.push wd ⟨xk,k⟩).2=bb:=⟨_,rfl⟩
  rw[hbb];have S4:=zd s4;have Hbb:=zd hbb;clear hK K h0 Sd s4 hbb
  try simp only[Act.put,ag,ah,aj,aF,aB,aC]
  refine aY [9] ?_
  repeat (refine ay _ rfl (by kernel_rfl) (fun _ _ _ h=>h) (fun w'=>by(try simp only[ag,ah,aj]);go_simp;try with_reducible rfl) ?_;try simp only[Act.put,ag,ah,aj,aF,aB,aC])
  refine aH ?_;refine wpAny_done (by kernel_rfl) ?_ _
  cases bb
  ·have hr:q.push wd ⟨xk,k⟩=(q,false):=by rw[Hr.out,if_neg (by rw[Hbb.out];simp)]
   have Hr2:=zd hr;have s5:=S4.out;rw[Dh Hbb.out,yS Hs.out]at s5;have S5:=zd (Scope.nK (Bs:=bP::[box B [Ju xk,J k] 156]) (q:=q) (c:=c) HF.out s5);clear hr s5 S4
   go_wp2
   go_ret
   refine Ends.mk' (by rw[Hr2.out];rfl) [box B [Ju xk,J k] 156] ?_;rw[Hr2.out]
   exact S5.out
  ·have hr:q.push wd ⟨xk,k⟩=(q.turn i (s.push wd ⟨xk,k⟩).1,true):=by rw[Hr.out,if_pos Hbb.out]
   obtain⟨s',hs'⟩:∃ s',s'=(s.push wd ⟨xk,k⟩).1:=⟨_,rfl⟩
   rw[←hs']at hr;have ok':pG s' (m+1):=by rw[hs'];exact okS.out.push wd hx
   have s5:=S4.out;rw[←hs']at s5;have s6:=Scope.nK (Bs:=bP::[box B [Ju xk,J k] 156]) (q:=⟨q.sh.set i s',q.t⟩) (c:=c) ⟨by rw[HF.out.len];simp⟩ s5;have hq':zy ⟨q.sh.set i s',q.t⟩ (m+1):=by
    refine⟨by simp;exact Hq.out.pos,by simp;exact Hq.out.most,Hq.out.tour,by simp;exact Hq.out.leaves,fun z hz=>?_⟩
    rcases List.mem_or_eq_of_mem_set hz with k|k
    ·exact(Hq.out.sh z k).le' (by omega)
    ·subst k;exact ok'
   have hil':i<(⟨q.sh.set i s',q.t⟩:Qu).sh.length:=by simp;exact Hil.out
   have et:(⟨q.sh.set i s',q.t.qx i (qP ((q.sh.set i s').getD i .new).min)⟩:Qu)=q.turn i s':=by
    unfold Qu.turn;rw[show(q.sh.set i s').getD i .new=s' by rw[List.getD_eq_getElem?_getD,List.getElem?_set_self Hil.out];rfl]
   have qp:=yY (p:=p) (wd:=wd) hq' hm hil'
   simp only at qp
   rw[et]at qp;have Hr2:=zd hr;have S6:=zd s6;have Qp:=zd qp;clear hr s5 s6 hs' ok' hq' hil' et qp S4
   go_wp2_with fail
   refine(Qp.out.call (Bs:=[box B [Ju xk,J k] 156]) S6.out).mono ?_
   rintro e w3 ⟨rfl,s7⟩
   have S7:=zd s7;clear s7
   go_wp2
   go_ret
   refine Ends.mk' (by rw[Hr2.out];rfl) [box B [Ju xk,J k] 156] ?_;rw[Hr2.out]
   exact S7.out
end
theorem zy.pop {q:Qu} {m:Nat} (h:zy q m) (wd:Nat):zy (q.pop wd).1 m:=by
 unfold Qu.pop
 cases hw:q.t.win with
 |none=>exact h
 |some z=>
  obtain⟨i,x⟩:=z;have hi:i<q.sh.length:=by
   unfold To.win at hw
   split at hw
   ·cases hw
   ·rename_i hv
    have h1N:1<q.t.nodes.length:=by have:=h.tour.size;have:=(qO q.t.leaves.length h.tour.most).2.2;omega
    have hg:q.t.nodes[1]? =some q.t.nodes[1]:=List.getElem?_eq_getElem h1N;have hr:=h.tour.vals _ (List.getElem_mem h1N);rw[List.getD_eq_getElem?_getD,hg]at hw hv;simp only[Option.getD_some]at hw hv
    cases hw
    have:=h.leaves
    omega
  have hs:q.sh.getD i .new∈q.sh:=by rw[List.getD_eq_getElem?_getD,List.getElem?_eq_getElem hi];exact List.getElem_mem hi
  exact h.turn (Nat.le_refl m) hi ((h.sh _ hs).pop wd)
theorem zy.push {q:Qu} {m:Nat} (h:zy q m) (wd:Nat) {x:It} (hx:okI x):zy (q.push wd x).1 (m+1):=by
 have hle:zy q (m+1):=⟨h.pos,h.most,h.tour,h.leaves,fun s hs=>(h.sh s hs).le' (by omega)⟩
 unfold Qu.push
 split
 ·exact hle
 ·rename_i hneg
  split
  ·obtain⟨k,hk⟩:=Int.eq_ofNat_of_zero_le (show 0≤x.id by omega)
   have hi:q.ix x.id<q.sh.length:=by rw[hk];exact(KH q k h.pos).2
   have hs:q.sh.getD (q.ix x.id) .new∈q.sh:=by rw[List.getD_eq_getElem?_getD,List.getElem?_eq_getElem hi];exact List.getElem_mem hi
   exact h.turn (by omega) hi ((h.sh _ hs).push wd hx)
  ·exact hle
theorem yB {q:Qu} {m:Nat} (h:zy q m):(q.t.win=none∧UQ q.t.win=.tuple #[J 0,.agg #[Ju 0,J 0],.bool false])∨∃ (i k:Nat) (z:Int),i<q.sh.length∧q.t.win=some (i,⟨k,z⟩)∧UQ q.t.win=.tuple #[J (i:Nat),.agg #[Ju (k:Nat),J z],.bool true]:=by
 cases hw:q.t.win with
 |none=>exact .inl ⟨rfl,rfl⟩
 |some z=>
  obtain⟨i,x⟩:=z;refine .inr ⟨i,x.key,x.id,?_,rfl,rfl⟩;unfold To.win at hw
  split at hw
  ·cases hw
  ·rename_i hv
   have h1N:1<q.t.nodes.length:=by have:=h.tour.size;have:=(qO q.t.leaves.length h.tour.most).2.2;omega
   have hg:q.t.nodes[1]? =some q.t.nodes[1]:=List.getElem?_eq_getElem h1N;have hr:=h.tour.vals _ (List.getElem_mem h1N);rw[List.getD_eq_getElem?_getD,hg]at hw hv;simp only[Option.getD_some]at hw hv
   cases hw
   have:=h.leaves
   omega
theorem MR (x:Option It):∃ b,qX x=.tuple #[.agg #[Ju ((x.getD .zero).key:Nat),J (x.getD .zero).id],.bool b]:=by cases x<;>exact⟨_,rfl⟩
section
variable {p wd:Nat} {q:Qu}
theorem MM {m:Nat} (hq:zy q m) (hm:m<100000) (hwd:wd≤40):Does prog [dR p wd q,bP] 47 #[ptr p] (qX (q.pop wd).2) [dR p wd (q.pop wd).1,bP]:=Does.ax fun S w0 w h=>by
 obtain⟨B,hB⟩:∃ B,B=w.heap.size:=⟨_,rfl⟩
 obtain⟨c,hF,s0⟩:=Scope.tV h;have s1:Scope S w0 w (bP::(dP p wd q c++[])):=(s0.perm (List.perm_append_comm (l₁:=dP p wd q c) (l₂:=[bP]))).perm (by rw[List.append_nil];exact List.Perm.refl _);have c1:At w p 1 (ptr c.pt):=(s1.row (k:=p) 1 rfl).cell rfl;have lp:=(s1.row (k:=p) 1 rfl).lt;have s2:Scope S w0 (w.alloc (.cells [Ju 0,J 0].toArray 156)) (bP::(dP p wd q c++[box w.heap.size [Ju 0,J 0] 156])):=by simpa using s1.box [Ju 0,J 0] 156
 rw[←hB]at s2;have S2:=zd s2;have HB:=zd hB;have HF:=zd hF;have Hq:=zd hq;clear h s0 s1 s2 hB hF hq
 go_enter func47,ntmps47
 go_wp2_with fail
 rw[←HB.out];refine(Does.QO (Nb Hq.out.tour) S2.out).mono ?_
 rintro e w1 ⟨he,s3⟩
 have s3:Scope S w0 w1 (bP::(dP p wd q c++[box B [Ju 0,J 0] 156])):=s3;have shut:∀ {Y:Qu} {w':World} {L:List HA},c.ps.length=Y.sh.length→Scope S w0 w' (bP::(dP p wd Y c++L))→Scope S w0 w' ([dR p wd Y,bP]++L):=fun {Y w' L} hl s=>
  Scope.nK (q:=Y) (c:=c) ⟨hl⟩ (s.perm (List.perm_middle (a:=bP) (l₁:=dP p wd Y c) (l₂:=L)).symm)
 rcases yB Hq.out with⟨hw,hv⟩|⟨i,k,z,hi,hw,hv⟩
 ·have hr:q.pop wd=(q,none):=by unfold Qu.pop;rw[hw]
  rw[hv]at he;subst he;have s4:Scope S w0 w1 ([dR p wd q,bP]++([box B [Ju 0,J 0] 156]++[])):=shut HF.out.len s3;have rb:=s4.row (k:=B) 2 rfl;obtain⟨b0,b1⟩:=rb.c2;have f0:=rb.free 0;have f1:=rb.free 1;have bl:=rb.lt;have q1:=Scope.au s4 0 (Ju 0);have q2:=Scope.au q1 1 (J 0);have q3:=q2.box [Ju 0,J 0] 156;have Hr:=zd hr;have Q3:=zd q3;clear hr hv hw s3 s4 rb q1 q2 q3 shut c1 lp
  go_wp2
  have q3:=Q3.out;obtain⟨V,hV⟩:∃ V,V=((w1.setCell ⟨B,0,none⟩ (Ju 0)).setCell ⟨B,1,none⟩ (J 0)).alloc (.cells #[Ju 0,J 0] 156):=⟨_,rfl⟩
  rw[show(((w1.setCell ⟨B,0,none⟩ (Ju 0)).setCell ⟨B,1,none⟩ (J 0)).alloc (.cells [Ju 0,J 0].toArray 156))=V from hV.symm]at q3;rw[←hV];have z0:At V B 0 (Ju 0):=(q3.row (k:=B) 2 rfl).cell rfl;have z1:At V B 1 (J 0):=(q3.row (k:=B) 2 rfl).cell rfl;refine bodyPost_ret (v:=.tuple #[.agg #[Ju 0,J 0],.bool false]) (by simp[results,results47,go_sem,z0,z1]) rfl (Ends.mk' (by rw[Hr.out];rfl) [box B [Ju 0,J 0] 156,box (((w1.setCell ⟨B,0,none⟩ (Ju 0)).setCell ⟨B,1,none⟩ (J 0)).heap.size) [Ju 0,J 0] 156] ?_);rw[Hr.out]
  exact q3
 ·rw[hv]at he
  subst he;obtain⟨s,hs⟩:∃ s,q.sh[i]? =some s:=⟨_,List.getElem?_eq_getElem hi⟩
  obtain⟨pi,hpi⟩:∃ pi,c.ps[i]? =some pi:=⟨_,List.getElem?_eq_getElem (by rw[HF.out.len];exact hi)⟩
  have hg:q.sh.getD i .new=s:=by rw[List.getD_eq_getElem?_getD,hs];rfl
  obtain⟨n,hn⟩:∃ n,n=q.sh.length:=⟨_,rfl⟩
  obtain⟨y,hy⟩:∃ y,y=(s.pop wd).2.getD .zero:=⟨_,rfl⟩
  have hr:q.pop wd=(q.turn i (s.pop wd).1,some y):=by unfold Qu.pop;rw[hw];simp only;rw[hg,hy]
  obtain⟨bb,hbb⟩:=MR (s.pop wd).2;rw[←hy]at hbb;have okS:=Hq.out.sh s (List.mem_of_getElem? hs);have hin:i<n:=by rw[hn];exact hi
  have c0:w1.cell? ⟨p,0,none⟩=some (.slice (some ⟨c.gs,0,none⟩) n c.cap):=by rw[hn];exact(s3.row (k:=p) 1 rfl).cell rfl
  have ci:At w1 c.gs i (ptr pi):=(s3.row (k:=c.gs) 2 rfl).cell (xG hpi c.rest);have lp1:=(s3.row (k:=p) 1 rfl).lt;have lc1:=(s3.row (k:=c.gs) 2 rfl).lt;have s4:Scope S w0 (w1.alloc (.cells [Ju k,J z].toArray 156)) (bP::(dP p wd q c++[box B [Ju 0,J 0] 156,box w1.heap.size [Ju k,J z] 156])):=by simpa using s3.box [Ju k,J z] 156
  obtain⟨X,hX⟩:∃ X,X=w1.heap.size:=⟨_,rfl⟩
  rw[←hX]at s4;have Hr:=zd hr;have Hbb:=zd hbb;have OkS:=zd okS;have Hs:=zd hs;have Hpi:=zd hpi;have S4:=zd s4;have HX:=zd hX;have Hi:=zd hi;clear hr hbb okS hs hpi s3 s4 hX hw hv hg hy hn hi S2 c1 lp
  go_wp2_with fail
  rw[←HX.out];refine(Does.PH (MC OkS.out hm hwd) HF.out Hpi.out Hs.out S4.out).mono ?_
  rintro e w2 ⟨he,s5⟩
  rw[Hbb.out]at he;subst he;obtain⟨yk,yi⟩:=y;obtain⟨s',hs'⟩:∃ s',s'=(s.pop wd).1:=⟨_,rfl⟩
  rw[←hs']at s5;have ok':pG s' m:=by rw[hs'];exact OkS.out.pop wd
  have hr:=Hr.out;rw[←hs']at hr;have s6:=shut (Y:=⟨q.sh.set i s',q.t⟩) (by rw[HF.out.len];simp) s5;obtain⟨Y,hY⟩:∃ Y,Y=w2.heap.size:=⟨_,rfl⟩
  have s7:=s6.box [Ju yk,J yi] 156;rw[←hY]at s7;have hq':zy ⟨q.sh.set i s',q.t⟩ m:=by
   refine⟨by simp;exact Hq.out.pos,by simp;exact Hq.out.most,Hq.out.tour,by simp;exact Hq.out.leaves,fun z hz=>?_⟩
   rcases List.mem_or_eq_of_mem_set hz with k|k
   ·exact Hq.out.sh z k
   ·subst k;exact ok'
  have hil':i<(⟨q.sh.set i s',q.t⟩:Qu).sh.length:=by simp;exact Hi.out
  have et:(⟨q.sh.set i s',q.t.qx i (qP ((q.sh.set i s').getD i .new).min)⟩:Qu)=q.turn i s':=by
   unfold Qu.turn;rw[show(q.sh.set i s').getD i .new=s' by rw[List.getD_eq_getElem?_getD,List.getElem?_set_self Hi.out];rfl]
  have qp:=yY (p:=p) (wd:=wd) hq' hm hil'
  simp only at qp
  rw[et]at qp;have Hr2:=zd hr;have S7:=zd s7;have Qp:=zd qp;have HY:=zd hY;clear hr s5 s6 s7 hs' ok' hq' hil' et qp hY S4 Hr c0 ci lp1 lc1 shut
  go_wp2_with fail
  rw[←HY.out];refine(Qp.out.call (Bs:=[box B [Ju 0,J 0] 156,box X [Ju k,J z] 156,box Y [Ju yk,J yi] 156]) S7.out).mono ?_
  rintro e w3 ⟨rfl,s8⟩
  have s8':Scope S w0 w3 ([dR p wd (q.turn i s'),bP]++([box B [Ju 0,J 0] 156]++[box X [Ju k,J z] 156,box Y [Ju yk,J yi] 156])):=s8;have rb:=s8'.row (k:=B) 2 rfl;obtain⟨b0,b1⟩:=rb.c2;have f0:=rb.free 0;have f1:=rb.free 1;have y0:=(s8'.row (k:=Y) 4 rfl).cell (j:=0) rfl;have y1:=(s8'.row (k:=Y) 4 rfl).cell (j:=1) rfl;have q1:=Scope.au s8' 0 (Ju yk);have q2:=Scope.au q1 1 (J yi);have Q2:=zd q2;clear s8 s8' rb q1 q2 S7
  go_wp2
  have q3:=Q2.out;obtain⟨V,hV⟩:∃ V,V=(w3.setCell ⟨B,0,none⟩ (Ju yk)).setCell ⟨B,1,none⟩ (J yi):=⟨_,rfl⟩
  rw[←hV]at q3 ⊢
  have z0:At V B 0 (Ju yk):=(q3.row (k:=B) 2 rfl).cell rfl;have z1:At V B 1 (J yi):=(q3.row (k:=B) 2 rfl).cell rfl;refine bodyPost_ret (v:=.tuple #[.agg #[Ju yk,J yi],.bool true]) (by simp[results,results47,go_sem,z0,z1]) rfl (Ends.mk' (by rw[Hr2.out];rfl) [box B [Ju yk,J yi] 156,box X [Ju k,J z] 156,box Y [Ju yk,J yi] 156] ?_);rw[Hr2.out]
  exact q3
end
theorem zy.new {n:Nat} (h1:1≤n) (h4:n≤4):zy (.new n) 0 where
 pos:=by simp[Qu.new];exact h1
 most:=by simp[Qu.new];exact h4
 tour:=KW.new h1 h4
 leaves:=by simp[Qu.new,To.new]
 sh:=fun s hs=>by simp[Qu.new]at hs;obtain⟨_,rfl⟩:=hs;exact pG.new
theorem wI (wd:Nat):∀ (ps:List Nat) (sh:List Sh) (p:Nat) (s:Sh),ps.length=sh.length→shards wd (ps++[p]) (sh++[s])=shards wd ps sh++[dF p wd s]
 | [],[],_,_,_=>rfl
 | [],_::_,_,_,h=>by simp at h
 |_::_,[],_,_,h=>by simp at h
 |q::ps,z::sh,p,s,h=>by
  have:=wI wd ps sh p s (by simpa using h)
  simp only[shards,List.cons_append,List.zipWith_cons_cons]at this ⊢
  rw[this]
section
def PT (S:List Nat) (w0:World) (wd n:Nat) (As:List HA) (e:Ending) (w':World):Prop:=∃ p,e=.returned (ptr p)∧Scope S w0 w' (dR p wd (.new n)::As)
theorem JD {S:List Nat} {w0 w:World} {As:List HA} {n wd:Nat} (h1:1≤n) (h4:n≤4) (hwd:wd≤40) (h:Scope S w0 w As):Calls prog 45 #[J n,J wd] w (PT S w0 wd n As):=by
 obtain⟨i1,hi1⟩:=Option.isSome_iff_exists.1 (show(prog.info? 153).isSome=true by kernel_rfl);obtain⟨hx0,hx1,hx2⟩:=lF 153 hi1 (z:=.pointer none) (s:=1) (b:=8) (by kernel_rfl) (by kernel_rfl) (by kernel_rfl);have n0:(0:Int)≤(n:Int):=by omega
 have n1:(1:Int)≤(n:Int):=by omega
 have n16:(n:Int)≤16:=by omega
 have H:=zd h;clear h
 go_enter func45,ntmps45
 go_wp2_with fail
 refine(JU h1 h4 H.out).mono ?_
 rintro e w1 ⟨pt,rfl,s1⟩
 obtain⟨p,hp⟩:∃ p,p=w1.heap.size:=⟨_,rfl⟩
 have s2:=s1.box [dW,ptr pt] 152;rw[←hp]at s2;have s3:Scope S w0 (w1.alloc (.cells [dW,ptr pt].toArray 152)) ([aU dW 153 1 0 [],box p [dW,ptr pt] 152,kD pt (.new n)]++As):=by
  have s4:Scope S w0 (w1.alloc (.cells [dW,ptr pt].toArray 152)) (box p [dW,ptr pt] 152::kD pt (.new n)::As):=s2.perm (List.perm_append_comm (l₁:=kD pt (.new n)::As));obtain⟨c,fp,k1,k2⟩:=s4
  exact⟨c,fp,⟨[],fp,⟨World.ownsRow_nil _ _ _ _,rfl⟩,k1,(fun _ h=>by cases h),rfl⟩,k2⟩
 have S3:=zd s3;have Hp:=zd hp;clear s1 s2 s3 hp H
 go_wp2_with fail
 rw[←Hp.out]
 go_loopw [15] (fun a wr=>∃ (j:Nat) (oa:Option Addr) (cap:Nat) (ps:List Nat),j≤n∧a=J j∧ps.length=j∧Scope S w0 wr ([aU (.slice oa j cap) 153 1 j (ptrs ps),box p [.slice oa j cap,ptr pt] 152,kD pt (.new n)]++(shards wd ps (List.replicate j Sh.new)++As))) (fun a _=>n - (intOf a).toNat)
 case atStart=>exact⟨0,none,0,[],by omega,rfl,rfl,S3.out⟩
 case round=>
  clear S3;obtain⟨j,oa,cap,ps,hjn,rfl,hps,hx⟩:=hrel
  by_cases hj:j<n
  ·have sd:=hx.drew
   have h0:At wr.drew p 0 (.slice oa j cap):=(sd.row (k:=p) 1 rfl).cell rfl;have Sd:=zd sd;have Hps:=zd hps;clear hx sd hps
   go_wp2_with fail
   refine aP (by kernel_rfl) ?_;generalize wr.drew=V at Sd h0 ⊢
   refine aY [0,1,5] ?_
   repeat (refine ay _ rfl (by kernel_rfl) (fun _ _ _ h=>h) (fun w'=>by(try simp only[ag,ah,aj]);go_simp;try with_reducible rfl) ?_;try simp only[Act.put,ag,ah,aj,aF,aB,aC])
   refine aH ?_;refine bu (S:=fun w'=>At w' p 0 (.slice oa j cap)) (U:=[2,3,4,6,7]) _ _ _ _ ?_;refine dB [2,3,4] ?_
   repeat (refine aN _ rfl (by kernel_rfl) (fun _ _ _ h=>h) h0 (fun w' hS=>by(try dsimp only at hS);(try simp only[ag,ah,aj]);go_simp;try with_reducible rfl) ?_;try simp only[Act.put,ag,ah,aj,aF,aB,aC])
   refine bM ?_;refine aK 6 (by kernel_rfl) rfl (by rfl) fun K hK=>?_
   go_simp;refine(Jm hwd Sd.out).mono ?_
   rintro e w2 ⟨pn,rfl,s5⟩
   have s5:Scope S w0 w2 ([dF pn wd .new,aU (.slice oa j cap) 153 1 j (ptrs ps),box p [.slice oa j cap,ptr pt] 152,kD pt (.new n)]++(shards wd ps (List.replicate j Sh.new)++As)):=s5;have h1:At w2 p 0 (.slice oa j cap):=(s5.row (k:=p) 2 rfl).cell rfl;refine hK _ _ ⟨fun _=>h1,?_⟩;have s6:Scope S w0 (w2.alloc (.cells [ptr pn].toArray 153)) (aU (.slice oa j cap) 153 1 j (ptrs ps)::dF pn wd .new::box p [.slice oa j cap,ptr pt] 152::kD pt (.new n)::((shards wd ps (List.replicate j Sh.new)++As)++[box w2.heap.size [ptr pn] 153])):=(s5.box [ptr pn] 153).perm (List.Perm.swap _ _ _);have S6:=zd s6;clear hK K h0 s5 s6 Sd
   try simp only[Act.put,ag,ah,aj,aF,aB,aC]
   have h2:(w2.alloc (.cells #[ptr pn] 153)).cell? ⟨p,0,none⟩=some (.slice oa j cap):=(S6.out.row (k:=p) 2 rfl).cell rfl;refine aK 7 (by kernel_rfl) rfl (by rfl) fun K hK=>?_
   go_simp;refine hK _ _ ⟨fun _=>h2,?_⟩;clear hK K h1 h2
   try simp only[Act.put,ag,ah,aj,aF,aB,aC]
   refine aX _ _ _ _ (fun j hj=>?_) ?_
   ·simp at hj;rcases hj with rfl|rfl|rfl|rfl|rfl<;>rfl
   refine af 8 (by kernel_rfl) rfl (by rfl) fun K hK=>?_
   refine wp_append_lies _ _ _ _ rfl 0 153 i1 _ 1 8 underlying150 hi1 hx0 hx1 hx2 rfl (by omega) (.slice oa j cap) j (ptrs ps) (by rfl) (S6.out.owns 0 rfl) ⟨w2.heap.size,0,none⟩ 1 1 [ptr pn] (by rfl) (by rfl) (World.news_of_block (cs:=#[ptr pn]) (t:=153) (fr:=(0,0)) (heap_alloc_new w2 _)) (by simp[Value.oneCell'])
    (by omega) (by unfold maxLen;omega) (by omega) (by omega) (w2.heap.size+1) (by simp) ?_
   intro gg cap' w4 own gro hat hlt
   refine hK _ _ ?_;have s7:=Scope.appends S6.out own gro (hat.imp id (fun h=>h.trans (by simp)));have c3:=(s7.row (k:=p) 2 rfl).cell (j:=0) rfl;have f3:=(s7.row (k:=p) 2 rfl).free 0;have S7:=zd s7;clear hK K own gro hat hlt S6 s7
   try simp only[Act.put,ag,ah,aj,aF,aB,aC]
   refine aY [9,10] ?_
   repeat (refine ay _ rfl (by kernel_rfl) (fun _ _ _ h=>h) (fun w'=>by(try simp only[ag,ah,aj]);go_simp;try with_reducible rfl) ?_;try simp only[Act.put,ag,ah,aj,aF,aB,aC])
   refine aH ?_;refine af 11 (by kernel_rfl) rfl (by rfl) fun K hK=>?_
   go_simp;refine hK _ _ ?_;clear hK K
   try simp only[Act.put,ag,ah,aj,aF,aB,aC]
   refine wpAny_done (by kernel_rfl) ?_ _;have t7:=Scope.au (As:=[aU (.slice (some ⟨gg,0,none⟩) (j+1) cap') 153 1 (j+1) (ptrs ps++[ptr pn]),dF pn wd .new]) S7.out 0 (.slice (some ⟨gg,0,none⟩) (j+1) cap');have T7:=zd t7;clear c3 f3 S7 t7
   go_wp2
   go_roundw
   case rel=>
    refine⟨j+1,some ⟨gg,0,none⟩,cap',ps++[pn],by omega,by go_num,by simp[Hps.out],?_⟩;have e1:ptrs (ps++[pn])=ptrs ps++[ptr pn]:=by simp[ptrs]
    have e2:List.replicate (j+1) Sh.new=List.replicate j Sh.new++[Sh.new]:=List.replicate_succ' ..;rw[e1,e2,wI wd _ _ _ _ (by simp[Hps.out])];have t8:Scope S w0 _ (([aU (.slice (some ⟨gg,0,none⟩) (j+1) cap') 153 1 (j+1) (ptrs ps++[ptr pn]),dF pn wd .new,box p [.slice (some ⟨gg,0,none⟩) (j+1) cap',ptr pt] 152,kD pt (.new n)]++(shards wd ps (List.replicate j Sh.new)++As))++[box w2.heap.size [ptr pn] 153]):=T7.out;refine t8.drop.perm ?_;refine List.Perm.cons _ ?_;refine(List.perm_middle (a:=dF pn wd .new) (l₁:=[box p [.slice (some ⟨gg,0,none⟩) (j+1) cap',ptr pt] 152,kD pt (.new n)]++shards wd ps (List.replicate j Sh.new)) (l₂:=As)).symm.trans ?_
    simp
   case measure=>simp[intOf];omega
  ·obtain rfl:j=n:=by omega
   have Hx:=zd hx;have Hps:=zd hps;clear hx hps
   go_wp2
   go_ret
   refine⟨p,rfl,?_⟩;obtain⟨g,cap',rest,e1,s5,e2,e3,e4⟩:=Scope.qj Hx.out h1;have e5:oa=some ⟨g,0,none⟩∧cap=cap':=by cases e1;exact⟨rfl,rfl⟩
   obtain⟨rfl,rfl⟩:=e5;have el:(Qu.new j).sh.length=j:=by simp[Qu.new]
   refine Scope.nK (q:=.new j) (c:=⟨g,cap,rest,pt,ps⟩) ⟨by rw[el];exact Hps.out⟩ ?_;have eb:IP p (.new j) ⟨g,cap,rest,pt,ps⟩=box p [.slice (some ⟨g,0,none⟩) j cap,ptr pt] 152:=congrArg (fun n=>box p [.slice (some ⟨g,0,none⟩) n cap,ptr pt] 152) el
   show Scope S w0 wr (IP p (.new j) ⟨g,cap,rest,pt,ps⟩::box g (ptrs ps++rest) 153::kD pt (.new j)::(shards wd ps (List.replicate j Sh.new)++As))
   rw[eb]
   exact s5.perm (List.Perm.swap _ _ _)
end
theorem Me (f:Value→Option Value) (key:Value) (v u:Option Value):lI (lI f key v) key u=lI f key u:=by
 funext x
 by_cases e:x=key
 ·subst e;rw[dM,dM]
 ·rw[eU _ _ e,eU _ _ e,eU _ _ e]
theorem fM.take {P:Program} {k:TypeId} {w:World} {b:Nat} {f:Value→Option Value} {t e:TypeId} {z:Value} (h:fM P k w b f) (K:Keyed P k) (ht:P.underlying t=some (.map k e)) (hz:∀ w,(zeroValue e).run P w=.ok z w) {key:Value} {kl:Lit} (hkey:keyOf P k key=some kl):
  ∃ (born:Nat) (v:Value) (w1:World) (f1:Value→Option Value),(Instr.mapEntry t (.map (some b)) key).run P w=.ok (.tuple #[v,J born]) w1∧xH w1 b key born∧fM P k w1 b f1∧dE [b] w w1∧∀ u,lI f1 key u=lI f key u:=by
 cases hf:f key with
 |some v=>
  obtain⟨born,hr,hB⟩:=h.entry K ht hkey hf
  exact⟨born,v,w,f,hr,hB,h,dE.refl _ _,fun _=>rfl⟩
 |none=>
  obtain⟨es,clock,hb,H⟩:=h
  rcases K.find w hkey es.toList H.keys with⟨h1,h2⟩|⟨j,e0,h1,h2,h3'⟩
  ·refine⟨clock,z,ChangeMaps.setBlock w b (.map (es.push ⟨key,z,clock⟩) (clock+1)),lI f key (some z),?_,⟨_,_,ChangeMaps.heap_setBlock_same hb _,⟨key,z,clock⟩,by simp,rfl,rfl⟩,⟨_,_,ChangeMaps.heap_setBlock_same hb _,?_⟩,jR hb _,fun u=>Me _ _ _ _⟩
   ·simp[Instr.mapEntry,run_underlying ht,MapKept.run_getObj_map hb,K.check w false hkey,h1,hz,MapKept.run_setObj_map _ hb,Result.andThen,ChangeMaps.setBlock,goInt]
   ·rw[Array.toList_push]
    exact H.push z hkey h2
  ·have:=H.to e0 (List.mem_of_getElem? h2)
   rw[h3',hf]at this
   cases this
structure rY (k:Co) (m:Nat):Prop where
 q:zy k.q m
 v:k.v<18446744073709551616
 most:k.most<18446744073709551616
 th:∀ i,I64 (k.th i).flow∧(k.th i).r<18446744073709551616∧(k.th i).finish<18446744073709551616∧(k.th i).place<18446744073709551616
 ow:∀ i,I64 (k.ow i)
 last:I64 k.last.2.1∧k.last.2.2<18446744073709551616
 served:0≤k.served∧k.served≤m
def Gf (x:Th):Value:=.agg #[J x.flow,Ju x.r,Ju x.finish,Ju x.place]
def SN (th:Int→Th) (f:Value→Option Value):Prop:=∀ id,(f (J id)).getD (Gf .zero)=Gf (th id)
def TJ (ow:Int→Int) (f:Value→Option Value):Prop:=∀ id,(f (J id)).getD (J 0)=J (ow id)
theorem SN.put {th:Int→Th} {f:Value→Option Value} (h:SN th f) (id:Int) (x:Th):SN (upd th id x) (lI f (J id) (some (Gf x))):=fun j=>by
 by_cases e:j=id
 ·subst e;rw[dM,upd_same];rfl
 ·rw[eU _ _ (fun q=>e (by simpa using q)),upd_ne _ _ e,h j]
theorem TJ.put {ow:Int→Int} {f:Value→Option Value} (h:TJ ow f) (id:Int) (x:Int):TJ (upd ow id x) (lI f (J id) (some (J x))):=fun j=>by
 by_cases e:j=id
 ·subst e;rw[dM,upd_same];rfl
 ·rw[eU _ _ (fun q=>e (by simpa using q)),upd_ne _ _ e,h j]
def wu (b:Nat) (th:Int→Th):HA where
 holds w fp:=(∃ f,fM prog 3 w b f∧SN th f)∧fp=[b]
 lt:=by rintro w fp ⟨⟨f,h,_⟩,rfl⟩ k hk;simp at hk;subst hk;exact h.lt
 iZ:=by rintro w w' S fp ⟨⟨f,h,h2⟩,rfl⟩ c hn;exact⟨⟨f,h.iZ c (hn _ (by simp)),h2⟩,rfl⟩
def jT (b:Nat) (ow:Int→Int):HA where
 holds w fp:=(∃ f,fM prog 3 w b f∧TJ ow f)∧fp=[b]
 lt:=by rintro w fp ⟨⟨f,h,_⟩,rfl⟩ k hk;simp at hk;subst hk;exact h.lt
 iZ:=by rintro w w' S fp ⟨⟨f,h,h2⟩,rfl⟩ c hn;exact⟨⟨f,h.iZ c (hn _ (by simp)),h2⟩,rfl⟩
structure Vy where
 pq:Nat
 tb:Nat
 ob:Nat
@[reducible] def C9 (p:Nat) (k:Co) (c:Vy):HA:=box p [.func (.func 46) #[ptr c.pq] #[],.func (.func 47) #[ptr c.pq] #[],.func (.func 48) #[ptr c.pq] #[],Ju k.v,Ju k.most,J k.served,.map (some c.tb),.map (some c.ob),.bool k.last.1,J k.last.2.1,Ju k.last.2.2] 140
@[reducible] def nT (p wd:Nat) (k:Co) (c:Vy):List HA:=[C9 p k c,wu c.tb k.th,jT c.ob k.ow,dR c.pq wd k.q]
@[reducible] def eP (p wd:Nat) (k:Co):HA:=uk fun c=>aG (nT p wd k c)
section
variable {S:List Nat} {w0 w:World} {p wd:Nat} {k:Co} {Bs:List HA}
theorem Scope.o6 (h:Scope S w0 w (eP p wd k::Bs)):∃ c,Scope S w0 w (nT p wd k c++Bs):=by
 obtain⟨c,s1⟩:=Scope.xq (F:=fun c=>aG (nT p wd k c)) h
 exact⟨c,Scope.gU s1⟩
theorem Scope.kT {c:Vy} (h:Scope S w0 w (nT p wd k c++Bs)):Scope S w0 w (eP p wd k::Bs):=
 Scope.tX (F:=fun c=>aG (nT p wd k c)) c (Scope.shut1 (As:=nT p wd k c) h)
theorem rY.new {n:Nat} (h1:1≤n) (h4:n≤4):rY (.new n) 0:=
 ⟨zy.new h1 h4,by simp[Co.new],by simp[Co.new],fun i=>by simp[Co.new,Th.zero,I64],fun i=>by simp[Co.new,I64],by simp[Co.new,I64],by simp[Co.new]⟩
end
@[reducible] def TR (o:Ob):Value:=.agg #[J o.flow,J o.most,Ju o.r]
theorem Df {wd:Nat} {q:Qu} {x:It} (h:(q.push wd x).2=false):(q.push wd x).1=q:=by
 unfold Qu.push at h ⊢
 split at h
 ·rename_i k;rw[if_pos k]
 ·rename_i k
  rw[if_neg k]
  split at h
  ·cases h
  ·rename_i j;rw[if_neg j]
def mapA (b:Nat) (f:Value→Option Value):HA where
 holds w fp:=fM prog 3 w b f∧fp=[b]
 lt:=by rintro w fp ⟨h,rfl⟩ k hk;simp at hk;subst hk;exact h.lt
 iZ:=by rintro w w' S fp ⟨h,rfl⟩ c hn;exact⟨h.iZ c (hn _ (by simp)),rfl⟩
section
variable {p wd:Nat} {k:Co}
theorem Ie (obj:Int) (o:Ob) (ho:I64 obj) (hf:I64 o.flow) (hr:o.r<18446744073709551616) {m:Nat} (hk:rY k m) (hm:m+1<100000) (hwd:wd≤40):Does prog [eP p wd k,bP] 281 #[ptr p,J obj,TR o] (.bool (k.q.push wd ⟨max k.v (k.th obj).finish,o.flow⟩).2) [eP p wd (k.wake wd obj o),bP]:=Does.ax fun S w0 w h=>by
 obtain⟨c,s0⟩:=Scope.o6 h;obtain⟨B,hB⟩:∃ B,B=w.heap.size:=⟨_,rfl⟩
 obtain⟨X,hX⟩:∃ X,X=w.heap.size+1:=⟨_,rfl⟩
 have s1:=s0.box [J o.flow,J o.most,Ju o.r] 246;rw[←hB]at s1;obtain⟨x,hx⟩:∃ x,x=k.th obj:=⟨_,rfl⟩
 have hx4:=hk.th obj;rw[←hx]at hx4;have s2:=s1.box [J x.flow,Ju x.r,Ju x.finish,Ju x.place] 300;rw[show(w.alloc (.cells [J o.flow,J o.most,Ju o.r].toArray 246)).heap.size=X by rw[hX];simp]at s2;have c6:At w p 6 (.map (some c.tb)):=(s0.row (k:=p) 0 rfl).cell rfl;have lp:=(s0.row (k:=p) 0 rfl).lt;obtain⟨kx,hkx⟩:=qy ho;obtain⟨fp,⟨⟨f,hm1,hf1⟩,_⟩,_⟩:=s1.get 1 rfl;have hz:∀ w,(zeroValue 300).run prog w=.ok (Gf .zero) w:=fun _=>by kernel_rfl
 have hrun:=hm1.lookup (t:=136) nV underlying136 (hz _) hkx;rw[hf1 obj, ←hx]at hrun;unfold Gf at hrun;have S2:=zd s2;have HB:=zd hB;have HX:=zd hX;have Hk:=zd hk;have Hx:=zd hx;have Hz:=zd hz;obtain⟨W,hW⟩:∃ W,W=(w.alloc (.cells #[J o.flow,J o.most,Ju o.r] 246)).alloc (.cells #[J x.flow,Ju x.r,Ju x.finish,Ju x.place] 300):=⟨_,rfl⟩
 have HW:=zd hW;clear h s0 s1 s2 hB hX hm1 hf1 hz hx hW
 go_enter func281,ntmps281
 go_wp2_with fail
 rw[←HX.out, ←HB.out,show(w.alloc (.cells #[J o.flow,J o.most,Ju o.r] 246)).alloc (.cells #[J x.flow,Ju x.r,Ju x.finish,Ju x.place] 300)=W from HW.out.symm];clear hrun c6 lp;have s3:Scope S w0 W ([C9 p k c,wu c.tb k.th,jT c.ob k.ow,dR c.pq wd k.q,bP,box B [J o.flow,J o.most,Ju o.r] 246]++([box X [J x.flow,Ju x.r,Ju x.finish,Ju x.place] 300]++[])):=by
  rw[HW.out];exact S2.out
 obtain⟨v,hv⟩:∃ v,v=k.v:=⟨_,rfl⟩
 obtain⟨fi,hfi⟩:∃ fi,fi=x.finish:=⟨_,rfl⟩
 obtain⟨mx,hmx⟩:∃ mx,mx=max v fi:=⟨_,rfl⟩
 have hmx':(if v<fi then(fi:Int)else(v:Int))=(mx:Int):=by rw[hmx];split<;>omega
 have S3:=zd s3.drew;have Hv:=zd hv;have Hfi:=zd hfi;have Hmx:=zd hmx;have sd:=S3.out;refine aP (by kernel_rfl) ?_;generalize W.drew=V at S3 sd ⊢
 have h0:At V p 0 (.func (.func 46) #[ptr c.pq] #[])∧At V p 3 (Ju v)∧At V X 2 (Ju fi)∧At V B 0 (J o.flow):=⟨(sd.row (k:=p) 0 rfl).cell rfl,by rw[hv];exact(sd.row (k:=p) 0 rfl).cell rfl,by rw[hfi];exact(sd.row (k:=X) 6 rfl).cell rfl,(sd.row (k:=B) 5 rfl).cell rfl⟩
 clear s3 sd hv hfi hmx;refine aY [0,4,8,11] ?_
 repeat (refine ay _ rfl (by kernel_rfl) (fun _ _ _ h=>h) (fun w'=>by(try simp only[ag,ah,aj]);go_simp;try with_reducible rfl) ?_;try simp only[Act.put,ag,ah,aj,aF,aB,aC])
 refine aH ?_;refine bu (S:=fun w'=>At w' p 0 (.func (.func 46) #[ptr c.pq] #[])∧At w' p 3 (Ju v)∧At w' X 2 (Ju fi)∧At w' B 0 (J o.flow)) (U:=[1,2,3,5,6,7,9,10,12,13]) _ _ _ _ ?_;refine dB [1,2,3,5,6,7,9,10,12,13] ?_
 repeat (refine aN _ rfl (by kernel_rfl) (fun _ _ _ h=>h) h0 (fun w' hS=>by(try dsimp only at hS);(try simp only[ag,ah,aj]);go_simp;try with_reducible rfl) ?_;try simp only[Act.put,ag,ah,aj,aF,aB,aC])
 refine bM ?_;refine aX _ _ _ _ (fun j hj=>?_) ?_
 ·simp at hj;rcases hj with rfl|rfl|rfl|rfl|rfl|rfl|rfl|rfl|rfl|rfl<;>rfl
 refine af 14 (by kernel_rfl) rfl (by rfl) fun K hK=>?_
 go_simp;refine(Does.Qx (xO ⟨mx,o.flow⟩ ⟨hf,by have h1:=Hmx.out;have h2:=Hk.out.v;have h3:=Hv.out;have h4:=Hfi.out;have h5:=hx4.2.2.1;simp only;omega⟩ Hk.out.q hm hwd) 3 3 rfl rfl S3.out).mono ?_
 rintro e w2 ⟨rfl,s4⟩
 refine hK _ _ ?_;obtain⟨bb,hbb⟩:∃ bb,(k.q.push wd ⟨mx,o.flow⟩).2=bb:=⟨_,rfl⟩
 rw[hbb];have emx:(⟨max k.v (k.th obj).finish,o.flow⟩:It)=⟨mx,o.flow⟩:=by rw[Hmx.out,Hv.out,Hfi.out,Hx.out]
 have S4:=zd s4;have Hbb:=zd hbb;have Emx:=zd emx;clear hK K h0 s4 S3 hbb emx hmx'
 try simp only[Act.put,ag,ah,aj,aF,aB,aC]
 refine aY [15] ?_
 repeat (refine ay _ rfl (by kernel_rfl) (fun _ _ _ h=>h) (fun w'=>by(try simp only[ag,ah,aj]);go_simp;try with_reducible rfl) ?_;try simp only[Act.put,ag,ah,aj,aF,aB,aC])
 refine aH ?_;refine wpAny_done (by kernel_rfl) ?_ _
 cases bb
 ·have hq:(k.q.push wd ⟨mx,o.flow⟩).1=k.q:=Df Hbb.out
  have hr:k.wake wd obj o=k:=by unfold Co.wake;rw[Emx.out,if_neg (by rw[Hbb.out];simp)]
  have s5:Scope S w0 w2 (nT p wd k c++[bP,box B [J o.flow,J o.most,Ju o.r] 246,box X [J x.flow,Ju x.r,Ju x.finish,Ju x.place] 300]):=by
   have:=S4.out
   rw[hq]at this
   exact this
  have Hr:=zd hr;have S5:=zd s5.kT;clear hq hr s5 S4
  go_wp2
  go_ret
  refine Ends.mk' (by rw[Emx.out,Hbb.out];rfl) [box B [J o.flow,J o.most,Ju o.r] 246,box X [J x.flow,Ju x.r,Ju x.finish,Ju x.place] 300] ?_;rw[Hr.out]
  exact S5.out
 ·obtain⟨q',hq'⟩:∃ q',q'=(k.q.push wd ⟨mx,o.flow⟩).1:=⟨_,rfl⟩
  obtain⟨x',hx'⟩:∃ x':Th,x'=⟨o.flow,o.r,x.finish,x.place⟩:=⟨_,rfl⟩
  have hr:k.wake wd obj o=⟨q',k.v,k.most,k.served,upd k.th obj x',upd k.ow o.flow obj,k.last⟩:=by
   unfold Co.wake;rw[Emx.out,if_pos Hbb.out,hq',hx',Hx.out]
  have s5:Scope S w0 w2 ([C9 p k c,wu c.tb k.th,jT c.ob k.ow,dR c.pq wd q',bP,box B [J o.flow,J o.most,Ju o.r] 246]++([box X [J x.flow,Ju x.r,Ju x.finish,Ju x.place] 300]++[])):=by
   rw[hq'];exact S4.out
  have Hr:=zd hr;have Hx':=zd hx';have S5:=zd s5.drew;clear hr hx' hq' s5 S4
  go_wp2_with fail
  refine aP (by kernel_rfl) ?_;generalize w2.drew=V at S5 ⊢
  have rB:=S5.out.row (k:=B) 5 rfl;have rX:=S5.out.row (k:=X) 6 rfl;have h0:At V B 0 (J o.flow)∧At V B 2 (Ju o.r):=⟨rB.cell rfl,rB.cell rfl⟩
  obtain⟨e0,e1⟩:=rX.c2;have f0:=rX.free 0;have f1:=rX.free 1;refine aY [0,2] ?_
  repeat (refine ay _ rfl (by kernel_rfl) (fun _ _ _ h=>h) (fun w'=>by(try simp only[ag,ah,aj]);go_simp;try with_reducible rfl) ?_;try simp only[Act.put,ag,ah,aj,aF,aB,aC])
  refine aH ?_;refine bu (S:=fun w'=>At w' B 0 (J o.flow)∧At w' B 2 (Ju o.r)) (U:=[1,3,4,5]) _ _ _ _ ?_;refine dB [1,3,4] ?_
  repeat (refine aN _ rfl (by kernel_rfl) (fun _ _ _ h=>h) h0 (fun w' hS=>by(try dsimp only at hS);(try simp only[ag,ah,aj]);go_simp;try with_reducible rfl) ?_;try simp only[Act.put,ag,ah,aj,aF,aB,aC])
  refine bM ?_;have q1:=Scope.au S5.out 0 (J o.flow);have h1:(V.setCell ⟨X,0,none⟩ (J o.flow)).cell? ⟨B,0,none⟩=some (J o.flow)∧(V.setCell ⟨X,0,none⟩ (J o.flow)).cell? ⟨B,2,none⟩=some (Ju o.r):=⟨(q1.row (k:=B) 5 rfl).cell rfl,(q1.row (k:=B) 5 rfl).cell rfl⟩
  refine aK 5 (by kernel_rfl) rfl (by rfl) fun K hK=>?_
  go_simp;refine hK _ _ ⟨fun _=>h1,?_⟩;have q2:=Scope.au q1 1 (Ju o.r);have Q2:=zd q2;clear hK K h0 h1 rB rX q1 q2
  try simp only[Act.put,ag,ah,aj,aF,aB,aC]
  refine aX _ _ _ _ (fun j hj=>?_) ?_
  ·simp at hj;rcases hj with rfl|rfl|rfl|rfl<;>rfl
  refine aY [6] ?_
  repeat (refine ay _ rfl (by kernel_rfl) (fun _ _ _ h=>h) (fun w'=>by(try simp only[ag,ah,aj]);go_simp;try with_reducible rfl) ?_;try simp only[Act.put,ag,ah,aj,aF,aB,aC])
  refine aH ?_;refine af 7 (by kernel_rfl) rfl (by rfl) fun K hK=>?_
  go_simp;refine hK _ _ ?_;clear hK K
  try simp only[Act.put,ag,ah,aj,aF,aB,aC]
  refine wpAny_done (by kernel_rfl) ?_ _;clear e0 e1 f0 f1;obtain⟨V2,hV2⟩:∃ V2,V2=(V.setCell ⟨X,0,none⟩ (J o.flow)).setCell ⟨X,1,none⟩ (Ju o.r):=⟨_,rfl⟩
  have s6:=Q2.out;rw[←hV2]at s6 ⊢
  have S6:Hid (Scope S w0 V2 [C9 p k c,wu c.tb k.th,jT c.ob k.ow,dR c.pq wd q',bP,box B [J o.flow,J o.most,Ju o.r] 246,box X [J o.flow,Ju o.r,Ju x.finish,Ju x.place] 300]):=zd s6;clear s6 hV2 Q2 S5
  go_wp2_with fail
  refine aP (by kernel_rfl) ?_;have sd:=S6.out.drew;generalize V2.drew=V3 at sd ⊢
  obtain⟨fm,⟨⟨f,hmf,hmt⟩,rfl⟩,t1⟩:=(sd.front 1 rfl).turned;obtain⟨born1,v1,W1,g1,r1,B1,M1,D1,G1⟩:=hmf.take (t:=136) nV underlying136 Hz.out hkx;have s7:=t1 (mapA c.tb g1) W1 [c.tb] ⟨M1,rfl⟩ D1 (Own.refl _ _);obtain⟨W2,r2,M2,D2,_⟩:=M1.stamp (t:=136) B1 (Gf x');rw[G1]at M2;obtain⟨fm2,⟨_,rfl⟩,t2⟩:=s7.turned;have s8:=t2 (wu c.tb (upd k.th obj x')) W2 [c.tb] ⟨⟨_,M2,hmt.put obj x'⟩,rfl⟩ D2 (Own.refl _ _);obtain⟨fo,⟨⟨f',hof,hot⟩,rfl⟩,t3⟩:=(s8.front 2 rfl).turned;obtain⟨ky,hky⟩:=qy hf;have hzI:∀ w,(zeroValue 3).run prog w=.ok (J 0) w:=fun _=>by kernel_rfl
  obtain⟨born2,v2,W3,g2,r3,B3,M3,D3,G3⟩:=hof.take (t:=73) nV underlying73 hzI hky;have s9:=t3 (mapA c.ob g2) W3 [c.ob] ⟨M3,rfl⟩ D3 (Own.refl _ _);obtain⟨W4,r4,M4,D4,_⟩:=M3.stamp (t:=73) B3 (J obj);rw[G3]at M4;obtain⟨fo2,⟨_,rfl⟩,t4⟩:=s9.turned;have s10:=t4 (jT c.ob (upd k.ow o.flow obj)) W4 [c.ob] ⟨⟨_,M4,hot.put o.flow obj⟩,rfl⟩ D4 (Own.refl _ _);have cells:∀ {w':World} {As:List HA},Scope S w0 w' As→As[1]? =some (C9 p k c)→As[5]? =some (box B [J o.flow,J o.most,Ju o.r] 246)→As[6]? =some (box X [J o.flow,Ju o.r,Ju x.finish,Ju x.place] 300)→
    At w' p 6 (.map (some c.tb))∧At w' p 7 (.map (some c.ob))∧At w' B 0 (J o.flow)∧At w' X 0 (J o.flow)∧At w' X 1 (Ju o.r)∧At w' X 2 (Ju x.finish)∧At w' X 3 (Ju x.place):=fun s h1 h2 h3=>
   ⟨(s.row 1 h1).cell rfl,(s.row 1 h1).cell rfl,(s.row 5 h2).cell rfl,(s.row 6 h3).cell rfl,(s.row 6 h3).cell rfl,(s.row 6 h3).cell rfl,(s.row 6 h3).cell rfl⟩
  have h0:=cells (sd.front 1 rfl) rfl rfl rfl;have h1:=cells s7 rfl rfl rfl;have h2:=cells s8 rfl rfl rfl;rw[Hx'.out]at r2;unfold Gf at r2
  simp only at r2
  have S10:=zd s10;clear sd t1 t2 t3 t4 s7 s8 s9 s10 hmf hmt hof hot B1 B3 M1 M2 M3 M4 D1 D2 D3 D4 G1 G3 cells S6;refine aY [0,4,5,9,12] ?_
  repeat (refine ay _ rfl (by kernel_rfl) (fun _ _ _ h=>h) (fun w'=>by(try simp only[ag,ah,aj]);go_simp;try with_reducible rfl) ?_;try simp only[Act.put,ag,ah,aj,aF,aB,aC])
  refine aH ?_;refine bu (S:=fun w'=>At w' p 6 (.map (some c.tb))∧At w' p 7 (.map (some c.ob))∧At w' B 0 (J o.flow)∧At w' X 0 (J o.flow)∧At w' X 1 (Ju o.r)∧At w' X 2 (Ju x.finish)∧At w' X 3 (Ju x.place)) (U:=[1,2,3,6,7,8,10,11,13,14,15]) _ _ _ _ ?_;refine dB [1,2,3,6,7,8,10,11] ?_
  repeat (refine aN _ rfl (by kernel_rfl) (fun _ _ _ h=>h) h0 (fun w' hS=>by(try dsimp only at hS);(try simp only[ag,ah,aj]);go_simp;try with_reducible rfl) ?_;try simp only[Act.put,ag,ah,aj,aF,aB,aC])
  refine bM ?_;refine aK 13 (by kernel_rfl) rfl (by rfl) fun K hK=>?_
  go_simp;refine hK _ _ ⟨fun _=>h1,?_⟩;clear hK K r1 h0
  try simp only[Act.put,ag,ah,aj,aF,aB,aC]
  refine aK 14 (by kernel_rfl) rfl (by rfl) fun K hK=>?_
  go_simp;refine hK _ _ ⟨fun _=>h1,?_⟩;clear hK K
  try simp only[Act.put,ag,ah,aj,aF,aB,aC]
  refine aK 15 (by kernel_rfl) rfl (by rfl) fun K hK=>?_
  go_simp;refine hK _ _ ⟨fun _=>h2,?_⟩;clear hK K r2 h1
  try simp only[Act.put,ag,ah,aj,aF,aB,aC]
  refine aX _ _ _ _ (fun j hj=>?_) ?_
  ·simp at hj;rcases hj with rfl|rfl|rfl|rfl|rfl|rfl|rfl|rfl|rfl|rfl|rfl<;>rfl
  refine af 16 (by kernel_rfl) rfl (by rfl) fun K hK=>?_
  go_simp;refine hK _ _ ?_;clear hK K
  try simp only[Act.put,ag,ah,aj,aF,aB,aC]
  refine af 17 (by kernel_rfl) rfl (by rfl) fun K hK=>?_
  go_simp;refine hK _ _ ?_;clear hK K
  try simp only[Act.put,ag,ah,aj,aF,aB,aC]
  refine af 18 (by kernel_rfl) rfl (by rfl) fun K hK=>?_
  go_simp;refine hK _ _ ?_;clear hK K
  try simp only[Act.put,ag,ah,aj,aF,aB,aC]
  clear r3 r4 h2;refine wpAny_done (by kernel_rfl) ?_ _
  go_wp2
  go_ret
  refine Ends.mk' (by rw[Emx.out,Hbb.out];rfl) [box B [J o.flow,J o.most,Ju o.r] 246,box X [J o.flow,Ju o.r,Ju x.finish,Ju x.place] 300] ?_;rw[Hr.out];have s11:Scope S w0 W4 (nT p wd ⟨q',k.v,k.most,k.served,upd k.th obj x',upd k.ow o.flow obj,k.last⟩ c++[bP,box B [J o.flow,J o.most,Ju o.r] 246,box X [J o.flow,Ju o.r,Ju x.finish,Ju x.place] 300]):=(S10.out.front 1 rfl).front 2 rfl
  exact s11.kT
end
def KG (x:Option (Int×Nat)):Value:=match x with|none=>.tuple #[J 0,Ju 0,.bool false]|some y=>.tuple #[J y.1,Ju (y.2:Nat),.bool true]
theorem Ci {q:Qu} {m:Nat} (h:zy q m) (wd:Nat) {x:It} (hx:(q.pop wd).2=some x):okI x:=by
 unfold Qu.pop at hx
 cases hw:q.t.win with
 |none=>rw[hw]at hx;cases hx
 |some z=>
  rw[hw]at hx;obtain⟨i,y⟩:=z;simp only[Option.some.injEq]at hx;subst hx
  rcases yB h with⟨h1,_⟩|⟨j,k,z,hi,h1,_⟩
  ·rw[hw]at h1;cases h1
  ·rw[hw]at h1
   cases h1
   have hs:q.sh.getD i .new∈q.sh:=by rw[List.getD_eq_getElem?_getD,List.getElem?_eq_getElem hi];exact List.getElem_mem hi
   have hS:=h.sh _ hs;unfold Sh.pop
   cases hq:(q.sh.getD i .new).min with
   |none=>exact oU
   |some v=>exact uK hS hq
theorem LW {wd:Nat} {q:Qu} (h:(q.pop wd).2=none):(q.pop wd).1=q:=by
 unfold Qu.pop at h ⊢
 cases hw:q.t.win with
 |none=>rfl
 |some z=>rw[hw]at h;cases h
section
variable {p wd:Nat} {k:Co}
theorem Jy {m:Nat} (hk:rY k m) (hm:m<100000) (hwd:wd≤40):Does prog [eP p wd k,bP] 282 #[ptr p] (KG (k.pick wd).2) [eP p wd (k.pick wd).1,bP]:=Does.ax fun S w0 w h=>by
 obtain⟨c,s0⟩:=Scope.o6 h;have s1:Scope S w0 w [C9 p k c,wu c.tb k.th,jT c.ob k.ow,dR c.pq wd k.q,bP]:=s0;have c1:At w p 1 (.func (.func 47) #[ptr c.pq] #[]):=(s1.row (k:=p) 0 rfl).cell rfl;have hz:∀ w,(zeroValue 300).run prog w=.ok (Gf .zero) w:=fun _=>by kernel_rfl
 have hzI:∀ w,(zeroValue 3).run prog w=.ok (J 0) w:=fun _=>by kernel_rfl
 have S1:=zd s1;have Hk:=zd hk;have Hz:=zd hz;have HzI:=zd hzI;clear h s0 s1 hz hzI
 go_enter func282,ntmps282
 go_wp2_with fail
 refine(Does.Qx (MM Hk.out.q hm hwd) 3 3 rfl rfl S1.out).mono ?_
 rintro e w1 ⟨he,s2⟩
 obtain⟨xk,xi,is,hx,hx1,hx0⟩:=jE (k.q.pop wd).2;rw[hx]at he;subst he;obtain⟨q',hq'⟩:∃ q',q'=(k.q.pop wd).1:=⟨_,rfl⟩
 rw[←hq']at s2;have s2:Scope S w0 w1 [C9 p k c,wu c.tb k.th,jT c.ob k.ow,dR c.pq wd q',bP]:=s2;obtain⟨X,hX⟩:∃ X,X=w1.heap.size:=⟨_,rfl⟩
 obtain⟨V,hV⟩:∃ V,V=w1.alloc (.cells #[Ju xk,J xi] 156):=⟨_,rfl⟩
 have s3:=s2.box [Ju xk,J xi] 156;rw[←hX,show w1.alloc (.cells [Ju xk,J xi].toArray 156)=V from hV.symm]at s3;have s3:Scope S w0 V ([C9 p k c]++[wu c.tb k.th,jT c.ob k.ow,dR c.pq wd q',bP,box X [Ju xk,J xi] 156]):=s3;have HX:=zd hX;have HV:=zd hV;obtain⟨v,hv⟩:∃ v,v=k.v:=⟨_,rfl⟩
 obtain⟨mo,hmo⟩:∃ mo,mo=k.most:=⟨_,rfl⟩
 have Hv:=zd hv;have Hmo:=zd hmo;have Hq':=zd hq'
 cases is
 ·have hn:=(hx0 rfl).1
  have hr:k.pick wd=(⟨q',max k.v k.most,k.most,k.served,k.th,k.ow,k.last⟩,none):=by unfold Co.pick;rw[hn];simp only;rw[hq',LW hn]
  obtain⟨mx,hmx⟩:∃ mx,mx=max v mo:=⟨_,rfl⟩
  have hmx':(if v<mo then(mo:Int)else(v:Int))=(mx:Int):=by rw[hmx];split<;>omega
  have Hr:=zd hr;have S3:=zd s3.drew;have Hmx:=zd hmx;clear hr s2 s3 hX hV hx hx1 hx0 hn hq' hv hmo hmx S1 c1
  go_wp2_with fail
  rw[←HV.out];refine aP (by kernel_rfl) ?_;have sd:=S3.out;generalize V.drew=V2 at sd ⊢
  have rp:=sd.row (k:=p) 0 rfl;have h0:At V2 p 3 (Ju v)∧At V2 p 4 (Ju mo):=⟨by rw[Hv.out];exact rp.cell rfl,by rw[Hmo.out];exact rp.cell rfl⟩
  have fv:=rp.free 3;have e3:=rp.cell (j:=3) rfl;have Sd:=zd sd;clear rp sd S3;refine aY [0,1,5] ?_
  repeat (refine ay _ rfl (by kernel_rfl) (fun _ _ _ h=>h) (fun w'=>by(try simp only[ag,ah,aj]);go_simp;try with_reducible rfl) ?_;try simp only[Act.put,ag,ah,aj,aF,aB,aC])
  refine aH ?_;refine bu (S:=fun w'=>At w' p 3 (Ju v)∧At w' p 4 (Ju mo)) (U:=[2,3,4,6,7,8,9]) _ _ _ _ ?_;refine dB [2,3,4,6,7,8,9] ?_
  repeat (refine aN _ rfl (by kernel_rfl) (fun _ _ _ h=>h) h0 (fun w' hS=>by(try dsimp only at hS);(try simp only[ag,ah,aj]);go_simp;try with_reducible rfl) ?_;try simp only[Act.put,ag,ah,aj,aF,aB,aC])
  refine bM ?_;refine aX _ _ _ _ (fun j hj=>?_) ?_
  ·simp at hj;rcases hj with rfl|rfl|rfl|rfl|rfl|rfl|rfl<;>rfl
  refine aY [10,11] ?_
  repeat (refine ay _ rfl (by kernel_rfl) (fun _ _ _ h=>h) (fun w'=>by(try simp only[ag,ah,aj]);go_simp;try with_reducible rfl) ?_;try simp only[Act.put,ag,ah,aj,aF,aB,aC])
  refine aH ?_;refine af 12 (by kernel_rfl) rfl (by rfl) fun K hK=>?_
  go_simp;refine hK _ _ ?_;clear hK K
  try simp only[Act.put,ag,ah,aj,aF,aB,aC]
  refine wpAny_done (by kernel_rfl) ?_ _;clear hmx' h0 fv e3;have q1:=Scope.au (As:=[]) Sd.out 3 (Ju mx);have s4:Scope S w0 (V2.setCell ⟨p,3,none⟩ (Ju mx)) (nT p wd ⟨q',max k.v k.most,k.most,k.served,k.th,k.ow,k.last⟩ c++[bP,box X [Ju xk,J xi] 156]):=by
   rw[←Hv.out, ←Hmo.out, ←Hmx.out]
   have:=q1
   rw[show mo=k.most from Hmo.out]
   exact this
  have S4:=zd s4.kT;clear q1 s4 Sd
  go_wp2
  refine bodyPost_ret (v:=.tuple #[J 0,Ju 0,.bool false]) (by simp[results,results282,go_sem]) rfl (Ends.mk' (by rw[Hr.out];rfl) [box X [Ju xk,J xi] 156] ?_);rw[Hr.out]
  exact S4.out
 ·have hn:=hx1 rfl
  have okx:=Ci Hk.out.q wd hn;obtain⟨o,ho⟩:∃ o,o=k.ow xi:=⟨_,rfl⟩
  have hr:k.pick wd=(⟨q',xk,k.most,k.served,k.th,k.ow,(true,o,xk)⟩,some (o,(k.th o).place)):=by unfold Co.pick;rw[hn];simp only;rw[hq',ho]
  have q1:=Scope.au (As:=[]) (Bs:=[wu c.tb k.th,jT c.ob k.ow,dR c.pq wd q',bP,box X [Ju xk,J xi] 156]) s3 3 (Ju xk);have c3:w1.cell? ⟨p,3,none⟩=_:=(s2.row (k:=p) 0 rfl).cell rfl;have f3:=(s2.row (k:=p) 0 rfl).free 3;have lp:=(s2.row (k:=p) 0 rfl).lt;have hoI:I64 o:=by rw[ho];exact Hk.out.ow xi
  have t1:=Scope.au (As:=[]) (Bs:=[wu c.tb k.th,jT c.ob k.ow,dR c.pq wd q',bP]) s2 3 (Ju xk);have t2:=t1.box [Ju xk,J xi] 156;rw[show(w1.setCell ⟨p,3,none⟩ (Ju xk)).heap.size=X by rw[hX];simp]at t2;have Hr:=zd hr;have T2:=zd t2;have Ho:=zd ho;clear hr q1 s2 s3 t1 t2 hX hV hx hx1 hx0 hn hq' hv hmo ho S1 c1
  go_wp2_with fail
  obtain⟨U0,hU0⟩:∃ U0,U0=(w1.setCell ⟨p,3,none⟩ (Ju xk)).alloc (.cells #[Ju xk,J xi] 156):=⟨_,rfl⟩
  have sd:Scope S w0 U0.drew [box p [.func (.func 46) #[ptr c.pq] #[],.func (.func 47) #[ptr c.pq] #[],.func (.func 48) #[ptr c.pq] #[],Ju xk,Ju k.most,J k.served,.map (some c.tb),.map (some c.ob),.bool k.last.1,J k.last.2.1,Ju k.last.2.2] 140,wu c.tb k.th,jT c.ob k.ow,dR c.pq wd q',bP,box X [Ju xk,J xi] 156]:=by
   rw[hU0];exact T2.out.drew
  rw[←HX.out, ←hU0];clear hU0 T2 c3 f3 lp;refine aP (by kernel_rfl) ?_;generalize U0.drew=V2 at sd ⊢
  obtain⟨kx,hkx⟩:=qy okx.1;obtain⟨fo,⟨⟨f,hmf,hof⟩,_⟩,_⟩:=sd.get 2 rfl;have hrun:=hmf.lookup (t:=73) nV underlying73 (HzI.out V2) hkx;rw[hof xi, ←Ho.out]at hrun;have rp:=sd.row (k:=p) 0 rfl;have rX:=sd.row (k:=X) 5 rfl;have h0:At V2 p 7 (.map (some c.ob))∧At V2 X 0 (Ju xk)∧At V2 X 1 (J xi)∧(Instr.lookup 73 (.map (some c.ob)) (J xi) false).run prog V2=.ok (J o) V2:=⟨rp.cell rfl,rX.cell rfl,rX.cell rfl,hrun⟩
  have e8:=rp.cell (j:=8) rfl;have e9:=rp.cell (j:=9) rfl;have e10:=rp.cell (j:=10) rfl;have f8:=rp.free 8;have f9:=rp.free 9;have f10:=rp.free 10;have q1:=Scope.au (As:=[]) sd 8 (.bool true);have q2:=Scope.au (As:=[]) q1 9 (J o);have q3:=Scope.au (As:=[]) q2 10 (Ju xk);have Q3:=zd q3;clear hrun hmf hof hkx rp rX sd q1 q2 q3;refine aY [0,1,5,8] ?_
  repeat (refine ay _ rfl (by kernel_rfl) (fun _ _ _ h=>h) (fun w'=>by(try simp only[ag,ah,aj]);go_simp;try with_reducible rfl) ?_;try simp only[Act.put,ag,ah,aj,aF,aB,aC])
  refine aH ?_;refine bu (S:=fun w'=>At w' p 7 (.map (some c.ob))∧At w' X 0 (Ju xk)∧At w' X 1 (J xi)∧(Instr.lookup 73 (.map (some c.ob)) (J xi) false).run prog w'=.ok (J o) w') (U:=[2,3,4,6,7,9,10]) _ _ _ _ ?_;refine dB [2,3,4,6,7,9,10] ?_
  repeat (refine aN _ rfl (by kernel_rfl) (fun _ _ _ h=>h) h0 (fun w' hS=>by(try dsimp only at hS);(try simp only[ag,ah,aj]);go_simp;try with_reducible rfl) ?_;try simp only[Act.put,ag,ah,aj,aF,aB,aC])
  refine bM ?_;refine aX _ _ _ _ (fun j hj=>?_) ?_
  ·simp at hj;rcases hj with rfl|rfl|rfl|rfl|rfl|rfl|rfl<;>rfl
  refine aY [11,12] ?_
  repeat (refine ay _ rfl (by kernel_rfl) (fun _ _ _ h=>h) (fun w'=>by(try simp only[ag,ah,aj]);go_simp;try with_reducible rfl) ?_;try simp only[Act.put,ag,ah,aj,aF,aB,aC])
  refine aH ?_;refine af 13 (by kernel_rfl) rfl (by rfl) fun K hK=>?_
  go_simp;refine hK _ _ ?_;clear hK K
  try simp only[Act.put,ag,ah,aj,aF,aB,aC]
  refine wpAny_done (by kernel_rfl) ?_ _;clear e8 e9 e10 f8 f9 f10 h0;obtain⟨V3,hV3⟩:∃ V3,V3=((V2.setCell ⟨p,8,none⟩ (.bool true)).setCell ⟨p,9,none⟩ (J o)).setCell ⟨p,10,none⟩ (Ju xk):=⟨_,rfl⟩
  have s6:=Q3.out;rw[←hV3]at s6 ⊢
  have s7:Scope S w0 V3 (nT p wd ⟨q',xk,k.most,k.served,k.th,k.ow,(true,o,xk)⟩ c++[bP,box X [Ju xk,J xi] 156]):=s6;have S7:=zd s7.drew;clear s6 s7 hV3 Q3
  go_wp2_with fail
  refine aP (by kernel_rfl) ?_;have sd:=S7.out;generalize V3.drew=V4 at sd ⊢
  obtain⟨kx,hkx⟩:=qy hoI;obtain⟨fo,⟨⟨f,hmf,hth⟩,_⟩,_⟩:=sd.get 1 rfl;have hrun:=hmf.lookup (t:=136) nV underlying136 (Hz.out V4) hkx;have hth':(f (J o)).getD (Gf .zero)=Gf (k.th o):=hth o;rw[hth']at hrun;obtain⟨x,hx⟩:∃ x,x=k.th o:=⟨_,rfl⟩
  rw[←hx]at hrun;unfold Gf at hrun;have rp:=sd.row (k:=p) 0 rfl;have h0:At V4 p 6 (.map (some c.tb))∧At V4 p 9 (J o)∧(Instr.lookup 136 (.map (some c.tb)) (J o) false).run prog V4=.ok (.agg #[J x.flow,Ju x.r,Ju x.finish,Ju x.place]) V4:=⟨rp.cell rfl,rp.cell rfl,hrun⟩
  have Sd:=zd sd;have Hx:=zd hx;clear hrun hmf hth hth' hkx rp sd hx S7;have hfd:∀ w,(Instr.field 300 (.agg #[J x.flow,Ju x.r,Ju x.finish,Ju x.place]) 3).run prog w=.ok (Ju x.place) w:=fun _=>by kernel_rfl
  refine aY [0,5,9] ?_
  repeat (refine ay _ rfl (by kernel_rfl) (fun _ _ _ h=>h) (fun w'=>by(try simp only[ag,ah,aj]);go_simp;try with_reducible rfl) ?_;try simp only[Act.put,ag,ah,aj,aF,aB,aC])
  refine aH ?_;refine bu (S:=fun w'=>At w' p 6 (.map (some c.tb))∧At w' p 9 (J o)∧(Instr.lookup 136 (.map (some c.tb)) (J o) false).run prog w'=.ok (.agg #[J x.flow,Ju x.r,Ju x.finish,Ju x.place]) w') (U:=[1,2,3,4,6,7,8,10,11,12,13,14,15,16]) _ _ _ _ ?_;refine dB [1,2,3,4,6,7,8,10,11,12,13,14,15,16] ?_
  repeat (refine aN _ rfl (by kernel_rfl) (fun _ _ _ h=>h) h0 (fun w' hS=>by(try dsimp only at hS);(try simp only[ag,ah,aj]);go_simp;try with_reducible rfl) ?_;try simp only[Act.put,ag,ah,aj,aF,aB,aC])
  refine bM ?_;refine aX _ _ _ _ (fun j hj=>?_) ?_
  ·simp at hj;rcases hj with rfl|rfl|rfl|rfl|rfl|rfl|rfl|rfl|rfl|rfl|rfl|rfl|rfl|rfl<;>rfl
  refine af 17 (by kernel_rfl) rfl (by rfl) fun K hK=>?_
  go_simp;refine hK _ _ ?_;clear hK K
  try simp only[Act.put,ag,ah,aj,aF,aB,aC]
  refine af 18 (by kernel_rfl) rfl (by rfl) fun K hK=>?_
  go_simp;refine hK _ _ ?_;clear hK K
  try simp only[Act.put,ag,ah,aj,aF,aB,aC]
  refine wpAny_done (by kernel_rfl) ?_ _;clear h0;have s8:Scope S w0 V4 (nT p wd ⟨q',xk,k.most,k.served,k.th,k.ow,(true,o,xk)⟩ c++[bP,box X [Ju xk,J xi] 156]):=Sd.out;have S8:=zd s8.kT;clear s8 Sd
  go_wp2
  refine bodyPost_ret (v:=.tuple #[J o,Ju x.place,.bool true]) (by simp[results,results282,go_sem]) rfl (Ends.mk' (by rw[Hr.out,Hx.out];rfl) [box X [Ju xk,J xi] 156] ?_);rw[Hr.out]
  exact S8.out
end
end Go.Proofs.YtjnbbmgbmiggbaaGreatDoor
