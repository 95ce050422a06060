/- Lemmas for TopTries' card: package world, third part; the reference's Tries. -/
import Derived.Deep.DeepCutAuto
import Derived.Lib.SliceRun
import Derived.Test.YtjnbbmgbmiggbaaGreatDoorZ22
set_option linter.unusedSimpArgs false
set_option linter.unusedVariables false
set_option maxRecDepth 20000
set_option maxHeartbeats 4000000
namespace Go.Proofs.YtjnbbmgbmiggbaaGreatDoor
open Go Go.RowKit Go.Maps Go.Proofs.Tryz
def WS.picks (A:PA) (W:WS) (l:List Nat):WS:=l.foldl (fun W i=>W.pick A i) W
def WS.finish (A:PA):Nat→WS→WS
 |0,W=>W
 |r+1,W=>if 0<W.left then WS.finish A r (W.picks A (List.range A.wk))else W
theorem WS.Nl {A:PA} {W:WS} {r:Nat} (h:0<W.left):W.finish A (r+1)=(W.picks A (List.range A.wk)).finish A r:=by
 show(if 0<W.left then _ else _)=_
 rw[if_pos h]
theorem WS.uj (A:PA) (W:WS) (l:List Nat) (i:Nat):W.picks A (l++[i])=(W.picks A l).pick A i:=by simp[WS.picks]
theorem nz.picks {A:PA} (hA:Aq A):∀ (l:List Nat) {W:WS} {N:Nat},N+l.length≤20000→nz A W N→∃ N',N'≤N+l.length∧nz A (W.picks A l) N'
 | [],W,N,_,h=>⟨N,Nat.le_refl _,h⟩
 |i::l,W,N,hN,h=>by
  rw[List.length_cons]at hN ⊢
  obtain⟨N1,h1,h2⟩:=h.pick i hA (by omega);obtain⟨N2,h3,h4⟩:=nz.picks hA l (by omega) h2
  exact⟨N2,by omega,h4⟩
section
variable {A:PA} {rs:List Nat} {p g i b N:Nat} {W:WS} {zs:List (Wk×WV)} {S:List Nat} {w0 w:World} {Bs:List HA}
theorem P5 {M V:HA} {T X:List HA} (h:Scope S w0 w (([M]++(T++(X++Bs)))++[V])):Scope S w0 w (M::(T++(X++(V::Bs)))):=by
 have e:([M]++(T++(X++Bs)))++[V]=M::(T++(X++(Bs++[V]))):=by simp
 rw[e]at h
 exact h.perm (List.Perm.cons _ (List.Perm.append_left T (List.Perm.append_left X (List.perm_append_comm (l₂:=[V])))))
theorem FB (h:iV S w0 A p g W Bs w):Calls prog 18 #[ptr p] w fun e' w'=>e'=.returned (J W.left)∧iV S w0 A p g W Bs w':=by
 obtain⟨rs,zs,h1,h2,h3⟩:=h;have c3:=(h3.row (k:=p) 2 rfl).cell (j:=3) rfl;have H:=zd h3;have H1:=zd h1;have H2:=zd h2;clear h1 h2 h3
 go_enter func18,ntmps18
 go_wp2
 go_ret
 exact⟨rfl,rs,zs,H1.out,H2.out,H.out⟩
theorem zO (hn:W.s.σ.log.length≤1000000) (h:iV S w0 A p g W Bs w):Calls prog 9 #[ptr p] w fun e' w'=>∃ v,e'=.returned v∧iV S w0 A p g W (aU v 42 5 W.s.σ.log.length (evs W.s.σ.log)::Bs) w':=by
 obtain⟨rs,zs,h1,h2,h3⟩:=h;have c0:=(h3.row (k:=p) 2 rfl).cell (j:=0) rfl;have c1:=(h3.bT 0 rfl).m;obtain⟨c,hF,s1⟩:=Scope.dH h3;have S1:=zd s1;have H1:=zd h1;have H2:=zd h2;have HF:=zd hF;clear h1 h2 h3 s1 hF
 go_enter func9,ntmps9
 go_wp2_with fail
 refine(CP S1.out hn).mono ?_
 rintro e w1 ⟨v,rfl,s2⟩
 have S2:=zd s2;clear s2 c0 c1 S1
 go_wp2
 go_ret
 refine⟨v,rfl,rs,zs,H1.out,H2.out,?_⟩;have s3:Scope S w0 w1 (([bF A.m W.s.σ]++(eX A rs W.s c++((bP::gQ A p g zs.length W.steps W.left::box g (recs dQ zs) 94::zs.map (iF A rs))++Bs)))++[aU v 42 5 W.s.σ.log.length (evs W.s.σ.log)]):=S2.out
 exact(P5 s3).gJ HF.out
theorem zG (rounds:Nat) (hA:Aq A) (hr:rounds<1000) (hW:nz A W N) (hN:N+6*rounds≤20000) (h:iV S w0 A p g W Bs w):
  Calls prog 17 #[ptr p,J (rounds:Nat)] w fun e' w'=>(∃ v,e'=.returned v)∧iV S w0 A p g (W.finish A rounds) Bs w'∧∃ N',N'≤N+6*rounds∧nz A (W.finish A rounds) N':=by
 have h6:=hA.wk6;have H:=zd h;have HW:=zd hW;clear h hW
 go_enter func17,ntmps17
 go_wp2_with fail
 go_loopw [5] (fun a wr=>∃ (k r N':Nat) (W':WS),a=J (k:Nat)∧k+r=rounds∧nz A W' N'∧N'≤N+6*k∧W'.finish A r=W.finish A rounds∧iV S w0 A p g W' Bs wr) (fun a _=>rounds - (intOf a).toNat)
 case atStart=>exact⟨0,rounds,N,W,rfl,by omega,HW.out,by omega,rfl,H.out⟩
 case round=>
  obtain⟨k,r,N',W',rfl,hkr,hW',hN',hf,rs,zs,k1,k2,k3⟩:=hrel;have c3:=(k3.row (k:=p) 2 rfl).cell (j:=3) rfl;have c1:=(k3.row (k:=p) 2 rfl).cell (j:=1) rfl;have hzl:zs.length=A.wk:=by rw[←hW'.ks, ←k1,List.length_map]
  rw[hzl]at c1;have HW':=zd hW';have HN':=zd hN';have Hf:=zd hf;have K1:=zd k1;have K2:=zd k2;have K3:=zd k3;have Hkr:=zd hkr;clear hW' hN' hf k1 k2 k3 hzl hkr;have hh:∀ e:r=0∨¬ 0<W'.left,W'.finish A r=W':=fun e=>by
   cases r with
   |zero=>rfl
   |succ r=>
    unfold WS.finish;rw[if_neg (e.resolve_left (by omega))]
  by_cases hk:k<rounds
  ·have i1:(k:Int)<(rounds:Nat):=by omega
   by_cases hl:0<W'.left
   ·obtain⟨r',rfl⟩:∃ r',r=r'+1:=⟨r - 1,by have:=Hkr.out;omega⟩
    clear hh
    go_wp2_with fail
    clear c1 c3
    go_loopw [24] (fun a wr=>∃ (j N2:Nat),a=J (j:Nat)∧j≤A.wk∧nz A (W'.picks A (List.range j)) N2∧N2≤N'+j∧iV S w0 A p g (W'.picks A (List.range j)) Bs wr) (fun a _=>A.wk - (intOf a).toNat)
    case atStart=>exact⟨0,N',rfl,by omega,HW'.out,by omega,rs,zs,K1.out,K2.out,K3.out⟩
    case round=>
     obtain⟨j,N2,rfl,hj,j1,j2,j3⟩:=hrel;have J1:=zd j1;have J2:=zd j2;have J3:=zd j3;clear j1 j2 j3
     by_cases hj2:j<A.wk
     ·have i2:(j:Int)<(A.wk:Nat):=by omega
      have i3:(0:Int)≤(j:Nat):=by omega
      go_wp2_with fail
      obtain⟨rs2,zs2,m1,m2,m3⟩:=J3.out;refine(xP hA J1.out (by have:=J2.out;have:=HN'.out;have:=Hkr.out;omega) hj2 m1 m2 m3).mono ?_
      rintro er w2 ⟨⟨b2,rfl⟩,hp⟩
      obtain⟨N3,n1,n2⟩:=J1.out.pick j hA (by have:=J2.out;have:=HN'.out;have:=Hkr.out;omega);have Hp:=zd hp;have Hn1:=zd n1;have Hn2:=zd n2;clear hp n1 n2 m1 m2 m3
      go_wp2
      go_roundw
      case rel=>exact⟨j+1,N3,by go_num,by omega,by rw[List.range_succ,WS.uj];exact Hn2.out,by have:=Hn1.out;have:=J2.out;omega,by rw[List.range_succ,WS.uj];exact Hp.out⟩
      case measure=>simp[intOf];omega
     ·obtain rfl:j=A.wk:=by omega
      have i2:¬ ((A.wk:Nat):Int)<(A.wk:Nat):=by omega
      go_wp2
      go_roundw
      case rel=>exact⟨k+1,r',N2,W'.picks A (List.range A.wk),by go_num,by have:=Hkr.out;omega,J1.out,by have:=J2.out;have:=HN'.out;omega,by rw[←Hf.out,WS.Nl hl],J3.out⟩
      case measure=>simp[intOf];omega
   ·have e:=hh (.inr hl)
    have i2:¬ 0<W'.left:=hl;have E:=zd e;clear hh e
    go_wp2
    go_ret
    refine⟨⟨_,rfl⟩,?_,N',by have:=HN'.out;have:=Hkr.out;omega,?_⟩
    ·rw[←Hf.out,E.out];exact⟨rs,zs,K1.out,K2.out,K3.out⟩
    ·rw[←Hf.out,E.out];exact HW'.out
  ·have e:=hh (.inl (by have:=Hkr.out;omega))
   have i1:¬ (k:Int)<(rounds:Nat):=by omega
   have E:=zd e;clear hh e
   go_wp2
   go_ret
   refine⟨⟨_,rfl⟩,?_,N',by have:=HN'.out;have:=Hkr.out;omega,?_⟩
   ·rw[←Hf.out,E.out];exact⟨rs,zs,K1.out,K2.out,K3.out⟩
   ·rw[←Hf.out,E.out];exact HW'.out
end
def Nu (w:World) (v:Value) (L:List Cl):Prop:=
 (v=nS∧L=[])∨∃ ad c,v=.slice (some ad) L.length c∧(L≠ []→ad.spot=none)∧∀ j u,(recs Cl.cells L)[j]? =some u→w.cell? (ad.add j)=some u
theorem Nu.iZ {w w':World} {v:Value} {L:List Cl} (h:Nu w v L) (c:dE [] w w'):Nu w' v L:=by
 rcases h with h|⟨ad,k,h1,h0,h2⟩
 ·exact .inl h
 ·exact .inr ⟨ad,k,h1,h0,fun j u hu=>c.cell (h2 j u hu) (by simp)⟩
theorem Nu.jk {w:World} {v:Value} {L:List Cl} (h:w.ownsRow 0 49 4 v L.length (recs Cl.cells L)):Nu w v L:=by
 rcases ownsRow_form h with⟨rfl,h0⟩|⟨g,cap,rfl,_⟩
 ·exact .inl ⟨rfl,List.eq_nil_of_length_eq_zero h0⟩
 ·exact .inr ⟨⟨g,0,none⟩,cap,rfl,fun _=>rfl,fun j u hu=>by rw[add0];exact dw h rfl hu⟩
theorem Nu.form {w:World} {v:Value} {L:List Cl} (h:Nu w v L):∃ oa c,v=.slice oa L.length c:=by
 rcases h with⟨rfl,rfl⟩|⟨ad,c,rfl,_⟩
 ·exact⟨none,0,rfl⟩
 ·exact⟨some ad,c,rfl⟩
def VH (w:World) (v:Value) (Ls:List (List Cl)):Prop:=∃ oa c,v=.slice oa Ls.length c∧∀ i L,Ls[i]? =some L→∃ g o lv,oa=some ⟨g,o,none⟩∧w.cell? ⟨g,o+i,none⟩=some lv∧Nu w lv L
theorem VH.iZ {w w':World} {v:Value} {Ls:List (List Cl)} (h:VH w v Ls) (c:dE [] w w'):VH w' v Ls:=by
 obtain⟨oa,k,h1,h2⟩:=h
 exact⟨oa,k,h1,fun i L hi=>by obtain⟨g,o,lv,a1,a2,a3⟩:=h2 i L hi;exact⟨g,o,lv,a1,c.cell a2 (by simp),a3.iZ c⟩⟩
theorem SA (L:List Cl):∀ u∈recs Cl.cells L,u.oneCell'=true:=P9 (fun x u hu=>by simp[Cl.cells]at hu;rcases hu with rfl|rfl|rfl|rfl<;>rfl) L
set_option maxHeartbeats 400000 in
theorem Ei {w:World} {v:Value} {L:List Cl} (h:Nu w v L) (hn:L.length≤1000000):
  Calls prog 26 #[v] w (yM w 49 4 L.length (recs Cl.cells L)):=by
 obtain⟨i0,hi⟩:=Option.isSome_iff_exists.1 (show(prog.info? 49).isSome=true by kernel_rfl);obtain⟨hz0,hz1,hz2⟩:=lF 49 hi (z:=.agg #[J 0,J 0,J 0,J 0]) (s:=4) (b:=32) (by kernel_rfl) (by kernel_rfl) (by kernel_rfl)
 rcases h with⟨rfl,rfl⟩|⟨ad,cap,rfl,_,hc⟩
 ·have e0:=fun w=>Lib.run_eql_slice_nil (P:=prog) w 46 49 none 0 0 0 0 underlying46
  have H:w.ownsRow 0 49 4 (nS) 0 []:=⟨rfl,.inl ⟨rfl,rfl⟩⟩
  have H':=zd H;clear H
  go_enter func26,ntmps26
  go_wp2
  go_ret
  exact⟨_,rfl,H'.out,dE.refl _ _,fun k hk=>by simp[Value.ownBlock]at hk⟩
 ·have e0:=fun w=>Lib.run_eql_slice_nil (P:=prog) w 46 49 (some ad) L.length cap 0 0 underlying46
  have hcell:∀ j u,(recs Cl.cells L)[j]? =some u→(w.alloc (.cells #[] 49)).cell? (ad.add j)=some u:=fun j u hu=>((dE.refl [] w).alloc _).cell (hc j u hu) (by simp)
  have hown:(w.alloc (.cells #[] 49)).ownsRow 0 49 4 (.slice (some ⟨w.heap.size,0,none⟩) 0 0) 0 []:=World.ownsRow_made w #[] 0 (by omega) (by unfold maxLen;omega) (by simp);have Hl:=zd (kP (c:=Cl.cells) (n:=4) (fun _=>rfl) L);have Hcell:=zd hcell;have H1:=zd (SA L);have Hown:=zd hown;clear hc hcell hown;generalize recs Cl.cells L=xs at *;generalize L.length=n at *
  go_enter func26,ntmps26
  go_wp2_with (at_builtin;go_must (refine wpList_append_own_at _ rfl (.tmp 5) (.tmp 6) 46 rfl 0 49 i0 _ 4 32 underlying46 hi hz0 hz1 hz2 rfl (by decide) (.slice (some ⟨w.heap.size,0,none⟩) 0 0) 0 [] rfl Hown.out ad n cap xs rfl Hl.out Hcell.out H1.out (by unfold maxLen;omega) (by omega) (by omega) ?_);intro v' w1 hown' hgrow hnil hat)
  go_ret
  refine⟨v',rfl,by simpa using hown',((dE.refl _ _).alloc _).grown hgrow (fun k hk=>?_),fun k hk=>?_⟩
  ·simp[Value.ownBlock]at hk;subst hk;exact .inr (Nat.le_refl _)
  ·rcases hat with h|h
   ·rw[h]at hk;simp[Value.ownBlock]at hk;omega
   ·rw[h]at hk;simp at hk;omega
def mX (Ls:List (List Cl)) (n k:Nat):List Wk:=(List.range n).map fun i=>⟨if i<k then Ls.getD i []else [],[],none⟩
def WS.new (A:PA) (Ls:List (List Cl)):WS:=⟨PS.new A.sh,mX Ls A.wk Ls.length,0,(tot Ls:Nat)⟩
theorem Qw (Ls:List (List Cl)) (n k:Nat) (hk:k<n):(mX Ls n k).set k ⟨Ls.getD k [],[],none⟩=mX Ls n (k+1):=by
 refine List.ext_getElem? fun j=>?_
 unfold mX
 by_cases e:k=j
 ·subst e
  rw[List.getElem?_set_self (by simpa using hk)]
  simp[List.getElem?_range hk]
 ·rw[List.getElem?_set_ne e]
  simp only[List.getElem?_map]
  by_cases hj:j<n
  ·rw[List.getElem?_range hj]
   simp only[Option.map_some]
   by_cases h:j<k
   ·rw[if_pos h,if_pos (by omega)]
   ·rw[if_neg h,if_neg (by omega)]
  ·rw[List.getElem?_eq_none (by simpa using hj)];rfl
theorem wM:∀ (l:List Nat) (k:Nat),(l.take k).sum≤l.sum
 | [],k=>by simp
 |x::l,0=>by simp
 |x::l,k+1=>by
  have:=wM l k
  simp only[List.take_succ_cons,List.sum_cons]
  omega
theorem CE (Ls:List (List Cl)) (n:Nat) (h:Ls.length≤n):jH Wk.left (mX Ls n Ls.length)=tot Ls:=by
 have key:∀ n,jH Wk.left (mX Ls n Ls.length)=tot (Ls.take n):=by
  intro n
  induction n with
  |zero=>rfl
  |succ n ih=>
   have e:mX Ls (n+1) Ls.length=mX Ls n Ls.length++[⟨if n<Ls.length then Ls.getD n []else [],[],none⟩]:=by unfold mX;rw[List.range_succ,List.map_append];rfl
   rw[e];unfold jH at ih ⊢
   rw[List.map_append,List.sum_append,ih]
   by_cases hn:n<Ls.length
   ·rw[if_pos hn,List.take_succ_eq_append_getElem hn]
    unfold tot;rw[List.map_append,List.sum_append];have e:Ls.getD n []=Ls[n]:=by simp[List.getD,List.getElem?_eq_getElem hn]
    rw[e]
    simp[Wk.left]
   ·rw[if_neg hn,List.take_of_length_le (by omega),List.take_of_length_le (by omega)]
    simp[Wk.left]
 rw[key,List.take_of_length_le h]
theorem nz.new {A:PA} {Ls:List (List Cl)} (hA:Aq A) (hl:Ls.length≤A.wk) (ht:tot Ls≤60) (hc:∀ L∈Ls,∀ c∈L,uV c):nz A (WS.new A Ls) 0:=by
 have get:∀ i (x:Wk),(mX Ls A.wk Ls.length)[i]? =some x→x=⟨if i<Ls.length then Ls.getD i []else [],[],none⟩:=fun i x h=>by
  unfold mX at h;rw[List.getElem?_map]at h;obtain⟨j,hj,e⟩:=Option.map_eq_some_iff.1 h
  have:j=i:=by
   have h2:=(List.getElem?_eq_some_iff.1 hj)
   obtain⟨h3,h4⟩:=h2
   simpa using h4.symm
  rw[←e,this]
 have hu:dC 0:=by unfold dC;omega
 refine⟨⟨fun l=>hu,Nat.le_refl _,Nat.le_refl _,Nat.le_refl _,fun x hx=>(by cases hx),fun k i h=>?_,fun k=>?_,fun o=>?_⟩,⟨0,⟨rY.new hA.sh1 hA.sh4,fun i=>.inr rfl,fun _=>?_⟩,?_⟩,⟨fun p q a l h _=>?_,fun a=>Nat.le_refl _⟩,fun x hx=>(by cases hx),by simp[WS.new,mX],fun i x M hx hM=>?_,fun i x hx=>?_,rfl,?_⟩
 ·exact absurd (show jI 0=true from h) (by decide)
 ·exact Int.le_refl _
 ·exact⟨Int.le_refl _,Int.le_refl _⟩
 ·have h1:=hA.sh1;have h4:=hA.sh4
  show((Qu.new A.sh).pop A.wd).2=none
  rcases(show A.sh=1∨A.sh=2∨A.sh=3∨A.sh=4 by omega)with e|e|e|e<;>rw[e]<;>rfl
 ·have:jH Wk.woken (mX Ls A.wk Ls.length)=0:=by
   unfold jH mX;rw[List.map_map]
   have:∀ l:List Nat,(l.map (Wk.woken ∘ fun i=>⟨if i<Ls.length then Ls.getD i []else [],[],none⟩)).sum=0:=by
    intro l
    induction l with
    |nil=>rfl
    |cons x l ih=>rw[List.map_cons,List.sum_cons,ih];rfl
   exact this _
  show 0+jH Wk.woken (mX Ls A.wk Ls.length)≤0
  omega
 ·exact absurd (congrArg List.length (show([]:List Ev)=p++_ from h)) (by simp)
 ·rw[get i x hx]at hM;cases hM
 ·rw[get i x hx]
  by_cases h:i<Ls.length
  ·have e:Ls.getD i []=Ls[i]:=by simp[List.getD,List.getElem?_eq_getElem h]
   simp only[if_pos h,e];refine⟨by simp,?_,hc _ (List.getElem_mem h)⟩
   have:Ls[i].length≤tot Ls:=tJ (List.mem_map.2 ⟨_,List.getElem_mem h,rfl⟩)
   omega
  ·simp only[if_neg h]
   exact⟨Nat.le_refl _,by simp,fun c hc=>by cases hc⟩
 ·show((tot Ls:Nat):Int)=((jH Wk.left (mX Ls A.wk Ls.length):Nat):Int)
  rw[CE Ls A.wk hl]
def y0:Wk×WV:=(⟨[],[],none⟩,⟨dW,dW,[],0⟩)
section
variable {A:PA} {rs:List Nat} {p g gw i:Nat} {st lf:Int} {s:PS} {ys:List (Wk×WV)} {zs:List (Value×List Cl)} {S:List Nat} {w0 w:World} {Bs Cs:List HA}
theorem Tq (A:PA) (rs:List Nat) (h:Scope S w0 w Bs):Scope S w0 w (iF A rs y0::Bs):=by
 have h1:Scope S w0 w (aG []::aG []::Bs):=Scope.shut1 (As:=[]) (Scope.shut1 (As:=[]) h);have h2:=yR (P:=(y0.2.vs.length=y0.1.D.length)) rfl (jX 49 4 (jX 62 12 h1));have h3:Scope S w0 w (Jp A rs y0++Bs):=h2
 exact Scope.shut1 h3
theorem EN (A:PA) (rs:List Nat) (h:Scope S w0 w Bs):∀ k,Scope S w0 w (List.replicate k (iF A rs y0)++Bs)
 |0=>h
 |k+1=>Tq A rs (EN A rs h k)
theorem J6 (n:Nat) (h1:1≤n) (h6:n≤6):∀ w,(Instr.makeSlice 78 (J (n:Nat)) (J (n:Nat))).run prog w=.ok (.slice (some ⟨w.heap.size,0,none⟩) n n) (w.alloc (.cells (recs dQ (List.replicate n y0)).toArray 94)):=by
 intro w
 rcases(show n=1∨n=2∨n=3∨n=4∨n=5∨n=6 by omega)with rfl|rfl|rfl|rfl|rfl|rfl
 ·kernel_rfl
 ·kernel_rfl
 ·kernel_rfl
 ·kernel_rfl
 ·kernel_rfl
 ·kernel_rfl
theorem Qy {z:Wk×WV} (hz:ys[i]? =some z) (v:Value) (L:List Cl) (hM:z.1.M=none):(recs dQ ys).set (i*3) v=recs dQ (ys.set i (⟨L,[],none⟩,{ z.2 with lv:=v })):=by
 rw[←vN o7 ys i _ (List.getElem?_eq_some_iff.1 hz).1];obtain⟨_,g1,g2⟩:=oW hz
 show _=(((recs dQ ys).set (i*3) v).set (i*3+1) z.2.dv).set (i*3+1+1) .nilFunc
 have e1:((recs dQ ys).set (i*3) v).set (i*3+1) z.2.dv=(recs dQ ys).set (i*3) v:=Ez (by rw[List.getElem?_set_ne (by omega)];exact g1);rw[e1];refine(Ez ?_).symm;rw[List.getElem?_set_ne (by omega)];rw[hM]at g2
 exact g2
theorem Qq {v:Value} {L:List Cl} {vv:WV} (h:Scope S w0 w (eF v L::(qJ A rs p g s st lf ys++Cs))) (hy:ys[i]? =some (⟨[],[],none⟩,vv)):
  Scope S w0 (w.setCell ⟨g,i*3,none⟩ v) (qJ A rs p g s st lf (ys.set i (⟨L,[],none⟩,{ vv with lv:=v }))++Cs):=by
 have h1:Scope S w0 w ((iF A rs (⟨[],[],none⟩,vv)::(eF v L::ae A rs s::bP::gQ A p g ys.length st lf::box g (recs dQ ys) 94::(ys.map (iF A rs)).eraseIdx i))++Cs):=
  Scope.perm h (List.Perm.append_right Cs (jF (i+5) (eF v L::qJ A rs p g s st lf ys) _ (by show(ys.map (iF A rs))[i]? =_;rw[List.getElem?_map,hy];rfl)))
 have h2:Scope S w0 w ([fact (vv.vs.length=0),eF vv.lv [],iI vv.dv [] vv.vs,zF [] vv.vs,aG [],eF v L,ae A rs s,bP,gQ A p g ys.length st lf,box g (recs dQ ys) 94]++((ys.map (iF A rs)).eraseIdx i++Cs)):=Scope.gU (As:=Jp A rs (⟨[],[],none⟩,vv)) h1;have h3:Scope S w0 w ([eF vv.lv []]++([fact (vv.vs.length=0),eF v L,iI vv.dv [] vv.vs,zF [] vv.vs,aG [],ae A rs s,bP,gQ A p g ys.length st lf,box g (recs dQ ys) 94]++((ys.map (iF A rs)).eraseIdx i++Cs))):=h2.oP [1,0,5,2,3,4,6,7,8,9] (by rfl);have h4:Scope S w0 w ([fact (vv.vs.length=0),eF v L,iI vv.dv [] vv.vs,zF [] vv.vs,aG [],ae A rs s,bP,gQ A p g ys.length st lf]++([box g (recs dQ ys) 94]++((ys.map (iF A rs)).eraseIdx i++Cs))):=h3.drop_left;have h5:=Scope.au h4 (i*3) v;rw[Qy hy v L rfl]at h5
 exact pY (y:=(⟨L,[],none⟩,{ vv with lv:=v })) (List.getElem?_eq_some_iff.1 hy).1 h5
theorem Nz (Ls:List (List Cl)) (n:Nat):(List.replicate n y0).map Prod.fst=mX Ls n 0:=by
 rw[List.map_replicate];unfold mX;refine List.ext_getElem? fun j=>?_
 rw[List.getElem?_replicate,List.getElem?_map]
 by_cases h:j<n
 ·rw[if_pos h,List.getElem?_range h];simp[y0]
 ·rw[if_neg h,List.getElem?_eq_none (by simpa using h)];rfl
theorem OU (Ls:List (List Cl)) (n k:Nat) (h:k<n):(mX Ls n k)[k]? =some ⟨[],[],none⟩:=by
 unfold mX;rw[List.getElem?_map,List.getElem?_range h]
 simp
theorem Scope.zL {As:List HA} (h:Scope S w0 w As) {v:Value} {t:TypeId} {size n:Nat} {xs:List Value} (hi:aU v t size n xs∈As):w.ownsRow 0 t size v n xs:=by
 obtain⟨q,hq⟩:=List.getElem?_of_mem hi
 exact h.jb q hq
def Uf (S:List Nat) (w0:World) (sh sl wk wd un:Nat) (zs:List (Value×List Cl)) (Bs:List HA) (e:Ending) (w':World):Prop:=∃ (A:PA) (p gw:Nat),(A.sh=sh∧A.sl=sl∧A.wk=wk∧A.wd=wd∧A.un=un)∧e=.returned (.tuple #[ptr p,J 0])∧iV S w0 A p gw (WS.new A (zs.map Prod.snd)) Bs w'
theorem P6 (l:List (List Cl)) (k:Nat) (L:List Cl) (h:l[k]? =some L):tot (l.take (k+1))=tot (l.take k)+L.length:=by
 unfold tot;rw[List.take_add_one,h,List.map_append,List.sum_append]
 simp
theorem Qr (l:List (List Cl)) (k:Nat):tot (l.take k)≤tot l:=by
 unfold tot;rw[List.map_take]
 exact wM _ _
theorem Ja {sh sl wk wd un:Nat} (hc:TL sh sl wk wd un) (hp:uw wk 43 zs) (h:Scope S w0 w (bP::(uF g zs++Bs))):
  Calls prog 15 #[Qi sh sl wk wd un g wk] w (Uf S w0 sh sl wk wd un zs Bs):=by
 have hmk:=J6 wk hc.wk1 hc.wk6;have s1:Scope S w0 _ (bP::((uF g zs++Bs)++[box w.heap.size [J sh,J sl,J wk,J wd,Ju un,.slice (some ⟨g,0,none⟩) wk wk] 28])):=h.box [J sh,J sl,J wk,J wd,Ju un,.slice (some ⟨g,0,none⟩) wk wk] 28;obtain⟨W,hW⟩:∃ W,W=w.alloc (.cells ([J sh,J sl,J wk,J wd,Ju un,.slice (some ⟨g,0,none⟩) wk wk]:List Value).toArray 28):=⟨_,rfl⟩
 obtain⟨B,hB⟩:∃ B,B=w.heap.size:=⟨_,rfl⟩
 rw[←hW, ←hB]at s1;have s1:Scope S w0 W (bP::(uF g zs++(Bs++[box B [J sh,J sl,J wk,J wd,Ju un,.slice (some ⟨g,0,none⟩) wk wk] 28]))):=by rw[←List.append_assoc];exact s1
 have facts:∀ (w':World) (As:List HA),Scope S w0 w' As→box B [J sh,J sl,J wk,J wd,Ju un,.slice (some ⟨g,0,none⟩) wk wk] 28∈As→At w' B 0 (J sh)∧At w' B 1 (J sl)∧At w' B 2 (J wk)∧At w' B 3 (J wd)∧At w' B 4 (Ju un)∧At w' B 5 (.slice (some ⟨g,0,none⟩) wk wk):=fun w' As s hi=>by
  have r:=s.sW (k:=B) hi
  exact⟨r.cell rfl,r.cell rfl,r.cell rfl,r.cell rfl,r.cell rfl,r.cell rfl⟩
 have lists:∀ (w':World) (As:List HA) (i:Nat) (z:Value×List Cl),zs[i]? =some z→Scope S w0 w' As→box g (zs.map Prod.fst) 46∈As→gV z∈As→∃ od cd,z.1=.slice od z.2.length cd∧At w' g i (.slice od z.2.length cd)∧Nu w' (.slice od z.2.length cd) z.2:=fun w' As i z hz s h1 h2=>by
  have rg:=s.sW (k:=g) h1;have hc:=Nu.jk (s.zL h2);obtain⟨od,cd,e⟩:=hc.form;rw[e]at hc
  exact⟨od,cd,e,rg.cell (by rw[List.getElem?_map,hz, ←e];rfl),hc⟩
 have hlen:=hp.len;have hwk1:=hc.wk1;have hwk6:=hc.wk6;have S1:=zd s1;have HP:=zd hp;have HC:=zd hc;have HW:=zd hW;have HB:=zd hB;have Facts:=zd facts;have Lists:=zd lists;have Hlen:=zd hlen;clear h hc hp s1 hW hB facts lists hlen
 go_enter func15,ntmps15
 go_upto_region 1 with fail
 rw[←HB.out];rw[show w.alloc (.cells #[J sh,J sl,J wk,J wd,Ju un,.slice (some ⟨g,0,none⟩) wk wk] 28)=W from HW.out.symm];have ⟨c0,c1,c2,c3,c4,c5⟩:=Facts.out W _ S1.out (by simp);have htk:∀ k,tot ((zs.map Prod.snd).take k)≤43:=fun k=>Nat.le_trans (Qr _ _) HP.out.few
 have Htk:=zd htk;clear htk
 go_wp2_with fail
 go_loopw [4,13] (fun a b wr=>∃ k n:Nat,n=tot ((zs.map Prod.snd).take k)∧a=J (n:Nat)∧b=J (k:Nat)∧k≤wk∧wr=W) (fun _ b _=>wk - (intOf b).toNat)
 case atStart=>exact⟨0,0,rfl,rfl,rfl,by omega,rfl⟩
 case round=>
  obtain⟨k,n,hn,rfl,rfl,hk,rfl⟩:=hrel;have hn43:n≤43:=by rw[hn];exact Htk.out k
  have HN:=zd hn;clear hn
  by_cases hkw:k<wk
  ·obtain⟨z,hz⟩:∃ z,zs[k]? =some z:=⟨_,List.getElem?_eq_getElem (by rw[Hlen.out];exact hkw)⟩
   obtain⟨od,cd,e1,e2,_⟩:=Lists.out _ _ k z hz S1.out (by simp[uF]) (by simp only[uF,List.mem_cons,List.mem_append,List.mem_map];exact .inr (.inl (.inr ⟨z,List.mem_of_getElem? hz,rfl⟩)));have ht:=P6 (zs.map Prod.snd) k z.2 (by rw[List.getElem?_map,hz];rfl);have hl43:=Htk.out (k+1);obtain⟨m,hm⟩:∃ m,z.2.length=m:=⟨_,rfl⟩
   rw[hm]at e2 ht;rw[ht, ←HN.out]at hl43;have HT:=zd ht;clear ht hm e1;have k1:(k:Int)<(wk:Nat):=by omega
   have k2:(0:Int)≤(k:Nat):=by omega
   go_wp2
   exact⟨⟨k+1,n+m,by rw[HT.out, ←HN.out],rfl,lh k,hkw,trivial⟩,measS hkw⟩
  ·obtain rfl:k=wk:=by omega
   have nle:¬ (60:Int)<(n:Int):=by omega
   go_wp2_with fail
   refine((Aa HC.out).at S1.out).mono ?_
   rintro e w1 ⟨rfl,s2⟩
   have ⟨c0,c1,c2,c3,c4,c5⟩:=Facts.out w1 _ s2 (by simp);have S2:=zd s2;clear s2 S1
   go_upto_region 10 with fail
   clear c0 c1 c2 c3 c4 c5;obtain⟨gw,hgw⟩:∃ gw,gw=w1.heap.size:=⟨_,rfl⟩
   have s3:=(S2.out.box (recs dQ (List.replicate k y0)) 94).box [.pointer none,.slice (some ⟨w1.heap.size,0,none⟩) k k,J 0,J (n:Nat)] 80;rw[show(w1.alloc (.cells (recs dQ (List.replicate k y0)).toArray 94)).heap.size=w1.heap.size+1 by simp, ←hgw]at s3;rw[←hgw];clear hgw;generalize (w1.alloc _).alloc _=V at s3 ⊢
   have s3:Scope S w0 V ([]++([box (gw+1) [.pointer none,.slice (some ⟨gw,0,none⟩) k k,J 0,J (n:Nat)] 80]++(box gw (recs dQ (List.replicate k y0)) 94::bP::(uF g zs++(Bs++[box B [J sh,J sl,J k,J wd,Ju un,.slice (some ⟨g,0,none⟩) k k] 28]))))):=Scope.perm s3 (by rw[List.append_assoc];exact List.perm_append_comm.trans (List.Perm.swap _ _ _));have ⟨c0,c1,c2,c3,c4,c5⟩:=Facts.out V _ s3 (by simp);have S3:=zd s3;clear s3 S2
   go_wp2_with fail
   refine(GY HC.out S3.out).mono ?_
   rintro e w2 ⟨A,hA,rfl,s4⟩
   have rp:=s4.row (k:=gw+1) 1 rfl;have p0:=rp.cell (j:=0) rfl;have f0:=rp.free 0;have S5:=zd (Scope.au (As:=[ae A [] (PS.new sh)]) s4 0 (ptr A.P));have HA:=zd hA;clear c0 c1 c2 c3 c4 c5 rp s4 S3 hA
   go_upto_region 11 with fail
   clear p0 f0;generalize w2.setCell _ _=X at S5 ⊢
   have a0:Scope S w0 X (qJ A [] (gw+1) gw (PS.new sh) 0 (n:Nat) (List.replicate k y0)++(uF g zs++(Bs++[box B [J sh,J sl,J k,J wd,Ju un,.slice (some ⟨g,0,none⟩) k k] 28]))):=by
    have h1:=EN A [] S5.out k;unfold qJ;rw[List.map_replicate,List.length_replicate];have h2:Scope S w0 X (List.replicate k (iF A [] y0)++([ae A [] (PS.new sh),gQ A (gw+1) gw k 0 (n:Nat),box gw (recs dQ (List.replicate k y0)) 94,bP]++(uF g zs++(Bs++[box B [J sh,J sl,J k,J wd,Ju un,.slice (some ⟨g,0,none⟩) k k] 28])))):=h1;have h3:=h2.swap;have h4:=Scope.oP h3 [0,3,1,2] (by rfl)
    exact h4
   have A0:=zd a0;clear a0 S5;have ⟨_,_,_,_,_,c5⟩:=Facts.out X _ A0.out (by simp[qJ])
   go_wp2_with fail
   clear c5
   go_loopw [58] (fun a wr=>∃ (j:Nat) (ys:List (Wk×WV)),a=J (j:Nat)∧j≤k∧ys.map Prod.fst=mX (zs.map Prod.snd) k j∧Scope S w0 wr (qJ A [] (gw+1) gw (PS.new sh) 0 (n:Nat) ys++(uF g zs++(Bs++[box B [J sh,J sl,J k,J wd,Ju un,.slice (some ⟨g,0,none⟩) k k] 28])))) (fun a _=>k - (intOf a).toNat)
   case atStart=>exact⟨0,_,rfl,by omega,Nz _ _,A0.out⟩
   case round=>
    obtain⟨j,ys,rfl,hj,hys,s6⟩:=hrel;have S6:=zd s6;have HYs:=zd hys;clear s6 hys A0
    by_cases hjk:j<k
    ·obtain⟨z,hz⟩:∃ z,zs[j]? =some z:=⟨_,List.getElem?_eq_getElem (by rw[Hlen.out];exact hjk)⟩
     obtain⟨od,cd,e1,e2,cls⟩:=Lists.out _ _ j z hz S6.out (by simp[uF]) (by simp only[uF,List.mem_cons,List.mem_append,List.mem_map];exact .inr (.inl (.inr ⟨z,List.mem_of_getElem? hz,rfl⟩)));have hyl:ys.length=k:=by have:=congrArg List.length HYs.out;simpa [mX]using this
     obtain⟨y,hy⟩:∃ y,ys[j]? =some y:=⟨_,List.getElem?_eq_getElem (by omega)⟩
     have hy1:y.1=⟨[],[],none⟩:=by
      have h1:=OU (zs.map Prod.snd) k j hjk;rw[←HYs.out,List.getElem?_map,hy]at h1
      exact Option.some.inj h1
     obtain⟨y1,vv⟩:=y;have hy1:y1=⟨[],[],none⟩:=hy1;subst hy1;have hl43:z.2.length≤1000000:=by
      have:=Jh (List.mem_of_getElem? (i:=j) (show(zs.map Prod.snd)[j]? =some z.2 by rw[List.getElem?_map,hz];rfl))
      have:=HP.out.few
      omega
     have j1:(j:Int)<(k:Nat):=by omega
     have j2:(0:Int)≤(j:Nat):=by omega
     have Cls:=zd (cls.iZ ((dE.refl _ _).drew));have HY:=zd hy;have HZ:=zd hz;have HL:=zd hl43;clear cls hy hz e1 hl43 hyl
     go_wp2_with fail
     clear e2;refine aP (by kernel_rfl) ?_;have sd:=S6.out.drew;generalize wr.drew=V at sd Cls ⊢
     have h0:V.cell? ⟨gw+1,1,none⟩=some (.slice (some ⟨gw,0,none⟩) k k):=by
      have h1:=(sd.row (k:=gw+1) 2 rfl).cell (j:=1) rfl;have hyl:ys.length=k:=by have:=congrArg List.length HYs.out;simpa [mX]using this
      rw[hyl]at h1
      exact h1
     have Sd:=zd sd;clear sd;refine aY [0,1,2,4,5] ?_
     repeat (refine ay _ rfl (by kernel_rfl) (fun _ _ _ h=>h) (fun w'=>by(try simp only[ag,ah,aj]);go_simp;try with_reducible rfl) ?_;try simp only[Act.put,ag,ah,aj,aF,aB,aC])
     refine aH ?_;refine cu (fun w'=>At w' (gw+1) 1 (.slice (some ⟨gw,0,none⟩) k k)) [3,6] [3] ?_
     repeat (refine aN _ rfl (by kernel_rfl) (fun _ _ _ h=>h) h0 (fun w' hS=>by(try dsimp only at hS);(try simp only[ag,ah,aj]);go_simp;try with_reducible rfl) ?_;try simp only[Act.put,ag,ah,aj,aF,aB,aC])
     refine bM ?_;refine aK 6 (by kernel_rfl) rfl (by rfl) fun K hK=>?_
     go_simp;refine(Ei Cls.out HL.out).mono ?_
     rintro e w5 ⟨v',rfl,own,iZ,fresh⟩
     obtain⟨o5,c5,rfl⟩:=(Nu.jk own).form;have s7:Scope S w0 w5 (eF (.slice o5 z.2.length c5) z.2::_):=Sd.out.joinL (dh (A:=eF (.slice o5 z.2.length c5) z.2) ⟨own,rfl⟩) iZ (fun q hq=>fresh q (by simpa using hq));have h1:At w5 (gw+1) 1 (.slice (some ⟨gw,0,none⟩) k k):=iZ.cell h0 (by simp);refine hK _ _ ⟨fun _=>h1,?_⟩;have S7:=zd s7;clear hK K h0 own iZ fresh s7 Sd Cls
     try simp only[Act.put,ag,ah,aj,aF,aB,aC]
     refine dB [] (bH (by kernel_rfl) ?_);clear h1;refine aY [7,8] ?_
     repeat (refine ay _ rfl (by kernel_rfl) (fun _ _ _ h=>h) (fun w'=>by(try simp only[ag,ah,aj]);go_simp;try with_reducible rfl) ?_;try simp only[Act.put,ag,ah,aj,aF,aB,aC])
     refine aH ?_;have rg:=S7.out.row (k:=gw) 4 rfl;obtain⟨g0,_,_⟩:=oW HY.out;have k0:=rg.cell g0;have f0:=rg.free (j*3);have S8:=zd (Qq S7.out HY.out);clear S7 rg g0;refine af 9 (by kernel_rfl) rfl (by rfl) fun K hK=>?_
     go_simp;refine hK _ _ ?_;clear hK K
     try simp only[Act.put,ag,ah,aj,aF,aB,aC]
     refine wpAny_done (by kernel_rfl) ?_ _;clear k0 f0
     go_wp2
     refine⟨⟨j+1,_,lh j,hjk,?_,S8.out⟩,measS hjk⟩;rw[List.map_set,HYs.out, ←Qw _ _ _ hjk];have e:(zs.map Prod.snd).getD j []=z.2:=by simp[List.getD,HZ.out]
     rw[e]
    ·obtain rfl:j=k:=by omega
     go_wp2
     refine bodyPost_ret (v:=.tuple #[ptr (gw+1),J 0]) (by simp[results,results15,go_sem]) rfl ?_;obtain⟨a1,a2,a3,a4,a5⟩:=HA.out;have hl:(zs.map Prod.snd).length=j:=by rw[List.length_map,Hlen.out]
     have hn:=HN.out;rw[List.take_of_length_le (by omega)]at hn;refine⟨A,gw+1,gw,HA.out,rfl,[],ys,?_,rfl,?_⟩
     ·show _=mX (zs.map Prod.snd) A.wk (zs.map Prod.snd).length
      rw[hl,a3];exact HYs.out
     ·show Scope S w0 wr (qJ A [] (gw+1) gw (PS.new A.sh) 0 ((tot (zs.map Prod.snd):Nat):Int) ys++Bs)
      rw[a1, ←hn];have h1:=S6.out.swap.drop_left;rw[←List.append_assoc]at h1
      exact h1.drop
end
section
variable {g:Nat} {zs:List (Value×List Cl)} {S:List Nat} {w0 w:World} {Bs:List HA}
theorem TL.a {sh sl wk wd un:Nat} (h:TL sh sl wk wd un) {A:PA} (hA:A.sh=sh∧A.sl=sl∧A.wk=wk∧A.wd=wd∧A.un=un):Aq A:=by
 obtain⟨rfl,rfl,rfl,rfl,rfl⟩:=hA
 exact⟨h.sh1,h.sh4,h.sl1,h.sl4,h.wk1,h.wk6,h.wd,h.un1,h.un2⟩
def WS.run (A:PA) (Ls:List (List Cl)) (ps:List Nat) (rounds:Nat):WS:=((WS.new A Ls).picks A ps).finish A rounds
def UC (S:List Nat) (w0:World) (sh sl wk wd un:Nat) (Ls:List (List Cl)) (ps:List Nat) (rounds:Nat) (Bs:List HA) (e:Ending) (w':World):Prop:=∃ (A:PA) (p gw N:Nat),(A.sh=sh∧A.sl=sl∧A.wk=wk∧A.wd=wd∧A.un=un)∧e=.returned (.tuple #[ptr p,J 0])∧nz A (WS.run A Ls ps rounds) N∧N≤10000∧iV S w0 A p gw (WS.run A Ls ps rounds) Bs w'
theorem zt {sh sl wk wd un:Nat} (hc:TL sh sl wk wd un) (hp:uw wk 43 zs) {oa:Option Addr} {c rounds:Nat} {ps:List Nat} (hl:ps.length≤500) (hps:∀ p∈ps,p<wk) (hr:rounds<1000)
  (h:Scope S w0 w (bP::(uF g zs++(aU (.slice oa ps.length c) 3 1 ps.length (pv ps)::Bs)))):
  Calls prog 5 #[Qi sh sl wk wd un g wk,.slice oa ps.length c,J (rounds:Nat)] w (UC S w0 sh sl wk wd un (zs.map Prod.snd) ps rounds Bs):=by
 obtain⟨gp,hgp⟩:∃ gp:Nat,0<ps.length→oa=some ⟨gp,0,none⟩:=by
  rcases ownsRow_form (h.zL (v:=.slice oa ps.length c) (t:=3) (size:=1) (n:=ps.length) (xs:=pv ps) (by simp))with⟨e,h0⟩|⟨gp,cap,e,_⟩
  ·exact⟨0,fun h1=>absurd h1 (by omega)⟩
  ·cases e;exact⟨gp,fun _=>rfl⟩
 have cell:∀ (w':World) (As:List HA) (k x:Nat),oa=some ⟨gp,0,none⟩→ps[k]? =some x→Scope S w0 w' As→aU (.slice oa ps.length c) 3 1 ps.length (pv ps)∈As→At w' gp k (J (x:Nat)):=fun w' As k x e hk s hi=>by
  have h1:=s.zL hi;rw[e]at h1
  exact dw h1 rfl (by unfold pv;rw[List.getElem?_map,hk];rfl)
 have s1:Scope S w0 _ (bP::((uF g zs++(aU (.slice oa ps.length c) 3 1 ps.length (pv ps)::Bs))++[box w.heap.size [J sh,J sl,J wk,J wd,Ju un,.slice (some ⟨g,0,none⟩) wk wk] 28])):=h.box [J sh,J sl,J wk,J wd,Ju un,.slice (some ⟨g,0,none⟩) wk wk] 28;rw[List.append_assoc]at s1;have hr0:=(Row.new w [J sh,J sl,J wk,J wd,Ju un,.slice (some ⟨g,0,none⟩) wk wk] 28)
 obtain⟨c0,c1,c2,c3,c4,c5⟩:=hr0.c6;obtain⟨n,hn⟩:∃ n,n=ps.length:=⟨_,rfl⟩
 have S1:=zd s1;have HC:=zd hc;have HP:=zd hp;have Cell:=zd cell;have HG:=zd hgp;have HN:=zd hn;have HPs:=zd hps;have HL:=zd hl;rw[←hn];clear h s1 hc hp cell hgp hn hr0 hps hl
 go_enter func5,ntmps5
 go_wp2_with fail
 have s1:=S1.out;refine(Ja HC.out HP.out s1).mono ?_
 rintro e w1 ⟨A,p,gw,hA,rfl,hpk⟩
 have HA:=zd hA;have PK:=zd hpk;have ha:=HC.out.a hA
 have hw0:nz A (WS.new A (zs.map Prod.snd)) 0:=nz.new ha (by rw[List.length_map,HP.out.len,hA.2.2.1];exact Nat.le_refl _) (Nat.le_trans HP.out.few (by omega)) (fun L hL=>by
  obtain⟨z,hz,rfl⟩:=List.mem_map.1 hL
  exact HP.out.ok z hz)
 have AO:=zd ha;have W0:=zd hw0;clear c0 c1 c2 c3 c4 c5 s1 S1 hA hpk ha hw0
 go_wp2_with fail
 go_loopw [22] (fun a wr=>∃ (k N:Nat),a=J (k:Nat)∧k≤n∧N≤k∧nz A ((WS.new A (zs.map Prod.snd)).picks A (ps.take k)) N∧iV S w0 A p gw ((WS.new A (zs.map Prod.snd)).picks A (ps.take k)) ((aU (.slice oa ps.length c) 3 1 ps.length (pv ps)::Bs)++[box w.heap.size [J sh,J sl,J wk,J wd,Ju un,.slice (some ⟨g,0,none⟩) wk wk] 28]) wr) (fun a _=>n - (intOf a).toNat)
 case atStart=>exact⟨0,0,rfl,by omega,by omega,W0.out,PK.out⟩
 case round=>
  obtain⟨k,N,rfl,hk,hN,hw,hpk⟩:=hrel;have HW:=zd hw;have HPk:=zd hpk;clear hw hpk PK;have hn5:=HL.out;rw[←HN.out]at hn5
  by_cases hkn:k<n
  ·obtain⟨x,hx⟩:∃ x,ps[k]? =some x:=⟨_,List.getElem?_eq_getElem (by rw[←HN.out];exact hkn)⟩
   have hxw:=HPs.out x (List.mem_of_getElem? hx);obtain⟨rs,zs',m1,m2,m3⟩:=HPk.out;have hoa:=HG.out (by rw[←HN.out];omega);have d1:=Cell.out wr _ k x hoa hx m3 (by simp);have k1:(k:Int)<(n:Nat):=by omega
   have k2:(0:Int)≤(k:Nat):=by omega
   have HX:=zd hx;have M3:=zd m3;have M1:=zd m1;have M2:=zd m2;rw[hoa];clear hx m3 m1 m2 hoa
   go_wp2_with fail
   clear d1;refine(xP AO.out HW.out (by omega) (by rw[HA.out.2.2.1];exact hxw) M1.out M2.out M3.out).mono ?_
   rintro er w2 ⟨⟨b2,rfl⟩,hp⟩
   obtain⟨N3,n1,n2⟩:=HW.out.pick x AO.out (by omega);have e:(WS.new A (zs.map Prod.snd)).picks A (ps.take (k+1))=((WS.new A (zs.map Prod.snd)).picks A (ps.take k)).pick A x:=by
    rw[List.take_add_one,HX.out]
    exact WS.uj _ _ _ _
   rw[←e]at hp n2;have Hp:=zd hp;have Hn2:=zd n2;have HN1:=zd n1;clear hp n2 e n1
   go_wp2
   refine⟨⟨k+1,N3,lh k,hkn,by have:=HN1.out;omega,Hn2.out,?_⟩,measS hkn⟩;rw[←HG.out (by rw[←HN.out];omega)]
   exact Hp.out
  ·obtain rfl:k=n:=by omega
   have hw:=HW.out;have hpk:=HPk.out;rw[HN.out,List.take_length]at hw hpk;have HW2:=zd hw;have HPk2:=zd hpk;clear hw hpk HW HPk
   go_wp2_with fail
   refine(zG rounds AO.out hr HW2.out (by omega) HPk2.out).mono ?_
   rintro er w2 ⟨⟨v,rfl⟩,hp,N2,hN2,hw2⟩
   have Hp:=zd hp;have HW3:=zd hw2;clear hp hw2
   go_wp2
   refine bodyPost_ret (v:=.tuple #[ptr p,J 0]) (by simp[results,results5,go_sem]) rfl ?_;obtain⟨rs,zs',m1,m2,m3⟩:=Hp.out;refine⟨A,p,gw,N2,HA.out,rfl,HW3.out,by omega,rs,zs',m1,m2,?_⟩;have h1:Scope S w0 w2 ((qJ A rs p gw (WS.run A (zs.map Prod.snd) ps rounds).s (WS.run A (zs.map Prod.snd) ps rounds).steps (WS.run A (zs.map Prod.snd) ps rounds).left zs')++([aU (.slice oa ps.length c) 3 1 ps.length (pv ps)]++(Bs++[box w.heap.size [J sh,J sl,J wk,J wd,Ju un,.slice (some ⟨g,0,none⟩) wk wk] 28]))):=m3;have h2:=h1.swap.drop_left;rw[←List.append_assoc]at h2
   exact h2.drop
end
theorem dJ.at {L:List Ev} (h:dJ L) {i:Nat} {x:Ev} (hx:L[i]? =some x) (hk:x.kind=4) (hl:x.loc.k=11):
  ∃ m s,m<s∧s<i∧L[m]? =some ⟨x.who,1,x.loc⟩∧(∀ j y,m<j→j<i→L[j]? =some y→y.who=x.who→y.loc.k≠11)∧∃ y,L[s]? =some y∧y.kind=3∧y.loc=x.loc∧y.who≠x.who:=by
 obtain⟨hi,ei⟩:=List.getElem?_eq_some_iff.1 hx;obtain⟨a,kd,l⟩:=x
 dsimp only at hk hl
 subst hk;have e:L=L.take i++⟨a,4,l⟩::L.drop (i+1):=by
  have h1:=(List.take_append_drop i L).symm;rw[List.drop_eq_getElem_cons hi,ei]at h1
  exact h1
 obtain⟨pre,post,h1,h2,y,hy,hy1,hy2⟩:=h.pass _ _ a l e hl;have hlen:(L.take i).length=i:=by rw[List.length_take];omega
 have get:∀ j,j<i→L[j]? =(pre++⟨a,1,l⟩::post)[j]?:=fun j hj=>by rw[←h1,List.getElem?_take_of_lt hj]
 have hpl:pre.length+1+post.length=i:=by rw[←hlen,h1];simp;omega
 obtain⟨q,hq,eq⟩:=List.getElem_of_mem hy;refine⟨pre.length,pre.length+1+q,by omega,by omega,?_,fun j z hj1 hj2 hz hw=>?_,y,?_,hy1,hy2,fun hw=>?_⟩
 ·rw[get _ (by omega)];simp
 ·rw[get _ hj2,show j=pre.length+(1+(j - pre.length - 1)) by omega,List.getElem?_append_right (by omega)]at hz
  rw[show pre.length+(1+(j - pre.length - 1)) - pre.length=(j - pre.length - 1)+1 by omega,List.getElem?_cons_succ]at hz
  exact h2 z (List.mem_of_getElem? hz) hw
 ·rw[get _ (by omega),List.getElem?_append_right (by omega),show pre.length+1+q - pre.length=q+1 by omega,List.getElem?_cons_succ,List.getElem?_eq_getElem hq,eq]
 ·exact h2 y hy hw (by rw[hy2];exact hl)
theorem yu (q:Nat):(intOf (J ((q:Int) - 1))+1).toNat<(intOf (J (q:Int))+1).toNat:=by simp[intOf]
section
variable {w:World} {g c:Nat} {L:List Ev}
theorem E5 (hL:dJ L) (hn:L.length≤1000000) (hc:∀ j u,(evs L)[j]? =some u→w.cell? ⟨g,0+j,none⟩=some u):
  Calls prog 11 #[.slice (some ⟨g,0,none⟩) L.length c] w fun e w'=>e=.returned (.bool true)∧dE [] w w':=by
 obtain⟨n,hnl⟩:∃ n,n=L.length:=⟨_,rfl⟩
 have C:=zd hc;have HL:=zd hL;have HN:=zd hnl;rw[←hnl]at hn ⊢
 clear hc hL hnl
 go_enter func11,ntmps11
 go_wp2_with fail
 go_loopw [3] (fun i wr=>∃ k:Nat,k≤n∧i=J k∧dE [] w wr) (fun i _=>n - (intOf i).toNat)
 case atStart=>exact⟨0,by omega,rfl,dE.refl _ _⟩
 case round=>
  obtain⟨i,hi,rfl,hch⟩:=hrel;have Hc:=zd hch;clear hch
  by_cases hlt:i<n
  ·obtain⟨x,hx⟩:∃ x,L[i]? =some x:=⟨_,List.getElem?_eq_getElem (by rw[←HN.out];exact hlt)⟩
   obtain⟨a0,a1,a2,a3,a4⟩:=o9 (fun j u hu=>Hc.out.cell (C.out j u hu) (by simp)) hx;rw[Nat.zero_add]at a0 a1 a2 a3 a4;have i1:(i:Int)<(n:Nat):=by omega
   have i2:(0:Int)≤(i:Nat):=by omega
   by_cases hk4:x.kind=4
   ·by_cases hl11:x.loc.k=11
    ·obtain⟨m,s,hms,hsi,hm,hown,y,hs,hs3,hsl,hsw⟩:=HL.out.at hx hk4 hl11
     rw[hk4]at a1;rw[hl11]at a2;have Hx:=zd hx;have Hm:=zd hm;have Ho:=zd hown;have Hs:=zd hs;have Hs3:=zd hs3;have Hsl:=zd hsl;have Hsw:=zd hsw;have H11:=zd hl11;clear hx hk4 hl11 hm hown hs hs3 hsl hsw
     go_wp2_with fail
     clear a0 a1 a2 a3 a4
     go_loopw [4,5] (fun t k wr=>∃ (b:Bool) (q:Nat),t=.bool b∧k=J ((q:Int) - 1)∧m<q∧q≤i∧(q≤s→b=true)∧dE [] w wr) (fun _ k _=>(intOf k+1).toNat)
     case atStart=>exact⟨false,i,rfl,rfl,by omega,by omega,fun h=>by omega,Hc.out⟩
     case round=>
      obtain⟨b,q,rfl,rfl,hmq,hqi,hb,hch⟩:=hrel;have Hb:=zd hb;have Hc2:=zd hch;clear hb hch;obtain⟨z,hz⟩:∃ z,L[q - 1]? =some z:=⟨_,List.getElem?_eq_getElem (by rw[←HN.out];omega)⟩
      obtain⟨q',rfl⟩:∃ q',q=q'+1:=⟨q - 1,by omega⟩
      rw[show((q'+1:Nat):Int) - 1=(q':Nat) by omega];rw[show q'+1 - 1=q' by omega]at hz;obtain⟨a0,a1,a2,a3,a4⟩:=o9 (fun j u hu=>Hc2.out.cell (C.out j u hu) (by simp)) Hx.out;obtain⟨z0,z1,z2,z3,z4⟩:=o9 (fun j u hu=>Hc2.out.cell (C.out j u hu) (by simp)) hz;rw[Nat.zero_add]at a0 a1 a2 a3 a4 z0 z1 z2 z3 z4;have q1:(0:Int)≤(q':Nat):=by omega
      have q2:(q':Int)<(n:Nat):=by omega
      have Hz:=zd hz;clear hz
      by_cases hloc:z.loc=x.loc
      ·have he:∀ w,(Op.equalIn 10000 40 (.agg #[J z.loc.k,J z.loc.a,J z.loc.b]) (.agg #[J x.loc.k,J x.loc.a,J x.loc.b])).run prog w=.ok true w:=fun w=>by rw[vS,decide_eq_true hloc]
       have Hloc:=zd hloc;clear hloc;obtain⟨zk,xw,zw,hzk,hxw,hzw⟩:∃ zk xw zw,z.kind=zk∧x.who=xw∧z.who=zw:=⟨_,_,_,rfl,rfl,rfl⟩
       rw[hzk]at z1;rw[hxw]at a0;rw[hzw]at z0;have Hzk:=zd hzk;have Hxw:=zd hxw;have Hzw:=zd hzw;clear hzk hxw hzw;have mq:¬ (zk=1∧zw=xw)→m<q':=fun hne=>by
        rcases Nat.lt_or_ge m q' with h|h
        ·exact h
        ·obtain rfl:m=q':=by omega
         have h1:=Hz.out;rw[Hm.out]at h1;have h2:=Option.some.inj h1
         exact absurd ⟨by rw[←Hzk.out, ←h2],by rw[←Hzw.out, ←Hxw.out, ←h2]⟩ hne
       have qm:zk=1→zw=xw→q'=m:=fun h1 h2=>by
        rcases Nat.lt_or_ge m q' with h|h
        ·exact absurd (by rw[Hloc.out];exact H11.out) (Ho.out q' z h (by omega) Hz.out (by rw[Hzw.out,Hxw.out];exact h2))
        ·omega
       have at3:s=q'→zk=3∧zw≠xw:=fun e=>by
        subst e;have h1:=Hz.out;rw[Hs.out]at h1;have h2:=Option.some.inj h1
        exact⟨by rw[←Hzk.out, ←h2];exact Hs3.out,by rw[←Hzw.out, ←Hxw.out, ←h2];exact Hsw.out⟩
       have Mq:=zd mq;have Qm:=zd qm;have At3:=zd at3;clear mq qm at3
       by_cases h1:zk=1
       ·by_cases hw:zw=xw
        ·obtain rfl:b=true:=Hb.out (by have:=Qm.out h1 hw;omega)
         subst h1;subst hw
         go_wp2_with fail
         go_quiet (fail)
         go_wp2_with fail
         go_quiet (fail)
         go_wp2_with fail
         go_quiet (fail)
         go_wp2
         exact⟨⟨i+1,hlt,lh i,Hc2.out.drewN _⟩,measS hlt⟩
        ·have hwb:(zw==xw)=false:=by simpa using hw
         have Hne:=zd hw;clear hw;subst h1
         cases b
         ·go_wp2_with fail
          go_quiet (fail)
          go_wp2_with fail
          go_quiet (fail)
          go_wp2_with fail
          go_quiet (fail)
          go_wp2
          refine⟨⟨false,q',rfl,rfl,Mq.out (fun h=>Hne.out h.2),by omega,fun h=>?_,Hc2.out.drewN _⟩,yu q'⟩
          rcases Nat.lt_or_ge q' s with e|e
          ·exact Hb.out e
          ·exact absurd (At3.out (by omega)).1 (by omega)
         ·go_wp2_with fail
          go_quiet (fail)
          go_wp2_with fail
          go_quiet (fail)
          go_wp2_with fail
          go_quiet (fail)
          go_wp2
          exact⟨⟨true,q',rfl,rfl,Mq.out (fun h=>Hne.out h.2),by omega,fun _=>rfl,Hc2.out.drewN _⟩,yu q'⟩
       ·have h1b:(zk==1)=false:=by simpa using h1
        have Hne:=zd h1;clear h1
        cases b
        ·by_cases h3:zk=3
         ·by_cases hw:zw=xw
          ·subst h3;subst hw
           go_wp2_with fail
           go_quiet (fail)
           go_wp2_with fail
           go_quiet (fail)
           go_wp2_with fail
           go_quiet (fail)
           go_wp2
           refine⟨⟨false,q',rfl,rfl,Mq.out (fun h=>Hne.out h.1),by omega,fun h=>?_,Hc2.out.drewN _⟩,yu q'⟩
           rcases Nat.lt_or_ge q' s with e|e
           ·exact Hb.out e
           ·exact absurd rfl (At3.out (by omega)).2
          ·have hwb:(zw==xw)=false:=by simpa using hw
           clear hw;subst h3
           go_wp2_with fail
           go_quiet (fail)
           go_wp2_with fail
           go_quiet (fail)
           go_wp2_with fail
           go_quiet (fail)
           go_wp2
           exact⟨⟨true,q',congrArg Value.bool (by simp[bne,hwb]),rfl,Mq.out (fun h=>Hne.out h.1),by omega,fun _=>rfl,Hc2.out.drewN _⟩,yu q'⟩
         ·have h3b:(zk==3)=false:=by simpa using h3
          have Hn3:=zd h3;clear h3
          go_wp2_with fail
          go_quiet (fail)
          go_wp2_with fail
          go_quiet (fail)
          go_wp2_with fail
          go_quiet (fail)
          go_wp2
          refine⟨⟨false,q',rfl,rfl,Mq.out (fun h=>Hne.out h.1),by omega,fun h=>?_,Hc2.out.drewN _⟩,yu q'⟩
          rcases Nat.lt_or_ge q' s with e|e
          ·exact Hb.out e
          ·exact absurd (At3.out (by omega)).1 Hn3.out
        ·go_wp2_with fail
         go_quiet (fail)
         go_wp2_with fail
         go_quiet (fail)
         go_wp2_with fail
         go_quiet (fail)
         go_wp2
         exact⟨⟨true,q',rfl,rfl,Mq.out (fun h=>Hne.out h.1),by omega,fun _=>rfl,Hc2.out.drewN _⟩,yu q'⟩
      ·have he:=uB hloc
       go_wp2_with fail
       go_quiet (fail)
       go_wp2
       have hmq':m≠q':=fun e=>by
        subst e;have h1:=Hz.out;rw[Hm.out]at h1
        exact hloc (by rw[←Option.some.inj h1])
       refine⟨⟨b,q',rfl,rfl,by omega,by omega,fun h=>?_,Hc2.out.drewN _⟩,yu q'⟩
       by_cases e:q'+1≤s
       ·exact Hb.out e
       ·obtain rfl:s=q':=by omega
        have h1:=Hz.out;rw[Hs.out]at h1
        exact absurd (by rw[←Option.some.inj h1,Hsl.out]) hloc
    ·have hl2:(x.loc.k==11)=false:=by simpa using hl11
     rw[hk4]at a1;clear hx
     go_wp2
     exact⟨⟨i+1,hlt,lh i,Hc.out⟩,measS hlt⟩
   ·have hk2:(x.kind==4)=false:=by simpa using hk4
    clear hx
    go_wp2
    exact⟨⟨i+1,hlt,lh i,Hc.out⟩,measS hlt⟩
  ·have i1:¬ (i:Int)<(n:Nat):=by omega
   go_wp2
   go_ret
   exact⟨rfl,Hc.out⟩
end
@[reducible] def UX (a:Int) (l:Lc):Value:=.agg #[J a,J l.k,J l.a,J l.b]
theorem SX:(84:TypeId)<prog.types.size:=of_decide_eq_true (by kernel_rfl)
theorem QH:(match prog.underlying 84 with|some (.array _ _)|some (.struct _)=>true|_=>false)=true:=by rw[underlying84]
theorem AQ:prog.cellsOf 84=4:=by kernel_rfl
theorem Tn:prog.keyType 84=true:=by kernel_rfl
theorem Lu:Keyed prog 84:=Keyed.of_law (deep_law_laid laidOut (m:=3) (by omega) SX (by kernel_rfl) QH)
theorem GX:∃ n,prog.types.size+1=n+3:=by
 have h:decide (2≤prog.types.size)=true:=by kernel_rfl
 have:=of_decide_eq_true h
 exact⟨prog.types.size - 2,by omega⟩
theorem IG {a:Int} {l:Lc} (ha:I64 a) (h:l.wf):∃ x,keyOf prog 84 (UX a l)=some x:=by
 have f:(UX a l).formed prog 84=true:=by simp[Value.formed,underlying84,AQ]
 have e:∀ n,prog.keyLits (n+3) 84 (UX a l).cells.toList=some [.int .i64 a,.int .i64 l.k,.int .i64 l.a,.int .i64 l.b]:=by
  intro n
  simp[Program.keyLits,Value.cells,underlying84,underlying40,underlying3,AQ,zl,Ff,BB ha,BB h.1,BB h.2.1,BB h.2.2]
  rw[if_pos (by decide)]
  rfl
 obtain⟨n,hn⟩:=GX;refine⟨.string (keyBytes [.int .i64 a,.int .i64 l.k,.int .i64 l.a,.int .i64 l.b]),?_⟩;unfold keyOf;rw[underlying84,hn,e]
 simp[Tn,f]
def tH (L:List Ev) (i:Nat) (f:Value→Option Value):Prop:=
 ∀ (a:Int) (l:Lc) v,l.k=11→f (UX a l)=some v→∃ j:Nat,v=J (j:Nat)∧j<i∧L[j]? =some ⟨a,1,l⟩∧∀ q,j<q→q<i→L[q]?≠some ⟨a,1,l⟩
theorem tH.next {L:List Ev} {i:Nat} {f:Value→Option Value} (h:tH L i f) {x:Ev} (hx:L[i]? =some x) (hne:¬ (x.kind=1∧x.loc.k=11)):tH L (i+1) f:=fun a l v hl hf=>by
 obtain⟨j,h1,h2,h3,h4⟩:=h a l v hl hf;refine⟨j,h1,by omega,h3,fun q hq1 hq2 e=>?_⟩
 by_cases hqi:q=i
 ·subst hqi
  rw[hx]at e;have e:=Option.some.inj e;subst e
  exact hne ⟨rfl,hl⟩
 ·exact h4 q hq1 (by omega) e
theorem tH.load {L:List Ev} {i:Nat} {f:Value→Option Value} (h:tH L i f) {a:Int} {l:Lc} (hx:L[i]? =some ⟨a,1,l⟩):tH L (i+1) (lI f (UX a l) (some (J (i:Nat)))):=fun a' l' v hl hf=>by
 by_cases e:a'=a∧l'=l
 ·obtain⟨rfl,rfl⟩:=e
  rw[dM]at hf
  cases hf
  exact⟨i,rfl,by omega,hx,fun q h1 h2=>by omega⟩
 ·rw[eU _ _ (fun e'=>e (by cases l;cases l';simp at e' ⊢;exact e'))]at hf
  obtain⟨j,h1,h2,h3,h4⟩:=h a' l' v hl hf;refine⟨j,h1,by omega,h3,fun q hq1 hq2 e2=>?_⟩
  by_cases hqi:q=i
  ·subst hqi
   rw[hx]at e2;have e2:=Option.some.inj e2
   cases e2
   exact e ⟨rfl,rfl⟩
  ·exact h4 q hq1 (by omega) e2
def sK (b:Nat) (L:List Ev) (i:Nat):HA where
 holds w fp:=(∃ f,fM prog 84 w b f∧tH L i f)∧fp=[b]
 lt:=by rintro w fp ⟨⟨f,h,_⟩,rfl⟩ k hk;simp at hk;subst hk;exact h.lt
 iZ:=by rintro w w' S fp ⟨⟨f,h,h2⟩,rfl⟩ c hn;exact⟨⟨f,h.iZ c (hn _ (by simp)),h2⟩,rfl⟩
theorem Scope.UL {S:List Nat} {w0 w:World} {A X:HA} {Bs:List HA} (h:Scope S w0 w (A::Bs)) (hm:∀ w fp,A.holds w fp→X.holds w fp):Scope S w0 w (X::Bs):=by
 obtain⟨c,fp,⟨f,g,h1,h2,h3,h4⟩,h5⟩:=h
 exact⟨c,fp,⟨f,g,hm _ _ h1,h2,h3,h4⟩,h5⟩
@[reducible] def Ub (E:Nat):Value:=.func (.func 23) #[] #[ptr E]
def passes (x y:Ev):Bool:=decide (y.kind=3∧y.loc=x.loc∧y.who≠x.who)
section
theorem yc (E:Nat) (x y:Ev):Does prog [box E x.cells 42] 23 #[y.val,ptr E] (.bool (passes x y)) [box E x.cells 42]:=Does.ax fun S w0 w h=>by
 have re:=h.row (k:=E) 0 rfl;have e0:At w E 0 (J x.who):=re.cell rfl;have e2:At w E 2 (J x.loc.k):=re.cell rfl;have e3:At w E 3 (J x.loc.a):=re.cell rfl;have e4:At w E 4 (J x.loc.b):=re.cell rfl;have le:=re.lt;have le':=le;clear re;obtain⟨yw,yk,yl⟩:=y;have s1:=zd (h.box (Ev.mk yw yk yl).cells 42);clear h;unfold Ev.val
 by_cases h3:yk=3
 ·subst h3
  by_cases hl:yl=x.loc
  ·have he:∀ w,(Op.equalIn 10000 40 (.agg #[J yl.k,J yl.a,J yl.b]) (.agg #[J x.loc.k,J x.loc.a,J x.loc.b])).run prog w=.ok true w:=fun w=>by rw[vS,decide_eq_true hl]
   have hp:passes x ⟨yw,3,yl⟩=(yw != x.who):=by unfold passes;simp[hl,bne];rfl
   have Hp:=zd hp;clear hl hp
   go_enter func23,ntmps23
   go_wp2
   go_ret
   exact Ends.mk' (congrArg Value.bool Hp.out.symm) [box w.heap.size _ 42] s1.out
  ·have he:=uB hl
   have hp:passes x ⟨yw,3,yl⟩=false:=by unfold passes;simp[hl]
   have Hp:=zd hp;clear hl hp
   go_enter func23,ntmps23
   go_wp2
   go_ret
   exact Ends.mk' (congrArg Value.bool Hp.out.symm) [box w.heap.size _ 42] s1.out
 ·have h3b:(yk==3)=false:=by simpa using h3
  have hp:passes x ⟨yw,yk,yl⟩=false:=by unfold passes;simp[h3]
  have Hp:=zd hp;clear h3 hp
  go_enter func23,ntmps23
  go_wp2
  go_ret
  exact Ends.mk' (congrArg Value.bool Hp.out.symm) [box w.heap.size _ 42] s1.out
section
variable {w0 w:World} {Bs:List HA} {M:List Ev} {E g o n cap:Nat} {x:Ev}
theorem FH (hn:n=M.length) (hlen:n≤1000000) (hc:∀ w',dE [] w0 w'→∀ j u,(evs M)[j]? =some u→w'.cell? ⟨g,o+j,none⟩=some u) (hex:∃ (s:Nat) (y:Ev),M[s]? =some y∧passes x y=true) (h:Scope [] w0 w (box E x.cells 42::Bs)):
  Calls prog 31 #[.slice (some ⟨g,o,none⟩) n cap,Ub E] w fun e w'=>(∃ r:Nat,e=.returned (J (r:Nat)))∧Scope [] w0 w' (box E x.cells 42::Bs):=by
 have H:=zd h;have Hn:=zd hn;have C:=zd hc;have Hex:=zd hex;clear h hn hc hex
 go_enter func31,ntmps31
 go_wp2_with fail
 go_loopw [8] (fun a wr=>∃ k:Nat,k≤n∧a=J k∧(∀ j y,j<k→M[j]? =some y→passes x y=false)∧Scope [] w0 wr (box E x.cells 42::Bs)) (fun a _=>n - (intOf a).toNat)
 case atStart=>exact⟨0,by omega,rfl,fun j y hj=>by omega,H.out⟩
 case round=>
  obtain⟨k,hk,rfl,hz,hs⟩:=hrel;have Hz:=zd hz;have Hs:=zd hs;clear hz hs
  by_cases hkn:k<n
  ·obtain⟨y,hy⟩:∃ y,M[k]? =some y:=⟨_,List.getElem?_eq_getElem (by rw[←Hn.out];exact hkn)⟩
   obtain⟨y0,y1,y2,y3,y4⟩:=o9 (C.out _ Hs.out.1) hy;have k0:(0:Int)≤(k:Int):=by omega
   have k1:(k:Int)<(n:Int):=by omega
   have Hy:=zd hy;clear hy
   cases hp:passes x y
   ·have Hp:=zd hp
    clear hp
    go_wp2_with fail
    refine((yc E x y).at0 Hs.out).mono ?_
    rintro e w1 ⟨he,s1⟩
    rw[Hp.out]at he;subst he;have S1:=zd s1;clear s1 y0 y1 y2 y3 y4
    go_wp2
    exact⟨⟨k+1,hkn,lh k,fun j z hj hzz=>by
     rcases Nat.lt_or_ge j k with h|h
     ·exact Hz.out j z h hzz
     ·obtain rfl:j=k:=by omega
      rw[Hy.out]at hzz
      cases hzz
      exact Hp.out,S1.out⟩,measS hkn⟩
   ·have Hp:=zd hp
    clear hp
    go_wp2_with fail
    refine((yc E x y).at0 Hs.out).mono ?_
    rintro e w1 ⟨he,s1⟩
    rw[Hp.out]at he;subst he;have S1:=zd s1;clear s1 y0 y1 y2 y3 y4
    go_wp2
    go_ret
    exact⟨⟨k,rfl⟩,S1.out⟩
  ·exfalso
   obtain⟨s,y,hs1,hs2⟩:=Hex.out
   have:=Hz.out s y (by have:=(List.getElem?_eq_some_iff.1 hs1).1;rw[←Hn.out]at this;omega) hs1
   rw[this]at hs2
   cases hs2
theorem BZ (hn:n=M.length) (hlen:n≤1000000) (hc:∀ w',dE [] w0 w'→∀ j u,(evs M)[j]? =some u→w'.cell? ⟨g,o+j,none⟩=some u) (hex:∃ (s:Nat) (y:Ev),M[s]? =some y∧passes x y=true) (h:Scope [] w0 w (box E x.cells 42::Bs)):
  Calls prog 22 #[.slice (some ⟨g,o,none⟩) n cap,Ub E] w fun e w'=>e=.returned (.bool true)∧Scope [] w0 w' (box E x.cells 42::Bs):=by
 have D:=zd (FH (cap:=cap) hn hlen hc hex h);clear h hn hc hex
 go_enter func22,ntmps22
 go_wp2_with fail
 refine D.out.mono ?_
 rintro e w1 ⟨⟨r,rfl⟩,s1⟩
 have S1:=zd s1;have r0:(0:Int)≤(r:Nat):=by omega
 clear s1
 go_wp2
 go_ret
 exact⟨rfl,S1.out⟩
end
end
theorem RV {L:List Ev} {j m q:Nat} {u:Value} (h:(evs ((L.drop j).take m))[q]? =some u):(evs L)[j*5+q]? =some u:=by
 by_cases hj:j≤L.length
 ·have e:evs L=evs (L.take j)++(evs ((L.drop j).take m)++evs ((L.drop j).drop m)):=by
   have h1:evs ((L.drop j).take m)++evs ((L.drop j).drop m)=evs (L.drop j):=by
    unfold evs;rw[←List.flatMap_append,List.take_append_drop]
   rw[h1];unfold evs;rw[←List.flatMap_append,List.take_append_drop]
  have hl:(evs (L.take j)).length=j*5:=by rw[Iz,List.length_take];omega
  rw[e,List.getElem?_append_right (by omega),hl,show j*5+q - j*5=q by omega,List.getElem?_append_left (List.getElem?_eq_some_iff.1 h).1]
  exact h
 ·rw[List.drop_eq_nil_of_le (by omega)]at h
  simp[evs]at h
theorem Jo {L:List Ev} (h:dJ L) {i j:Nat} {xw:Int} {l:Lc} (hx:L[i]? =some ⟨xw,4,⟨11,l.a,l.b⟩⟩) (hj:L[j]? =some ⟨xw,1,⟨11,l.a,l.b⟩⟩) (hmax:∀ q,j<q→q<i→L[q]?≠some ⟨xw,1,⟨11,l.a,l.b⟩⟩) (hji:j<i):
  ∃ (s:Nat) (y:Ev),((L.drop j).take (i - j))[s]? =some y∧passes ⟨xw,4,⟨11,l.a,l.b⟩⟩ y=true:=by
 obtain⟨m,s,h1,h2,h3,h4,y,h5,h6,h7,h8⟩:=h.at hx rfl rfl;have e:j=m:=by
  rcases Nat.lt_trichotomy j m with h|h|h
  ·exact absurd h3 (hmax m h (by omega))
  ·exact h
  ·exact absurd rfl (h4 j _ h hji hj rfl)
 subst e;refine⟨s - j,y,?_,?_⟩
 ·rw[List.getElem?_take_of_lt (by omega),List.getElem?_drop,show j+(s - j)=s by omega]
  exact h5
 ·unfold passes
  exact decide_eq_true ⟨h6,h7,h8⟩
section
variable {w:World} {g c:Nat} {L:List Ev}
theorem JZ (hL:dJ L) (hw:∀ x∈L,I64 x.who) (hlw:∀ x∈L,x.loc.k=11→x.loc.wf) (hn:L.length≤1000000) (hcap:L.length≤c) (hcm:c≤maxLen) (hc:∀ j u,(evs L)[j]? =some u→w.cell? ⟨g,0+j,none⟩=some u):
  Calls prog 10 #[.slice (some ⟨g,0,none⟩) L.length c] w fun e w'=>e=.returned (.bool true)∧dE [] w w':=by
 obtain⟨n,hnl⟩:∃ n,n=L.length:=⟨_,rfl⟩
 have C:=zd hc;have HL:=zd hL;have HN:=zd hnl;have HWho:=zd hw;have HLw:=zd hlw;have HCap:=zd hcap;rw[←hnl]at hn hcap ⊢
 clear hc hL hnl hw hlw;obtain⟨mb,hmb⟩:∃ mb,mb=w.heap.size:=⟨_,rfl⟩
 have s0:Scope [] w (w.alloc (.map #[] 0)) [sK mb L 0]:=by
  rw[hmb]
  exact(Scope.empty w).join (dh (A:=sK w.heap.size L 0) ⟨⟨_,fM.made _ _ w,fun a l v _ h=>by cases h⟩,rfl⟩) ((dE.refl _ _).alloc _) (by simp)
 have S0:=zd s0;have Hmb:=zd hmb;clear s0 hmb;have hmm:= @run_makeMap prog
 go_enter func10,ntmps10
 go_wp2_with fail
 rw[←Hmb.out];clear hmm
 go_loopw [11] (fun a wr=>∃ k:Nat,k≤n∧a=J k∧Scope [] w wr [sK mb L k]) (fun a _=>n - (intOf a).toNat)
 case atStart=>exact⟨0,by omega,rfl,S0.out⟩
 case round=>
  obtain⟨i,hi,rfl,hs⟩:=hrel;have Hs:=zd hs;clear hs S0
  by_cases hlt:i<n
  ·obtain⟨x,hx⟩:∃ x,L[i]? =some x:=⟨_,List.getElem?_eq_getElem (by rw[←HN.out];exact hlt)⟩
   obtain⟨a0,a1,a2,a3,a4⟩:=o9 (fun j u hu=>Hs.out.1.cell (C.out j u hu) (by simp)) hx;rw[Nat.zero_add]at a0 a1 a2 a3 a4;have i1:(i:Int)<(n:Nat):=by omega
   have i2:(0:Int)≤(i:Nat):=by omega
   by_cases hl11:x.loc.k=11
   ·have hxm:=List.mem_of_getElem? hx
    have hwf:=HLw.out x hxm hl11;have hwho:=HWho.out x hxm;obtain⟨xw,kd,lk,la,lb⟩:=x
    dsimp only at hl11 hwf hwho
    subst hl11;have s1:=Hs.out.box [J xw,J kd,J 11,J la,J lb] 42;obtain⟨E,hE⟩:∃ E,E=wr.heap.size:=⟨_,rfl⟩
    obtain⟨W,hW⟩:∃ W,W=wr.alloc (.cells ([J xw,J kd,J 11,J la,J lb]:List Value).toArray 42):=⟨_,rfl⟩
    rw[←hE, ←hW]at s1;have re:=s1.row (k:=E) 1 rfl;obtain⟨e0,e1,e2,e3,e4⟩:=re.c5;obtain⟨kx,hkx⟩:=IG hwho hwf;obtain⟨fm,⟨⟨f,hm,hf⟩,rfl⟩,t1⟩:=s1.turned;have hrun:=hm.look_ok (t:=81) Lu underlying81 (xA _) hkx;have S1:=zd s1;have HM:=zd hm;have HF:=zd hf;have T1:=zd t1;have HKx:=zd hkx;have HX:=zd hx;have HE:=zd hE;have HW:=zd hW;clear s1 re hm hf t1 hkx hx hwf hwho hxm hE hW
    go_upto_region 5 with fail
    rw[←HE.out,show wr.alloc (.cells #[J xw,J kd,J 11,J la,J lb] 42)=W from HW.out.symm];clear a0 a1 a2 a3 a4
    by_cases hk1:kd=1
    ·subst hk1
     obtain⟨W1,r1,M1,D1⟩:=HM.out.update (t:=81) Lu underlying81 (J (i:Nat)) HKx.out;have s2:=T1.out (sK mb L (i+1)) W1 [mb] ⟨⟨_,M1,HF.out.load HX.out⟩,rfl⟩ D1 (Own.refl _ _);have s2:Scope [] w W1 ([sK mb L (i+1)]++_):=s2;have S2:=zd s2.drop;clear s2 M1 D1
     go_wp2
     exact⟨⟨i+1,hlt,lh i,S2.out⟩,measS hlt⟩
    ·have hk1b:(kd==1)=false:=by simpa using hk1
     have s2:Scope [] w W ([sK mb L i]++_):=S1.out;have s3:Scope [] w W [sK mb L (i+1)]:=s2.drop.UL (fun w fp ⟨⟨f,h1,h2⟩,h3⟩=>⟨⟨f,h1,h2.next HX.out (fun h=>hk1 h.1)⟩,h3⟩);have s4:Scope [] w W [box E [J xw,J kd,J 11,J la,J lb] 42,sK mb L (i+1)]:=Scope.swap2 (S1.out.UL (fun w fp ⟨⟨f,h1,h2⟩,h3⟩=>⟨⟨f,h1,h2.next HX.out (fun h=>hk1 h.1)⟩,h3⟩));have S3:=zd s3;have S4:=zd s4;clear hk1 s2 s3 s4
     by_cases hk4:kd=4
     ·subst hk4
      cases hfk:f (UX xw ⟨11,la,lb⟩)with
      |none=>
       rw[hfk]at hrun;simp only[Option.getD_none,Option.isSome_none]at hrun
       go_wp2
       exact⟨⟨i+1,hlt,lh i,S3.out⟩,measS hlt⟩
      |some v=>
       obtain⟨j,rfl,hji,hLj,hmax⟩:=HF.out xw ⟨11,la,lb⟩ v rfl hfk;rw[hfk]at hrun;simp only[Option.getD_some,Option.isSome_some]at hrun;have j1:(0:Int)≤(j:Nat):=by omega
       have j2:(j:Int)≤(i:Nat):=by omega
       have j3:(i:Int)≤(c:Nat):=by omega
       have HLj:=zd hLj;have HMax:=zd hmax;have Hji:=zd hji;clear hLj hmax hfk hji;have hlaw:=Jo (l:=⟨11,la,lb⟩) HL.out HX.out HLj.out HMax.out Hji.out
       have D:=zd (BZ (cap:=c - j) (E:=E) (x:=⟨xw,4,⟨11,la,lb⟩⟩) (M:=(L.drop j).take (i - j)) (n:=i - j) (o:=j*5) (by rw[List.length_take,List.length_drop, ←HN.out];omega) (by omega) (fun w' hch q u hq=>by
        have h1:=hch.cell (C.out (j*5+q) u (RV hq)) (by simp);rw[Nat.zero_add]at h1
        exact h1) hlaw S4.out)
       clear hlaw S3
       go_wp2_with fail
       refine D.out.mono ?_
       rintro e w1 ⟨rfl,s5⟩
       have S5:=zd (Scope.drop_left (As:=[box E _ 42]) s5);clear s5
       go_wp2
       exact⟨⟨i+1,hlt,lh i,S5.out⟩,measS hlt⟩
     ·have hk4b:(kd==4)=false:=by simpa using hk4
      clear hk4
      go_wp2
      exact⟨⟨i+1,hlt,lh i,S3.out⟩,measS hlt⟩
   ·have hlb:(x.loc.k==11)=false:=by simpa using hl11
    have s1:Scope [] w _ ([sK mb L i]++_):=Hs.out.box [J x.who,J x.kind,J x.loc.k,J x.loc.a,J x.loc.b] 42;have s2:Scope [] w _ [sK mb L (i+1)]:=s1.drop.UL (fun w fp ⟨⟨f,h1,h2⟩,h3⟩=>⟨⟨f,h1,h2.next hx (fun h=>hl11 h.2)⟩,h3⟩);have S2:=zd s2;clear s1 s2 hx hl11
    go_wp2
    exact⟨⟨i+1,hlt,lh i,S2.out⟩,measS hlt⟩
  ·have i1:¬ (i:Int)<(n:Nat):=by omega
   go_wp2
   go_ret
   exact⟨rfl,Hs.out.1⟩
end
end Go.Proofs.YtjnbbmgbmiggbaaGreatDoor
