/- Lemmas for TopTries' card: plans' makers; what holds of calls that are under way. -/
import Derived.Deep.DeepCutAuto
import Derived.Test.YtjnbbmgbmiggbaaGreatDoorZ17
set_option linter.unusedSimpArgs false
set_option linter.unusedVariables false
set_option maxRecDepth 20000
set_option maxHeartbeats 4000000
namespace Go.Proofs.YtjnbbmgbmiggbaaGreatDoor
open Go Go.RowKit Go.Maps Go.Proofs.Tryz
section
variable {S:List Nat} {w0 w:World} {Bs:List HA}
def uS (L:List Cl):Prop:=∀ c∈L,uV c
theorem uS.snoc {L:List Cl} (h:uS L) {c:Cl} (hc:uV c):uS (L++[c]):=fun x hx=>by
 rcases List.mem_append.1 hx with h1|h1
 ·exact h x h1
 ·simp at h1;subst h1;exact hc
theorem CJ (h:Scope S w0 w Bs):Calls prog 13 #[J 3] w fun e w'=>∃ oa c L,e=.returned (.slice oa 3 c)∧L.length=3∧uS L∧Scope S w0 w' (aU (.slice oa 3 c) 49 4 3 (recs Cl.cells L)::Bs):=by
 obtain⟨i1,hi1⟩:=Option.isSome_iff_exists.1 (show(prog.info? 49).isSome=true by kernel_rfl);obtain⟨hx0,hx1,hx2⟩:=lF 49 hi1 (z:=.agg #[J 0,J 0,J 0,J 0]) (s:=4) (b:=32) (by kernel_rfl) (by kernel_rfl) (by kernel_rfl);have H:=zd (jX 49 4 h);have Hi1:=zd hi1;have Hx0:=zd hx0;have Hx1:=zd hx1;have Hx2:=zd hx2;clear h hi1 hx0 hx1 hx2
 go_enter func13,ntmps13
 go_wp2_with fail
 go_loopw [3,4] (fun a b wr=>∃ (k:Nat) (L:List Cl) (oa:Option Addr) (c:Nat),a=.slice oa k c∧b=J (k:Nat)∧k≤3∧L.length=k∧uS L∧Scope S w0 wr (aU (.slice oa k c) 49 4 k (recs Cl.cells L)::Bs)) (fun _ b _=>3 - (intOf b).toNat)
 case atStart=>exact⟨0,[],none,0,rfl,rfl,by omega,rfl,(fun c hc=>by cases hc),H.out⟩
 case round=>
  obtain⟨k,L,oa,c,rfl,rfl,hk,hL,hall,s1⟩:=hrel;have HL:=zd hL;have HA:=zd hall;have S1:=zd s1;clear hL hall s1
  by_cases h3:k<3
  ·have i1':(k:Int)<3:=by omega
   have i2:(0:Int)≤(k:Int):=by omega
   have e1:IntKind.i64.wrap (1+(k:Int))=1+k:=by rw[IntKind.wrap_i64];omega
   have e2:IntKind.i64.wrap (2+(k:Int) % 2)=2+(k:Int) % 2:=by rw[IntKind.wrap_i64];omega
   go_wp2_with (at_builtin;go_must (refine wpList_append_lies _ rfl _ _ 46 rfl 0 49 i1 _ 4 32 underlying46 Hi1.out Hx0.out Hx1.out Hx2.out rfl (by omega) (.slice oa k c) k (recs Cl.cells L) rfl ((S1.out.box [J 1,J (k:Nat),J (1+(k:Int)),J (2+(k:Int) % 2)] 49).jb 0 rfl) ⟨wr.heap.size,0,none⟩ 1 1 [J 1,J (k:Nat),J (1+(k:Int)),J (2+(k:Int) % 2)] rfl rfl (pz (Row.new wr [J 1,J (k:Nat),J (1+(k:Int)),J (2+(k:Int) % 2)] 49)) (by simp[Value.oneCell']) (by omega) (by unfold maxLen;omega) (by omega) (by omega) _ rfl ?_);intro gg cap w2 own gro hat hlt;have S2:=zd (Scope.appends (S1.out.box [J 1,J (k:Nat),J (1+(k:Int)),J (2+(k:Int) % 2)] 49) own gro hat);clear own gro hat hlt)
   refine⟨⟨k+1,L++[⟨1,k,1+k,2+(k:Int) % 2⟩],some ⟨gg,0,none⟩,cap,rfl,by go_num,by omega,by rw[List.length_append,HL.out];rfl,HA.out.snoc (uV.of (o:=1) (f:=(k:Int)) (a:=1+(k:Int)) (b:=2+(k:Int) % 2) (by omega) (by omega) (by omega) (by omega)),?_⟩,by simp[intOf];omega⟩;rw[l7]
   exact Scope.drop (As:=aU _ _ _ _ _::Bs) S2.out
  ·obtain rfl:k=3:=by omega
   go_wp2
   go_ret
   exact⟨oa,c,L,rfl,HL.out,HA.out,S1.out⟩
end
def Qg (w:World) (v:Value) (xs:List Int):Prop:=∃ oa c,v=.slice oa xs.length c∧xs.length≤maxLen∧∀ (i:Nat) x,xs[i]? =some x→∃ g off,oa=some ⟨g,off,none⟩∧∀ w',dE [] w w'→w'.cell? ⟨g,off+i,none⟩=some (J x)
def pv (ps:List Nat):List Value:=ps.map fun p=>J (p:Nat)
theorem Sj (ps:List Nat) (p:Nat):pv (ps++[p])=pv ps++[J (p:Nat)]:=by simp[pv]
def tY (n:Nat) (oa:Option Addr) (c:Nat) (ps:List Nat) (S:List Nat) (w0 w:World) (Bs:List HA):Prop:=ps.length≤500∧(∀ p∈ps,p<n)∧Scope S w0 w (aU (.slice oa ps.length c) 3 1 ps.length (pv ps)::Bs)
section
variable {w0 w:World} {Bs:List HA}
theorem lh (k:Nat):J ((k:Int)+1)=J ((k+1:Nat):Int):=rfl
theorem measS {n k:Nat} (h:k<n):n - (intOf (J ((k:Int)+1))).toNat<n - (intOf (J (k:Int))).toNat:=by simp[intOf];omega
theorem Lr (v:Int) {n:Nat} (h:0<n):∃ k:Nat,k<n∧mod v (n:Int)=(k:Int):=by
 have:=mod_lt v (n:=(n:Int)) (by omega)
 exact⟨(mod v (n:Int)).toNat,by omega,by omega⟩
theorem tY.app {n c:Nat} {oa:Option Addr} {ps:List Nat} {S:List Nat} {W w2:World} {y gg cap:Nat} (h:tY n oa c ps S w0 W Bs) (hy:y<n) (h5:ps.length<500) (own:w2.ownsRow 0 3 1 (.slice (some ⟨gg,0,none⟩) (ps.length+1) cap) (ps.length+1) (pv ps++[J (y:Nat)])) (gro:(W.alloc (.cells #[J (y:Nat)] 3)).grownBy w2 (Value.slice oa ps.length c).ownBlock) (hat:(Value.slice oa ps.length c).ownBlock=some gg∨gg=(W.alloc (.cells #[J (y:Nat)] 3)).heap.size):tY n (some ⟨gg,0,none⟩) cap (ps++[y]) S w0 w2 Bs:=by
 refine⟨by simp;omega,fun p hp=>?_,?_⟩
 ·rcases List.mem_append.1 hp with h1|h1
  ·exact h.2.1 p h1
  ·simp at h1;subst h1;exact hy
 ·rw[Sj,List.length_append]
  exact Scope.drop (As:=aU _ _ _ _ _::Bs) (Scope.appends (h.2.2.box [J (y:Nat)] 3) own gro hat)
theorem Fh {v:Value} {xs:List Int} {n:Nat} (hn:1≤n) (h6:n≤6) (hv:Qg w0 v xs) (h:Scope [] w0 w Bs):
  Calls prog 6 #[v,J (n:Nat),J 500] w fun e w'=>∃ oa c ps,e=.returned (.slice oa ps.length c)∧tY n oa c ps [] w0 w' Bs:=by
 obtain⟨i1,hi1⟩:=Option.isSome_iff_exists.1 (show(prog.info? 3).isSome=true by kernel_rfl);obtain⟨hx0,hx1,hx2⟩:=lF 3 hi1 (z:=J 0) (s:=1) (b:=8) (by kernel_rfl) (by kernel_rfl) (by kernel_rfl);obtain⟨oa0,c0,rfl,hmax,hc⟩:=hv;obtain⟨nx,hnx⟩:∃ nx,nx=xs.length:=⟨_,rfl⟩
 have get:∀ i,i<nx→∃ (g off:Nat) (x:Int),oa0=some ⟨g,off,none⟩∧∀ w' As,Scope [] w0 w' As→At w' g (off+i) (J x):=fun i hi=>by
  obtain⟨g,off,h1,h2⟩:=hc i _ (List.getElem?_eq_getElem (by omega))
  exact⟨g,off,_,h1,fun w' As s=>h2 w' s.1⟩
 rw[←hnx]at hmax ⊢
 have H:=zd (jX 3 1 h);have Get:=zd get;have Hi1:=zd hi1;have Hx0:=zd hx0;have Hx1:=zd hx1;have Hx2:=zd hx2;clear h hi1 hx0 hx1 hx2 get hc hnx;have hm:nx≤9223372036854775807:=hmax;have Hmax:=zd hm;clear hm hmax
 go_enter func6,ntmps6
 go_wp2_with fail
 go_loopw [7,8] (fun a b wr=>∃ (oa:Option Addr) (c k:Nat) (ps:List Nat),a=.slice oa ps.length c∧b=J (k:Nat)∧k≤40∧tY n oa c ps [] w0 wr Bs) (fun _ b _=>40 - (intOf b).toNat)
 case atStart=>exact⟨none,0,0,[],rfl,rfl,by omega,by simp,by simp,H.out⟩
 case round=>
  obtain⟨oa,c,k,ps,rfl,rfl,hk,P1⟩:=hrel;have P:=zd P1;clear P1 H
  by_cases hk4:k<40∧0<nx
  ·have i1':(k:Int)<40:=by omega
   have i2:(0:Int)<(nx:Nat):=by omega
   have i3:(0:Int)≤(k:Nat):=by omega
   obtain⟨t,ht⟩:∃ t,(k:Int) % 3=t:=⟨_,rfl⟩
   have ht2:0≤t∧t≤2:=by omega
   have Ht2:=zd ht2;have HT:=zd ht;clear ht2 ht
   go_wp2_with fail
   go_loopw [7,9] (fun a b wr=>∃ (oa:Option Addr) (c i:Nat) (ps:List Nat),a=.slice oa ps.length c∧b=J (i:Nat)∧i≤nx∧tY n oa c ps [] w0 wr Bs) (fun _ b _=>nx - (intOf b).toNat)
   case atStart=>exact⟨oa,c,0,ps,rfl,rfl,by omega,P.out⟩
   case round=>
    obtain⟨oa,c,i,ps,rfl,rfl,hi,P1⟩:=hrel;have P:=zd P1;clear P1
    by_cases hi4:i<nx∧ps.length<500
    ·obtain⟨g,off,x,hoa,hcell⟩:=Get.out i hi4.1
     subst hoa;have j1:(i:Int)<(nx:Nat):=by omega
     have j2:(ps.length:Int)<500:=by omega
     have j3:(0:Int)≤(i:Nat):=by omega
     have d1:=hcell _ _ P.out.2.2;obtain⟨y,hy,hmy⟩:=Lr x hn;have HC:=zd hcell;have HY:=zd hy;clear hcell hy
     go_wp2_with fail
     refine(gW (v:=x) (n:=(n:Nat)) (by omega) (by omega) _).mono ?_
     rintro e w1 ⟨rfl,rfl⟩
     rw[hmy]
     go_wp2_with (at_builtin;go_must (refine wpList_append_lies _ rfl _ _ 26 rfl 0 3 i1 _ 1 8 underlying26 Hi1.out Hx0.out Hx1.out Hx2.out rfl (by omega) (.slice oa ps.length c) ps.length (pv ps) rfl ((P.out.2.2.box [J (y:Nat)] 3).jb 0 rfl) ⟨w1.heap.size,0,none⟩ 1 1 [J (y:Nat)] rfl rfl (pz (Row.new w1 [J (y:Nat)] 3)) (by simp[Value.oneCell']) (by omega) (by unfold maxLen;omega) (by omega) (by omega) _ rfl ?_);intro gg cap w2 own gro hat hlt;have P2:=zd (P.out.app HY.out (by omega) own gro hat);clear own gro hat hlt)
     clear d1 P
     go_loopw [7,10] (fun a b wr=>∃ (oa:Option Addr) (c j:Nat) (ps:List Nat),a=.slice oa ps.length c∧b=J (j:Nat)∧j≤12∧tY n oa c ps [] w0 wr Bs) (fun _ b _=>12 - (intOf b).toNat)
     case atStart=>exact⟨some ⟨gg,0,none⟩,cap,0,ps++[y],by rw[List.length_append];rfl,rfl,by omega,P2.out⟩
     case round=>
      clear j2;have j6:wrap64 ((i:Int)+1)=(i:Int)+1:=by have:=Hmax.out;unfold wrap64;omega
      obtain⟨oa,c,j,ps,rfl,rfl,hj,P1⟩:=hrel;have P:=zd P1;clear P1 P2;have d1:=HC.out _ _ P.out.2.2;have hmm:=mod_lt x (n:=7) (by omega);obtain⟨m,hm⟩:∃ m,mod x 7=m:=⟨_,rfl⟩
      rw[hm]at hmm;have hq:∃ q,IntKind.i64.wrap (m*t)=q∧q≤12:=by
       refine⟨_,rfl,?_⟩;have ht2:=Ht2.out
       rcases(show t=0∨t=1∨t=2 by omega)with e|e|e<;>rw[e,IntKind.wrap_i64]<;>omega
      obtain⟨q,hq,hq12⟩:=hq;have HM:=zd hm;have HQ:=zd hq12;clear hm hmm hq12;have ht:=HT.out
      go_wp2_with fail
      refine(gW (v:=x) (n:=7) (by omega) (by omega) _).mono ?_
      rintro e w1 ⟨rfl,rfl⟩
      rw[HM.out];have j4:(0:Int)≤(j:Nat):=by omega
      by_cases hjq:(j:Int)<q
      ·have j12:j<12:=by have:=HQ.out;omega
       by_cases h5:ps.length<500
       ·have j2:(ps.length:Int)<500:=by omega
        go_wp2_with fail
        refine(gW (v:=x) (n:=(n:Nat)) (by omega) (by omega) _).mono ?_
        rintro e w1 ⟨rfl,rfl⟩
        rw[hmy]
        go_wp2_with (at_builtin;go_must (refine wpList_append_lies _ rfl _ _ 26 rfl 0 3 i1 _ 1 8 underlying26 Hi1.out Hx0.out Hx1.out Hx2.out rfl (by omega) (.slice oa ps.length c) ps.length (pv ps) rfl ((P.out.2.2.box [J (y:Nat)] 3).jb 0 rfl) ⟨w1.heap.size,0,none⟩ 1 1 [J (y:Nat)] rfl rfl (pz (Row.new w1 [J (y:Nat)] 3)) (by simp[Value.oneCell']) (by omega) (by unfold maxLen;omega) (by omega) (by omega) _ rfl ?_);intro gg cap w2 own gro hat hlt;have P2:=zd (P.out.app HY.out (by omega) own gro hat);clear own gro hat hlt)
        exact⟨⟨some ⟨gg,0,none⟩,cap,j+1,ps++[y],by rw[List.length_append];rfl,lh j,j12,P2.out⟩,measS j12⟩
       ·have j2:¬ (ps.length:Int)<500:=by omega
        go_wp2
        (rw[j6];exact⟨⟨oa,c,i+1,ps,rfl,lh i,hi4.1,P.out⟩,measS hi4.1⟩)
      ·go_wp2
       (rw[j6];exact⟨⟨oa,c,i+1,ps,rfl,lh i,hi4.1,P.out⟩,measS hi4.1⟩)
    ·by_cases hi5:i<nx
     ·have j1:(i:Int)<(nx:Nat):=by omega
      have j2:¬ (ps.length:Int)<500:=by omega
      go_wp2
      exact⟨⟨oa,c,k+1,ps,rfl,lh k,hk4.1,P.out⟩,measS hk4.1⟩
     ·have j1:¬ (i:Int)<(nx:Nat):=by omega
      go_wp2
      exact⟨⟨oa,c,k+1,ps,rfl,lh k,hk4.1,P.out⟩,measS hk4.1⟩
  ·by_cases hk5:k<40
   ·have i1':(k:Int)<40:=by omega
    have i2:¬ (0:Int)<(nx:Nat):=by omega
    go_wp2
    go_ret
    exact⟨oa,c,ps,rfl,P.out⟩
   ·have i1':¬ (k:Int)<40:=by omega
    go_wp2
    go_ret
    exact⟨oa,c,ps,rfl,P.out⟩
end
@[reducible] def gV (z:Value×List Cl):HA:=aU z.1 49 4 z.2.length (recs Cl.cells z.2)
def uF (g:Nat) (zs:List (Value×List Cl)):List HA:=box g (zs.map Prod.fst) 46::zs.map gV
@[reducible] def Qi (sh sl wk wd un g n:Nat):Value:=.agg #[J sh,J sl,J wk,J wd,Ju un,.slice (some ⟨g,0,none⟩) n n]
@[reducible] def lV (sh sl wk wd un:Nat):List Value:=[J sh,J sl,J wk,J wd,Ju un]
def tot (Ls:List (List Cl)):Nat:=(Ls.map List.length).sum
theorem LJ:∀ {Ls:List (List Cl)} {i:Nat} {L:List Cl} (M:List Cl),Ls[i]? =some L→tot (Ls.set i M)+L.length=tot Ls+M.length
 | [],_,_,_,h=>by simp at h
 |z::l,0,x,y,h=>by simp at h;subst h;simp[tot];omega
 |z::l,i+1,x,y,h=>by
  have:=LJ (Ls:=l) (i:=i) y (by simpa using h)
  simp[tot]at this ⊢
  omega
theorem Jh:∀ {Ls:List (List Cl)} {L:List Cl},L∈Ls→L.length≤tot Ls
 | [],_,h=>by cases h
 |x::l,L,h=>by
  have e:tot (x::l)=x.length+tot l:=rfl
  rcases List.mem_cons.1 h with rfl|h
  ·omega
  ·have:=Jh h;omega
structure uw (n m:Nat) (zs:List (Value×List Cl)):Prop where
 len:zs.length=n
 few:tot (zs.map Prod.snd)≤m
 ok:∀ z∈zs,uS z.2
section
variable {S:List Nat} {w0 w:World} {Bs Cs:List HA} {g n m i:Nat} {zs:List (Value×List Cl)} {z:Value×List Cl}
theorem uw.VD (n m:Nat):uw n m (List.replicate n (nS,[])):=by
 refine⟨by simp,?_,fun z hz=>?_⟩
 ·have:tot ((List.replicate n ((nS:Value),([]:List Cl))).map Prod.snd)=0:=by simp[tot]
  omega
 ·rw[List.eq_of_mem_replicate hz];exact fun c hc=>by cases hc
theorem uw.set {m':Nat} (h:uw n m zs) (hz:zs[i]? =some z) {v:Value} {M:List Cl} (hM:uS M) (hm:M.length+m≤z.2.length+m'):uw n m' (zs.set i (v,M)):=by
 refine⟨by simp[h.len],?_,fun y hy=>?_⟩
 ·rw[List.map_set]
  have:=LJ (Ls:=zs.map Prod.snd) (i:=i) (L:=z.2) M (by rw[List.getElem?_map,hz];rfl)
  have:=h.few
  show tot ((zs.map Prod.snd).set i M)≤m'
  omega
 ·rcases List.mem_or_eq_of_mem_set hy with h1|h1
  ·exact h.ok y h1
  ·rw[h1];exact hM
theorem uw.le {m':Nat} (h:uw n m zs) (hm:m≤m'):uw n m' zs:=⟨h.len,Nat.le_trans h.few hm,h.ok⟩
theorem zY {α:Type}:∀ (l:List α) (i:Nat) (x:α),i<l.length→(l.eraseIdx i).insertIdx i x=l.set i x
 | [],_,_,h=>by simp at h
 |y::l,0,x,_=>rfl
 |y::l,i+1,x,h=>by
  show y::(l.eraseIdx i).insertIdx i x=_
  rw[zY l i x (by simpa using h)]
  rfl
theorem Scope.Kq (h:Scope S w0 w (uF g zs++Bs)) (hz:zs[i]? =some z):Scope S w0 w (gV z::Go.Proofs.YtjnbbmgbmiggbaaGreatDoor.box g (zs.map Prod.fst) 46::((zs.map gV).eraseIdx i++Bs)):=
 Scope.perm h (List.Perm.append_right Bs (jF (i+1) _ _ (by show(zs.map gV)[i]? =_;rw[List.getElem?_map,hz];rfl)))
theorem Scope.TY (hi:i<zs.length) (h:Scope S w0 w (gV z::Go.Proofs.YtjnbbmgbmiggbaaGreatDoor.box g ((zs.map Prod.fst).set i z.1) 46::((zs.map gV).eraseIdx i++Bs))):Scope S w0 w (uF g (zs.set i z)++Bs):=by
 have h3:=vI (i+1) (Go.Proofs.YtjnbbmgbmiggbaaGreatDoor.box g ((zs.map Prod.fst).set i z.1) 46::(zs.map gV).eraseIdx i) (gV z) (by simp[List.length_eraseIdx,hi];omega);have e:(Go.Proofs.YtjnbbmgbmiggbaaGreatDoor.box g ((zs.map Prod.fst).set i z.1) 46::(zs.map gV).eraseIdx i).insertIdx (i+1) (gV z)=uF g (zs.set i z):=by
  show _::((zs.map gV).eraseIdx i).insertIdx i (gV z)=_
  rw[zY _ _ _ (by simpa using hi)];unfold uF;rw[List.map_set,List.map_set]
 rw[e]at h3
 exact Scope.perm h (List.Perm.append_right Bs h3)
theorem TK (n g:Nat) (h:Scope S w0 w (Go.Proofs.YtjnbbmgbmiggbaaGreatDoor.box g (List.replicate n (nS)) 46::Bs)):Scope S w0 w (uF g (List.replicate n (nS,[]))++Bs):=by
 have key:∀ k,Scope S w0 w (Go.Proofs.YtjnbbmgbmiggbaaGreatDoor.box g (List.replicate n (nS)) 46::(List.replicate k (gV (nS,[]))++Bs)):=fun k=>by
  induction k with
  |zero=>exact h
  |succ k ih=>
   have h1:=jX 49 4 ih
   exact Scope.perm h1 (List.Perm.swap _ _ _)
 have:=key n
 unfold uF;rw[List.map_replicate,List.map_replicate]
 exact this
theorem TF {v:Value} {M:List Cl} (h:Scope S w0 w (gV (v,M)::(uF g zs++Cs))) (hz:zs[i]? =some z):Scope S w0 (w.setCell ⟨g,i,none⟩ v) (uF g (zs.set i (v,M))++Cs):=by
 have h2:=Scope.Kq (Scope.perm h (List.perm_middle (l₁:=uF g zs)).symm) hz;have h3:Scope S w0 _ ([gV z]++([Go.Proofs.YtjnbbmgbmiggbaaGreatDoor.box g ((zs.map Prod.fst).set i v) 46]++((zs.map gV).eraseIdx i++gV (v,M)::Cs))):=Scope.au (As:=[gV z]) h2 i v
 exact Scope.TY (List.getElem?_eq_some_iff.1 hz).1 (Scope.perm h3.drop_left (List.perm_middle (l₁:=Go.Proofs.YtjnbbmgbmiggbaaGreatDoor.box g ((zs.map Prod.fst).set i v) 46::(zs.map gV).eraseIdx i)))
end
def JK (w:World) (v:Value) (L:List Cl):Prop:=uS L∧Su w v L
def Gw (w:World) (v:Value) (Ls:List (List Cl)):Prop:=∃ oa c,v=.slice oa Ls.length c∧Ls.length≤maxLen∧∀ (i:Nat) L,Ls[i]? =some L→∃ g off lv,oa=some ⟨g,off,none⟩∧(∀ w',dE [] w w'→w'.cell? ⟨g,off+i,none⟩=some lv)∧JK w lv L
section
variable {w0 w:World} {Bs:List HA}
theorem PE (n:Nat) (h1:1≤n) (h6:n≤6):∀ w,(Instr.makeSlice 25 (J (n:Nat)) (J (n:Nat))).run prog w=.ok (.slice (some ⟨w.heap.size,0,none⟩) n n) (w.alloc (.cells (List.replicate n dW).toArray 46)):=by
 intro w
 rcases(show n=1∨n=2∨n=3∨n=4∨n=5∨n=6 by omega)with rfl|rfl|rfl|rfl|rfl|rfl
 ·kernel_rfl
 ·kernel_rfl
 ·kernel_rfl
 ·kernel_rfl
 ·kernel_rfl
 ·kernel_rfl
def SH (w0:World) (Bs:List HA) (e:Ending) (w':World):Prop:=∃ (sh sl wk wd un g:Nat) (zs:List (Value×List Cl)),TL sh sl wk wd un∧uw wk 43 zs∧e=.returned (Qi sh sl wk wd un g wk)∧Scope [] w0 w' (uF g zs++Bs)
theorem AL {k:Nat} {L:List Cl} (h:L.length=k) (v:Value):aU v 49 4 k (recs Cl.cells L)=gV (v,L):=by subst h;rfl
def LK (w0:World) (Bs:List HA) (B x g sh sl wk wd un m:Nat) (zs:List (Value×List Cl)) (wr:World):Prop:=uw wk m zs∧Scope [] w0 wr (uF g zs++(box x (lV sh sl wk wd un++[.slice (some ⟨g,0,none⟩) wk wk]) 28::box B (lV sh sl wk wd un) 24::box (B+1) [J 0,J 0,J 0,J 0,Ju 0,dW] 28::Bs))
theorem F5 {a b c d u:Int} {v:Value} {Ls:List (List Cl)} (hu:dC u) (hv:Gw w0 v Ls) (h:Scope [] w0 w Bs):
  Calls prog 4 #[.agg #[J a,J b,J c,J d,Ju u],v,J 40] w (SH w0 Bs):=by
 obtain⟨i1,hi1⟩:=Option.isSome_iff_exists.1 (show(prog.info? 49).isSome=true by kernel_rfl);obtain⟨hx0,hx1,hx2⟩:=lF 49 hi1 (z:=.agg #[J 0,J 0,J 0,J 0]) (s:=4) (b:=32) (by kernel_rfl) (by kernel_rfl) (by kernel_rfl);have Hi1:=zd hi1;have Hx0:=zd hx0;have Hx1:=zd hx1;have Hx2:=zd hx2;clear hi1 hx0 hx1 hx2;have s1:=(h.box [J a,J b,J c,J d,Ju u] 24).box [J 0,J 0,J 0,J 0,Ju 0,dW] 28;have s2:Scope [] w0 ((w.alloc (.cells #[J a,J b,J c,J d,Ju u] 24)).alloc (.cells #[J 0,J 0,J 0,J 0,Ju 0,dW] 28)) ((Bs++[box w.heap.size [J a,J b,J c,J d,Ju u] 24])++[box (w.heap.size+1) [J 0,J 0,J 0,J 0,Ju 0,dW] 28]):=by simpa using s1
 have r0:=Row.new w [J a,J b,J c,J d,Ju u] 24;obtain⟨c0,c1,c2,c3,c4⟩:=r0.c5;have S2:=zd s2;have Hv:=zd hv;clear h s1 s2 r0 hv
 go_enter func4,ntmps4
 go_wp2_with fail
 refine(gW (v:=d) (n:=4) (by omega) (by omega) _).mono ?_
 rintro e w1 ⟨rfl,rfl⟩
 obtain⟨bb,hbb⟩:∃ bb,decide (0<mod d 4)=bb:=⟨_,rfl⟩
 go_wp2_with fail
 refine(F8 hu _).mono ?_
 rintro e w1 ⟨⟨sh,sl,wk,wd,un,hcok,rfl⟩,hch⟩
 obtain⟨B,hB⟩:∃ B,B=w.heap.size:=⟨_,rfl⟩
 have s3:=S2.out.quiet hch;rw[←hB]at s3 ⊢
 have s3:Scope [] w0 w1 ([]++([box B [J a,J b,J c,J d,Ju u] 24]++(box (B+1) [J 0,J 0,J 0,J 0,Ju 0,dW] 28::Bs))):=Scope.perm s3 (by rw[List.append_assoc];exact List.perm_append_comm);have rb:=s3.row (k:=B) 0 rfl;obtain⟨z0,z1,z2,z3,z4⟩:=rb.c5;have f0:=rb.free 0;have f1:=rb.free 1;have f2:=rb.free 2;have f3:=rb.free 3;have f4:=rb.free 4;have s4:=Scope.au (Scope.au (Scope.au (Scope.au (Scope.au s3 0 (J sh)) 1 (J sl)) 2 (J wk)) 3 (J wd)) 4 (Ju un);have S4:=zd s4;have HC:=zd hcok;clear c0 c1 c2 c3 c4 hch hB s3 rb hbb S2 s4 hcok
 go_upto_region 3 with fail
 have s4:Scope [] w0 _ (box B (lV sh sl wk wd un) 24::box (B+1) [J 0,J 0,J 0,J 0,Ju 0,dW] 28::Bs):=S4.out;clear S4 z0 z1 z2 z3 z4 f0 f1 f2 f3 f4;generalize (((((World.setCell _ _ _).setCell _ _).setCell _ _).setCell _ _).setCell _ _)=W at s4 ⊢
 have S4:=zd s4;clear s4
 go_cut [8] (fun s8 wx=>∃ x g:Nat,s8=.pointer (some ⟨x,0,none⟩)∧Scope [] w0 wx (box g (List.replicate wk dW) 46::box x (lV sh sl wk wd un++[.slice (some ⟨g,0,none⟩) wk wk]) 28::box B (lV sh sl wk wd un) 24::box (B+1) [J 0,J 0,J 0,J 0,Ju 0,dW] 28::Bs))
 case first=>
  have hmk:=PE wk HC.out.wk1 HC.out.wk6;have facts:∀ (w':World) (As:List HA) (i:Nat),Scope [] w0 w' As→As[i]? =some (box B (lV sh sl wk wd un) 24)→At w' B 0 (J sh)∧At w' B 1 (J sl)∧At w' B 2 (J wk)∧At w' B 3 (J wd)∧At w' B 4 (Ju un):=fun w' As i s hi=>by
   have r:=s.row (k:=B) i hi
   exact⟨r.cell rfl,r.cell rfl,r.cell rfl,r.cell rfl,r.cell rfl⟩
  refine aP (by kernel_rfl) ?_;have sd:=S4.out.drew;generalize W.drew=V at sd ⊢
  have h0:=facts V _ 0 sd rfl;have Sd:=zd sd;clear sd S4;refine aY [1] ?_
  repeat (refine ay _ rfl (by kernel_rfl) (fun _ _ _ h=>h) (fun w'=>by(try simp only[ag,ah,aj]);go_simp;try with_reducible rfl) ?_;try simp only[Act.put,ag,ah,aj,aF,aB,aC])
  refine aH ?_;refine cu (fun w'=>At w' B 0 (J sh)∧At w' B 1 (J sl)∧At w' B 2 (J wk)∧At w' B 3 (J wd)∧At w' B 4 (Ju un)) [0,2,3,4,5] [0,2] ?_
  repeat (refine aN _ rfl (by kernel_rfl) (fun _ _ _ h=>h) h0 (fun w' hS=>by(try dsimp only at hS);(try simp only[ag,ah,aj]);go_simp;try with_reducible rfl) ?_;try simp only[Act.put,ag,ah,aj,aF,aB,aC])
  refine bM ?_;refine dS (rs:=[3,5]) (by kernel_rfl) (by simp) (fun iQ hiQ=>?_);simp only[List.mem_cons,List.not_mem_nil,or_false]at hiQ
  rcases hiQ with rfl|rfl
  ·refine cO rfl (by rfl) (fun K hK=>?_)
   go_simp;have s5:=Sd.out.box (List.replicate wk dW) 46;rw[show(List.replicate wk dW).toArray=Array.replicate wk dW by simp]at s5;obtain⟨g,hg⟩:∃ g,g=V.heap.size:=⟨_,rfl⟩
   rw[←hg]at s5 ⊢
   generalize V.alloc _=V2 at s5 ⊢
   have h1:=facts V2 _ 0 s5 rfl;refine hK _ _ ⟨fun _=>h1,?_⟩;clear hK K h0 hg Sd
   try simp only[Act.put,ag,ah,aj,aF,aB,aC]
   refine dB [4] ?_
   repeat (refine aN _ rfl (by kernel_rfl) (fun _ _ _ h=>h) h1 (fun w' hS=>by(try simp only[ag,ah,aj]);go_simp;try with_reducible rfl) ?_;try simp only[Act.put,ag,ah,aj,aF,aB,aC])
   refine bM ?_;refine aK 5 (by kernel_rfl) rfl (by rfl) fun K hK=>?_
   go_simp;have s6:=s5.box [J 0,J 0,J 0,J 0,Ju 0,dW] 28;obtain⟨x,hx⟩:∃ x,x=V2.heap.size:=⟨_,rfl⟩
   rw[←hx]at s6 ⊢
   generalize V2.alloc _=V3 at s6 ⊢
   have h0:=facts V3 _ 0 s6 rfl;refine hK _ _ ⟨fun _=>h0,?_⟩;clear hK K hx s5
   try simp only[Act.put,ag,ah,aj,aF,aB,aC]
   refine dB [] (bH (by kernel_rfl) ?_);have s7:Scope [] w0 V3 ([box g (List.replicate wk dW) 46]++([box x [J 0,J 0,J 0,J 0,Ju 0,dW] 28]++(box B (lV sh sl wk wd un) 24::box (B+1) [J 0,J 0,J 0,J 0,Ju 0,dW] 28::Bs))):=Scope.perm s6 (by rw[List.append_assoc];exact List.perm_append_comm);have q:=Scope.au (Scope.au (Scope.au (Scope.au (Scope.au (Scope.au s7 0 (J sh)) 1 (J sl)) 2 (J wk)) 3 (J wd)) 4 (Ju un)) 5 (.slice (some ⟨g,0,none⟩) wk wk);have rx:=s7.row (k:=x) 1 rfl;obtain⟨x0,x1,x2,x3,x4,x5⟩:=rx.c6;have f0:=rx.free 0;have f1:=rx.free 1;have f2:=rx.free 2;have f3:=rx.free 3;have f4:=rx.free 4;have f5:=rx.free 5;have Q:=zd q;clear s7 q rx h0 h1;refine af 6 (by kernel_rfl) rfl (by rfl) fun K hK=>?_
   go_simp;refine hK _ _ ?_;clear hK K
   try simp only[Act.put,ag,ah,aj,aF,aB,aC]
   refine wpAny_done (by kernel_rfl) ?_ _
   go_wp2_with fail
   go_meet
   exact⟨x,g,rfl,Q.out⟩
  ·refine cO rfl (by rfl) (fun K hK=>?_)
   go_simp;have s5:=Sd.out.box [J 0,J 0,J 0,J 0,Ju 0,dW] 28;obtain⟨x,hx⟩:∃ x,x=V.heap.size:=⟨_,rfl⟩
   rw[←hx]at s5 ⊢
   generalize V.alloc _=V2 at s5 ⊢
   have h1:=facts V2 _ 0 s5 rfl;refine hK _ _ ⟨fun _=>h1,?_⟩;clear hK K h0 hx Sd
   try simp only[Act.put,ag,ah,aj,aF,aB,aC]
   refine aK 3 (by kernel_rfl) rfl (by rfl) fun K hK=>?_
   go_simp;have s6:=s5.box (List.replicate wk dW) 46;rw[show(List.replicate wk dW).toArray=Array.replicate wk dW by simp]at s6;obtain⟨g,hg⟩:∃ g,g=V2.heap.size:=⟨_,rfl⟩
   rw[←hg]at s6 ⊢
   generalize V2.alloc _=V3 at s6 ⊢
   have h0:=facts V3 _ 0 s6 rfl;refine hK _ _ ⟨fun _=>h0,?_⟩;clear hK K hg s5
   try simp only[Act.put,ag,ah,aj,aF,aB,aC]
   refine dB [4] ?_
   repeat (refine aN _ rfl (by kernel_rfl) (fun _ _ _ h=>h) h0 (fun w' hS=>by(try simp only[ag,ah,aj]);go_simp;try with_reducible rfl) ?_;try simp only[Act.put,ag,ah,aj,aF,aB,aC])
   refine bM ?_;refine dB [] (bH (by kernel_rfl) ?_);have s7:Scope [] w0 V3 ([box g (List.replicate wk dW) 46]++([box x [J 0,J 0,J 0,J 0,Ju 0,dW] 28]++(box B (lV sh sl wk wd un) 24::box (B+1) [J 0,J 0,J 0,J 0,Ju 0,dW] 28::Bs))):=(Scope.perm s6 (by rw[List.append_assoc];exact List.perm_append_comm)).swap2;have q:=Scope.au (Scope.au (Scope.au (Scope.au (Scope.au (Scope.au s7 0 (J sh)) 1 (J sl)) 2 (J wk)) 3 (J wd)) 4 (Ju un)) 5 (.slice (some ⟨g,0,none⟩) wk wk);have rx:=s7.row (k:=x) 1 rfl;obtain⟨x0,x1,x2,x3,x4,x5⟩:=rx.c6;have f0:=rx.free 0;have f1:=rx.free 1;have f2:=rx.free 2;have f3:=rx.free 3;have f4:=rx.free 4;have f5:=rx.free 5;have Q:=zd q;clear s7 q rx h0 h1;refine af 6 (by kernel_rfl) rfl (by rfl) fun K hK=>?_
   go_simp;refine hK _ _ ?_;clear hK K
   try simp only[Act.put,ag,ah,aj,aF,aB,aC]
   refine wpAny_done (by kernel_rfl) ?_ _
   go_wp2_with fail
   go_meet
   exact⟨x,g,rfl,Q.out⟩
 case rest=>
  obtain⟨x,g,rfl,s5⟩:=hcut;have S5:=zd s5;clear s5 S4;have a0:LK w0 Bs B x g sh sl wk wd un 0 (List.replicate wk (dW,[])) wc:=⟨uw.VD _ _,TK wk g S5.out⟩
  have A0:=zd a0;clear a0 S5
  go_upto_if 24 with fail
  go_cut [] (fun wx=>∃ zs,LK w0 Bs B x g sh sl wk wd un 3 zs wx)
  case first=>
   cases bb
   ·go_wp2_with fail
    go_meet
    exact⟨_,A0.out.1.le (by omega),A0.out.2⟩
   ·go_wp2_with fail
    obtain⟨hp,hs⟩:=A0.out;have hn1:=HC.out.wk1;have hw0:(0:Int)<(wk:Nat):=by omega
    have hw1:0<wk:=by omega
    have facts:∀ (w':World) (As:List HA),Scope [] w0 w' As→box x (lV sh sl wk wd un++[.slice (some ⟨g,0,none⟩) wk wk]) 28∈As→At w' x 5 (.slice (some ⟨g,0,none⟩) wk wk):=fun w' As s hi=>(s.sW (k:=x) hi).cell rfl
    refine aP (by kernel_rfl) ?_;have sd:=hs.drew;generalize wc.drew=V at sd ⊢
    have h0:=facts V _ sd (by simp);have Sd:=zd sd;have HP:=zd hp;clear sd A0 hp hs;refine aY [0] ?_
    repeat (refine ay _ rfl (by kernel_rfl) (fun _ _ _ h=>h) (fun w'=>by(try simp only[ag,ah,aj]);go_simp;try with_reducible rfl) ?_;try simp only[Act.put,ag,ah,aj,aF,aB,aC])
    refine aH ?_;refine cu (fun w'=>At w' x 5 (.slice (some ⟨g,0,none⟩) wk wk)) [1,2] [1] ?_
    repeat (refine aN _ rfl (by kernel_rfl) (fun _ _ _ h=>h) h0 (fun w' hS=>by(try dsimp only at hS);(try simp only[ag,ah,aj]);go_simp;try with_reducible rfl) ?_;try simp only[Act.put,ag,ah,aj,aF,aB,aC])
    refine bM ?_;refine aK 2 (by kernel_rfl) rfl (by rfl) fun K hK=>?_
    go_simp;refine(CJ Sd.out).mono ?_
    rintro e w2 ⟨oa,cc,L,rfl,hL,hok,s6⟩
    rw[AL hL]at s6;have h1:=facts w2 _ s6 (by simp);refine hK _ _ ⟨fun _=>h1,?_⟩;clear hK K h0 Sd facts
    try simp only[Act.put,ag,ah,aj,aF,aB,aC]
    refine dB [] (bH (by kernel_rfl) ?_);refine aY [3] ?_
    repeat (refine ay _ rfl (by kernel_rfl) (fun _ _ _ h=>h) (fun w'=>by(try simp only[ag,ah,aj]);go_simp;try with_reducible rfl) ?_;try simp only[Act.put,ag,ah,aj,aF,aB,aC])
    refine aH ?_;have hz:(List.replicate wk ((dW:Value),([]:List Cl)))[0]? =some (dW,[]):=by rw[List.getElem?_replicate,if_pos (by omega)]
    have rg:=s6.row (k:=g) 1 rfl;have g0:=rg.cell (j:=0) (v:=dW) (by rw[List.getElem?_map,hz];rfl);have f0:=rg.free 0;have hp2:=HP.out.set (m':=3) hz (v:=.slice oa 3 cc) (M:=L) hok (by rw[hL];simp);have s7:=TF s6 hz;have HP2:=zd hp2;have S7:=zd s7;clear h1 rg hz hp2 s6 s7 hL hok;refine af 4 (by kernel_rfl) rfl (by rfl) fun K hK=>?_
    go_simp;refine hK _ _ ?_;clear hK K
    try simp only[Act.put,ag,ah,aj,aF,aB,aC]
    refine wpAny_done (by kernel_rfl) ?_ _
    go_wp2_with fail
    go_meet
    exact⟨_,HP2.out,S7.out⟩
  case rest=>
   obtain⟨zs0,hw0⟩:=hcut;have A1:=zd hw0;obtain⟨oa0,cc0,rfl,hmax,hL⟩:=Hv.out;obtain⟨nl,hnl⟩:∃ nl,nl=Ls.length:=⟨_,rfl⟩
   have get:∀ i,i<nl→∃ g0 off oc m cc,oa0=some ⟨g0,off,none⟩∧m≤9223372036854775807∧(∀ w',dE [] w0 w'→At w' g0 (off+i) (.slice oc m cc))∧∀ k,k<m→∃ gc o y,oc=some ⟨gc,o,none⟩∧uV y∧∀ w',dE [] w0 w'→(At w' gc (o+k*4) (J y.op)∧At w' gc (o+k*4+1) (J y.flow)∧At w' gc (o+k*4+2) (J y.a)∧At w' gc (o+k*4+3) (J y.b)):=fun i hi=>by
    obtain⟨g0,off,lv,h1,h2,h3,oc,cc,rfl,h5,h6,h7⟩:=hL i _ (List.getElem?_eq_getElem (by omega));refine⟨g0,off,oc,_,cc,h1,Nat.le_trans h5 h6,h2,fun k hk=>?_⟩;obtain⟨gc,o,e1,e2⟩:=h7 k _ (List.getElem?_eq_getElem hk)
    exact⟨gc,o,_,e1,h3 _ (List.getElem_mem hk),e2⟩
   rw[←hnl]at hmax ⊢
   have hm9:nl≤9223372036854775807:=hmax;have Get:=zd get;have Hm9:=zd hm9;have hn1:=HC.out.wk1;have hn6:=HC.out.wk6;clear A0 hw0 hL hnl get hmax hm9 Hv s3
   go_wp2_with fail
   go_loopw [9,10] (fun a b wr=>∃ (cnt i:Nat) (zs:List (Value×List Cl)),a=J (cnt:Nat)∧b=J (i:Nat)∧cnt≤40∧i≤nl∧LK w0 Bs B x g sh sl wk wd un (cnt+3) zs wr) (fun _ b _=>nl - (intOf b).toNat)
   case atStart=>exact⟨0,0,zs0,rfl,rfl,by omega,by omega,A1.out⟩
   case round=>
    obtain⟨cnt,i,zs,rfl,rfl,hcnt,hi,a2⟩:=hrel;have A2:=zd a2;clear a2 A1
    by_cases hin:i<nl
    ·obtain⟨g0,off,oc,m,cc,rfl,hm9,hcl,hk⟩:=Get.out i hin
     have j1:(i:Int)<(nl:Nat):=by omega
     have j3:(0:Int)≤(i:Nat):=by omega
     have j6:wrap64 ((i:Int)+1)=(i:Int)+1:=by have:=Hm9.out;unfold wrap64;omega
     have HCl:=zd hcl;have HK:=zd hk;have HM:=zd hm9;clear hcl hk hm9
     go_wp2_with fail
     go_loopw [9,11] (fun a b wr=>∃ (cnt k:Nat) (zs:List (Value×List Cl)),a=J (cnt:Nat)∧b=J (k:Nat)∧cnt≤40∧k≤m∧LK w0 Bs B x g sh sl wk wd un (cnt+3) zs wr) (fun _ b _=>m - (intOf b).toNat)
     case atStart=>exact⟨cnt,0,zs,rfl,rfl,hcnt,by omega,A2.out⟩
     case round=>
      obtain⟨cnt,k,zs,rfl,rfl,hcnt,hkm,a2⟩:=hrel;have A3:=zd a2;clear a2 A2;have d1:=HCl.out _ A3.out.2.1
      by_cases hk2:k<m∧cnt<40
      ·have k1:(k:Int)<(m:Nat):=by omega
       have k2:(cnt:Int)<40:=by omega
       have k3:(cnt:Int)<57:=by omega
       obtain⟨gc,o,y,rfl,hy,hyc⟩:=HK.out k hk2.1;obtain⟨yo,yf,ya,yb⟩:=y;obtain⟨wi,hwi⟩:∃ wi,wi=i % wk:=⟨_,rfl⟩
       have hwl:wi<wk:=by rw[hwi];exact Nat.mod_lt _ (by omega)
       have hwe:(i:Int) % (wk:Nat)=(wi:Nat):=by rw[hwi];rfl
       have k4:(0:Int)≤(k:Nat):=by omega
       have w1':(0:Int)≤(wi:Nat):=by omega
       have w2':(wi:Int)<(wk:Nat):=by omega
       have w3':(0:Int)<(wk:Nat):=by omega
       have rb:=A3.out.2.sW (k:=B) (vs:=lV sh sl wk wd un) (t:=24) (by simp);have b2:=rb.cell (j:=2) rfl;obtain⟨z,hz⟩:∃ z,zs[wi]? =some z:=⟨_,List.getElem?_eq_getElem (by rw[A3.out.1.len];exact hwl)⟩
       obtain⟨vz,M⟩:=z;obtain⟨od,cd,hvz,hd1⟩:=(Scope.Kq A3.out.2 hz).jh;have hvz:vz=.slice od M.length cd:=hvz;subst hvz;have facts:∀ (w':World) (q:Nat) (As:List HA),Scope [] w0 w' As→As[q]? =some (box g (zs.map Prod.fst) 46)→box x (lV sh sl wk wd un++[.slice (some ⟨g,0,none⟩) wk wk]) 28∈As→At w' x 5 (.slice (some ⟨g,0,none⟩) wk wk)∧At w' g wi (.slice od M.length cd)∧At w' g0 (off+i) (.slice (some ⟨gc,o,none⟩) m cc)∧At w' gc (o+k*4) (J yo)∧At w' gc (o+k*4+1) (J yf)∧At w' gc (o+k*4+2) (J ya)∧At w' gc (o+k*4+3) (J yb):=fun w' q As s h1 h2=>by
        have rx:=s.sW (k:=x) h2;have rg:=s.row (k:=g) q h1
        exact⟨rx.cell rfl,rg.cell (by rw[List.getElem?_map,hz];rfl),HCl.out _ s.1,hyc _ s.1⟩
       have hml:M.length≤43:=by
        have h1:=A3.out.1.few;have h2:M.length≤tot (zs.map Prod.snd):=Jh (List.mem_of_getElem? (i:=wi) (by rw[List.getElem?_map,hz];rfl))
        omega
       have HMl:=zd hml;clear hml;have HZ:=zd hz;have HY:=zd hy;have HW:=zd hwl;clear hy hyc hz rb hwl hwi hd1
       go_wp2_with fail
       clear b2 d1;refine aP (by kernel_rfl) ?_;have sd:=(Scope.Kq A3.out.2 HZ.out).drew;generalize wr.drew=V at sd ⊢
       have h0:=facts V 1 _ sd rfl (by simp);have Sd:=zd sd;clear sd;refine aY [0,2,3,5,8,9,10,12] ?_
       repeat (refine ay _ rfl (by kernel_rfl) (fun _ _ _ h=>h) (fun w'=>by(try simp only[ag,ah,aj]);go_simp;try with_reducible rfl) ?_;try simp only[Act.put,ag,ah,aj,aF,aB,aC])
       refine aH ?_;refine cu (fun w'=>At w' x 5 (.slice (some ⟨g,0,none⟩) wk wk)∧At w' g wi (.slice od M.length cd)∧At w' g0 (off+i) (.slice (some ⟨gc,o,none⟩) m cc)∧At w' gc (o+k*4) (J yo)∧At w' gc (o+k*4+1) (J yf)∧At w' gc (o+k*4+2) (J ya)∧At w' gc (o+k*4+3) (J yb)) [1,4,6,7,11,13,14,15,16,17] [1,4,6,7,11,13,14] ?_
       repeat (refine aN _ rfl (by kernel_rfl) (fun _ _ _ h=>h) h0 (fun w' hS=>by(try dsimp only at hS);(try simp only[ag,ah,aj]);go_simp;try with_reducible rfl) ?_;try simp only[Act.put,ag,ah,aj,aF,aB,aC])
       refine bM ?_;refine aK 15 (by kernel_rfl) rfl (by rfl) fun K hK=>?_
       go_simp;refine(Oi HY.out _).mono ?_
       rintro e w2 ⟨⟨⟨co,cf,ca,cb⟩,hco,rfl⟩,hch⟩
       have s2:=Sd.out.quiet hch;have h1:=facts w2 1 _ s2 rfl (by simp);refine hK _ _ ⟨fun _=>h1,?_⟩;have S2:=zd s2;have HCo:=zd hco;clear hK K h0 s2 Sd hch hco
       try simp only[Act.put,ag,ah,aj,aF,aB,aC]
       refine aK 16 (by kernel_rfl) rfl (by rfl) fun K hK=>?_
       go_simp;have s3:=S2.out.box [J co,J cf,J ca,J cb] 49;have h0:=facts _ 1 _ s3 rfl (by simp);refine hK _ _ ⟨fun _=>h0,?_⟩;have S3:=zd s3;clear hK K h1 s3 S2
       try simp only[Act.put,ag,ah,aj,aF,aB,aC]
       refine aK 17 (by kernel_rfl) rfl (by rfl) fun K hK=>?_
       refine wp_append_lies _ _ _ _ rfl 0 49 i1 _ 4 32 underlying46 Hi1.out Hx0.out Hx1.out Hx2.out rfl (by omega) (.slice od M.length cd) M.length (recs Cl.cells M) (by rfl) (S3.out.jb 0 rfl) ⟨w2.heap.size,0,none⟩ 1 1 [J co,J cf,J ca,J cb] (by rfl) (by rfl) (pz (Row.new w2 [J co,J cf,J ca,J cb] 49)) (by simp[Value.oneCell'])
        (by omega) (by have:=HMl.out;unfold maxLen;omega) (by have:=HMl.out;omega) (by omega) (w2.heap.size+1) (by simp) ?_
       intro gg cap' w4 own gro hat hlt
       have s7:=Scope.appends S3.out own gro (hat.imp id (fun h=>h.trans (by simp)));have h1:=facts _ 1 _ s7 rfl (by simp);refine hK _ _ ⟨fun _=>h1,?_⟩;have S7:=zd s7;clear hK K own gro hat hlt S3 h0 s7
       try simp only[Act.put,ag,ah,aj,aF,aB,aC]
       refine dB [] (bH (by kernel_rfl) ?_);refine aY [18] ?_
       repeat (refine ay _ rfl (by kernel_rfl) (fun _ _ _ h=>h) (fun w'=>by(try simp only[ag,ah,aj]);go_simp;try with_reducible rfl) ?_;try simp only[Act.put,ag,ah,aj,aF,aB,aC])
       refine aH ?_;have s8:Scope [] w0 w4 ([aU (.slice (some ⟨gg,0,none⟩) (M.length+1) cap') 49 4 (M.length+1) (recs Cl.cells M++[J co,J cf,J ca,J cb])]++([box g (zs.map Prod.fst) 46]++(((zs.map gV).eraseIdx wi++(box x (lV sh sl wk wd un++[.slice (some ⟨g,0,none⟩) wk wk]) 28::box B (lV sh sl wk wd un) 24::box (B+1) [J 0,J 0,J 0,J 0,Ju 0,dW] 28::Bs))++[box w2.heap.size [J co,J cf,J ca,J cb] 49]))):=S7.out;have rg:=s8.row (k:=g) 1 rfl;have g0:=rg.cell (j:=wi) (v:=.slice od M.length cd) (by rw[List.getElem?_map,HZ.out];rfl);have f0:=rg.free wi;have S9:=zd (Scope.au s8 wi (.slice (some ⟨gg,0,none⟩) (M.length+1) cap'));clear h1 s8 S7 rg;refine af 19 (by kernel_rfl) rfl (by rfl) fun K hK=>?_
       go_simp;refine hK _ _ ?_;clear hK K
       try simp only[Act.put,ag,ah,aj,aF,aB,aC]
       refine wpAny_done (by kernel_rfl) ?_ _;have s9:=S9.out;have e9:recs Cl.cells M++[J co,J cf,J ca,J cb]=recs Cl.cells (M++[⟨co,cf,ca,cb⟩]):=by rw[l7];rfl
       have e10:=AL (k:=M.length+1) (L:=M++[Cl.mk co cf ca cb]) (by simp) (.slice (some ⟨gg,0,none⟩) (M.length+1) cap');rw[e9,e10]at s9;have s10:=Scope.TY (z:=(.slice (some ⟨gg,0,none⟩) (M.length+1) cap',M++[⟨co,cf,ca,cb⟩])) (List.getElem?_eq_some_iff.1 HZ.out).1 (Scope.drop (As:=gV _::box g _ 46::((zs.map gV).eraseIdx wi++(box x (lV sh sl wk wd un++[.slice (some ⟨g,0,none⟩) wk wk]) 28::box B (lV sh sl wk wd un) 24::box (B+1) [J 0,J 0,J 0,J 0,Ju 0,dW] 28::Bs))) s9);have hp:=A3.out.1.set (m':=cnt+1+3) HZ.out (v:=.slice (some ⟨gg,0,none⟩) (M.length+1) cap') (M:=M++[⟨co,cf,ca,cb⟩]) ((A3.out.1.ok _ (List.mem_of_getElem? HZ.out)).snoc HCo.out) (by simp;omega);have S10:=zd s10;have HP:=zd hp;clear s9 e9 e10 s10 hp g0 f0 S9
       go_wp2
       have j7:wrap64 ((k:Int)+1)=(k:Int)+1:=by have:=HM.out;unfold wrap64;omega
       rw[j7]
       exact⟨⟨cnt+1,k+1,_,lh cnt,lh k,by omega,hk2.1,HP.out,S10.out⟩,measS hk2.1⟩
      ·by_cases hk3:k<m
       ·have k1:(k:Int)<(m:Nat):=by omega
        have k2:¬ (cnt:Int)<40:=by omega
        go_wp2
        rw[j6]
        exact⟨⟨cnt,i+1,zs,rfl,lh i,hcnt,hin,A3.out⟩,measS hin⟩
       ·have k1:¬ (k:Int)<(m:Nat):=by omega
        go_wp2
        rw[j6]
        exact⟨⟨cnt,i+1,zs,rfl,lh i,hcnt,hin,A3.out⟩,measS hin⟩
    ·have j1:¬ (i:Int)<(nl:Nat):=by omega
     obtain⟨hp,s6⟩:=A2.out;have rx:=s6.sW (k:=x) (vs:=lV sh sl wk wd un++[.slice (some ⟨g,0,none⟩) wk wk]) (t:=28) (by simp);obtain⟨x0,x1,x2,x3,x4,x5⟩:=rx.c6;have rz:=s6.sW (k:=B+1) (vs:=[J 0,J 0,J 0,J 0,Ju 0,dW]) (t:=28) (by simp);obtain⟨z0,z1,z2,z3,z4,z5⟩:=rz.c6;have f0:=rz.free 0;have f1:=rz.free 1;have f2:=rz.free 2;have f3:=rz.free 3;have f4:=rz.free 4;have f5:=rz.free 5;have s7:Scope [] w0 wr ((uF g zs++[box x (lV sh sl wk wd un++[.slice (some ⟨g,0,none⟩) wk wk]) 28,box B (lV sh sl wk wd un) 24])++([box (B+1) [J 0,J 0,J 0,J 0,Ju 0,dW] 28]++Bs)):=by rw[List.append_assoc];exact s6
     have Q:=zd (Scope.au (Scope.au (Scope.au (Scope.au (Scope.au (Scope.au s7 0 (J sh)) 1 (J sl)) 2 (J wk)) 3 (J wd)) 4 (Ju un)) 5 (.slice (some ⟨g,0,none⟩) wk wk));have HP:=zd hp;clear rx rz s6 s7 hp A2
     go_wp2
     have rq:=Q.out.row (k:=B+1) (vs:=lV sh sl wk wd un++[.slice (some ⟨g,0,none⟩) wk wk]) (t:=28) (uF g zs++[box x (lV sh sl wk wd un++[.slice (some ⟨g,0,none⟩) wk wk]) 28,box B (lV sh sl wk wd un) 24]).length (by simp);refine bodyPost_ret (results_cell_row rfl _ _ (B+1) 28 #[J sh,J sl,J wk,J wd,Ju un,.slice (some ⟨g,0,none⟩) wk wk] (0,0) _ rfl rq underlying28 rfl (by kernel_rfl)) rfl ?_;refine⟨sh,sl,wk,wd,un,g,zs,HC.out,HP.out.le (by omega),rfl,?_⟩;have q1:=Q.out;rw[List.append_assoc]at q1
     exact Scope.drop (Bs:=[box x (lV sh sl wk wd un++[.slice (some ⟨g,0,none⟩) wk wk]) 28,box B (lV sh sl wk wd un) 24,box (B+1) (lV sh sl wk wd un++[.slice (some ⟨g,0,none⟩) wk wk]) 28]) (Scope.perm q1 (by
      rw[List.append_assoc]
      exact List.Perm.append_left _ (List.perm_append_comm (l₁:=[box x (lV sh sl wk wd un++[.slice (some ⟨g,0,none⟩) wk wk]) 28,box B (lV sh sl wk wd un) 24,box (B+1) (lV sh sl wk wd un++[.slice (some ⟨g,0,none⟩) wk wk]) 28]))))
end
@[reducible] def FT (P:Nat) (rs:List Nat) (e:Nat) (E:eQ):HA:=uk fun c:Value×Value=>aG [dA c.1 c.2 P rs e E,fO c.1 E.told.pk,rO c.2 E.woken]
section
variable {A:PA} {rs:List Nat} {s s':PS} {e:Nat} {E E':eQ} {f:FuncId} {args:Array Value} {r:Value} {S:List Nat} {w0 w:World} {L:List HA}
theorem Scope.mV (h:Scope S w0 w (ae A rs s::FT A.P rs e E::L)):∃ tv wv,Scope S w0 w (ae A rs s::dA tv wv A.P rs e E::fO tv E.told.pk::rO wv E.woken::L):=by
 obtain⟨c,h1⟩:=Scope.xq (F:=fun c:Value×Value=>aG [dA c.1 c.2 A.P rs e E,fO c.1 E.told.pk,rO c.2 E.woken]) (h.front 1 rfl);have h2:Scope S w0 w ([dA c.1 c.2 A.P rs e E,fO c.1 E.told.pk,rO c.2 E.woken]++(ae A rs s::L)):=Scope.gU h1
 exact⟨c.1,c.2,h2.front 3 rfl⟩
theorem Scope.mQ {tv wv:Value} (h:Scope S w0 w (ae A rs s::dA tv wv A.P rs e E::fO tv E.told.pk::rO wv E.woken::L)):Scope S w0 w (ae A rs s::FT A.P rs e E::L):=by
 have h2:Scope S w0 w ([dA tv wv A.P rs e E,fO tv E.told.pk,rO wv E.woken]++(ae A rs s::L)):=h.perm (List.perm_middle (l₁:=[dA tv wv A.P rs e E,fO tv E.told.pk,rO wv E.woken])).symm
 exact(Scope.tX (F:=fun c:Value×Value=>aG [dA c.1 c.2 A.P rs e E,fO c.1 E.told.pk,rO c.2 E.woken]) (tv,wv) (Scope.shut1 h2)).front 1 rfl
theorem Does.dq (d:∀ tv wv,Does prog [ae A rs s,dA tv wv A.P rs e E] f args r [ae A rs s',dA tv wv A.P rs e E']) (h1:E'.told.pk=E.told.pk) (h2:E'.woken=E.woken):Does prog [ae A rs s,FT A.P rs e E,bP] f args r [ae A rs s',FT A.P rs e E',bP]:=Does.ax fun S w0 w h=>by
 obtain⟨tv,wv,h3⟩:=Scope.mV h;refine((d tv wv).iY h3).mono ?_
 rintro er w' ⟨rfl,h4⟩
 rw[←h1, ←h2]at h4
 exact Ends.mk [] h4.mQ
theorem Does.VM (d:∀ tv wv,Does prog [ae A rs s,dA tv wv A.P rs e E] f args r [ae A rs s',dA (nS) wv A.P rs e E']) (h1:E'.told.pk=[]) (h2:E'.woken=E.woken):Does prog [ae A rs s,FT A.P rs e E,bP] f args r [ae A rs s',FT A.P rs e E',bP]:=Does.ax fun S w0 w h=>by
 obtain⟨tv,wv,h3⟩:=Scope.mV h;refine((d tv wv).iY h3).mono ?_
 rintro er w' ⟨rfl,h4⟩
 have h5:Scope S w0 w' (fO tv E.told.pk::ae A rs s'::dA (nS) wv A.P rs e E'::rO wv E.woken::[bP]):=h4.front 2 rfl;have h6:=jX 64 3 (Scope.drop_left (As:=[fO tv E.told.pk]) h5);have h7:Scope S w0 w' (ae A rs s'::dA (nS) wv A.P rs e E'::fO (nS) E'.told.pk::rO wv E'.woken::[bP]):=by
  rw[h1,h2]
  exact(h6.front 1 rfl).perm (List.Perm.cons _ (List.Perm.swap _ _ _))
 exact Ends.mk [] h7.mQ
end
theorem QB (s:PS) (E:eQ):(lZ s E).E.told.pk=E.told.pk:=by unfold lZ;cases decide (s.σ.num iG=0)<;>rfl
theorem Jz (s:PS) (E:eQ) (wk:Nat):(iM s E wk).E.told.pk=E.told.pk:=by unfold iM;cases (s.σ.num (fP E.j)==1)<;>rfl
theorem GN (s:PS) (E:eQ):(iO s E).E.told.pk=E.told.pk:=by unfold iO;cases wG (s.σ.num df)<;>rfl
theorem L6 (s:PS) (E:eQ) (sh:Nat):(jK s E sh).E.told.pk=E.told.pk:=by unfold jK;cases (s.σ.num (fB E.shard)==0)<;>rfl
theorem Na (s:PS) (E:eQ) (now:Int):(jC s E now).E.told.pk=E.told.pk:=by unfold jC;cases (s.σ.num df==E.calm)<;>rfl
theorem PR (s:PS) (E:eQ):(lZ s E).E.woken=E.woken:=by unfold lZ;cases decide (s.σ.num iG=0)<;>rfl
theorem KA (s:PS) (E:eQ) (wk:Nat):(iM s E wk).E.woken=E.woken:=by unfold iM;cases (s.σ.num (fP E.j)==1)<;>rfl
theorem JO (s:PS) (E:eQ):(iO s E).E.woken=E.woken:=by unfold iO;cases wG (s.σ.num df)<;>rfl
theorem NI (s:PS) (E:eQ) (sh:Nat):(jK s E sh).E.woken=E.woken:=by unfold jK;cases (s.σ.num (fB E.shard)==0)<;>rfl
theorem Ox (s:PS) (E:eQ) (now:Int):(jC s E now).E.woken=E.woken:=by unfold jC;cases (s.σ.num df==E.calm)<;>rfl
theorem PQ (s:PS) (E:eQ) (now:Int):(lC s E now).E.told.pk=[]:=by unfold lC;cases ((mr s E).op==6)<;>cases (vH (mr s E)==0)<;>rfl
theorem Qz (s:PS) (E:eQ) (now:Int):(lC s E now).E.woken=E.woken:=by unfold lC;cases ((mr s E).op==6)<;>cases (vH (mr s E)==0)<;>rfl
theorem Jn (s:PS) (E:eQ) (sh:Nat):(fK s E sh).E.told.pk=E.told.pk:=by unfold fK;cases (E.link==0)<;>rfl
theorem NQ (s:PS) (E:eQ) (wd:Nat):(dpickO s E wd).E.told.pk=E.told.pk:=by unfold dpickO;split<;>rfl
theorem NW (s:PS) (E:eQ) (wd:Nat):(dpickO s E wd).E.woken=[]:=by unfold dpickO;split<;>rfl
theorem PM (s:PS) (E:eQ) (wd:Nat):(dpickO s E wd).d=false:=by unfold dpickO;split<;>rfl
def MX.rg:MX→Bool
 |.shown|.get|.free'|.word|.rest|.keep=>true
 |_=>false
def MX.part:MX→Bool
 |.turn|.quiet|.grab|.behind|.thing|.same|.pick|.shown|.get|.free'|.word|.rest|.keep|.end'=>true
 |_=>false
def MX.serves:MX→Bool
 |.write|.send|.try'|.wait|.result|.leave=>false
 |_=>true
structure xh (A:PA) (s:PS) (N:Nat) (E:eQ):Prop where
 who:0≤E.who∧E.who<6
 j:0≤E.j∧E.j≤6
 js:E.st.serves=true→E.j<A.wk
 left:0≤E.left∧E.left≤16
 lp:E.st.part=true→1≤E.left
 sh:0≤E.shard∧E.shard≤4
 shs:E.st=.grab∨E.st=.behind∨E.st=.thing→E.shard<A.sh
 obj:E.st=.behind∨E.st=.thing→sU s E.obj
 link:0≤E.link∧E.link≤s.ob.length
 woken:∀ y∈E.woken,sU s y.1∧I64 y.2.flow∧y.2.r<18446744073709551616
 wl:E.woken.length≤N
 pk:E.told.pk.length≤N
 n:dC E.n
 w:dC E.w
 x:I64 E.x.len
 rg:E.st.rg=true→∃ i,E.r=some i
 r:∀ i,E.r=some i→i<s.ob.length
structure oL (wd:Nat) (s:PS) (m:Nat):Prop where
 k:rY s.k m
 ow:∀ i,sU s (s.k.ow i)∨s.k.ow i=0
 nil:s.ob=[]→(s.k.q.pop wd).2=none
theorem yC {s:PS} {wd:Nat}:∀ (L:List (Int×Ob)) (k:Co),(∀ y∈L,sU s y.1)→(∀ i,sU s (k.ow i)∨k.ow i=0)→∀ i,sU s ((wakes wd k L).ow i)∨(wakes wd k L).ow i=0
 | [],_,_,h=>h
 |y::L,k,hy,h=>by
  have h2:∀ i,sU s ((k.wake wd y.1 y.2).ow i)∨(k.wake wd y.1 y.2).ow i=0:=fun i=>by
   unfold Co.wake
   split
   ·show sU s (upd k.ow y.2.flow y.1 i)∨upd k.ow y.2.flow y.1 i=0
    unfold upd
    split
    ·exact .inl (hy y (by simp))
    ·exact h i
   ·exact h i
  exact yC L (k.wake wd y.1 y.2) (fun z hz=>hy z (by simp[hz])) h2
theorem oL.picks {A:PA} {s:PS} {m N:Nat} {E:eQ} (hK:oL A.wd s m) (hE:xh A s N E) {y:Int×Nat} (h:((jl s E A.wd).pick A.wd).2=some y):sU s y.1:=by
 have ho:=yC (s:=s) (wd:=A.wd) E.woken s.k (fun y hy=>(hE.woken y hy).1) hK.ow;have h0:s.ob≠ []:=fun e0=>by
  have hw:E.woken=[]:=by
   cases hw:E.woken with
   |nil=>rfl
   |cons y L=>
    have:=(hE.woken y (by rw[hw];simp)).1
    unfold sU at this;rw[e0]at this
    simp at this
    omega
  unfold jl at h;rw[hw]at h;have hn:=hK.nil e0;unfold wakes Co.pick at h;simp only[List.foldl_nil,hn]at h
  cases h
 unfold Co.pick at h
 cases hp:((jl s E A.wd).q.pop A.wd).2 with
 |none=>rw[hp]at h;cases h
 |some x=>
  rw[hp]at h;simp only[Option.some.injEq]at h;subst h
  rcases ho x.id with h1|h1
  ·exact h1
  ·show sU s ((jl s E A.wd).ow x.id)
   rw[show(jl s E A.wd).ow x.id=0 from h1]
   exact⟨by omega,by have:=List.length_pos_iff.2 h0;omega⟩
def aT (A:PA) (s:PS) (E:eQ) (now:Int):DO:=match E.st with
 |.write=>lY s E
 |.send=>qE s E
 |.try'=>lZ s E
 |.wait=>lL s E
 |.result=>⟨qY s E,E,true⟩
 |.state=>iM s E A.wk
 |.arg=>lC s E now
 |.look=>pK s E now
 |.answer=>jy s E
 |.ready=>lW s E A.wk
 |.leave=>oC s E
 |.turn=>qM s E
 |.quiet=>iO s E
 |.grab=>jK s E A.sh
 |.behind=>mD s E
 |.thing=>fK s E A.sh
 |.same=>jC s E now
 |.pick=>dpickO s E A.wd
 |.shown=>jO s E
 |.get=>nJ s E
 |.free'=>qW s E
 |.word=>lN s E
 |.rest=>qF s E
 |.keep=>lU s E A.wd
 |.end'=>nI s E
section
variable {A:PA} {rs:List Nat} {s:PS} {e N m:Nat} {E:eQ}
theorem Gm (now:Int) (hres:E.st≠ .result) (hA:Aq A) (hrs:rs.length=s.ob.length) (hN:N≤20000) (hP:jd s N) (hK:oL A.wd s m) (hm:m+E.woken.length≤N) (hE:xh A s N E):Does prog [ae A rs s,FT A.P rs e E,bP] E.st.bz #[ptr e,J now] (bI 0 (aT A s E now).d) [ae A rs (aT A s E now).s,FT A.P rs e (aT A s E now).E,bP]:=by
 have hl:=hP.l hN;have hn:=hP.p hN;have hoN:=hP.o hN;have hwho:I64 E.who:=je (by have:=hE.who;omega) (by have:=hE.who;omega);have hj:I64 E.j:=je (by have:=hE.j;omega) (by have:=hE.j;omega);have hsh:I64 E.shard:=je (by have:=hE.sh;omega) (by have:=hE.sh;omega);have j0:=hE.j.1;have j1:E.j<1000:=by have:=hE.j;omega
 have s0:=hE.sh.1;have s1:E.shard<1000:=by have:=hE.sh;omega
 have hu:=hP.u;have ring:E.st.rg=true→∃ (r:Nat) (x:mO),E.r=some E.ri∧rs[E.ri]? =some r∧s.ob[E.ri]? =some x∧E.ri<1000000∧0<x.cs.length∧x.cs.length≤1000:=fun hr=>by
  obtain⟨i,hi⟩:=hE.rg hr;have hlt:=hE.r i hi;have hri:E.ri=i:=by unfold eQ.ri;rw[hi];rfl
  rw[hri];have hc:=hP.cs _ (List.getElem_mem hlt)
  exact⟨rs[i]'(by omega),s.ob[i],hi,List.getElem?_eq_getElem _,List.getElem?_eq_getElem _,by omega,hc.1,by omega⟩
 have hobj:E.st=.behind∨E.st=.thing→I64 E.obj:=fun h=>by have h:=hE.obj h;exact je (by have:=h.1;omega) (by have:=h.2;omega)
 cases hst:E.st with
 |write=>
  rw[show aT A s E now=lY s E by unfold aT;rw[hst]];have d:=fun tv wv=>Ew (A:=A) (rs:=rs) (s:=s) (e:=e) (E:=E) (tv:=tv) (wv:=wv) now hwho hl
  exact Does.dq d rfl rfl
 |send=>
  rw[show aT A s E now=qE s E by unfold aT;rw[hst]];have d:=fun tv wv=>Iq (A:=A) (rs:=rs) (s:=s) (e:=e) (E:=E) (tv:=tv) (wv:=wv) now hwho hl
  exact Does.dq d rfl rfl
 |try'=>
  rw[show aT A s E now=lZ s E by unfold aT;rw[hst]];have d:=fun tv wv=>NP (A:=A) (rs:=rs) (s:=s) (e:=e) (E:=E) (tv:=tv) (wv:=wv) now hl
  exact Does.dq d (QB ..) (PR ..)
 |wait=>
  rw[show aT A s E now=lL s E by unfold aT;rw[hst]];have d:=fun tv wv=>Ji (A:=A) (rs:=rs) (s:=s) (e:=e) (E:=E) (tv:=tv) (wv:=wv) now hwho hl
  exact Does.dq d rfl rfl
 |result=>
  exact absurd hst hres
 |state=>
  rw[show aT A s E now=iM s E A.wk by unfold aT;rw[hst]];have d:=fun tv wv=>Dt (A:=A) (rs:=rs) (s:=s) (e:=e) (E:=E) (tv:=tv) (wv:=wv) now j0 j1 hj hl
  exact Does.dq d (Jz ..) (KA ..)
 |arg=>
  rw[show aT A s E now=lC s E now by unfold aT;rw[hst]];have d:=fun tv wv=>L9 (A:=A) (rs:=rs) (s:=s) (e:=e) (E:=E) (tv:=tv) (wv:=wv) now hj hn hl
  exact Does.VM d (PQ ..) (Qz ..)
 |look=>
  rw[show aT A s E now=pK s E now by unfold aT;rw[hst]];have d:=fun tv wv=>I7 (A:=A) (rs:=rs) (s:=s) (e:=e) (E:=E) (tv:=tv) (wv:=wv) now hj hn hl
  exact Does.VM d rfl rfl
 |answer=>
  rw[show aT A s E now=jy s E by unfold aT;rw[hst]];refine Does.ax fun S w0 w h=>?_
  obtain⟨tv,wv,h3⟩:=Scope.mV h;obtain⟨oa,cp,htv,_⟩:=(h3.front 2 rfl).jh;subst htv;have d:=BF (A:=A) (rs:=rs) (s:=s) (e:=e) (E:=E) (wv:=wv) (oa:=oa) (cp:=cp) now hj (by have:=hE.pk;unfold lJ;omega) hl;refine(d.call (Bs:=rO wv E.woken::[bP]) h3).mono ?_
  rintro er w' ⟨rfl,h4⟩
  exact Ends.mk [] (Scope.mQ (E:=(jy s E).E) h4)
 |ready=>
  rw[show aT A s E now=lW s E A.wk by unfold aT;rw[hst]];have d:=fun tv wv=>FD (A:=A) (rs:=rs) (s:=s) (e:=e) (E:=E) (tv:=tv) (wv:=wv) now j0 j1 hj hl
  exact Does.dq d rfl rfl
 |leave=>
  rw[show aT A s E now=oC s E by unfold aT;rw[hst]];have d:=fun tv wv=>DN (A:=A) (rs:=rs) (s:=s) (e:=e) (E:=E) (tv:=tv) (wv:=wv) now hl
  exact Does.dq d rfl rfl
 |turn=>
  rw[show aT A s E now=qM s E by unfold aT;rw[hst]];have d:=fun tv wv=>JM (A:=A) (rs:=rs) (s:=s) (e:=e) (E:=E) (tv:=tv) (wv:=wv) now hl
  exact Does.dq d rfl rfl
 |quiet=>
  rw[show aT A s E now=iO s E by unfold aT;rw[hst]];have d:=fun tv wv=>ER (A:=A) (rs:=rs) (s:=s) (e:=e) (E:=E) (tv:=tv) (wv:=wv) now (hu _) hl
  exact Does.dq d (GN ..) (JO ..)
 |grab=>
  rw[show aT A s E now=jK s E A.sh by unfold aT;rw[hst]];have d:=fun tv wv=>Jb (A:=A) (rs:=rs) (s:=s) (e:=e) (E:=E) (tv:=tv) (wv:=wv) now s0 s1 hsh (hu _).1 (by have:=hP.inb E.shard;omega) hl
  exact Does.dq d (L6 ..) (NI ..)
 |behind=>
  rw[show aT A s E now=mD s E by unfold aT;rw[hst]];have d:=fun tv wv=>BU (A:=A) (rs:=rs) (s:=s) (e:=e) (E:=E) (tv:=tv) (wv:=wv) now (hobj (.inl hst)) hl
  exact Does.dq d rfl rfl
 |thing=>
  rw[show aT A s E now=fK s E A.sh by unfold aT;rw[hst]];refine Does.ax fun S w0 w h=>?_
  obtain⟨tv,wv,h3⟩:=Scope.mV h;obtain⟨r,x,hob,hr,ho,_⟩:=(hE.obj (.inr hst)).get hrs;have d:=Fq (A:=A) (rs:=rs) (s:=s) (e:=e) (E:=E) (tv:=tv) (wv:=wv) now hob hr ho (by have:=hE.wl;omega) hE.link.1 (by have:=hE.link.2;omega) s0 s1 hl;refine(d.call (Bs:=fO tv E.told.pk::[bP]) (h3.perm (List.Perm.cons _ (List.Perm.cons _ (List.Perm.swap _ _ _))))).mono ?_
  rintro er w' ⟨rfl,h4⟩
  obtain⟨wv',h5⟩:=Scope.xq (F:=fun wv=>aG [dA tv wv A.P rs e (fK s E A.sh).E,rO wv (fK s E A.sh).E.woken]) (h4.front 1 rfl);have h6:Scope S w0 w' ([dA tv wv' A.P rs e (fK s E A.sh).E,rO wv' (fK s E A.sh).E.woken]++(ae A rs (fK s E A.sh).s::fO tv E.told.pk::[bP])):=Scope.gU h5;have h7:Scope S w0 w' (ae A rs (fK s E A.sh).s::dA tv wv' A.P rs e (fK s E A.sh).E::rO wv' (fK s E A.sh).E.woken::fO tv E.told.pk::[bP]):=h6.front 2 rfl;have h8:=h7.perm (List.Perm.cons _ (List.Perm.cons _ (List.Perm.swap _ _ _)));rw[←Jn s E A.sh]at h8
  exact Ends.mk [] (Scope.mQ h8)
 |same=>
  rw[show aT A s E now=jC s E now by unfold aT;rw[hst]];have d:=fun tv wv=>Ia (A:=A) (rs:=rs) (s:=s) (e:=e) (E:=E) (tv:=tv) (wv:=wv) now hl
  exact Does.dq d (Na ..) (Ox ..)
 |pick=>
  rw[show aT A s E now=dpickO s E A.wd by unfold aT;rw[hst]];refine Does.ax fun S w0 w h=>?_
  obtain⟨tv,wv,h3⟩:=Scope.mV h;have d:=Ii (A:=A) (rs:=rs) (s:=s) (e:=e) (E:=E) (tv:=tv) (wv:=wv) (m:=m) now hK.k (by omega) (fun y hy=>⟨by have h:=(hE.woken y hy).1;exact je (by have:=h.1;omega) (by have:=h.2;omega),(hE.woken y hy).2⟩) hA.wd (fun y hy=>by obtain⟨r,x,h1,h2,h4,_⟩:=(hK.picks hE hy).get hrs;exact⟨_,r,x,h1,h2,h4⟩) hj hn hl;have h3':Scope S w0 w ([ae A rs s,dA tv wv A.P rs e E,bP,rO wv E.woken]++[fO tv E.told.pk]):=h3.perm (List.Perm.cons _ (List.Perm.cons _ ((List.perm_append_comm (l₁:=[fO tv E.told.pk]) (l₂:=[rO wv E.woken,bP])).trans (List.Perm.swap _ _ _))));refine(d.call (Bs:=[fO tv E.told.pk]) h3').mono ?_
  rintro er w' ⟨rfl,h4⟩
  have h5:=jX 293 4 h4;have h6:Scope S w0 w' (ae A rs (dpickO s E A.wd).s::dA tv (nS) A.P rs e (dpickO s E A.wd).E::fO tv (dpickO s E A.wd).E.told.pk::rO (nS) (dpickO s E A.wd).E.woken::[bP]):=by
   rw[NQ,NW]
   exact((h5.front 1 rfl).perm (List.Perm.cons _ (List.Perm.swap _ _ _))).perm (List.Perm.cons _ (List.Perm.cons _ ((List.perm_append_comm (l₁:=[rO (nS) [],bP]) (l₂:=[fO tv E.told.pk])))))
  exact Ends.mk' (by rw[PM]) [] (Scope.mQ h6)
 |shown=>
  rw[show aT A s E now=jO s E by unfold aT;rw[hst]];obtain⟨r,x,hR,hr,ho,hi,c0,c8⟩:=ring (by rw[hst];rfl);have d:=fun tv wv=>EC (A:=A) (rs:=rs) (s:=s) (e:=e) (E:=E) (tv:=tv) (wv:=wv) now hR hr ho hi hE.n c0 c8 hl
  exact Does.dq d rfl rfl
 |get=>
  rw[show aT A s E now=nJ s E by unfold aT;rw[hst]];obtain⟨r,x,hR,hr,ho,hi,c0,c8⟩:=ring (by rw[hst];rfl);refine Does.ax fun S w0 w h=>?_
  obtain⟨tv,wv,h3⟩:=Scope.mV h;have hix:ix E.n x.cs.length<x.cs.length:=yJ c0;have d:=Nk (A:=A) (rs:=rs) (s:=s) (e:=e) (E:=E) (tv:=tv) (wv:=wv) now hR hr ho hi hE.n (List.getElem?_eq_getElem hix) c0 c8 hj hn (by have:=hE.pk;omega) hl;refine(d.call (Bs:=rO wv E.woken::[bP]) h3).mono ?_
  rintro er w' ⟨rfl,h4⟩
  obtain⟨tv',h5⟩:=Scope.xq (F:=fun tv=>aG [dA tv wv A.P rs e (nJ s E).E,fO tv (nJ s E).E.told.pk]) (h4.front 1 rfl);have h6:Scope S w0 w' ([dA tv' wv A.P rs e (nJ s E).E,fO tv' (nJ s E).E.told.pk]++(ae A rs (nJ s E).s::rO wv E.woken::[bP])):=Scope.gU h5
  exact Ends.mk [] (Scope.mQ (E:=(nJ s E).E) (h6.front 2 rfl))
 |free'=>
  rw[show aT A s E now=qW s E by unfold aT;rw[hst]];obtain⟨r,x,hR,hr,ho,hi,c0,c8⟩:=ring (by rw[hst];rfl);have d:=fun tv wv=>H7 (A:=A) (rs:=rs) (s:=s) (e:=e) (E:=E) (tv:=tv) (wv:=wv) now hR hr ho hi hl
  exact Does.dq d rfl rfl
 |word=>
  rw[show aT A s E now=lN s E by unfold aT;rw[hst]];obtain⟨r,x,hR,hr,ho,hi,c0,c8⟩:=ring (by rw[hst];rfl);have d:=fun tv wv=>Gs (A:=A) (rs:=rs) (s:=s) (e:=e) (E:=E) (tv:=tv) (wv:=wv) now hR hr ho hi (hu _) hl
  exact Does.dq d rfl rfl
 |rest=>
  rw[show aT A s E now=qF s E by unfold aT;rw[hst]];obtain⟨r,x,hR,hr,ho,hi,c0,c8⟩:=ring (by rw[hst];rfl);have d:=fun tv wv=>J4 (A:=A) (rs:=rs) (s:=s) (e:=e) (E:=E) (tv:=tv) (wv:=wv) now hR hr ho hi hE.w hl
  exact Does.dq d rfl rfl
 |keep=>
  rw[show aT A s E now=lU s E A.wd by unfold aT;rw[hst]];refine Does.ax fun S w0 w h=>?_
  obtain⟨tv,wv,h3⟩:=Scope.mV h;have d:=JF (A:=A) (rs:=rs) (s:=s) (e:=e) (E:=E) (tv:=tv) (wv:=wv) (m:=m) now hE.x hK.k (by omega) hA.wd hl;have h3':Scope S w0 w ([ae A rs s,dA tv wv A.P rs e E,bP]++[fO tv E.told.pk,rO wv E.woken]):=h3.perm (List.Perm.cons _ (List.Perm.cons _ (List.perm_append_comm (l₁:=[fO tv E.told.pk,rO wv E.woken]) (l₂:=[bP]))));refine(d.call (Bs:=[fO tv E.told.pk,rO wv E.woken]) h3').mono ?_
  rintro er w' ⟨rfl,h4⟩
  have h5:Scope S w0 w' (ae A rs (lU s E A.wd).s::dA tv wv A.P rs e (lU s E A.wd).E::fO tv E.told.pk::rO wv E.woken::[bP]):=h4.perm (List.Perm.cons _ (List.Perm.cons _ (List.perm_append_comm (l₁:=[bP]) (l₂:=[fO tv E.told.pk,rO wv E.woken]))))
  exact Ends.mk [] (Scope.mQ (E:=(lU s E A.wd).E) h5)
 |end'=>
  rw[show aT A s E now=nI s E by unfold aT;rw[hst]];have d:=fun tv wv=>Nr (A:=A) (rs:=rs) (s:=s) (e:=e) (E:=E) (tv:=tv) (wv:=wv) now (by have:=hE.left;omega) (by have:=hE.left;omega) hl
  exact Does.dq d rfl rfl
end
end Go.Proofs.YtjnbbmgbmiggbaaGreatDoor
