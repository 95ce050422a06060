/- Lemmas for TopTries' card: History and Points of the world; the run of awake; the walk of TopTries. -/
import Derived.Deep.DeepCutAuto
import Derived.Test.YtjnbbmgbmiggbaaGreatDoorZ23
set_option linter.unusedSimpArgs false
set_option linter.unusedVariables false
set_option maxRecDepth 20000
set_option maxHeartbeats 4000000
namespace Go.Proofs.YtjnbbmgbmiggbaaGreatDoor
open Go Go.RowKit Go.Maps Go.Proofs.Tryz
section
variable {A:PA} {p g:Nat} {st lf:Int} {lv:Value} {D:List Dn} {vs:List Value} {dv:Value} {S:List Nat} {w0 w:World} {As:List HA}
@[reducible] def Oj (D:List Dn) (vs:List Value):List HA:=List.zipWith (fun y v=>fO v y.r.pk) D vs
theorem RF {D:List Dn} {vs:List Value} {k:Nat} {y:Dn} {v:Value} (hy:D[k]? =some y) (hv:vs[k]? =some v):fO v y.r.pk∈Oj D vs:=
 List.mem_of_getElem? (i:=k) (by rw[List.getElem?_zipWith,hy,hv])
theorem QM {D:List Dn} {vs:List Value} (h:vs.length=D.length) (y:Dn) (v:Value):Oj (D++[y]) (vs++[v])=Oj D vs++[fO v y.r.pk]:=by
 unfold Oj;rw[List.zipWith_append h.symm]
 rfl
def sD (S:List Nat) (w0:World) (As:List HA) (D:List Dn) (k:Nat) (oa:Option Addr) (c:Nat) (w:World):Prop:=∃ svs:List Value,svs.length=k∧Scope S w0 w (aU (.slice oa k c) 62 12 k (recs bG (List.zip (D.take k) svs))::(Oj (D.take k) svs++As))
theorem sD.sub {k:Nat} {oa:Option Addr} {c:Nat} (h:sD S w0 As D k oa c w):∃ Xs,Scope S w0 w (Xs++As):=by
 obtain⟨svs,_,s⟩:=h
 exact⟨aU (.slice oa k c) 62 12 k (recs bG (List.zip (D.take k) svs))::Oj (D.take k) svs,s⟩
theorem sD.alloc {k:Nat} {oa:Option Addr} {c:Nat} (h:sD S w0 As D k oa c w) (o:Obj):sD S w0 As D k oa c (w.alloc o):=by
 obtain⟨svs,h1,s⟩:=h
 exact⟨svs,h1,s.alloc o⟩
theorem FM (hp:gQ A p g 1 st lf∈As) (hg:box g [lv,dv,.nilFunc] 94∈As) (hd:iI dv D vs∈As) (hv:vs.length=D.length) (ht:∀ (k:Nat) y v,D[k]? =some y→vs[k]? =some v→fO v y.r.pk∈As) (hD0:0<D.length) (hD:D.length≤100) (hf:∀ y∈D,lJ y.r.pk) (hlv:∃ o n c,lv=.slice o n c) (h:Scope S w0 w As):
  Calls prog 19 #[ptr p] w fun e w'=>∃ oa c,e=.returned (.slice oa D.length c)∧sD S w0 As D D.length oa c w':=by
 obtain⟨o1,n1,c1,rfl⟩:=hlv;obtain⟨gd,cd,hdv⟩:∃ gd cd,dv=.slice (some ⟨gd,0,none⟩) D.length cd:=by
  rcases ownsRow_form (h.zL hd)with⟨e,h0⟩|⟨g,cap,e,_⟩
  ·omega
  ·exact⟨g,cap,e⟩
 subst hdv;obtain⟨n,hn⟩:∃ n,n=D.length:=⟨_,rfl⟩
 have facts:∀ (w':World) (Xs:List HA),Scope S w0 w' (Xs++As)→At w' p 1 (.slice (some ⟨g,0,none⟩) 1 1)∧At w' g 0 (.slice o1 n1 c1)∧At w' g 1 (.slice (some ⟨gd,0,none⟩) n cd)∧At w' g 2 .nilFunc:=fun w' Xs s=>by
  have rp:=s.sW (k:=p) (List.mem_append_right Xs hp);have rg:=s.sW (k:=g) (List.mem_append_right Xs hg);rw[hn]
  exact⟨rp.cell rfl,rg.cell rfl,rg.cell rfl,rg.cell rfl⟩
 have done:∀ (w':World) (Xs:List HA) (k:Nat) y v,D[k]? =some y→vs[k]? =some v→Scope S w0 w' (Xs++As)→(∀ j,j<12→w'.cell? ⟨gd,k*12+j,none⟩=(bG (y,v))[j]?)∧vk w' v y.r.pk:=fun w' Xs k y v hy hv s=>by
  refine⟨fun j hj=>?_,vk.jk (s.zL (List.mem_append_right Xs (ht k y v hy hv)))⟩;have h1:=iJ (c:=bG) (n:=12) qg (L:=List.zip D vs) (k:=k) (x:=(y,v)) (by rw[List.getElem?_zip_eq_some];exact⟨hy,hv⟩) hj;have hj2:j<(bG (y,v)).length:=by rw[qg];exact hj
  rw[List.getElem?_eq_getElem hj2]at h1 ⊢
  exact dw (s.zL (List.mem_append_right Xs hd)) rfl h1
 obtain⟨i1,hi1⟩:=Option.isSome_iff_exists.1 (show(prog.info? 62).isSome=true by kernel_rfl);obtain⟨hx0,hx1,hx2⟩:=lF 62 hi1 (z:=.agg #[J 0,J 0,J 0,J 0,J 0,J 0,J 0,nS,J 0,Ju 0,J 0,J 0]) (s:=12) (b:=112) (by kernel_rfl) (by kernel_rfl) (by kernel_rfl);have h0:sD S w0 As D 0 none 0 w:=⟨[],rfl,jX 62 12 h⟩
 have H0:=zd h0;have Facts:=zd facts;have DoneF:=zd done;have HN:=zd hn;have Hv:=zd hv;have Hf:=zd hf;have Hi1:=zd hi1;have Hx0:=zd hx0;have Hx1:=zd hx1;have Hx2:=zd hx2;rw[←hn]at hD0 hD ⊢
 have f0:=facts w [] h;obtain⟨p1,g0,g1,g2⟩:=f0;clear h hp hg hd ht h0 facts done hn hv hf hi1 hx0 hx1 hx2
 go_enter func19,ntmps19
 go_wp2_with fail
 clear p1 g0 g1 g2
 go_loopw [3,13] (fun a b wr=>(b=J 0∧a=nS∧sD S w0 As D 0 none 0 wr)∨(b=J 1∧∃ oa c,a=.slice oa n c∧sD S w0 As D n oa c wr)) (fun _ b _=>1 - (intOf b).toNat)
 case atStart=>exact .inl ⟨rfl,rfl,H0.out⟩
 case round=>
  rcases hrel with⟨rfl,rfl,h1⟩|⟨rfl,oa,c,rfl,h1⟩
  ·obtain⟨Xs,s1⟩:=h1.sub
   obtain⟨p1,g0,g1,g2⟩:=Facts.out wr Xs s1;have H1:=zd h1;clear h1 s1 H0
   go_wp2_with fail
   clear p1 g0 g1 g2;have h2:=H1.out.alloc (.cells #[.slice o1 n1 c1,.slice (some ⟨gd,0,none⟩) n cd,.nilFunc] 94);have H2:=zd h2;clear h2 H1
   go_loopw [3,20] (fun a b wr=>∃ (k c:Nat) (oa:Option Addr),a=.slice oa k c∧b=J (k:Nat)∧k≤n∧sD S w0 As D k oa c wr) (fun _ b _=>n - (intOf b).toNat)
   case atStart=>exact⟨0,0,none,rfl,rfl,by omega,H2.out⟩
   case round=>
    obtain⟨k,c,oa,rfl,rfl,hk,h1⟩:=hrel;have H1:=zd h1;clear h1 H2
    by_cases hkn:k<n
    ·obtain⟨svs,hsv,s1⟩:=H1.out
     obtain⟨y,hy⟩:∃ y,D[k]? =some y:=⟨_,List.getElem?_eq_getElem (by rw[←HN.out];exact hkn)⟩
     obtain⟨v,hvk⟩:∃ v,vs[k]? =some v:=⟨_,List.getElem?_eq_getElem (by rw[Hv.out, ←HN.out];exact hkn)⟩
     obtain⟨hcell,hpk⟩:=DoneF.out wr (aU (.slice oa k c) 62 12 k (recs bG (List.zip (D.take k) svs))::Oj (D.take k) svs) k y v hy hvk s1;have hfew:=Hf.out y (List.mem_of_getElem? hy);obtain⟨who,pla,⟨co,cf,ca,cb⟩,⟨re,pk,rn,rv⟩,fr,tt⟩:=y;obtain⟨ov,cv,rfl⟩:=hpk.form;obtain⟨m,hm⟩:∃ m,m=pk.length:=⟨_,rfl⟩
     have hpk:vk wr (.slice ov pk.length cv) pk:=hpk;have hfew:lJ pk:=hfew;rw[←hm]at hpk;have d0:At wr gd (k*12) (J who):=hcell 0 (by omega);have d1:At wr gd (k*12+1) (J pla):=hcell 1 (by omega);have d2:At wr gd (k*12+2) (J co):=hcell 2 (by omega);have d3:At wr gd (k*12+3) (J cf):=hcell 3 (by omega);have d4:At wr gd (k*12+4) (J ca):=hcell 4 (by omega);have d5:At wr gd (k*12+5) (J cb):=hcell 5 (by omega);have d6:At wr gd (k*12+6) (J re):=hcell 6 (by omega);have d7:wr.cell? ⟨gd,k*12+7,none⟩=some (.slice ov m cv):=by rw[hm];exact hcell 7 (by omega)
     have d8:At wr gd (k*12+8) (J rn):=hcell 8 (by omega);have d9:At wr gd (k*12+9) (Ju rv):=hcell 9 (by omega);have d10:At wr gd (k*12+10) (J fr):=hcell 10 (by omega);have d11:At wr gd (k*12+11) (J tt):=hcell 11 (by omega);have k1:(k:Int)<(n:Nat):=by omega
     have k2:(0:Int)≤(k:Nat):=by omega
     obtain⟨E,hE⟩:∃ E,E=wr.heap.size:=⟨_,rfl⟩
     have s2:=s1.box [J who,J pla,J co,J cf,J ca,J cb,J re,.slice ov m cv,J rn,Ju rv,J fr,J tt] 62;rw[←hE]at s2;have S2:=zd s2;have HPk:=zd (hpk.iZ ((dE.refl [] wr).alloc (.cells [J who,J pla,J co,J cf,J ca,J cb,J re,.slice ov m cv,J rn,Ju rv,J fr,J tt].toArray 62)));have HFew:=zd hfew;have HM:=zd hm;have HY:=zd hy;have HE:=zd hE;have HSv:=zd hsv;clear s1 s2 hcell hpk hfew hm hy hvk hE H1 hsv
     go_wp2_with fail
     clear d0 d1 d2 d3 d4 d5 d6 d7 d8 d9 d10 d11;rw[←HE.out];refine(qN HPk.out HFew.out).mono ?_
     rintro e w5 ⟨sv,rfl,own,iZ,fresh⟩
     obtain⟨osv,csv,rfl⟩:=(vk.jk own).form;rw[←HM.out]at own fresh ⊢
     have s3:=S2.out.joinL (dh (A:=aU (.slice osv m csv) 64 3 m (iU pk)) ⟨own,rfl⟩) iZ (fun q hq=>fresh q (by simpa using hq));have s3:Scope S w0 w5 ((aU (.slice osv m csv) 64 3 m (iU pk)::aU (.slice oa k c) 62 12 k (recs bG (List.zip (D.take k) svs))::(Oj (D.take k) svs++As))++([box E [J who,J pla,J co,J cf,J ca,J cb,J re,.slice ov m cv,J rn,Ju rv,J fr,J tt] 62]++[])):=s3;have re':=s3.sW (k:=E) (vs:=[J who,J pla,J co,J cf,J ca,J cb,J re,.slice ov m cv,J rn,Ju rv,J fr,J tt]) (t:=62) (by simp);have c0:=re'.cell (j:=0) rfl;have c1':=re'.cell (j:=1) rfl;have c2:=re'.cell (j:=2) rfl;have c3:=re'.cell (j:=3) rfl;have c4:=re'.cell (j:=4) rfl;have c5:=re'.cell (j:=5) rfl;have c6:=re'.cell (j:=6) rfl;have c7:=re'.cell (j:=7) rfl;have c8:=re'.cell (j:=8) rfl;have c9:=re'.cell (j:=9) rfl;have c10:=re'.cell (j:=10) rfl;have c11:=re'.cell (j:=11) rfl;have f7:=re'.free 7;have s4:=Scope.au s3 7 (.slice osv m csv);have s4:Scope S w0 (w5.setCell ⟨E,7,none⟩ (.slice osv m csv)) (aU (.slice oa k c) 62 12 k (recs bG (List.zip (D.take k) svs))::aU (.slice osv m csv) 64 3 m (iU pk)::(Oj (D.take k) svs++As++[box E [J who,J pla,J co,J cf,J ca,J cb,J re,.slice osv m csv,J rn,Ju rv,J fr,J tt] 62])):=Scope.swap2 s4;have s5:=s4.box [J who,J pla,J co,J cf,J ca,J cb,J re,.slice osv m csv,J rn,Ju rv,J fr,J tt] 62;have hsz:(w5.setCell ⟨E,7,none⟩ (.slice osv m csv)).heap.size=w5.heap.size:=by simp
     have hrow:=Row.new (w5.setCell ⟨E,7,none⟩ (.slice osv m csv)) [J who,J pla,J co,J cf,J ca,J cb,J re,.slice osv m csv,J rn,Ju rv,J fr,J tt] 62;rw[hsz]at hrow s5;have HRow:=zd hrow;have S5:=zd s5;clear hrow hsz;clear own iZ fresh s3 s4 s5 re' S2 HPk
     go_wp2_with (at_builtin;go_must (refine wpList_append_lies _ rfl _ _ 56 rfl 0 62 i1 _ 12 112 underlying56 Hi1.out Hx0.out Hx1.out Hx2.out rfl (by omega) (.slice oa k c) k (recs bG (List.zip (D.take k) svs)) rfl (S5.out.jb 0 rfl) ⟨w5.heap.size,0,none⟩ 1 1 [J who,J pla,J co,J cf,J ca,J cb,J re,.slice osv m csv,J rn,Ju rv,J fr,J tt] rfl rfl (pz HRow.out) (by simp[Value.oneCell']) (by omega) (by unfold maxLen;omega) (by omega) (by omega) _ rfl ?_);intro gg cap w6 own gro hat hlt;have S6:=zd (Scope.appends S5.out own gro hat);clear own gro hat hlt)
     have htk:D.take (k+1)=D.take k++[⟨who,pla,⟨co,cf,ca,cb⟩,⟨re,pk,rn,rv⟩,fr,tt⟩]:=by rw[List.take_add_one,HY.out];rfl
     have hl:svs.length=(D.take k).length:=by rw[HSv.out,List.length_take, ←HN.out];omega
     refine⟨⟨k+1,cap,some ⟨gg,0,none⟩,rfl,lh k,hkn,svs++[.slice osv m csv],by simp[HSv.out],?_⟩,measS hkn⟩;rw[htk,uz hl,QM hl];have s6:=S6.out;have e:fO (.slice osv m csv) pk=aU (.slice osv m csv) 64 3 m (iU pk):=by rw[HM.out]
     rw[←e]at s6;have s7:Scope S w0 w6 (((aU (.slice (some ⟨gg,0,none⟩) (k+1) cap) 62 12 (k+1) (recs bG (List.zip (D.take k) svs)++bG (⟨who,pla,⟨co,cf,ca,cb⟩,⟨re,pk,rn,rv⟩,fr,tt⟩,.slice osv m csv))::fO (.slice osv m csv) pk::(Oj (D.take k) svs++As))++[box E _ 62])++[box w5.heap.size _ 62]):=s6;refine Scope.perm s7.drop.drop (List.Perm.cons _ ?_);rw[List.append_assoc]
     exact List.perm_middle.symm
    ·obtain rfl:k=n:=by omega
     go_wp2
     exact⟨.inr ⟨rfl,oa,c,rfl,H1.out⟩,by simp[intOf]⟩
  ·have H1:=zd h1
   clear h1
   go_wp2
   go_ret
   exact⟨oa,c,rfl,H1.out⟩
end
section
variable {S:List Nat} {w0 w:World} {As:List HA}
@[reducible] def VL (x:Pt×Value):Value:=.agg #[J x.1.step,J x.1.who,J x.1.place,J x.1.r.e,x.2,J x.1.r.n,Ju x.1.r.v]
theorem A7 (a:Int):Same 74 #[J a] (.bool false):=fun w=>by
 go_enter func74,ntmps74
 go_wp2
 go_ret
 exact⟨rfl,rfl⟩
theorem UD {a b:Int} (h:b<a):Same 56 #[J a,J b] (J 1):=fun w=>by
 have h1:¬ a<b:=by omega
 go_enter func56,ntmps56
 go_wp2_with fail
 refine(A7 a _).mono ?_
 rintro e w1 ⟨rfl,rfl⟩
 go_wp2_with fail
 refine(A7 b _).mono ?_
 rintro e w1 ⟨rfl,rfl⟩
 go_wp2
 go_ret
 exact⟨rfl,rfl⟩
theorem PZ {x y:Pt×Value} (h:y.1.step<x.1.step) (s:Scope S w0 w As) (hx:∃ o n c,x.2=.slice o n c) (hy:∃ o n c,y.2=.slice o n c):Calls prog 42 #[VL x,VL y] w fun e w'=>e=.returned (J 1)∧Scope S w0 w' As:=by
 obtain⟨⟨s1,p1,q1,⟨e1,k1,n1,v1⟩⟩,sv⟩:=x;obtain⟨⟨s2,p2,q2,⟨e2,k2,n2,v2⟩⟩,su⟩:=y;obtain⟨o1,m1,c1,rfl⟩:=hx;obtain⟨o2,m2,c2,rfl⟩:=hy;have h:s2<s1:=h;have S1:=zd s;have H:=zd h;have r1:=(Row.new w [J s1,J p1,J q1,J e1,.slice o1 m1 c1,J n1,Ju v1] 114).cell (j:=0) rfl;clear s h
 go_enter func42,ntmps42
 go_wp2_with fail
 refine(UD H.out _).mono ?_
 rintro e w1 ⟨rfl,rfl⟩
 go_wp2
 go_ret
 exact⟨rfl,(S1.out.alloc _).alloc _⟩
def zA (gp k:Nat) (x:Pt×Value) (w':World):Prop:=w'.cell? ⟨gp,k*7,none⟩=some (J x.1.step)∧w'.cell? ⟨gp,k*7+1,none⟩=some (J x.1.who)∧w'.cell? ⟨gp,k*7+2,none⟩=some (J x.1.place)∧w'.cell? ⟨gp,k*7+3,none⟩=some (J x.1.r.e)∧w'.cell? ⟨gp,k*7+4,none⟩=some (x.2)∧w'.cell? ⟨gp,k*7+5,none⟩=some (J x.1.r.n)∧w'.cell? ⟨gp,k*7+6,none⟩=some (Ju x.1.r.v)
theorem Jg {gp n cp:Nat} {x:Nat→Pt×Value} (hsort:∀ k,k+1<n→(x k).1.step<(x (k+1)).1.step) (hsv:∀ k,k<n→∃ o m c,(x k).2=.slice o m c) (hc:∀ w',Scope S w0 w' As→∀ k,k<n→zA gp k (x k) w') (hn:n≤12) (s:Scope S w0 w As):
  Calls prog 72 #[.slice (some ⟨gp,0,none⟩) n cp,J 0,J (n:Nat),.func (.func 42) #[] #[]] w fun e w'=>e=.returned (.tuple #[])∧Scope S w0 w' As:=by
 have S1:=zd s;have C:=zd hc;have Hso:=zd hsort;have Hsv:=zd hsv;clear s hc hsort hsv
 go_enter func72,ntmps72
 go_wp2_with fail
 go_loopw [8] (fun a wr=>∃ k:Nat,a=J ((k:Int)+1)∧k≤n∧Scope S w0 wr As) (fun a _=>n+1 - (intOf a).toNat)
 case atStart=>exact⟨0,rfl,by omega,S1.out⟩
 case round=>
  obtain⟨k,rfl,hk,s⟩:=hrel;have S2:=zd s;clear s S1
  by_cases hkn:k+1<n
  ·have k1:(k:Int)+1<(n:Nat):=by omega
   have k2:(0:Int)<(k:Int)+1:=by omega
   have k3:(0:Int)≤(k:Nat):=by omega
   have k4:(k:Int)<(n:Nat):=by omega
   go_wp2_with fail
   go_loopw [9] (fun a wr=>a=J ((k+1:Nat):Int)∧Scope S w0 wr As) (fun _ _=>0)
   case atStart=>exact⟨rfl,S2.out⟩
   case round=>
    obtain⟨rfl,s⟩:=hrel;have k5:(0:Int)<((k+1:Nat):Int):=by omega
    have k6:(0:Int)≤((k+1:Nat):Int):=by omega
    have k7:((k+1:Nat):Int)<(n:Nat):=by omega
    have k8:IntKind.i64.wrap (((k+1:Nat):Int) - 1)=(k:Nat):=by rw[IntKind.wrap_i64];omega
    obtain⟨q,hq⟩:∃ q,q=k+1:=⟨_,rfl⟩
    rw[←hq]at k5 k6 k7 k8 ⊢
    go_upto_region 4 with fail
    refine aP (by kernel_rfl) ?_;have sd:=s.drew;generalize wr.drew=V at sd ⊢
    have h0:zA gp q (x q) V∧zA gp k (x k) V:=⟨C.out V sd q (by omega),C.out V sd k (by omega)⟩
    obtain⟨oq,mq,cq,eq⟩:=Hsv.out q (by omega);obtain⟨ok,mk,ck,ek⟩:=Hsv.out k (by omega);have hst:=Hso.out k (by omega);rw[←hq]at hst;have hqn:q<n:=by omega
    have hq0:0<q:=by omega
    have hkn2:k<n:=by omega
    have HQ:=zd hq;clear hq;have Sd:=zd sd;have H0:=zd h0;have Hst:=zd hst;have Eq':=zd eq;have Ek:=zd ek;clear sd s hst eq ek S2;refine aY [0,1,2,3] ?_
    repeat (refine ay _ rfl (by kernel_rfl) (fun _ _ _ h=>h) (fun w'=>by(try simp only[ag,ah,aj]);go_simp;try with_reducible rfl) ?_;try simp only[Act.put,ag,ah,aj,aF,aB,aC])
    refine aH ?_;refine aY [4,5,6,7,9,10,11,12] ?_
    repeat (refine ay _ rfl (by kernel_rfl) (fun _ _ _ h=>h) (fun w'=>by(try simp only[ag,ah,aj]);go_simp;try with_reducible rfl) ?_;try simp only[Act.put,ag,ah,aj,aF,aB,aC])
    refine aH ?_;refine cu (fun w'=>zA gp q (x q) w'∧zA gp k (x k) w') [8,13,14] [8,13] ?_
    repeat (refine aN _ rfl (by kernel_rfl) (fun _ _ _ h=>h) h0 (fun w' hS=>by unfold zA at hS;(try simp only[ag,ah,aj]);go_simp;try with_reducible rfl) ?_;try simp only[Act.put,ag,ah,aj,aF,aB,aC])
    refine bM ?_;refine aK 14 (by kernel_rfl) rfl (by rfl) fun K hK=>?_
    go_simp;refine(PZ (x:=x q) (y:=x k) Hst.out Sd.out ⟨_,_,_,Eq'.out⟩ ⟨_,_,_,Ek.out⟩).mono ?_
    rintro e w2 ⟨rfl,s2⟩
    have h1:zA gp q (x q) w2∧zA gp k (x k) w2:=⟨C.out w2 s2 q hqn,C.out w2 s2 k hkn2⟩
    refine hK _ _ ⟨fun _=>h1,?_⟩;have S3:=zd s2;clear hK K h0 H0 h1 s2 Sd
    try simp only[Act.put,ag,ah,aj,aF,aB,aC]
    refine dB [] (bH (by kernel_rfl) ?_);refine aY [15,16] ?_
    repeat (refine ay _ rfl (by kernel_rfl) (fun _ _ _ h=>h) (fun w'=>by(try simp only[ag,ah,aj]);go_simp;try with_reducible rfl) ?_;try simp only[Act.put,ag,ah,aj,aF,aB,aC])
    refine aH ?_;refine wpAny_done (by kernel_rfl) ?_ _
    go_wp2
    exact⟨⟨k+1,rfl,by omega,S3.out⟩,by simp[intOf];omega⟩
  ·have k1:¬ (k:Int)+1<(n:Nat):=by omega
   go_wp2
   go_end0
   exact⟨rfl,S2.out⟩
theorem EW {gp n cp:Nat} {x:Nat→Pt×Value} (hsort:∀ k,k+1<n→(x k).1.step<(x (k+1)).1.step) (hsv:∀ k,k<n→∃ o m c,(x k).2=.slice o m c) (hc:∀ w',Scope S w0 w' As→∀ k,k<n→zA gp k (x k) w') (hn:n≤12) (s:Scope S w0 w As):
  Calls prog 41 #[.slice (some ⟨gp,0,none⟩) n cp,.func (.func 42) #[] #[]] w fun e w'=>e=.returned (.tuple #[])∧Scope S w0 w' As:=by
 have D:=zd (Jg (cp:=cp) hsort hsv hc hn s);have n1:¬ (20:Int)≤(n:Nat):=by omega
 have n2:¬ (20:Int)<(n:Nat):=by omega
 clear hsort hsv hc s;have d2:Calls prog 55 #[.slice (some ⟨gp,0,none⟩) n cp,J (n:Nat),.func (.func 42) #[] #[]] w fun e w'=>e=.returned (.tuple #[])∧Scope S w0 w' As:=by
  go_enter func55,ntmps55
  go_wp2_with fail
  go_loopw [7,8] (fun b c wr=>b=J 0∧c=J 20∧wr=w) (fun _ _ _=>0)
  case atStart=>exact⟨rfl,rfl,rfl⟩
  case round=>
   obtain⟨rfl,rfl,rfl⟩:=hrel
   go_wp2_with fail
   refine D.out.mono ?_
   rintro e w2 ⟨rfl,s2⟩
   have S2:=zd s2;clear s2
   go_wp2_with fail
   go_loopw [6] (fun a wr=>a=J 20∧Scope S w0 wr As) (fun _ _=>0)
   case atStart=>exact⟨rfl,S2.out⟩
   case round=>
    obtain⟨rfl,s3⟩:=hrel;have S3:=zd s3;clear s3
    go_wp2
    go_end0
    exact⟨rfl,S3.out⟩
 have D2:=zd d2;clear d2 D n1 n2
 go_enter func41,ntmps41
 go_wp2_with fail
 refine D2.out.mono ?_
 rintro e w2 ⟨rfl,s2⟩
 have S2:=zd s2;clear s2
 go_wp2
 go_end0
 exact⟨rfl,S2.out⟩
end
section
variable {A:PA} {S:List Nat} {w0 w:World} {As:List HA}
theorem FY {v:Value} {n:Nat} {xs:List Value} (h:w.ownsRow 0 114 7 v n xs) (h1:∀ u∈xs,u.oneCell'=true) (hl:xs.length=n*7) (hn:n≤1000):
  Calls prog 40 #[v] w (yM w 114 7 n xs):=by
 obtain⟨i0,hi⟩:=Option.isSome_iff_exists.1 (show(prog.info? 114).isSome=true by kernel_rfl);obtain⟨hz0,hz1,hz2⟩:=lF 114 hi (z:=.agg #[J 0,J 0,J 0,J 0,nS,J 0,Ju 0]) (s:=7) (b:=72) (by kernel_rfl) (by kernel_rfl) (by kernel_rfl)
 rcases ownsRow_form h with⟨rfl,rfl⟩|⟨g,cap,rfl,_⟩
 ·have e0:=fun w=>Lib.run_eql_slice_nil (P:=prog) w 74 114 none 0 0 0 0 underlying74
  obtain rfl:xs=[]:=List.eq_nil_of_length_eq_zero (by omega);have H':=zd h;clear h
  go_enter func40,ntmps40
  go_wp2
  go_ret
  exact⟨_,rfl,H'.out,dE.refl _ _,fun k hk=>by simp[Value.ownBlock]at hk⟩
 ·have e0:=fun w=>Lib.run_eql_slice_nil (P:=prog) w 74 114 (some ⟨g,0,none⟩) n cap 0 0 underlying74
  have hcell:∀ j u,xs[j]? =some u→(w.alloc (.cells #[] 114)).cell? ((⟨g,0,none⟩:Addr).add j)=some u:=fun j u hu=>((dE.refl [] w).alloc _).cell (by rw[add0];exact dw h rfl hu) (by simp)
  have hown:(w.alloc (.cells #[] 114)).ownsRow 0 114 7 (.slice (some ⟨w.heap.size,0,none⟩) 0 0) 0 []:=World.ownsRow_made w #[] 0 (by omega) (by unfold maxLen;omega) (by simp);have Hl:=zd hl;have Hcell:=zd hcell;have H1:=zd h1;have Hown:=zd hown;clear h hcell hown h1 hl
  go_enter func40,ntmps40
  go_wp2_with (at_builtin;go_must (refine wpList_append_own_at _ rfl (.tmp 5) (.tmp 6) 74 rfl 0 114 i0 _ 7 72 underlying74 hi hz0 hz1 hz2 rfl (by decide) (.slice (some ⟨w.heap.size,0,none⟩) 0 0) 0 [] rfl Hown.out ⟨g,0,none⟩ n cap xs rfl Hl.out Hcell.out H1.out (by unfold maxLen;omega) (by omega) (by omega) ?_);intro v' w1 hown' hgrow hnil hat)
  go_ret
  refine⟨v',rfl,by simpa using hown',((dE.refl _ _).alloc _).grown hgrow (fun k hk=>?_),fun k hk=>?_⟩
  ·simp[Value.ownBlock]at hk;subst hk;exact .inr (Nat.le_refl _)
  ·rcases hat with h|h
   ·rw[h]at hk;simp[Value.ownBlock]at hk;omega
   ·rw[h]at hk;simp at hk;omega
theorem IE {pt:List Pt} {sv:List Value} (h:∀ v∈sv,∃ o m c,v=.slice o m c):∀ u∈recs gG (List.zip pt sv),u.oneCell'=true:=fun u hu=>by
 unfold recs at hu;obtain⟨x,hx,hux⟩:=List.mem_flatMap.1 hu;obtain⟨o,m,c,e⟩:=h x.2 (List.of_mem_zip hx).2;simp only[gG,e,List.mem_cons,List.not_mem_nil,or_false]at hux
 rcases hux with rfl|rfl|rfl|rfl|rfl|rfl|rfl<;>rfl
theorem zM {c:Gh} {pt:List Pt} (hpb:rZ A c∈As) (hpt:aU c.vp 114 7 pt.length (recs gG (List.zip pt c.sv))∈As) (hsv:c.sv.length=pt.length) (hpk:∀ (k:Nat) x v,pt[k]? =some x→c.sv[k]? =some v→aU v 64 3 x.r.pk.length (iU x.r.pk)∈As)
  (hn0:0<pt.length) (hn:pt.length≤12) (hsort:∀ (k:Nat) x y,pt[k]? =some x→pt[k+1]? =some y→x.step<y.step) (hf:∀ x∈pt,lJ x.r.pk) (h:Scope S w0 w As):
  Calls prog 29 #[ptr A.P] w fun e w'=>∃ oa cc,e=.returned (.slice oa pt.length cc)∧∃ Xs,Scope S w0 w' (Xs++As):=by
 have slices:∀ v∈c.sv,∃ o m cc,v=.slice o m cc:=fun v hv=>by
  obtain⟨k,hk⟩:=List.getElem?_of_mem hv;have hkl:=(List.getElem?_eq_some_iff.1 hk).1;have h1:=vk.jk (h.zL (hpk k _ v (List.getElem?_eq_getElem (by omega)) hk));obtain⟨o,cc,e⟩:=h1.form
  exact⟨o,_,cc,e⟩
 have hrow:=h.zL hpt;obtain⟨g0,c0,hvp⟩:∃ g0 c0,c.vp=.slice (some ⟨g0,0,none⟩) pt.length c0:=by
  rcases ownsRow_form hrow with⟨e,h0⟩|⟨g,cap,e,_⟩
  ·omega
  ·exact⟨g,cap,e⟩
 have p8:w.cell? ⟨A.P,12,none⟩=some (.slice (some ⟨g0,0,none⟩) pt.length c0):=by
  have h1:=(h.sW (k:=A.P) hpb).cell (j:=12) rfl;rw[h1,hvp]
 have hone:=IE (pt:=pt) slices;have hlen:(recs gG (List.zip pt c.sv)).length=pt.length*7:=by rw[kP (n:=7) yK,List.length_zip,hsv,Nat.min_self]
 rw[hvp]at hrow;have D:=zd (FY hrow hone hlen (by omega));have H:=zd h;have HPk:=zd hpk;have Hsv:=zd hsv;have Hso:=zd hsort;have Hf:=zd hf;have HSl:=zd slices;obtain⟨i1,hi1⟩:=Option.isSome_iff_exists.1 (show(prog.info? 119).isSome=true by kernel_rfl);obtain⟨hx0,hx1,hx2⟩:=lF 119 hi1 (z:=.agg #[J 0,J 0,J 0,J 0,nS,J 0,Ju 0]) (s:=7) (b:=72) (by kernel_rfl) (by kernel_rfl) (by kernel_rfl);have Hi1:=zd hi1;have Hx0:=zd hx0;have Hx1:=zd hx1;have Hx2:=zd hx2;obtain⟨n,hnn⟩:∃ n,n=pt.length:=⟨_,rfl⟩
 have HN:=zd hnn;rw[←hnn]at p8 hn0 hn ⊢
 clear h hpk hsv hsort hf hpb hpt hrow hvp hone hlen hi1 hx0 hx1 hx2 slices hnn
 go_enter func29,ntmps29
 go_wp2_with fail
 have d:=D.out;rw[←HN.out]at d;refine d.mono ?_
 rintro e w1 ⟨v',rfl,own,iZ,fresh⟩
 obtain⟨gp,cp,rfl⟩:∃ gp cp,v'=.slice (some ⟨gp,0,none⟩) n cp:=by
  rcases ownsRow_form own with⟨e,h0⟩|⟨g,cap,e,_⟩
  ·omega
  ·exact⟨g,cap,e⟩
 have s2:Scope S w0 w1 (aU (.slice (some ⟨gp,0,none⟩) n cp) 114 7 n (recs gG (List.zip pt c.sv))::As):=H.out.joinL (dh (A:=aU (.slice (some ⟨gp,0,none⟩) n cp) 114 7 n (recs gG (List.zip pt c.sv))) ⟨own,rfl⟩) iZ (fun q hq=>fresh q (by simpa using hq))
 obtain⟨x,hx⟩:∃ x:Nat→Pt×Value,∀ k,k<n→pt[k]? =some (x k).1∧c.sv[k]? =some (x k).2:=⟨fun k=>(pt.getD k ⟨0,0,0,Rt.zero⟩,c.sv.getD k dW),fun k hk=>by
  have h1:k<pt.length:=by rw[←HN.out];exact hk
  have h2:k<c.sv.length:=by rw[Hsv.out];exact h1
  simp[List.getD,List.getElem?_eq_getElem h1,List.getElem?_eq_getElem h2]⟩
 have cells:∀ (w':World) (Xs:List HA),Scope S w0 w' (Xs++aU (.slice (some ⟨gp,0,none⟩) n cp) 114 7 n (recs gG (List.zip pt c.sv))::As)→∀ k,k<n→zA gp k (x k) w':=fun w' Xs s k hk=>by
  have ho:=s.zL (v:=.slice (some ⟨gp,0,none⟩) n cp) (t:=114) (size:=7) (n:=n) (xs:=recs gG (List.zip pt c.sv)) (by simp);have hz:(List.zip pt c.sv)[k]? =some (x k):=by rw[List.getElem?_zip_eq_some];exact hx k hk
  have g:=fun j hj=>iJ (c:=gG) (n:=7) yK (L:=List.zip pt c.sv) (k:=k) (x:=x k) hz (j:=j) hj
  have at':∀ j,j<7→∀ u,(gG (x k))[j]? =some u→At w' gp (k*7+j) u:=fun j hj u hu=>dw ho rfl ((g j hj).trans hu)
  exact⟨at' 0 (by omega) _ rfl,at' 1 (by omega) _ rfl,at' 2 (by omega) _ rfl,at' 3 (by omega) _ rfl,at' 4 (by omega) _ rfl,at' 5 (by omega) _ rfl,at' 6 (by omega) _ rfl⟩
 have S2:=zd s2;have HX:=zd hx;have C:=zd cells;clear own iZ fresh s2 hx cells p8 d
 go_wp2_with fail
 refine(EW (cp:=cp) (x:=x) (fun k hk=>Hso.out k _ _ (HX.out k (by omega)).1 (HX.out (k+1) hk).1) (fun k hk=>HSl.out _ (List.mem_of_getElem? (HX.out k hk).2)) (fun w' s k hk=>C.out w' [] s k hk) hn S2.out).mono ?_
 rintro e w2 ⟨rfl,s3⟩
 have S3:=zd s3;clear s3 S2
 go_wp2_with fail
 go_loopw [4,16] (fun a b wr=>∃ (k cc:Nat) (oa:Option Addr) (ys:List Value) (Xs:List HA),a=.slice oa k cc∧b=J (k:Nat)∧k≤n∧Scope S w0 wr (aU (.slice oa k cc) 119 7 k ys::(Xs++aU (.slice (some ⟨gp,0,none⟩) n cp) 114 7 n (recs gG (List.zip pt c.sv))::As))) (fun _ b _=>n - (intOf b).toNat)
 case atStart=>exact⟨0,0,none,[],[],rfl,rfl,by omega,jX 119 7 S3.out⟩
 case round=>
  obtain⟨k,cc,oa,ys,Xs,rfl,rfl,hk,s4⟩:=hrel;have S4:=zd s4;clear s4 S3
  by_cases hkn:k<n
  ·have hc:=C.out wr (aU (.slice oa k cc) 119 7 k ys::Xs) S4.out k hkn
   obtain⟨hx1',hx2'⟩:=HX.out k hkn;have hpk:=vk.jk (S4.out.zL (List.mem_cons_of_mem _ (List.mem_append_right Xs (List.mem_cons_of_mem _ (HPk.out k _ _ hx1' hx2')))));have hfew:=Hf.out _ (List.mem_of_getElem? hx1');obtain⟨xk,hxk⟩:∃ xk,x k=xk:=⟨_,rfl⟩
   rw[hxk]at hc hpk hfew;obtain⟨⟨st,who,pla,⟨re,pk,rn,rv⟩⟩,sv⟩:=xk;obtain⟨ov,cv,hsv'⟩:=hpk.form;have hsv':sv=.slice ov pk.length cv:=hsv';subst hsv';have hpk:vk wr (.slice ov pk.length cv) pk:=hpk;have hfew:lJ pk:=hfew;obtain⟨m,hm⟩:∃ m,m=pk.length:=⟨_,rfl⟩
   unfold zA at hc;rw[←hm]at hpk hc;obtain⟨d0,d1,d2,d3,d4,d5,d6⟩:=hc;have k1:(k:Int)<(n:Nat):=by omega
   have k2:(0:Int)≤(k:Nat):=by omega
   obtain⟨E,hE⟩:∃ E,E=wr.heap.size:=⟨_,rfl⟩
   have s5:=S4.out.box [J st,J who,J pla,J re,.slice ov m cv,J rn,Ju rv] 114;rw[←hE]at s5;have S5:=zd s5;have HPk2:=zd (hpk.iZ ((dE.refl [] wr).alloc (.cells [J st,J who,J pla,J re,.slice ov m cv,J rn,Ju rv].toArray 114)));have HFew:=zd hfew;have HM:=zd hm;have HE:=zd hE;clear s5 hpk hfew hm hE hx1' hx2' hxk S4
   go_wp2_with fail
   clear d0 d1 d2 d3 d4 d5 d6;rw[←HE.out];refine(zx (r:=⟨re,pk,rn,rv⟩) (sv:=.slice ov m cv) S5.out (by rw[HM.out]at HPk2;exact(by rw[HM.out];exact HPk2.out)) HFew.out).mono ?_
   rintro e w5 ⟨osv,csv,rfl,s6⟩
   rw[show(Rt.mk re pk rn rv).pk.length=m from HM.out.symm]at s6 ⊢
   have s6:Scope S w0 w5 ((aU (.slice osv m csv) 64 3 m (iU pk)::aU (.slice oa k cc) 119 7 k ys::(Xs++aU (.slice (some ⟨gp,0,none⟩) n cp) 114 7 n (recs gG (List.zip pt c.sv))::As))++([box E [J st,J who,J pla,J re,.slice ov m cv,J rn,Ju rv] 114]++[])):=s6;have re':=s6.sW (k:=E) (vs:=[J st,J who,J pla,J re,.slice ov m cv,J rn,Ju rv]) (t:=114) (by simp);have c0:=re'.cell (j:=0) rfl;have c1:=re'.cell (j:=1) rfl;have c2:=re'.cell (j:=2) rfl;have c3:=re'.cell (j:=3) rfl;have c4:=re'.cell (j:=4) rfl;have c5:=re'.cell (j:=5) rfl;have c6:=re'.cell (j:=6) rfl;have f3:=re'.free 3;have f4:=re'.free 4;have f5:=re'.free 5;have f6:=re'.free 6;have s7:=Scope.au (Scope.au (Scope.au (Scope.au s6 3 (J re)) 4 (.slice osv m csv)) 5 (J rn)) 6 (Ju rv);have s7:Scope S w0 _ (aU (.slice oa k cc) 119 7 k ys::aU (.slice osv m csv) 64 3 m (iU pk)::((Xs++aU (.slice (some ⟨gp,0,none⟩) n cp) 114 7 n (recs gG (List.zip pt c.sv))::As)++[box E [J st,J who,J pla,J re,.slice osv m csv,J rn,Ju rv] 114])):=Scope.swap2 s7;have s8:=s7.box [J st,J who,J pla,J re,.slice osv m csv,J rn,Ju rv] 119;have hrow:=Row.new ((((w5.setCell ⟨E,3,none⟩ (J re)).setCell ⟨E,4,none⟩ (.slice osv m csv)).setCell ⟨E,5,none⟩ (J rn)).setCell ⟨E,6,none⟩ (Ju rv)) [J st,J who,J pla,J re,.slice osv m csv,J rn,Ju rv] 119;have hsz:((((w5.setCell ⟨E,3,none⟩ (J re)).setCell ⟨E,4,none⟩ (.slice osv m csv)).setCell ⟨E,5,none⟩ (J rn)).setCell ⟨E,6,none⟩ (Ju rv)).heap.size=w5.heap.size:=by simp
   rw[hsz]at hrow s8;have HRow:=zd hrow;have S8:=zd s8;clear s6 re' s7 s8 hrow hsz S5 HPk2
   go_wp2_with (at_builtin;go_must (refine wpList_append_lies _ rfl _ _ 65 rfl 0 119 i1 _ 7 72 underlying65 Hi1.out Hx0.out Hx1.out Hx2.out rfl (by omega) (.slice oa k cc) k ys rfl (S8.out.jb 0 rfl) ⟨w5.heap.size,0,none⟩ 1 1 [J st,J who,J pla,J re,.slice osv m csv,J rn,Ju rv] rfl rfl (pz HRow.out) (by simp[Value.oneCell']) (by omega) (by unfold maxLen;omega) (by omega) (by omega) _ rfl ?_);intro gg cap w6 own gro hat hlt;have S6:=zd (Scope.appends S8.out own gro hat);clear own gro hat hlt)
   refine⟨⟨k+1,cap,some ⟨gg,0,none⟩,ys++[J st,J who,J pla,J re,.slice osv m csv,J rn,Ju rv],aU (.slice osv m csv) 64 3 m (iU pk)::Xs,rfl,lh k,hkn,?_⟩,measS hkn⟩;have s9:Scope S w0 w6 (((aU (.slice (some ⟨gg,0,none⟩) (k+1) cap) 119 7 (k+1) (ys++[J st,J who,J pla,J re,.slice osv m csv,J rn,Ju rv])::aU (.slice osv m csv) 64 3 m (iU pk)::(Xs++aU (.slice (some ⟨gp,0,none⟩) n cp) 114 7 n (recs gG (List.zip pt c.sv))::As))++[box E [J st,J who,J pla,J re,.slice osv m csv,J rn,Ju rv] 114])++[box w5.heap.size [J st,J who,J pla,J re,.slice osv m csv,J rn,Ju rv] 119]):=S6.out
   exact s9.drop.drop
  ·obtain rfl:k=n:=by omega
   go_wp2
   go_ret
   refine⟨oa,cc,rfl,aU (.slice oa k cc) 119 7 k ys::(Xs++[aU (.slice (some ⟨gp,0,none⟩) k cp) 114 7 k (recs gG (List.zip pt c.sv))]),?_⟩
   have:=S4.out
   simpa using this
theorem zS {c:Gh} {pt:List Pt} {p g n0:Nat} {st lf:Int} (hp:gQ A p g n0 st lf∈As) (hpb:rZ A c∈As) (hpt:aU c.vp 114 7 pt.length (recs gG (List.zip pt c.sv))∈As) (hsv:c.sv.length=pt.length) (hpk:∀ (k:Nat) x v,pt[k]? =some x→c.sv[k]? =some v→aU v 64 3 x.r.pk.length (iU x.r.pk)∈As)
  (hn0:0<pt.length) (hn:pt.length≤12) (hsort:∀ (k:Nat) x y,pt[k]? =some x→pt[k+1]? =some y→x.step<y.step) (hf:∀ x∈pt,lJ x.r.pk) (h:Scope S w0 w As):
  Calls prog 20 #[ptr p] w fun e w'=>∃ oa cc,e=.returned (.slice oa pt.length cc)∧∃ Xs,Scope S w0 w' (Xs++As):=by
 have D:=zd (zM hpb hpt hsv hpk hn0 hn hsort hf h);have p0:At w p 0 (ptr A.P):=(h.sW (k:=p) hp).cell rfl;clear hp hpb hpt hsv hpk hsort hf h
 go_enter func20,ntmps20
 go_wp2_with fail
 refine D.out.mono ?_
 rintro e w1 ⟨oa,cc,rfl,Xs,s1⟩
 have S1:=zd s1;clear s1 p0
 go_wp2
 go_ret
 exact⟨oa,cc,rfl,Xs,S1.out⟩
end
def awA (P m ib nb tb po ba br co mp:Nat):PA:=⟨P,m,ib,nb,tb,po,ba,br,co,mp,1,1,1,0,1⟩
def xM:List Cl:=[⟨1,3,1,1⟩,⟨3,3,2,5⟩,⟨4,0,0,0⟩]
def UY:List (List Cl):=[xM]
def yj:List Dn:=[⟨0,0,⟨1,3,1,1⟩,⟨0,[],0,0⟩,0,4⟩,⟨0,1,⟨3,3,2,5⟩,⟨0,[],0,0⟩,5,16⟩,⟨0,2,⟨4,0,0,0⟩,⟨0,[⟨3,2,5⟩],0,0⟩,17,40⟩]
def Gg:List Pt:=[⟨3,0,0,⟨0,[],0,0⟩⟩,⟨10,0,1,⟨0,[],0,0⟩⟩,⟨27,0,2,⟨0,[⟨3,2,5⟩],0,0⟩⟩]
section
variable (P m ib nb tb po ba br co mp:Nat)
theorem RD:(WS.run (awA P m ib nb tb po ba br co mp) UY [] 200).left=0:=by kernel_rfl
theorem Vw:(WS.run (awA P m ib nb tb po ba br co mp) UY [] 200).s.pt=Gg:=by kernel_rfl
theorem UZ:(WS.run (awA P m ib nb tb po ba br co mp) UY [] 200).ks=[⟨xM,yj,none⟩]:=by kernel_rfl
end
section
variable {S:List Nat} {w0 w:World} {Bs:List HA}
theorem UW:TL 1 1 1 0 1:=⟨by omega,by omega,by omega,by omega,by omega,by omega,by omega,by omega,by omega⟩
theorem Vr:uS xM:=fun c hc=>by
 simp only[xM,List.mem_cons,List.not_mem_nil,or_false]at hc
 rcases hc with rfl|rfl|rfl
 ·exact .of (by omega) (by omega) (by omega) (by omega)
 ·exact .of (by omega) (by omega) (by omega) (by omega)
 ·exact .of (by omega) (by omega) (by omega) (by omega)
theorem U6 (v:Value):uw 1 43 [(v,xM)]:=⟨rfl,(by decide:3≤43),fun z hz=>by simp at hz;subst hz;exact Vr⟩
theorem U1 {g B:Nat} (h:Scope S w0 w ((((bP::Bs)++[box g (recs Cl.cells xM) 49])++[box (g+1) [.slice (some ⟨g,0,none⟩) 3 3] 46])++[box B [J 1,J 1,J 1,J 0,Ju 1,.slice (some ⟨g+1,0,none⟩) 1 1] 28])):
  Scope S w0 w (bP::(uF (g+1) [(.slice (some ⟨g,0,none⟩) 3 3,xM)]++(aU (.slice none ([]:List Nat).length 0) 3 1 ([]:List Nat).length (pv [])::(Bs++[box B [J 1,J 1,J 1,J 0,Ju 1,.slice (some ⟨g+1,0,none⟩) 1 1] 28])))):=by
 have h1:Scope S w0 w (box g (recs Cl.cells xM) 49::([box (g+1) [.slice (some ⟨g,0,none⟩) 3 3] 46,bP]++(Bs++[box B [J 1,J 1,J 1,J 0,Ju 1,.slice (some ⟨g+1,0,none⟩) 1 1] 28]))):=Scope.perm h (by
  rw[List.append_assoc,List.append_assoc];refine(List.Perm.cons bP (List.perm_middle (l₁:=Bs) (l₂:=[box (g+1) [.slice (some ⟨g,0,none⟩) 3 3] 46]++[box B [J 1,J 1,J 1,J 0,Ju 1,.slice (some ⟨g+1,0,none⟩) 1 1] 28]) (a:=box g (recs Cl.cells xM) 49))).trans ?_;refine(List.Perm.swap _ _ _).trans (List.Perm.cons _ ?_);refine(List.Perm.cons bP (List.perm_middle (l₁:=Bs) (l₂:=[box B [J 1,J 1,J 1,J 0,Ju 1,.slice (some ⟨g+1,0,none⟩) 1 1] 28]) (a:=box (g+1) [.slice (some ⟨g,0,none⟩) 3 3] 46))).trans ?_
  exact List.Perm.swap _ _ _)
 have h2:=jX 3 1 (Scope.own (xs:=recs Cl.cells xM) (rest:=[]) (n:=3) (cap:=3) (size:=4) h1 (by omega) (by unfold maxLen;omega) rfl rfl)
 exact Scope.oP (As:=[aU (nS) 3 1 0 [],aU (.slice (some ⟨g,0,none⟩) 3 3) 49 4 3 (recs Cl.cells xM),box (g+1) [.slice (some ⟨g,0,none⟩) 3 3] 46,bP]) h2 [3,2,1,0] (by rfl)
structure VP (A:PA) (p gw:Nat) (W:WS) (Ys:List HA) (c:Gh) (lv dv:Value) (vs:List Value):Prop where
 pb:rZ A c∈Ys
 pt:aU c.vp 114 7 Gg.length (recs gG (List.zip Gg c.sv))∈Ys
 sv:c.sv.length=Gg.length
 pk:∀ (k:Nat) x v,Gg[k]? =some x→c.sv[k]? =some v→aU v 64 3 x.r.pk.length (iU x.r.pk)∈Ys
 wb:gQ A p gw 1 W.steps W.left∈Ys
 bx:box gw [lv,dv,.nilFunc] 94∈Ys
 dn:iI dv yj vs∈Ys
 vl:vs.length=yj.length
 tk:∀ (k:Nat) y v,yj[k]? =some y→vs[k]? =some v→fO v y.r.pk∈Ys
 ls:∃ o n c,lv=.slice o n c
theorem Tv {A:PA} {p gw:Nat} {W:WS} (hpt:W.s.pt=Gg) (hks:W.ks=[⟨xM,yj,none⟩]) (h:iV S w0 A p gw W Bs w):∃ Ys c lv dv vs,VP A p gw W Ys c lv dv vs∧Scope S w0 w (Ys++(bP::Bs)):=by
 obtain⟨⟨σ,nx,kc,jr,ck,ob,pl,pt⟩,ks,steps,left⟩:=W;have hpt:pt=Gg:=hpt;have hks:ks=[⟨xM,yj,none⟩]:=hks;subst hpt;subst hks;obtain⟨rs,zs,m1,m2,m3⟩:=h;have m1:zs.map Prod.fst=[⟨xM,yj,none⟩]:=m1;obtain⟨z,rfl⟩:=List.length_eq_one_iff.1 (show zs.length=1 by simpa using congrArg List.length m1);obtain⟨z1,lv,dv,vs,b⟩:=z;have hz:z1=⟨xM,yj,none⟩:=by simpa using m1
 subst hz;have s1:Scope S w0 w (iF A rs (⟨xM,yj,none⟩,⟨lv,dv,vs,b⟩)::(ae A rs ⟨σ,nx,kc,jr,ck,ob,pl,Gg⟩::bP::gQ A p gw 1 steps left::box gw [lv,dv,.nilFunc] 94::Bs)):=Scope.front (i:=4) m3 rfl;have s2:=Scope.gU (As:=Jp A rs (⟨xM,yj,none⟩,⟨lv,dv,vs,b⟩)) s1;have s2:Scope S w0 w (fact (vs.length=yj.length)::eF lv xM::iI dv yj vs::aG (Oj yj vs)::aG []::ae A rs ⟨σ,nx,kc,jr,ck,ob,pl,Gg⟩::bP::gQ A p gw 1 steps left::box gw [lv,dv,.nilFunc] 94::Bs):=s2;have hvs:=s2.fact 0 rfl;obtain⟨o1,c1,hlv⟩:=(Nu.jk (s2.jb 1 rfl)).form;have s3:=Scope.gU (Scope.front (i:=3) s2 rfl);have s3:Scope S w0 w ((Oj yj vs++[fact (vs.length=yj.length),eF lv xM,iI dv yj vs,aG []])++(ae A rs ⟨σ,nx,kc,jr,ck,ob,pl,Gg⟩::bP::gQ A p gw 1 steps left::box gw [lv,dv,.nilFunc] 94::Bs)):=by rw[List.append_assoc];exact s3
 obtain⟨c,hF,s4⟩:=Scope.dH (Scope.perm s3 List.perm_middle);have hsv:=hF.sv;have s5:=Scope.gU (Scope.front (i:=9) s4 rfl);obtain⟨X,hX⟩:∃ X,X=Oj yj vs++[fact (vs.length=yj.length),eF lv xM,iI dv yj vs,aG []]:=⟨_,rfl⟩
 rw[←hX]at s5;have s6:Scope S w0 w ((jW Gg c.sv++(bF A.m σ::rZ A c::OI A nx::LP A::LD A kc jr::eP A.co A.wd ck::jT A.mp pl::vM c rs ob::yG c Gg::(rings A.m rs ob++X)))++(bP::gQ A p gw 1 steps left::box gw [lv,dv,.nilFunc] 94::Bs)):=by
  simp only[List.append_assoc,List.cons_append]
  exact s5
 have s7:=Scope.perm s6 (List.Perm.append_left _ (List.perm_middle (l₁:=[gQ A p gw 1 steps left,box gw [lv,dv,.nilFunc] 94]) (l₂:=Bs) (a:=bP)).symm);rw[←List.append_assoc]at s7;refine⟨_,c,lv,dv,vs,?_,s7⟩;refine⟨by simp,by simp,hsv,fun k x v hx hv=>?_,by simp,by simp,by rw[hX];simp,hvs,fun k y v hy hv=>?_,⟨o1,_,c1,hlv⟩⟩
 ·have h1:aU v 64 3 x.r.pk.length (iU x.r.pk)∈jW Gg c.sv:=List.mem_of_getElem? (i:=k) (by unfold jW;rw[List.getElem?_zipWith,hx,hv])
  simp[h1]
 ·have h1:=RF hy hv
  rw[hX];simp only[List.mem_append,List.mem_cons]
  exact .inl (.inr (.inr (.inr (.inr (.inr (.inr (.inr (.inr (.inr (.inr (.inr (.inl h1))))))))))))
theorem FQ (h:Scope S w0 w (bP::Bs)):Calls prog 8 #[] w fun e w'=>e=.returned (.bool true)∧Scope S w0 w' (bP::Bs):=by
 have s1:=(h.box (recs Cl.cells xM) 49).box [.slice (some ⟨w.heap.size,0,none⟩) 3 3] 46;rw[show(w.alloc (.cells (recs Cl.cells xM).toArray 49)).heap.size=w.heap.size+1 by simp]at s1;have H:=zd s1;clear h s1
 go_enter func8,ntmps8
 go_upto_region 2 with fail
 have s2:=H.out.box [J 1,J 1,J 1,J 0,Ju 1,.slice (some ⟨w.heap.size+1,0,none⟩) 1 1] 28;obtain⟨g,hg⟩:∃ g,g=w.heap.size:=⟨_,rfl⟩
 obtain⟨B,hB⟩:∃ B,B=w.heap.size+1+1:=⟨_,rfl⟩
 rw[show((w.alloc (.cells (recs Cl.cells xM).toArray 49)).alloc (.cells [.slice (some ⟨w.heap.size,0,none⟩) 3 3].toArray 46)).heap.size=w.heap.size+1+1 by simp, ←hB, ←hg]at s2;rw[←hB, ←hg];obtain⟨V,hV⟩:∃ V,V=((w.alloc (.cells #[J 1,J 3,J 1,J 1,J 3,J 3,J 2,J 5,J 4,J 0,J 0,J 0] 49)).alloc (.cells #[.slice (some ⟨g,0,none⟩) 3 3] 46)).alloc (.cells #[J 1,J 1,J 1,J 0,Ju 1,.slice (some ⟨g+1,0,none⟩) 1 1] 28):=⟨_,rfl⟩
 have s3:=U1 (B:=B) (g:=g) (w:=V) (by rw[hV];exact s2);have rb:=s3.sW (k:=B) (vs:=[J 1,J 1,J 1,J 0,Ju 1,.slice (some ⟨g+1,0,none⟩) 1 1]) (t:=28) (by simp);obtain⟨b0,b1,b2,b3,b4,b5⟩:=rb.c6;rw[←hV];have S3:=zd s3;clear s2 s3 rb H hB hg hV
 go_wp2_with fail
 refine(zt (rounds:=200) UW (U6 _) (by simp) (fun p hp=>by cases hp) (by omega) S3.out).mono ?_
 rintro e w1 ⟨A,p,gw,N,hA,rfl,_,_,hpk⟩
 obtain⟨P,m,ib,nb,tb,po,ba,br,co,mp,sh,sl,wk,wd,un⟩:=A;obtain⟨rfl,rfl,rfl,rfl,rfl⟩:=hA;have hpk:iV S w0 (awA P m ib nb tb po ba br co mp) p gw (WS.run (awA P m ib nb tb po ba br co mp) UY [] 200) (Bs++[box B [J 1,J 1,J 1,J 0,Ju 1,.slice (some ⟨g+1,0,none⟩) 1 1] 28]) w1:=hpk;have h0:=RD P m ib nb tb po ba br co mp;have h1:=Vw P m ib nb tb po ba br co mp;have h2:=UZ P m ib nb tb po ba br co mp;obtain⟨W,hW⟩:∃ W,WS.run (awA P m ib nb tb po ba br co mp) UY [] 200=W:=⟨_,rfl⟩
 rw[hW]at hpk h0 h1 h2;obtain⟨A,hA⟩:∃ A,awA P m ib nb tb po ba br co mp=A:=⟨_,rfl⟩
 rw[hA]at hpk;have PK:=zd hpk;have H1:=zd h1;have H2:=zd h2;have H0:=zd h0;clear hpk hW h0 h1 h2 hA b0 b1 b2 b3 b4 b5 S3
 go_wp2_with fail
 refine(FB PK.out).mono ?_
 rintro e w2 ⟨rfl,hp⟩
 rw[H0.out];obtain⟨Ys,c,lv,dv,vs,ho,s4⟩:=Tv H1.out H2.out hp;have HO:=zd ho;have S4:=zd s4;clear hp ho s4 PK H0 H1 H2
 go_wp2_with fail
 refine(FM (List.mem_append_left _ HO.out.wb) (List.mem_append_left _ HO.out.bx) (List.mem_append_left _ HO.out.dn) HO.out.vl (fun k y v hy hv=>List.mem_append_left _ (HO.out.tk k y v hy hv)) (by decide) (by decide) (fun y hy=>by
  simp only[yj,List.mem_cons,List.not_mem_nil,or_false]at hy
  rcases hy with rfl|rfl|rfl<;>unfold lJ<;>simp) HO.out.ls S4.out).mono ?_
 rintro e w3 ⟨oa,cc,rfl,svs,hl,s5⟩
 obtain⟨v0,v1,v2,rfl⟩:∃ v0 v1 v2,svs=[v0,v1,v2]:=by
  match svs,hl with
  | [a,b,c],_=>exact⟨a,b,c,rfl⟩
 have s5:Scope S w0 w3 ([aU (.slice oa 3 cc) 62 12 3 (recs bG (List.zip yj [v0,v1,v2])),fO v0 [],fO v1 [],fO v2 [⟨3,2,5⟩]]++(Ys++(bP::(Bs++[box B [J 1,J 1,J 1,J 0,Ju 1,.slice (some ⟨g+1,0,none⟩) 1 1] 28])))):=s5;obtain⟨gh,rfl⟩:∃ gh,oa=some ⟨gh,0,none⟩:=by
  rcases ownsRow_form (s5.jb 0 rfl)with⟨e,h0⟩|⟨g,cap,e,_⟩
  ·omega
  ·cases e;exact⟨g,rfl⟩
 obtain⟨g2,c2,rfl⟩:∃ g2 c2,v2=.slice (some ⟨g2,0,none⟩) 1 c2:=by
  rcases ownsRow_form (s5.jb 3 rfl)with⟨e,h0⟩|⟨g,cap,e,_⟩
  ·cases h0
  ·exact⟨g,cap,e⟩
 have d1:At w3 gh 31 (.slice (some ⟨g2,0,none⟩) 1 c2):=dw (s5.jb 0 rfl) rfl (j:=31) rfl;have d2:At w3 g2 2 (J 5):=dw (s5.jb 3 rfl) rfl (j:=2) rfl;have S5:=zd s5;clear s5 hl S4;rw[show yj.length=3 from rfl]
 go_wp2_with fail
 have mem:∀ X,X∈Ys→X∈ [aU (.slice (some ⟨gh,0,none⟩) 3 cc) 62 12 3 (recs bG (List.zip yj [v0,v1,.slice (some ⟨g2,0,none⟩) 1 c2])),fO v0 [],fO v1 [],fO (.slice (some ⟨g2,0,none⟩) 1 c2) [⟨3,2,5⟩]]++(Ys++(bP::(Bs++[box B [J 1,J 1,J 1,J 0,Ju 1,.slice (some ⟨g+1,0,none⟩) 1 1] 28]))):=fun X h=>List.mem_append_right _ (List.mem_append_left _ h)
 refine(zS (pt:=Gg) (mem _ HO.out.wb) (mem _ HO.out.pb) (mem _ HO.out.pt) HO.out.sv (fun k x v hx hv=>mem _ (HO.out.pk k x v hx hv)) (by decide) (by decide) (fun k x y hx hy=>?_) (fun y hy=>?_) S5.out).mono ?_
 ·match k,hx,hy with
  |0,hx,hy=>cases hx;cases hy;decide
  |1,hx,hy=>cases hx;cases hy;decide
  |2,hx,hy=>cases hy
  |k+3,hx,hy=>cases hx
 ·simp only[Gg,List.mem_cons,List.not_mem_nil,or_false]at hy
  rcases hy with rfl|rfl|rfl<;>unfold lJ<;>simp
 rintro e w4 ⟨ob',cb',rfl,Xs,s6⟩
 have s7:=s6.drop_left.drop_left.drop_left;have s7:Scope S w0 w4 ((bP::Bs)++[box B [J 1,J 1,J 1,J 0,Ju 1,.slice (some ⟨g+1,0,none⟩) 1 1] 28]):=s7;have S7:=zd s7.drop;clear s6 s7 d1 d2 S5 mem;rw[show Gg.length=3 from rfl]
 go_wp2
 go_ret
 exact⟨rfl,S7.out⟩
end
open Go Go.Proofs.Tryz
def qG (L:List Ev):Nat:=L.countP fun x=>decide (x.kind=3∧x.loc.k=11)
def cntF (L:List Ev):Nat:=L.countP fun x=>decide (x.kind=4∧x.loc.k=11)
def tC (n:Nat) (f:Nat→Nat):Nat:=((List.range n).map f).sum
theorem kN (n:Nat) (f:Nat→Nat):tC (n+1) f=tC n f+f n:=by simp[tC,List.range_succ]
theorem xW (n:Nat) (f g:Nat→Nat):tC n (fun a=>f a+g a)=tC n f+tC n g:=by
 induction n with
 |zero=>rfl
 |succ n ih=>rw[kN,kN,kN,ih];omega
theorem RX (n:Nat) (f g:Nat→Nat) (h:∀ a,f a≤g a):tC n f≤tC n g:=by
 induction n with
 |zero=>exact Nat.le_refl _
 |succ n ih=>rw[kN,kN];have:=h n;omega
theorem ED (n:Nat) (w:Int) (h0:0≤w):tC n (fun a=>if w=(a:Int)then 1 else 0)=if w<n then 1 else 0:=by
 induction n with
 |zero=>rw[if_neg (by omega)];rfl
 |succ n ih=>
  rw[kN,ih]
  by_cases h1:w<n
  ·rw[if_pos h1,if_neg (by omega),if_pos (by omega)]
  ·rw[if_neg h1]
   by_cases h2:w=n
   ·rw[if_pos h2,if_pos (by omega)]
   ·rw[if_neg h2,if_neg (by omega)]
theorem PW (n:Nat) (w:Int) (h0:0≤w) (hn:w<n):tC n (fun a=>if w≠(a:Int)then 1 else 0)+1=n:=by
 have h1:=ED n w h0;rw[if_pos hn]at h1;have h2:tC n (fun a=>if w=(a:Int)then 1 else 0)+tC n (fun a=>if w≠(a:Int)then 1 else 0)=n:=by
  rw[←xW];clear h1 hn
  induction n with
  |zero=>rfl
  |succ n ih=>rw[kN,ih];by_cases h:w=(n:Int)<;>simp[h]
 omega
theorem Bd (n:Nat):tC n (fun _=>0)=0:=by
 induction n with
 |zero=>rfl
 |succ n ih=>rw[kN,ih]
theorem Ac (n:Nat):∀ (L:List Ev),(∀ x∈L,0≤x.who∧x.who<(n:Int))→tC n (fun a=>fails (a:Nat) L)=cntF L
 | [],_=>Bd n
 |x::L,h=>by
  have ih:=Ac n L (fun y hy=>h y (by simp[hy]));have hx:=h x (by simp)
  by_cases hp:x.kind=4∧x.loc.k=11
  ·have e:(fun a:Nat=>fails (a:Nat) (x::L))=fun a=>fails (a:Nat) L+(if x.who=(a:Int)then 1 else 0):=funext fun a=>by
    unfold fails;rw[List.countP_cons]
    by_cases ha:x.who=(a:Int)<;>simp[ha,hp]
   rw[e,xW,ih,ED n _ hx.1,if_pos hx.2];unfold cntF;rw[List.countP_cons]
   simp[hp]
  ·have e:(fun a:Nat=>fails (a:Nat) (x::L))=fun a=>fails (a:Nat) L:=funext fun a=>by
    unfold fails;rw[List.countP_cons,decide_eq_false (fun h=>hp h.2)]
    simp
   rw[e,ih];unfold cntF;rw[List.countP_cons,decide_eq_false hp]
   simp
theorem AY (n:Nat):∀ (L:List Ev),(∀ x∈L,0≤x.who∧x.who<(n:Int))→tC n (fun a=>swaps (a:Nat) L)+qG L=n*qG L
 | [],_=>by rw[show(fun a:Nat=>swaps (a:Nat) ([]:List Ev))=fun _=>0 from rfl,Bd];simp[qG]
 |x::L,h=>by
  have ih:=AY n L (fun y hy=>h y (by simp[hy]));have hx:=h x (by simp)
  by_cases hp:x.kind=3∧x.loc.k=11
  ·have e:(fun a:Nat=>swaps (a:Nat) (x::L))=fun a=>swaps (a:Nat) L+(if x.who≠(a:Int)then 1 else 0):=funext fun a=>by
    unfold swaps;rw[List.countP_cons]
    by_cases ha:x.who=(a:Int)<;>simp[ha,hp]
   have h1:=PW n x.who hx.1 hx.2;have e2:qG (x::L)=qG L+1:=by unfold qG;rw[List.countP_cons];simp[hp]
   rw[e,xW,e2,Nat.mul_add, ←ih]
   omega
  ·have e:(fun a:Nat=>swaps (a:Nat) (x::L))=fun a=>swaps (a:Nat) L:=funext fun a=>by
    unfold swaps;rw[List.countP_cons,decide_eq_false (fun h=>hp h.2)]
    simp
   have e2:qG (x::L)=qG L:=by unfold qG;rw[List.countP_cons,decide_eq_false hp];simp
   rw[e,e2,ih]
theorem dJ.most {L:List Ev} (h:dJ L) {n:Nat} (hn:1≤n) (hw:∀ x∈L,0≤x.who∧x.who<(n:Int)):cntF L≤qG L*(n - 1):=by
 have h1:=RX n (fun a=>fails (a:Nat) L) (fun a=>swaps (a:Nat) L) (fun a=>h.cnt a);rw[Ac n L hw]at h1;have h2:=AY n L hw;obtain⟨m,rfl⟩:∃ m,n=m+1:=⟨n - 1,by omega⟩
 rw[Nat.add_mul,Nat.one_mul]at h2;rw[Nat.add_sub_cancel,Nat.mul_comm]
 omega
theorem KI (L:List Ev):qG L≤L.length:=List.countP_le_length
theorem KT (L:List Ev):cntF L≤L.length:=List.countP_le_length
theorem OJ {L:List Ev} {k:Nat} {x:Ev} (h:L[k]? =some x):qG (L.take (k+1))=qG (L.take k)+(if x.kind=3∧x.loc.k=11 then 1 else 0):=by
 unfold qG;rw[List.take_add_one,h,List.countP_append]
 by_cases hp:x.kind=3∧x.loc.k=11<;>simp[hp]
theorem NS {L:List Ev} {k:Nat} {x:Ev} (h:L[k]? =some x):cntF (L.take (k+1))=cntF (L.take k)+(if x.kind=4∧x.loc.k=11 then 1 else 0):=by
 unfold cntF;rw[List.take_add_one,h,List.countP_append]
 by_cases hp:x.kind=4∧x.loc.k=11<;>simp[hp]
open Go Go.RowKit Go.Maps Go.Proofs.Tryz
theorem O6 {w0 w:World} {As:List HA} (h:Scope [] w0 w As) (hdb:w0.heap[0]? =some (.cells (Lib.deBruijn64tab.map fun k:Nat=>Value.int .u8 (k:Int)).toArray 270 (0,0))):Scope [0] w0 w (bP::As):=by
 obtain⟨c,fp,h1,h2⟩:=h;have h0:0<w0.heap.size:=(Array.getElem?_eq_some_iff.1 hdb).1;refine⟨c.mono (fun _ h=>by cases h),[0]++fp,⟨[0],fp,⟨(c.block 0 h0 (by simp)).trans hdb,rfl⟩,h1,fun k hk hk2=>?_,rfl⟩,fun k hk=>?_⟩
 ·simp at hk;subst hk
  rcases h2 0 hk2 with h|h
  ·cases h
  ·omega
 ·rcases List.mem_append.1 hk with h|h
  ·exact .inl h
  ·rcases h2 k h with h|h
   ·cases h
   ·exact .inr h
theorem Rk {w0 w:World} {As:List HA} (h:Scope [0] w0 w As) (hm:bP∈As) (hdb:w0.heap[0]? =some (.cells (Lib.deBruijn64tab.map fun k:Nat=>Value.int .u8 (k:Int)).toArray 270 (0,0))):Below w0.heap.size w0 w:=by
 obtain⟨q,hq⟩:=List.getElem?_of_mem hm;obtain⟨f,⟨h1,_⟩,_⟩:=h.get q hq;refine⟨h.1.os,h.1.tape,h.1.output,h.1.size,fun k hk=>?_⟩
 by_cases h0:k=0
 ·subst h0;rw[h1,hdb]
 ·exact h.1.block k hk (by simpa using h0)
theorem L8 {S:List Nat} {w0 w:World} {A:PA} {p gw:Nat} {W:WS} {Bs:List HA} (h:iV S w0 A p gw W Bs w):∃ Rs,Scope S w0 w (bP::Rs)∧∀ w',Scope S w0 w' (bP::Rs)→iV S w0 A p gw W Bs w':=by
 obtain⟨rs,zs,h1,h2,h3⟩:=h
 exact⟨_,Scope.swap2 h3,fun w' s=>⟨rs,zs,h1,h2,Scope.swap2 s⟩⟩
theorem Jf {S:List Nat} {w0 w:World} {A:PA} {p gw:Nat} {W:WS} {Bs:List HA} (h:iV S w0 A p gw W Bs w):zH W.s.σ.log:=by
 obtain⟨rs,zs,h1,h2,h3⟩:=h;obtain⟨c,_,s⟩:=Scope.dH h3
 exact s.VC 0 rfl
section
theorem EI (w:World):Calls prog 11 #[nS] w fun e w'=>e=.returned (.bool true)∧dE [] w w':=by
 go_enter func11,ntmps11
 go_wp2_with fail
 go_loopw [3] (fun i wr=>i=J 0∧dE [] w wr) (fun _ _=>0)
 case atStart=>exact⟨rfl,dE.refl _ _⟩
 case round=>
  obtain⟨rfl,hc⟩:=hrel
  go_wp2
  go_ret
  exact⟨rfl,hc⟩
theorem Iw (w:World):Calls prog 10 #[nS] w fun e w'=>e=.returned (.bool true)∧dE [] w w':=by
 have hmm:= @run_makeMap prog
 go_enter func10,ntmps10
 go_wp2_with fail
 go_loopw [11] (fun i wr=>i=J 0∧dE [] w wr) (fun _ _=>0)
 case atStart=>exact⟨rfl,(dE.refl _ _).alloc _⟩
 case round=>
  obtain⟨rfl,hc⟩:=hrel
  go_wp2
  go_ret
  exact⟨rfl,hc⟩
theorem IW {S:List Nat} {w0 w:World} {Bs:List HA} {v:Value} {L:List Ev} (hL:dJ L) (hw:∀ x∈L,I64 x.who) (hlw:∀ x∈L,x.loc.k=11→x.loc.wf) (hn:L.length≤1000000) (h:Scope S w0 w (aU v 42 5 L.length (evs L)::Bs)):
  (Calls prog 10 #[v] w fun e w'=>e=.returned (.bool true)∧Scope S w0 w' (aU v 42 5 L.length (evs L)::Bs))∧Calls prog 11 #[v] w fun e w'=>e=.returned (.bool true)∧Scope S w0 w' (aU v 42 5 L.length (evs L)::Bs):=by
 have ho:=h.jb 0 rfl
 rcases ownsRow_form ho with⟨rfl,h0⟩|⟨g,cap,rfl,_,h1,h2⟩
 ·exact⟨(Iw w).mono fun e w' ⟨he,hc⟩=>⟨he,h.quiet hc⟩,(EI w).mono fun e w' ⟨he,hc⟩=>⟨he,h.quiet hc⟩⟩
 ·have hc:∀ j u,(evs L)[j]? =some u→At w g (0+j) u:=fun j u hu=>by rw[Nat.zero_add];exact dw ho rfl hu
  exact⟨(JZ hL hw hlw hn h1 h2 hc).mono fun e w' ⟨he,hc⟩=>⟨he,h.quiet hc⟩,(E5 hL hn hc).mono fun e w' ⟨he,hc⟩=>⟨he,h.quiet hc⟩⟩
theorem topTries_row {w:World} {a b c d u r:Int} (hu:dC u) {vl:Value} {Ls:List (List Cl)} (hl:Gw w vl Ls) {vp:Value} {xs:List Int} (hp:Qg w vp xs) (hdb:w.heap[0]? =some (.cells (Lib.deBruijn64tab.map fun k:Nat=>Value.int .u8 (k:Int)).toArray 270 (0,0))):
  Calls prog 3 #[.agg #[J a,J b,J c,J d,Ju u],vl,vp,J r] w fun e w'=>e=.returned (.bool true)∧Below w.heap.size w w':=by
 have s1:=(Scope.empty w).box [J a,J b,J c,J d,Ju u] 24;have r0:=Row.new w [J a,J b,J c,J d,Ju u] 24;obtain⟨c0,c1,c2,c3,c4⟩:=r0.c5;have S1:=zd s1;have HL:=zd hl;have HP:=zd hp;have HDb:=zd hdb;clear s1 r0 hl hp hdb
 go_enter func3,ntmps3
 go_wp2_with fail
 refine(F5 hu HL.out S1.out).mono ?_
 rintro e w1 ⟨sh,sl,wk,wd,un,g,zs,hc,hpl,rfl,s2⟩
 have S2:=zd s2;have HC:=zd hc;have HPl:=zd hpl;clear c0 c1 c2 c3 c4 S1 s2 hc hpl
 go_upto_region 2 with fail
 have s3:=S2.out.box [J sh,J sl,J wk,J wd,Ju un,.slice (some ⟨g,0,none⟩) wk wk] 28;obtain⟨P,hP⟩:∃ P,P=w1.heap.size:=⟨_,rfl⟩
 rw[←hP]at s3 ⊢
 obtain⟨B0,hB0⟩:∃ B0,B0=w.heap.size:=⟨_,rfl⟩
 rw[←hB0]at s3 ⊢
 obtain⟨CB,hCB⟩:∃ CB,CB=box B0 [J a,J b,J c,J d,Ju u] 24:=⟨_,rfl⟩
 have s3:Scope [] w (w1.alloc (.cells #[J sh,J sl,J wk,J wd,Ju un,.slice (some ⟨g,0,none⟩) wk wk] 28)) (uF g zs++[CB,box P [J sh,J sl,J wk,J wd,Ju un,.slice (some ⟨g,0,none⟩) wk wk] 28]):=by rw[hCB];rw[List.append_assoc]at s3;exact s3
 generalize w1.alloc _=V at s3 ⊢
 clear hP hB0 hCB S2;have facts:∀ (w':World) (As:List HA) (S:List Nat),Scope S w w' As→box P [J sh,J sl,J wk,J wd,Ju un,.slice (some ⟨g,0,none⟩) wk wk] 28∈As→At w' P 0 (J sh)∧At w' P 1 (J sl)∧At w' P 2 (J wk)∧At w' P 3 (J wd)∧At w' P 4 (Ju un)∧At w' P 5 (.slice (some ⟨g,0,none⟩) wk wk):=fun w' As S s hi=>by
  have r:=s.sW (k:=P) hi
  exact⟨r.cell rfl,r.cell rfl,r.cell rfl,r.cell rfl,r.cell rfl,r.cell rfl⟩
 refine aP (by kernel_rfl) ?_;have sd:=s3.drew;generalize V.drew=V2 at sd ⊢
 have h0:=facts V2 _ _ sd (by simp);have Sd:=zd sd;have Facts:=zd facts;clear s3 sd facts;refine aY [1,2,3,6] ?_
 repeat (refine ay _ rfl (by kernel_rfl) (fun _ _ _ h=>h) (fun w'=>by(try simp only[ag,ah,aj]);go_simp;try with_reducible rfl) ?_;try simp only[Act.put,ag,ah,aj,aF,aB,aC])
 refine aH ?_;refine cu (fun w'=>At w' P 0 (J sh)∧At w' P 1 (J sl)∧At w' P 2 (J wk)∧At w' P 3 (J wd)∧At w' P 4 (Ju un)∧At w' P 5 (.slice (some ⟨g,0,none⟩) wk wk)) [0,4,5,7] [0,4] ?_
 repeat (refine aN _ rfl (by kernel_rfl) (fun _ _ _ h=>h) h0 (fun w' hS=>by(try dsimp only at hS);(try simp only[ag,ah,aj]);go_simp;try with_reducible rfl) ?_;try simp only[Act.put,ag,ah,aj,aF,aB,aC])
 refine bM ?_;refine aK 5 (by kernel_rfl) rfl (by rfl) fun K hK=>?_
 go_simp;refine(Fh HC.out.wk1 HC.out.wk6 HP.out Sd.out).mono ?_
 rintro e w2 ⟨oa,cc,ps,rfl,hps⟩
 have h1:=Facts.out w2 _ _ hps.2.2 (by simp);refine hK _ _ ⟨fun _=>h1,?_⟩;have HPs:=zd hps;clear hK K h0 Sd hps
 try simp only[Act.put,ag,ah,aj,aF,aB,aC]
 refine aK 7 (by kernel_rfl) rfl (by rfl) fun K hK=>?_
 go_simp;refine(gW (v:=r) (n:=200) (by omega) (by omega) _).mono ?_
 rintro e w3 ⟨rfl,rfl⟩
 obtain⟨rounds,hr,her⟩:=Lr r (n:=200) (by omega);rw[show(200:Int)=((200:Nat):Int)from rfl,her];refine hK _ _ ⟨fun _=>h1,?_⟩;clear hK K h1 her
 try simp only[Act.put,ag,ah,aj,aF,aB,aC]
 refine dB [] (bH (by kernel_rfl) ?_);refine af 8 (by kernel_rfl) rfl (by rfl) fun K hK=>?_
 go_simp;have s4:=O6 (Scope.perm HPs.out.2.2 (List.perm_middle (l₁:=uF g zs)).symm) HDb.out;refine(zt (rounds:=rounds) HC.out HPl.out HPs.out.1 HPs.out.2.1 (by omega) s4).mono ?_
 rintro e w4 ⟨A,p,gw,N,hA,rfl,hW,hN,hpk⟩
 refine hK _ _ ?_;have HA:=zd hA;have HW:=zd hW;have PK:=zd hpk;clear hK K s4 HPs hA hW hpk
 try simp only[Act.put,ag,ah,aj,aF,aB,aC]
 refine aY [9,10,11,12,13] ?_
 repeat (refine ay _ rfl (by kernel_rfl) (fun _ _ _ h=>h) (fun w'=>by(try simp only[ag,ah,aj]);go_simp;try with_reducible rfl) ?_;try simp only[Act.put,ag,ah,aj,aF,aB,aC])
 refine aH ?_;refine wpAny_done (by kernel_rfl) ?_ _
 go_wp2_with fail
 obtain⟨Rs,s5,back⟩:=L8 PK.out;have Back:=zd back;clear PK back;refine(FQ s5).mono ?_
 rintro e w5 ⟨rfl,s6⟩
 have hpk:=Back.out w5 s6;have hlw:=Jf hpk;obtain⟨W,hWr⟩:∃ W,WS.run A (zs.map Prod.snd) ps rounds=W:=⟨_,rfl⟩
 rw[hWr]at HW hpk hlw;have hll:W.s.σ.log.length≤40000:=by have:=HW.out.P.log;omega
 have Hpk:=zd hpk;have HLw:=zd hlw;have HLl:=zd hll;clear s5 s6 Back hpk hlw hll hWr
 go_wp2_with fail
 refine(zO (by have:=HLl.out;omega) Hpk.out).mono ?_
 rintro e w6 ⟨v,rfl,rs,zs',m1,m2,s7⟩
 have s8:=Scope.perm s7 List.perm_middle;obtain⟨Z,hZ⟩:∃ Z,Z=qJ A rs p gw W.s W.steps W.left zs'++[CB,box P [J sh,J sl,J wk,J wd,Ju un,.slice (some ⟨g,0,none⟩) wk wk] 28]:=⟨_,rfl⟩
 have hdm:bP∈Z:=by rw[hZ];simp[qJ]
 have hpm:box P [J sh,J sl,J wk,J wd,Ju un,.slice (some ⟨g,0,none⟩) wk wk] 28∈Z:=by rw[hZ];simp
 obtain⟨L,hL⟩:∃ L,L=W.s.σ.log:=⟨_,rfl⟩
 have hlaw:=HW.out.law;have hwho:=HW.out.who;have hlw:=HLw.out;have hll:=HLl.out;rw[HA.out.2.2.1]at hwho;rw[←hZ, ←hL]at s8;rw[←hL]at hlaw hwho hlw hll;have S8:=zd s8;have HDm:=zd hdm;have HPm:=zd hpm;have HLaw:=zd hlaw;have HWho:=zd hwho;have HLw2:=zd hlw;have HLl2:=zd hll;clear s7 s8 hZ hdm hpm hL hlaw hwho hlw hll m1 m2 HLw HLl HW Hpk;obtain⟨oa,cv,rfl⟩:∃ oa cv,v=.slice oa L.length cv:=by
  rcases ownsRow_form (S8.out.jb 0 rfl)with⟨e,h0⟩|⟨g,cap,e,_⟩
  ·rw[h0];exact⟨_,_,e⟩
  ·exact⟨_,_,e⟩
 obtain⟨n,hn⟩:∃ n,n=L.length:=⟨_,rfl⟩
 have HN:=zd hn;rw[←hn]at S8 HLl2 ⊢
 clear hn;have hnn:=HLl2.out
 go_wp2_with fail
 go_loopw [13,14,15] (fun d f i wr=>∃ k:Nat,k≤n∧d=J (qG (L.take k):Nat)∧f=J (cntF (L.take k):Nat)∧i=J k∧Scope [0] w wr (aU (.slice oa n cv) 42 5 n (evs L)::Z)) (fun _ _ i _=>n - (intOf i).toNat)
 case atStart=>exact⟨0,by omega,rfl,rfl,rfl,S8.out⟩
 case round=>
  obtain⟨k,hk,rfl,rfl,rfl,hs⟩:=hrel;have Hs:=zd hs;clear hs S8
  by_cases hlt:k<n
  ·obtain⟨x,hx⟩:∃ x,L[k]? =some x:=⟨_,List.getElem?_eq_getElem (by rw[←HN.out];exact hlt)⟩
   obtain⟨g0,rfl⟩:∃ g0,oa=some ⟨g0,0,none⟩:=by
    rcases ownsRow_form (Hs.out.jb 0 rfl)with⟨e,h0⟩|⟨g,cap,e,_⟩
    ·omega
    ·cases e;exact⟨g,rfl⟩
   obtain⟨a0,a1,a2,a3,a4⟩:=o9 (fun j u hu=>by rw[Nat.zero_add];exact dw (Hs.out.jb 0 rfl) rfl hu) hx;rw[Nat.zero_add]at a0 a1 a2 a3 a4;have e1:=OJ hx;have e2:=NS hx;have l1:=KI (L.take k);have l2:=KT (L.take k);rw[List.length_take]at l1 l2;obtain⟨cs,hcs⟩:∃ cs,cs=qG (L.take k):=⟨_,rfl⟩
   obtain⟨cf,hcf⟩:∃ cf,cf=cntF (L.take k):=⟨_,rfl⟩
   rw[←hcs]at l1 e1 ⊢
   rw[←hcf]at l2 e2 ⊢
   have i1:(k:Int)<(n:Nat):=by omega
   have i2:(0:Int)≤(k:Nat):=by omega
   have i3:cs≤40000:=by omega
   have i4:cf≤40000:=by omega
   have E1:=zd e1;have E2:=zd e2;clear e1 e2 hcs hcf l1 l2 hx
   by_cases hl:x.loc.k=11
   ·rw[hl]at a2
    by_cases h3:x.kind=3
    ·have e1:=E1.out;have e2:=E2.out
     rw[if_pos ⟨h3,hl⟩]at e1;rw[if_neg (by omega),Nat.add_zero cf]at e2;rw[h3]at a1;have E1':=zd e1;have E2':=zd e2;clear e1 e2 h3 hl E1 E2
     go_wp2
     exact⟨⟨k+1,hlt,by rw[E1'.out];exact lh cs,by rw[E2'.out],lh k,Hs.out⟩,measS hlt⟩
    ·by_cases h4:x.kind=4
     ·have e1:=E1.out;have e2:=E2.out
      rw[if_neg (by omega),Nat.add_zero cs]at e1;rw[if_pos ⟨h4,hl⟩]at e2;rw[h4]at a1;have E1':=zd e1;have E2':=zd e2;clear e1 e2 h3 h4 hl E1 E2
      go_wp2
      exact⟨⟨k+1,hlt,by rw[E1'.out],by rw[E2'.out];exact lh cf,lh k,Hs.out⟩,measS hlt⟩
     ·have e1:=E1.out;have e2:=E2.out
      rw[if_neg (by omega),Nat.add_zero cs]at e1;rw[if_neg (by omega),Nat.add_zero cf]at e2;have b3:(x.kind==3)=false:=by simpa using h3
      have b4:(x.kind==4)=false:=by simpa using h4
      have E1':=zd e1;have E2':=zd e2;clear e1 e2 h3 h4 hl E1 E2
      go_wp2
      exact⟨⟨k+1,hlt,by rw[E1'.out],by rw[E2'.out],lh k,Hs.out⟩,measS hlt⟩
   ·have e1:=E1.out;have e2:=E2.out
    rw[if_neg (by omega),Nat.add_zero cs]at e1;rw[if_neg (by omega),Nat.add_zero cf]at e2;have b3:(x.loc.k==11)=false:=by simpa using hl
    have E1':=zd e1;have E2':=zd e2;clear e1 e2 hl E1 E2
    go_wp2
    exact⟨⟨k+1,hlt,by rw[E1'.out],by rw[E2'.out],lh k,Hs.out⟩,measS hlt⟩
  ·obtain rfl:k=n:=by omega
   have i1:¬ (k:Int)<(k:Nat):=by omega
   have e0:L.take k=L:=by rw[HN.out];exact List.take_length
   rw[e0];have l1:=KI L;have l2:=KT L;rw[←HN.out]at l1 l2;have hmost:=HLaw.out.most HC.out.wk1 (fun x hx=>(HWho.out x hx).1);have hwk:=HC.out.wk6;have both:=fun(w':World) (s:Scope [0] w w' (aU (.slice oa k cv) 42 5 k (evs L)::Z))=>IW (w0:=w) (S:=[0]) (w:=w') (Bs:=Z) (v:=.slice oa k cv) HLaw.out (fun x hx=>by have:=(HWho.out x hx).1;unfold I64;omega) (fun x hx hk=>HLw2.out x hx ((HWho.out x hx).2 hk)) (by rw[←HN.out];omega) (by rw[←HN.out];exact s)
   rw[←HN.out]at both;have Both:=zd both;obtain⟨cs,hcs⟩:∃ cs,cs=qG L:=⟨_,rfl⟩
   obtain⟨cf,hcf⟩:∃ cf,cf=cntF L:=⟨_,rfl⟩
   rw[←hcs]at l1 hmost ⊢
   rw[←hcf]at l2 hmost ⊢
   clear hcs hcf both e0;have Hmost:=zd hmost;have r0:=Facts.out wr _ _ Hs.out (List.mem_cons_of_mem _ HPm.out);obtain⟨-, -,p2, -⟩:=r0;clear hmost
   go_wp2_with fail
   refine(Both.out _ Hs.out).1.mono ?_
   rintro e w7 ⟨rfl,s8⟩
   have p3:=(Facts.out w7 _ _ s8 (List.mem_cons_of_mem _ HPm.out)).2.2.1;have S8':=zd s8;clear s8 p2
   go_wp2_with fail
   refine(Both.out _ S8'.out).2.mono ?_
   rintro e w8 ⟨rfl,s9⟩
   have p4:=(Facts.out w8 _ _ s9 (List.mem_cons_of_mem _ HPm.out)).2.2.1;have S9:=zd s9;clear s9 p3 S8';obtain⟨m,rfl⟩:∃ m,wk=m+1:=⟨wk - 1,by have:=HC.out.wk1;omega⟩
   have hm2:cs*m≤40000*5:=Nat.mul_le_mul (by omega) (by omega);obtain⟨z,hz⟩:∃ z,cs*m=z:=⟨_,rfl⟩
   have hz2:((cs:Nat):Int)*((m:Nat):Int)=(z:Nat):=by rw[←hz];exact(Int.natCast_mul cs m).symm
   have e1:((m+1:Nat):Int) - 1=(m:Nat):=by omega
   have hle:(cf:Int)≤(z:Nat):=by have:=Hmost.out;rw[Nat.add_sub_cancel,hz]at this;omega
   rw[hz]at hm2
   go_wp2
   go_ret
   exact⟨rfl,Rk S9.out (List.mem_cons_of_mem _ HDm.out) HDb.out⟩
end
end Go.Proofs.YtjnbbmgbmiggbaaGreatDoor
