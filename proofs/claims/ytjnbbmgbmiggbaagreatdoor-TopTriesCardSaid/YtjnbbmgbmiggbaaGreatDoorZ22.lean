/- Lemmas for TopTries' card: package world, second part. -/
import Derived.Test.YtjnbbmgbmiggbaaGreatDoorZ21
set_option linter.unusedSimpArgs false
set_option linter.unusedVariables false
set_option maxRecDepth 20000
set_option maxHeartbeats 4000000
namespace Go.Proofs.YtjnbbmgbmiggbaaGreatDoor
open Go Go.RowKit Go.Maps Go.Proofs.Tryz
theorem ku.enters (M:ku) (args:Array Value) (w:World):Sem.run prog (callFunc M.f args) w=.ok (.enter M.f args) w:=by
 cases M<;>exact pJ _ (by kernel_rfl) _ _
theorem qg (y:Dn×Value):(bG y).length=12:=rfl
@[go_sem] theorem TI (P:Program) (w:World) (a:Addr) (m:Mode):(store a .nilFunc m).run P w=stored P w a .nilFunc m:=run_store P w a _ m rfl
theorem Vg (f:FuncId) (b:Nat) (w:World):Sem.run prog (binOp BinOp.eql 92 (.func (.func f) #[ptr b] #[]) .nilFunc) w=.ok (.bool false) w:=by kernel_rfl
theorem PY (w:World):Sem.run prog (binOp BinOp.eql 92 .nilFunc .nilFunc) w=.ok (.bool true) w:=by kernel_rfl
theorem O9 (ds0 rest:List Value) (k0:Nat) (hl:ds0.length=k0*12) (y:Dn) (sv0 sv:Value) (r:Rt) (now:Int):
  ((((((ds0++bG (y,sv0))++rest).set (k0*12+11) (J now)).set (k0*12+6) (J r.e)).set (k0*12+7) sv).set (k0*12+8) (J r.n)).set (k0*12+9) (Ju r.v)=(ds0++bG ({ y with te:=now,r:=r },sv))++rest:=by
 rw[←hl];simp only[List.append_assoc,bG]
 repeat rw[List.set_append_right (by omega)]
 simp
section
variable {A:PA} {rs:List Nat} {s:PS} {p g n i k0 b N m:Nat} {steps left:Int} {wcs ds0:List Value} {dv sv0:Value} {y:Dn} {M:ku} {S:List Nat} {w0 w:World} {Bs:List HA}
def JJ (S:List Nat) (w0:World) (A:PA) (rs:List Nat) (p g n i k0 b:Nat) (steps left:Int) (wcs ds0:List Value) (dv sv0:Value) (y:Dn) (o:MO) (Bs:List HA) (e':Ending) (w':World):Prop:=
 e'=.returned (.bool true)∧∃ rs' oa c,(rs'=rs∨∃ q,rs'=rs++[q])∧rs'.length=o.s.ob.length∧
  ((o.d=false∧Scope S w0 w' (ae A rs' o.s::iR A.P rs' b o.M::bP::box p [ptr A.P,.slice (some ⟨g,0,none⟩) n n,J (steps+1),J left] 80::box g wcs 94::aU dv 62 12 (k0+1) (ds0++bG (y,sv0))::Bs))∨
   (o.d=true∧Scope S w0 w' (ae A rs' o.s::fO (.slice oa o.r.pk.length c) o.r.pk::bP::box p [ptr A.P,.slice (some ⟨g,0,none⟩) n n,J (steps+1),J (left - 1)] 80::box g (wcs.set (i*3+2) .nilFunc) 94::aU dv 62 12 (k0+1) (ds0++bG ({ y with te:=steps,r:=o.r },.slice oa o.r.pk.length c))::Bs)))
theorem NF (hi:i<n) (hn:n≤6) (hk0:k0<1000) (hst0:0≤steps) (hst1:steps<1000000) (hlf0:0≤left) (hlf1:left<1000000) (hdl:ds0.length=k0*12) (h1:wcs[i*3+1]? =some dv) (h2:wcs[i*3+2]? =some (.func (.func M.f) #[ptr b] #[])) (hA:Aq A) (hrs:rs.length=s.ob.length) (hN:N≤20000) (hP:jd s N) (hK:oL A.wd s m) (hm:m+M.woken≤N) (hM:MInv A s N M) (h:Scope S w0 w (ae A rs s::iR A.P rs b M::bP::box p [ptr A.P,.slice (some ⟨g,0,none⟩) n n,J steps,J left] 80::box g wcs 94::aU dv 62 12 (k0+1) (ds0++bG (y,sv0))::Bs)):Calls prog 16 #[ptr p,J (i:Nat)] w (JJ S w0 A rs p g n i k0 b steps left wcs ds0 dv sv0 y (eu A s M steps) Bs):=by
 have hwr:IntKind.i64.wrap (steps+1)=steps+1:=by rw[IntKind.wrap_i64];omega
 have hwl:IntKind.i64.wrap (left - 1)=left - 1:=by rw[IntKind.wrap_i64];omega
 have hne:=h.bne (i:=3) (j:=4) (by omega) rfl rfl;have rp:=h.row (k:=p) 3 rfl;have rg:=h.row (k:=g) 4 rfl;have c1:=rp.cell (j:=1) rfl;have c2:=rp.cell (j:=2) rfl;have f2:=rp.free 2;have g2:=rg.cell h2;have lg:=rg.lt;have hent:=M.enters;have hnf:∀ w,Sem.run prog (binOp BinOp.eql 92 (.func (.func M.f) #[ptr b] #[]) .nilFunc) w=.ok (.bool false) w:=Vg M.f b;have s1:Scope S w0 w ([ae A rs s,iR A.P rs b M,bP]++([box p [ptr A.P,.slice (some ⟨g,0,none⟩) n n,J steps,J left] 80]++(box g wcs 94::aU dv 62 12 (k0+1) (ds0++bG (y,sv0))::Bs))):=h;have S2:=zd (Scope.au s1 2 (J (steps+1)));have H1:=zd h1;have H2:=zd h2;have Hdl:=zd hdl;have Hm:=zd hm;clear h rp rg s1 h1 h2 hdl hm
 go_enter func16,ntmps16
 go_wp2_with fail
 clear c1 c2 f2 g2 lg hne;obtain⟨V1,hV1⟩:∃ V1,V1=w.setCell ⟨p,2,none⟩ (J (steps+1)):=⟨_,rfl⟩
 have s2:=S2.out;rw[←hV1]at s2 ⊢
 have s2:Scope S w0 V1 (ae A rs s::iR A.P rs b M::bP::(box p [ptr A.P,.slice (some ⟨g,0,none⟩) n n,J (steps+1),J left] 80::box g wcs 94::aU dv 62 12 (k0+1) (ds0++bG (y,sv0))::Bs)):=s2;have S3:=zd s2;clear s2 hV1 S2;refine(wH steps hA hrs hN hP hK Hm.out hM S3.out).mono ?_
 rintro er w2 ⟨rs',oa,c,hr1,hr2,rfl,s4⟩
 obtain⟨o,ho⟩:∃ o,eu A s M steps=o:=⟨_,rfl⟩
 have Ho:=zd ho;rw[ho]at s4 hr2 ⊢
 obtain⟨R,hR⟩:∃ R,o.r=R:=⟨_,rfl⟩
 have HR:=zd hR;rw[hR]at s4 ⊢
 obtain⟨nn,hnn⟩:∃ nn,R.pk.length=nn:=⟨_,rfl⟩
 have Hnn:=zd hnn;rw[show(R.val (.slice oa R.pk.length c))=.agg #[J R.e,.slice oa nn c,J R.n,Ju R.v] by rw[hnn]];have S4:=zd s4;have Hr1:=zd hr1;have Hr2:=zd hr2;clear s4 hnn hR ho S3 hr1 hr2 hent;obtain⟨d,hd⟩:∃ d,o.d=d:=⟨_,rfl⟩
 rw[hd];have Hd:=zd hd;clear hd
 cases d
 ·go_wp2
  go_ret
  refine⟨rfl,rs',oa,c,Hr1.out,by rw[Ho.out];exact Hr2.out,.inl ⟨by rw[Ho.out];exact Hd.out,?_⟩⟩;rw[Ho.out];have s5:Scope S w0 w2 ([fO (.slice oa R.pk.length c) R.pk]++(ae A rs' o.s::iR A.P rs' b o.M::bP::box p [ptr A.P,.slice (some ⟨g,0,none⟩) n n,J (steps+1),J left] 80::box g wcs 94::aU dv 62 12 (k0+1) (ds0++bG (y,sv0))::Bs)):=S4.out.front 2 rfl
  exact s5.drop_left.alloc _
 ·have s5:=S4.out.box [J R.e,.slice oa nn c,J R.n,Ju R.v] 60
  obtain⟨G,hG⟩:∃ G,G=w2.heap.size:=⟨_,rfl⟩
  obtain⟨W3,hW3⟩:∃ W3,W3=w2.alloc (.cells #[J R.e,.slice oa nn c,J R.n,Ju R.v] 60):=⟨_,rfl⟩
  rw[←hG,show w2.alloc (.cells ([J R.e,.slice oa nn c,J R.n,Ju R.v]:List Value).toArray 60)=W3 from hW3.symm]at s5;have s5:Scope S w0 W3 (ae A rs' o.s::iR A.P rs' b o.M::fO (.slice oa R.pk.length c) R.pk::bP::box p [ptr A.P,.slice (some ⟨g,0,none⟩) n n,J (steps+1),J left] 80::box g wcs 94::aU dv 62 12 (k0+1) (ds0++bG (y,sv0))::(Bs++[box G [J R.e,.slice oa nn c,J R.n,Ju R.v] 60])):=s5;obtain⟨gd,cap,rest,hdv,s6,hc1,hc2,hc3,hc4⟩:=Scope.qj (s5.front 6 rfl) (by omega:0<k0+1);subst hdv;have s6:Scope S w0 W3 (box gd ((ds0++bG (y,sv0))++rest) 62::ae A rs' o.s::iR A.P rs' b o.M::fO (.slice oa R.pk.length c) R.pk::bP::box p [ptr A.P,.slice (some ⟨g,0,none⟩) n n,J (steps+1),J left] 80::box g wcs 94::(Bs++[box G [J R.e,.slice oa nn c,J R.n,Ju R.v] 60])):=s6;have hwk:IntKind.i64.wrap (((k0+1:Nat):Int) - 1)=(k0:Nat):=by rw[IntKind.wrap_i64];omega
  have hwk2:IntKind.i64.wrap (((k0:Nat):Int)+1 - 1)=(k0:Nat):=by rw[IntKind.wrap_i64];omega
  have hwk3:IntKind.i64.wrap ((k0:Nat):Int)=(k0:Nat):=by rw[IntKind.wrap_i64];omega
  have hwk4:((k0:Nat):Int)<(k0:Nat)+1:=by omega
  have S6:=zd s6;have HG:=zd hG;have HW3:=zd hW3;have Hc1:=zd hc1;have Hc2:=zd hc2;have Hc3:=zd hc3;have Hc4:=zd hc4;clear s5 s6 S4 hG hW3 hc1 hc2 hc3 hc4
  go_wp2_with fail
  rw[←HG.out, ←HW3.out];refine aP (by kernel_rfl) ?_;have sd:=S6.out.drew;generalize W3.drew=V2 at sd ⊢
  have h0:At V2 g (i*3+1) (.slice (some ⟨gd,0,none⟩) (k0+1) cap):=(sd.row (k:=g) 6 rfl).cell H1.out;have S7:=zd sd;clear sd S6;refine aY [0,4] ?_
  repeat (refine ay _ rfl (by kernel_rfl) (fun _ _ _ h=>h) (fun w'=>by(try simp only[ag,ah,aj]);go_simp;try with_reducible rfl) ?_;try simp only[Act.put,ag,ah,aj,aF,aB,aC])
  refine aH ?_;refine bJ (fun w'=>At w' g (i*3+1) (.slice (some ⟨gd,0,none⟩) (k0+1) cap)) [1,2,3,5,6,7,8,9,10] ?_
  repeat (refine aN _ rfl (by kernel_rfl) (fun _ _ _ h=>h) h0 (fun w' hS=>by(try dsimp only at hS);(try simp only[ag,ah,aj]);go_simp;try with_reducible rfl) ?_;try simp only[Act.put,ag,ah,aj,aF,aB,aC])
  refine bH (by kernel_rfl) ?_;refine aY [11] ?_
  repeat (refine ay _ rfl (by kernel_rfl) (fun _ _ _ h=>h) (fun w'=>by(try simp only[ag,ah,aj]);go_simp;try with_reducible rfl) ?_;try simp only[Act.put,ag,ah,aj,aF,aB,aC])
  refine aH ?_;refine wpAny_done (by kernel_rfl) ?_ _;clear h0
  go_wp2_with fail
  refine aP (by kernel_rfl) ?_;have sd:=S7.out.drew;generalize V2.drew=V3 at sd ⊢
  have rG:=sd.row (k:=G) (vs:=[J R.e,.slice oa nn c,J R.n,Ju R.v]) (t:=60) (Bs.length+7) (by simp);have h0:At V3 G 0 (J R.e)∧At V3 G 1 (.slice oa nn c)∧At V3 G 2 (J R.n)∧At V3 G 3 (Ju R.v):=⟨rG.cell rfl,rG.cell rfl,rG.cell rfl,rG.cell rfl⟩
  have S8:=zd sd;clear sd rG S7;refine aY [0,1,2,4,5] ?_
  repeat (refine ay _ rfl (by kernel_rfl) (fun _ _ _ h=>h) (fun w'=>by(try simp only[ag,ah,aj]);go_simp;try with_reducible rfl) ?_;try simp only[Act.put,ag,ah,aj,aF,aB,aC])
  refine aH ?_;refine cu (fun w'=>At w' G 0 (J R.e)∧At w' G 1 (.slice oa nn c)∧At w' G 2 (J R.n)∧At w' G 3 (Ju R.v)) [3,6] [3] ?_
  repeat (refine aN _ rfl (by kernel_rfl) (fun _ _ _ h=>h) h0 (fun w' hS=>by(try dsimp only at hS);(try simp only[ag,ah,aj]);go_simp;try with_reducible rfl) ?_;try simp only[Act.put,ag,ah,aj,aF,aB,aC])
  refine bM ?_;have dg:∀ j,j<12→((ds0++bG (y,sv0))++rest)[k0*12+j]? =(bG (y,sv0))[j]?:=fun j hj=>by
   rw[←Hdl.out,List.append_assoc,List.getElem?_append_right (by omega),Nat.add_sub_cancel_left,List.getElem?_append_left (by rw[qg];exact hj)]
  have rd:=S8.out.row (k:=gd) 0 rfl;have d11:=rd.cell ((dg 11 (by omega)).trans rfl);have d6:=rd.cell ((dg 6 (by omega)).trans rfl);have d7:=rd.cell ((dg 7 (by omega)).trans rfl);have d8:=rd.cell ((dg 8 (by omega)).trans rfl);have d9:=rd.cell ((dg 9 (by omega)).trans rfl);have e11:=rd.free (k0*12+11);have e6:=rd.free (k0*12+6);have e7:=rd.free (k0*12+7);have e8:=rd.free (k0*12+8);have e9:=rd.free (k0*12+9);have q0:Scope S w0 V3 ([]++([box gd ((ds0++bG (y,sv0))++rest) 62]++(ae A rs' o.s::iR A.P rs' b o.M::fO (.slice oa R.pk.length c) R.pk::bP::box p [ptr A.P,.slice (some ⟨g,0,none⟩) n n,J (steps+1),J left] 80::box g wcs 94::(Bs++[box G [J R.e,.slice oa nn c,J R.n,Ju R.v] 60])))):=S8.out;have q5:=Scope.au (Scope.au (Scope.au (Scope.au (Scope.au q0 (k0*12+11) (J steps)) (k0*12+6) (J R.e)) (k0*12+7) (.slice oa nn c)) (k0*12+8) (J R.n)) (k0*12+9) (Ju R.v);rw[O9 ds0 rest k0 Hdl.out y sv0 (.slice oa nn c) R steps]at q5;have Q5:=zd q5;have q1:=Scope.au q0 (k0*12+11) (J steps);have rG1:=q1.row (k:=G) (vs:=[J R.e,.slice oa nn c,J R.n,Ju R.v]) (t:=60) (Bs.length+7) (by simp);have h1:=And.intro (rG1.cell (j:=0) rfl) (And.intro (rG1.cell (j:=1) rfl) (And.intro (rG1.cell (j:=2) rfl) (rG1.cell (j:=3) rfl)));clear rd dg q0 q5 q1 rG1 S8;refine aK 6 (by kernel_rfl) rfl (by rfl) fun K hK=>?_
  go_simp;refine hK _ _ ⟨fun _=>h1,?_⟩;clear hK K h0 h1
  try simp only[Act.put,ag,ah,aj,aF,aB,aC]
  refine dB [] (bH (by kernel_rfl) ?_);refine aY [7,8] ?_
  repeat (refine ay _ rfl (by kernel_rfl) (fun _ _ _ h=>h) (fun w'=>by(try simp only[ag,ah,aj]);go_simp;try with_reducible rfl) ?_;try simp only[Act.put,ag,ah,aj,aF,aB,aC])
  refine aH ?_;refine af 9 (by kernel_rfl) rfl (by rfl) fun K hK=>?_
  go_simp;refine hK _ _ ?_;clear hK K
  try simp only[Act.put,ag,ah,aj,aF,aB,aC]
  refine wpAny_done (by kernel_rfl) ?_ _;clear d11 d6 d7 d8 d9 e11 e6 e7 e8 e9;obtain⟨V4,hV4⟩:∃ V4,V4=((((V3.setCell ⟨gd,k0*12+11,none⟩ (J steps)).setCell ⟨gd,k0*12+6,none⟩ (J R.e)).setCell ⟨gd,k0*12+7,none⟩ (.slice oa nn c)).setCell ⟨gd,k0*12+8,none⟩ (J R.n)).setCell ⟨gd,k0*12+9,none⟩ (Ju R.v):=⟨_,rfl⟩
  have q6:=Q5.out;rw[←hV4]at q6 ⊢
  have q6:Scope S w0 V4 ([box gd ((ds0++bG ({ y with te:=steps,r:=R },.slice oa nn c))++rest) 62,ae A rs' o.s,iR A.P rs' b o.M,fO (.slice oa R.pk.length c) R.pk,bP,box p [ptr A.P,.slice (some ⟨g,0,none⟩) n n,J (steps+1),J left] 80]++([box g wcs 94]++(Bs++[box G [J R.e,.slice oa nn c,J R.n,Ju R.v] 60]))):=q6;have hne:=q6.bne (i:=5) (j:=6) (by omega) rfl rfl;have rp:=q6.row (k:=p) 5 rfl;have rg:=q6.row (k:=g) 6 rfl;have p3:=rp.cell (j:=3) rfl;have fp3:=rp.free 3;have g2:=rg.cell H2.out;have fg2:=rg.free (i*3+2);have q7:=Scope.au q6 (i*3+2) .nilFunc;have q7:Scope S w0 _ ([box gd ((ds0++bG ({ y with te:=steps,r:=R },.slice oa nn c))++rest) 62,ae A rs' o.s,iR A.P rs' b o.M,fO (.slice oa R.pk.length c) R.pk,bP]++([box p [ptr A.P,.slice (some ⟨g,0,none⟩) n n,J (steps+1),J left] 80]++(box g (wcs.set (i*3+2) .nilFunc) 94::(Bs++[box G [J R.e,.slice oa nn c,J R.n,Ju R.v] 60])))):=q7;have Q8:=zd (Scope.au q7 3 (J (left - 1)));clear q6 q7 rp rg hV4 Q5
  go_wp2
  go_ret
  refine⟨rfl,rs',oa,c,Hr1.out,by rw[Ho.out];exact Hr2.out,.inr ⟨by rw[Ho.out];exact Hd.out,?_⟩⟩;rw[Ho.out,HR.out,Hnn.out];have q9:=Q8.out;rw[Hnn.out]at q9;have q9:Scope S w0 _ (box gd ((ds0++bG ({ y with te:=steps,r:=R },.slice oa nn c))++rest) 62::ae A rs' o.s::iR A.P rs' b o.M::fO (.slice oa nn c) R.pk::bP::box p [ptr A.P,.slice (some ⟨g,0,none⟩) n n,J (steps+1),J (left - 1)] 80::box g (wcs.set (i*3+2) .nilFunc) 94::(Bs++[box G [J R.e,.slice oa nn c,J R.n,Ju R.v] 60])):=q9;have q10:=Scope.own (n:=k0+1) (size:=12) q9 Hc1.out Hc2.out (by have:=Hc3.out;simpa [bG]using this) (by have:=Hc4.out;simpa [bG]using this);have q11:Scope S w0 _ ([iR A.P rs' b o.M]++([aU (.slice (some ⟨gd,0,none⟩) (k0+1) cap) 62 12 (k0+1) (ds0++bG ({ y with te:=steps,r:=R },.slice oa nn c)),ae A rs' o.s,fO (.slice oa nn c) R.pk,bP,box p [ptr A.P,.slice (some ⟨g,0,none⟩) n n,J (steps+1),J (left - 1)] 80,box g (wcs.set (i*3+2) .nilFunc) 94]++(Bs++[box G [J R.e,.slice oa nn c,J R.n,Ju R.v] 60]))):=q10.front 2 rfl;have q12:=q11.drop_left;have q13:∀ W,Scope S w0 W ([aU (.slice (some ⟨gd,0,none⟩) (k0+1) cap) 62 12 (k0+1) (ds0++bG ({ y with te:=steps,r:=R },.slice oa nn c)),ae A rs' o.s,fO (.slice oa nn c) R.pk,bP,box p [ptr A.P,.slice (some ⟨g,0,none⟩) n n,J (steps+1),J (left - 1)] 80,box g (wcs.set (i*3+2) .nilFunc) 94]++(Bs++[box G [J R.e,.slice oa nn c,J R.n,Ju R.v] 60]))→Scope S w0 W ([aU (.slice (some ⟨gd,0,none⟩) (k0+1) cap) 62 12 (k0+1) (ds0++bG ({ y with te:=steps,r:=R },.slice oa nn c)),ae A rs' o.s,fO (.slice oa nn c) R.pk,bP,box p [ptr A.P,.slice (some ⟨g,0,none⟩) n n,J (steps+1),J (left - 1)] 80,box g (wcs.set (i*3+2) .nilFunc) 94]++Bs):=fun W h=>Scope.drop (Bs:=[box G [J R.e,.slice oa nn c,J R.n,Ju R.v] 60]) (by rw[List.append_assoc];exact h)
  have q14:=q13 _ q12
  exact q14.perm (List.perm_middle (l₁:=[ae A rs' o.s,fO (.slice oa nn c) R.pk,bP,box p [ptr A.P,.slice (some ⟨g,0,none⟩) n n,J (steps+1),J (left - 1)] 80,box g (wcs.set (i*3+2) .nilFunc) 94])).symm
end
section
variable {A:PA} {rs:List Nat} {s s1:PS} {p g n i k0 nl N m:Nat} {steps left:Int} {wcs ds0:List Value} {lv dv:Value} {y:Dn} {M:ku} {L:List Cl} {cl:Cl} {S:List Nat} {w0 w:World} {Bs:List HA}
theorem OC {α:Type} (l:List α):(List.range l.length).filterMap (fun i=>l[i]?)=l:=by
 induction l with
 |nil=>rfl
 |cons x l ih=>rw[List.length_cons,List.range_succ_eq_map];simp only[List.filterMap_cons,List.getElem?_cons_zero,List.filterMap_map];exact congrArg (x:: ·) ih
theorem Scope.oP {As:List HA} (h:Scope S w0 w (As++Bs)) (ix:List Nat) (hp:(List.range As.length).isPerm ix=true):Scope S w0 w (ix.filterMap (fun i=>As[i]?)++Bs):=by
 have h1:=(List.isPerm_iff.1 hp).filterMap (fun i=>As[i]?);rw[OC]at h1
 exact h.perm (h1.append_right Bs)
theorem Pg (hi:i<n) (h0:wcs[i*3]? =some lv) (h1:wcs[i*3+1]? =some dv) (h2:wcs[i*3+2]? =some .nilFunc) (h:Scope S w0 w (ae A rs s::box p [ptr A.P,.slice (some ⟨g,0,none⟩) n n,J steps,J left] 80::box g wcs 94::aU lv 49 4 nl (recs Cl.cells L)::aU dv 62 12 nl ds0::Bs)):Calls prog 16 #[ptr p,J (i:Nat)] w fun e' w'=>e'=.returned (.bool false)∧Scope S w0 w' (ae A rs s::box p [ptr A.P,.slice (some ⟨g,0,none⟩) n n,J steps,J left] 80::box g wcs 94::aU lv 49 4 nl (recs Cl.cells L)::aU dv 62 12 nl ds0::Bs):=by
 have rp:=h.row (k:=p) 1 rfl;have rg:=h.row (k:=g) 2 rfl;have c1:=rp.cell (j:=1) rfl;have g2:=rg.cell h2;have lg:=rg.lt;have hnf:=PY;have H1:=zd h0;have H2:=zd h1;have Hh:=zd h;clear h rp rg h0 h1 h2
 go_enter func16,ntmps16
 go_wp2_with fail
 refine(LZ (by assumption) H1.out H2.out Hh.out).mono ?_
 rintro er w1 ⟨rfl,s2⟩
 have S2:=zd s2;clear s2 c1 g2 lg Hh
 go_wp2
 go_ret
 exact⟨rfl,S2.out⟩
theorem Oa (hi:i<n) (hn:n≤6) (hk0:k0<1000) (hst0:0≤steps) (hst1:steps<1000000) (hlf0:0≤left) (hlf1:left<1000000) (hdl:ds0.length=k0*12) (hk:L[k0]? =some cl) (hnl:nl=L.length) (hl60:nl≤1000) (h0:wcs[i*3]? =some lv) (h1:wcs[i*3+1]? =some dv) (h2:wcs[i*3+2]? =some .nilFunc) (hA:Aq A) (hA1:1≤A.sh) (hA4:A.sh≤4)
  (hs1:s1={ s with pl:=upd s.pl (i:Nat) (k0:Nat) }) (hM1:M=ku.new A (i:Nat) cl) (hy:y=⟨(i:Nat),(k0:Nat),cl,Rt.zero,steps, -1⟩)
  (hrs:rs.length=s1.ob.length) (hN:N≤20000) (hP:jd s1 N) (hK:oL A.wd s1 m) (hm:m+M.woken≤N) (hM:MInv A s1 N M) (h:Scope S w0 w (ae A rs s::box p [ptr A.P,.slice (some ⟨g,0,none⟩) n n,J steps,J left] 80::box g wcs 94::aU lv 49 4 nl (recs Cl.cells L)::aU dv 62 12 k0 ds0::bP::Bs)):
  Calls prog 16 #[ptr p,J (i:Nat)] w fun e' w'=>∃ dv1 b wcs1,wcs1=(wcs.set (i*3+1) dv1).set (i*3+2) (.func (.func M.f) #[ptr b] #[])∧JJ S w0 A rs p g n i k0 b steps left wcs1 ds0 dv1 (nS) y (eu A s1 M steps) (aU lv 49 4 nl (recs Cl.cells L)::Bs) e' w':=by
 have hwr:IntKind.i64.wrap (steps+1)=steps+1:=by rw[IntKind.wrap_i64];omega
 have hwl:IntKind.i64.wrap (left - 1)=left - 1:=by rw[IntKind.wrap_i64];omega
 have rp:=h.row (k:=p) 1 rfl;have rg:=h.row (k:=g) 2 rfl;have c1:=rp.cell (j:=1) rfl;have g2:=rg.cell h2;have lg:=rg.lt;have hnf:=PY;have H0:=zd h0;have H1a:=zd h1;have H2a:=zd h2;have Hh:=zd h;have Hdl:=zd hdl;have Hm:=zd hm;have Hk:=zd hk;have Hnl:=zd hnl;have Hs1:=zd hs1;have HM1:=zd hM1;have Hy:=zd hy;have Hrs:=zd hrs;have Hl60:=zd hl60;clear h rp rg h0 h1 h2 hdl hm hk hnl hs1 hM1 hy hrs hl60
 go_enter func16,ntmps16
 go_wp2_with fail
 refine(Kr hA1 hA4 hi hn Hk.out Hnl.out Hl60.out H0.out H1a.out (by rw[H2a.out];rfl) Hh.out).mono ?_
 rintro er w1 ⟨dv1,b,rfl,s2⟩
 obtain⟨wcs1,hw1⟩:∃ wcs1,wcs1=(wcs.set (i*3+1) dv1).set (i*3+2) (.func (.func M.f) #[ptr b] #[]):=⟨_,rfl⟩
 rw[←HM1.out, ←hw1, ←Hs1.out, ←Hy.out]at s2;have hlen1:i*3+1<wcs.length:=(List.getElem?_eq_some_iff.1 H1a.out).1;have hlen2:i*3+2<wcs.length:=(List.getElem?_eq_some_iff.1 H2a.out).1;have H1:=zd (show wcs1[i*3+1]? =some dv1 by rw[hw1,List.getElem?_set_ne (by omega),List.getElem?_set_self hlen1]);have H2:=zd (show wcs1[i*3+2]? =some (.func (.func M.f) #[ptr b] #[]) by rw[hw1,List.getElem?_set_self (by rw[List.length_set];exact hlen2)]);have Hw1:=zd hw1;clear hw1 hlen1 hlen2 c1 g2 lg hnf Hh;have s2:Scope S w0 w1 ([ae A rs s1,box p [ptr A.P,.slice (some ⟨g,0,none⟩) n n,J steps,J left] 80,box g wcs1 94,aU lv 49 4 nl (recs Cl.cells L),aU dv1 62 12 (k0+1) (ds0++bG (y,(nS))),iR A.P rs b M,bP]++Bs):=s2;have h:=(show Scope S w0 w1 (ae A rs s1::iR A.P rs b M::bP::box p [ptr A.P,.slice (some ⟨g,0,none⟩) n n,J steps,J left] 80::box g wcs1 94::aU dv1 62 12 (k0+1) (ds0++bG (y,(nS)))::(aU lv 49 4 nl (recs Cl.cells L)::Bs))from(s2.oP [0,5,6,1,2,4,3] (by rfl)))
 have hne:=h.bne (i:=3) (j:=4) (by omega) rfl rfl;have rp:=h.row (k:=p) 3 rfl;have rg:=h.row (k:=g) 4 rfl;have c1:=rp.cell (j:=1) rfl;have c2:=rp.cell (j:=2) rfl;have f2:=rp.free 2;have g2:=rg.cell H2.out;have lg:=rg.lt;have hent:=M.enters;have q1:Scope S w0 w1 ([ae A rs s1,iR A.P rs b M,bP]++([box p [ptr A.P,.slice (some ⟨g,0,none⟩) n n,J steps,J left] 80]++(box g wcs1 94::aU dv1 62 12 (k0+1) (ds0++bG (y,(nS)))::(aU lv 49 4 nl (recs Cl.cells L)::Bs)))):=h;have S2:=zd (Scope.au q1 2 (J (steps+1)));clear h rp rg q1 s2
 go_wp2_with fail
 clear c1 c2 f2 g2 lg hne;obtain⟨V1,hV1⟩:∃ V1,V1=w1.setCell ⟨p,2,none⟩ (J (steps+1)):=⟨_,rfl⟩
 have s2:=S2.out;rw[←hV1]at s2 ⊢
 have s2:Scope S w0 V1 (ae A rs s1::iR A.P rs b M::bP::(box p [ptr A.P,.slice (some ⟨g,0,none⟩) n n,J (steps+1),J left] 80::box g wcs1 94::aU dv1 62 12 (k0+1) (ds0++bG (y,(nS)))::(aU lv 49 4 nl (recs Cl.cells L)::Bs))):=s2;have S3:=zd s2;clear s2 hV1 S2;refine(wH steps hA Hrs.out hN hP hK Hm.out hM S3.out).mono ?_
 rintro er w2 ⟨rs',oa,c,hr1,hr2,rfl,s4⟩
 obtain⟨o,ho⟩:∃ o,eu A s1 M steps=o:=⟨_,rfl⟩
 have Ho:=zd ho;rw[ho]at s4 hr2 ⊢
 obtain⟨R,hR⟩:∃ R,o.r=R:=⟨_,rfl⟩
 have HR:=zd hR;rw[hR]at s4 ⊢
 obtain⟨nn,hnn⟩:∃ nn,R.pk.length=nn:=⟨_,rfl⟩
 have Hnn:=zd hnn;rw[show(R.val (.slice oa R.pk.length c))=.agg #[J R.e,.slice oa nn c,J R.n,Ju R.v] by rw[hnn]];have S4:=zd s4;have Hr1:=zd hr1;have Hr2:=zd hr2;clear s4 hnn hR ho S3 hr1 hr2 hent;obtain⟨d,hd⟩:∃ d,o.d=d:=⟨_,rfl⟩
 rw[hd];have Hd:=zd hd;clear hd
 cases d
 ·go_wp2
  go_ret
  refine⟨dv1,b,wcs1,Hw1.out,rfl,rs',oa,c,Hr1.out,by rw[Ho.out];exact Hr2.out,.inl ⟨by rw[Ho.out];exact Hd.out,?_⟩⟩;rw[Ho.out];have s5:Scope S w0 w2 ([fO (.slice oa R.pk.length c) R.pk]++(ae A rs' o.s::iR A.P rs' b o.M::bP::box p [ptr A.P,.slice (some ⟨g,0,none⟩) n n,J (steps+1),J left] 80::box g wcs1 94::aU dv1 62 12 (k0+1) (ds0++bG (y,(nS)))::(aU lv 49 4 nl (recs Cl.cells L)::Bs))):=S4.out.front 2 rfl
  exact s5.drop_left.alloc _
 ·have s5:=S4.out.box [J R.e,.slice oa nn c,J R.n,Ju R.v] 60
  obtain⟨G,hG⟩:∃ G,G=w2.heap.size:=⟨_,rfl⟩
  obtain⟨W3,hW3⟩:∃ W3,W3=w2.alloc (.cells #[J R.e,.slice oa nn c,J R.n,Ju R.v] 60):=⟨_,rfl⟩
  rw[←hG,show w2.alloc (.cells ([J R.e,.slice oa nn c,J R.n,Ju R.v]:List Value).toArray 60)=W3 from hW3.symm]at s5;have s5:Scope S w0 W3 (ae A rs' o.s::iR A.P rs' b o.M::fO (.slice oa R.pk.length c) R.pk::bP::box p [ptr A.P,.slice (some ⟨g,0,none⟩) n n,J (steps+1),J left] 80::box g wcs1 94::aU dv1 62 12 (k0+1) (ds0++bG (y,(nS)))::(aU lv 49 4 nl (recs Cl.cells L)::Bs++[box G [J R.e,.slice oa nn c,J R.n,Ju R.v] 60])):=s5;obtain⟨gd,cap,rest,hdv,s6,hc1,hc2,hc3,hc4⟩:=Scope.qj (s5.front 6 rfl) (by omega:0<k0+1);subst hdv;have s6:Scope S w0 W3 (box gd ((ds0++bG (y,(nS)))++rest) 62::ae A rs' o.s::iR A.P rs' b o.M::fO (.slice oa R.pk.length c) R.pk::bP::box p [ptr A.P,.slice (some ⟨g,0,none⟩) n n,J (steps+1),J left] 80::box g wcs1 94::(aU lv 49 4 nl (recs Cl.cells L)::Bs++[box G [J R.e,.slice oa nn c,J R.n,Ju R.v] 60])):=s6;have hwk:IntKind.i64.wrap (((k0+1:Nat):Int) - 1)=(k0:Nat):=by rw[IntKind.wrap_i64];omega
  have hwk2:IntKind.i64.wrap (((k0:Nat):Int)+1 - 1)=(k0:Nat):=by rw[IntKind.wrap_i64];omega
  have hwk3:IntKind.i64.wrap ((k0:Nat):Int)=(k0:Nat):=by rw[IntKind.wrap_i64];omega
  have hwk4:((k0:Nat):Int)<(k0:Nat)+1:=by omega
  have S6:=zd s6;have HG:=zd hG;have HW3:=zd hW3;have Hc1:=zd hc1;have Hc2:=zd hc2;have Hc3:=zd hc3;have Hc4:=zd hc4;clear s5 s6 S4 hG hW3 hc1 hc2 hc3 hc4
  go_wp2_with fail
  rw[←HG.out, ←HW3.out];refine aP (by kernel_rfl) ?_;have sd:=S6.out.drew;generalize W3.drew=V2 at sd ⊢
  have h0:At V2 g (i*3+1) (.slice (some ⟨gd,0,none⟩) (k0+1) cap):=(sd.row (k:=g) 6 rfl).cell H1.out;have S7:=zd sd;clear sd S6;refine aY [0,4] ?_
  repeat (refine ay _ rfl (by kernel_rfl) (fun _ _ _ h=>h) (fun w'=>by(try simp only[ag,ah,aj]);go_simp;try with_reducible rfl) ?_;try simp only[Act.put,ag,ah,aj,aF,aB,aC])
  refine aH ?_;refine bJ (fun w'=>At w' g (i*3+1) (.slice (some ⟨gd,0,none⟩) (k0+1) cap)) [1,2,3,5,6,7,8,9,10] ?_
  repeat (refine aN _ rfl (by kernel_rfl) (fun _ _ _ h=>h) h0 (fun w' hS=>by(try dsimp only at hS);(try simp only[ag,ah,aj]);go_simp;try with_reducible rfl) ?_;try simp only[Act.put,ag,ah,aj,aF,aB,aC])
  refine bH (by kernel_rfl) ?_;refine aY [11] ?_
  repeat (refine ay _ rfl (by kernel_rfl) (fun _ _ _ h=>h) (fun w'=>by(try simp only[ag,ah,aj]);go_simp;try with_reducible rfl) ?_;try simp only[Act.put,ag,ah,aj,aF,aB,aC])
  refine aH ?_;refine wpAny_done (by kernel_rfl) ?_ _;clear h0
  go_wp2_with fail
  refine aP (by kernel_rfl) ?_;have sd:=S7.out.drew;generalize V2.drew=V3 at sd ⊢
  have rG:=sd.row (k:=G) (vs:=[J R.e,.slice oa nn c,J R.n,Ju R.v]) (t:=60) (Bs.length+8) (by simp);have h0:At V3 G 0 (J R.e)∧At V3 G 1 (.slice oa nn c)∧At V3 G 2 (J R.n)∧At V3 G 3 (Ju R.v):=⟨rG.cell rfl,rG.cell rfl,rG.cell rfl,rG.cell rfl⟩
  have S8:=zd sd;clear sd rG S7;refine aY [0,1,2,4,5] ?_
  repeat (refine ay _ rfl (by kernel_rfl) (fun _ _ _ h=>h) (fun w'=>by(try simp only[ag,ah,aj]);go_simp;try with_reducible rfl) ?_;try simp only[Act.put,ag,ah,aj,aF,aB,aC])
  refine aH ?_;refine cu (fun w'=>At w' G 0 (J R.e)∧At w' G 1 (.slice oa nn c)∧At w' G 2 (J R.n)∧At w' G 3 (Ju R.v)) [3,6] [3] ?_
  repeat (refine aN _ rfl (by kernel_rfl) (fun _ _ _ h=>h) h0 (fun w' hS=>by(try dsimp only at hS);(try simp only[ag,ah,aj]);go_simp;try with_reducible rfl) ?_;try simp only[Act.put,ag,ah,aj,aF,aB,aC])
  refine bM ?_;have dg:∀ j,j<12→((ds0++bG (y,(nS)))++rest)[k0*12+j]? =(bG (y,(nS)))[j]?:=fun j hj=>by
   rw[←Hdl.out,List.append_assoc,List.getElem?_append_right (by omega),Nat.add_sub_cancel_left,List.getElem?_append_left (by rw[qg];exact hj)]
  have rd:=S8.out.row (k:=gd) 0 rfl;have d11:=rd.cell ((dg 11 (by omega)).trans rfl);have d6:=rd.cell ((dg 6 (by omega)).trans rfl);have d7:=rd.cell ((dg 7 (by omega)).trans rfl);have d8:=rd.cell ((dg 8 (by omega)).trans rfl);have d9:=rd.cell ((dg 9 (by omega)).trans rfl);have e11:=rd.free (k0*12+11);have e6:=rd.free (k0*12+6);have e7:=rd.free (k0*12+7);have e8:=rd.free (k0*12+8);have e9:=rd.free (k0*12+9);have q0:Scope S w0 V3 ([]++([box gd ((ds0++bG (y,(nS)))++rest) 62]++(ae A rs' o.s::iR A.P rs' b o.M::fO (.slice oa R.pk.length c) R.pk::bP::box p [ptr A.P,.slice (some ⟨g,0,none⟩) n n,J (steps+1),J left] 80::box g wcs1 94::(aU lv 49 4 nl (recs Cl.cells L)::Bs++[box G [J R.e,.slice oa nn c,J R.n,Ju R.v] 60])))):=S8.out;have q5:=Scope.au (Scope.au (Scope.au (Scope.au (Scope.au q0 (k0*12+11) (J steps)) (k0*12+6) (J R.e)) (k0*12+7) (.slice oa nn c)) (k0*12+8) (J R.n)) (k0*12+9) (Ju R.v);rw[O9 ds0 rest k0 Hdl.out y (nS) (.slice oa nn c) R steps]at q5;have Q5:=zd q5;have q1:=Scope.au q0 (k0*12+11) (J steps);have rG1:=q1.row (k:=G) (vs:=[J R.e,.slice oa nn c,J R.n,Ju R.v]) (t:=60) (Bs.length+8) (by simp);have h1:=And.intro (rG1.cell (j:=0) rfl) (And.intro (rG1.cell (j:=1) rfl) (And.intro (rG1.cell (j:=2) rfl) (rG1.cell (j:=3) rfl)));clear rd dg q0 q5 q1 rG1 S8;refine aK 6 (by kernel_rfl) rfl (by rfl) fun K hK=>?_
  go_simp;refine hK _ _ ⟨fun _=>h1,?_⟩;clear hK K h0 h1
  try simp only[Act.put,ag,ah,aj,aF,aB,aC]
  refine dB [] (bH (by kernel_rfl) ?_);refine aY [7,8] ?_
  repeat (refine ay _ rfl (by kernel_rfl) (fun _ _ _ h=>h) (fun w'=>by(try simp only[ag,ah,aj]);go_simp;try with_reducible rfl) ?_;try simp only[Act.put,ag,ah,aj,aF,aB,aC])
  refine aH ?_;refine af 9 (by kernel_rfl) rfl (by rfl) fun K hK=>?_
  go_simp;refine hK _ _ ?_;clear hK K
  try simp only[Act.put,ag,ah,aj,aF,aB,aC]
  refine wpAny_done (by kernel_rfl) ?_ _;clear d11 d6 d7 d8 d9 e11 e6 e7 e8 e9;obtain⟨V4,hV4⟩:∃ V4,V4=((((V3.setCell ⟨gd,k0*12+11,none⟩ (J steps)).setCell ⟨gd,k0*12+6,none⟩ (J R.e)).setCell ⟨gd,k0*12+7,none⟩ (.slice oa nn c)).setCell ⟨gd,k0*12+8,none⟩ (J R.n)).setCell ⟨gd,k0*12+9,none⟩ (Ju R.v):=⟨_,rfl⟩
  have q6:=Q5.out;rw[←hV4]at q6 ⊢
  have q6:Scope S w0 V4 ([box gd ((ds0++bG ({ y with te:=steps,r:=R },.slice oa nn c))++rest) 62,ae A rs' o.s,iR A.P rs' b o.M,fO (.slice oa R.pk.length c) R.pk,bP,box p [ptr A.P,.slice (some ⟨g,0,none⟩) n n,J (steps+1),J left] 80]++([box g wcs1 94]++(aU lv 49 4 nl (recs Cl.cells L)::Bs++[box G [J R.e,.slice oa nn c,J R.n,Ju R.v] 60]))):=q6;have hne:=q6.bne (i:=5) (j:=6) (by omega) rfl rfl;have rp:=q6.row (k:=p) 5 rfl;have rg:=q6.row (k:=g) 6 rfl;have p3:=rp.cell (j:=3) rfl;have fp3:=rp.free 3;have g2:=rg.cell H2.out;have fg2:=rg.free (i*3+2);have q7:=Scope.au q6 (i*3+2) .nilFunc;have q7:Scope S w0 _ ([box gd ((ds0++bG ({ y with te:=steps,r:=R },.slice oa nn c))++rest) 62,ae A rs' o.s,iR A.P rs' b o.M,fO (.slice oa R.pk.length c) R.pk,bP]++([box p [ptr A.P,.slice (some ⟨g,0,none⟩) n n,J (steps+1),J left] 80]++(box g (wcs1.set (i*3+2) .nilFunc) 94::(aU lv 49 4 nl (recs Cl.cells L)::Bs++[box G [J R.e,.slice oa nn c,J R.n,Ju R.v] 60])))):=q7;have Q8:=zd (Scope.au q7 3 (J (left - 1)));clear q6 q7 rp rg hV4 Q5
  go_wp2
  go_ret
  refine⟨.slice (some ⟨gd,0,none⟩) (k0+1) cap,b,wcs1,Hw1.out,rfl,rs',oa,c,Hr1.out,by rw[Ho.out];exact Hr2.out,.inr ⟨by rw[Ho.out];exact Hd.out,?_⟩⟩;rw[Ho.out,HR.out,Hnn.out];have q9:=Q8.out;rw[Hnn.out]at q9;have q9:Scope S w0 _ (box gd ((ds0++bG ({ y with te:=steps,r:=R },.slice oa nn c))++rest) 62::ae A rs' o.s::iR A.P rs' b o.M::fO (.slice oa nn c) R.pk::bP::box p [ptr A.P,.slice (some ⟨g,0,none⟩) n n,J (steps+1),J (left - 1)] 80::box g (wcs1.set (i*3+2) .nilFunc) 94::(aU lv 49 4 nl (recs Cl.cells L)::Bs++[box G [J R.e,.slice oa nn c,J R.n,Ju R.v] 60])):=q9;have q10:=Scope.own (n:=k0+1) (size:=12) q9 Hc1.out Hc2.out (by have:=Hc3.out;simpa [bG]using this) (by have:=Hc4.out;simpa [bG]using this);have q11:Scope S w0 _ ([iR A.P rs' b o.M]++([aU (.slice (some ⟨gd,0,none⟩) (k0+1) cap) 62 12 (k0+1) (ds0++bG ({ y with te:=steps,r:=R },.slice oa nn c)),ae A rs' o.s,fO (.slice oa nn c) R.pk,bP,box p [ptr A.P,.slice (some ⟨g,0,none⟩) n n,J (steps+1),J (left - 1)] 80,box g (wcs1.set (i*3+2) .nilFunc) 94]++(aU lv 49 4 nl (recs Cl.cells L)::Bs++[box G [J R.e,.slice oa nn c,J R.n,Ju R.v] 60]))):=q10.front 2 rfl;have q12:=q11.drop_left;have q13:∀ W,Scope S w0 W ([aU (.slice (some ⟨gd,0,none⟩) (k0+1) cap) 62 12 (k0+1) (ds0++bG ({ y with te:=steps,r:=R },.slice oa nn c)),ae A rs' o.s,fO (.slice oa nn c) R.pk,bP,box p [ptr A.P,.slice (some ⟨g,0,none⟩) n n,J (steps+1),J (left - 1)] 80,box g (wcs1.set (i*3+2) .nilFunc) 94]++(aU lv 49 4 nl (recs Cl.cells L)::Bs++[box G [J R.e,.slice oa nn c,J R.n,Ju R.v] 60]))→Scope S w0 W ([aU (.slice (some ⟨gd,0,none⟩) (k0+1) cap) 62 12 (k0+1) (ds0++bG ({ y with te:=steps,r:=R },.slice oa nn c)),ae A rs' o.s,fO (.slice oa nn c) R.pk,bP,box p [ptr A.P,.slice (some ⟨g,0,none⟩) n n,J (steps+1),J (left - 1)] 80,box g (wcs1.set (i*3+2) .nilFunc) 94]++(aU lv 49 4 nl (recs Cl.cells L)::Bs)):=fun W h=>Scope.drop (Bs:=[box G [J R.e,.slice oa nn c,J R.n,Ju R.v] 60]) (by rw[List.append_assoc];exact h)
  have q14:=q13 _ q12
  exact q14.perm (List.perm_middle (l₁:=[ae A rs' o.s,fO (.slice oa nn c) R.pk,bP,box p [ptr A.P,.slice (some ⟨g,0,none⟩) n n,J (steps+1),J (left - 1)] 80,box g (wcs1.set (i*3+2) .nilFunc) 94])).symm
end
structure Wk where
 L:List Cl
 D:List Dn
 M:Option ku
structure WS where
 s:PS
 ks:List Wk
 steps:Int
 left:Int
def y7 (now:Int) (r:Rt):List Dn→List Dn
 | []=>[]
 | [y]=>[{ y with te:=now,r:=r }]
 |y::z::l=>y::y7 now r (z::l)
theorem vX (now:Int) (r:Rt) (l:List Dn) (y:Dn):y7 now r (l++[y])=l++[{ y with te:=now,r:=r }]:=by
 induction l with
 |nil=>rfl
 |cons x l ih=>
  cases l with
  |nil=>rfl
  |cons z l=>show x::y7 now r (z::l++[y])=_;rw[ih];rfl
theorem wL (now:Int) (r:Rt) (l:List Dn):(y7 now r l).length=l.length:=by
 rcases List.eq_nil_or_concat l with rfl|⟨l,y,rfl⟩
 ·rfl
 ·rw[List.concat_eq_append,vX];simp
def WS.go (A:PA) (W:WS) (s:PS) (L:List Cl) (D:List Dn) (M:ku) (i:Nat):WS:=
 ⟨(eu A s M W.steps).s,W.ks.set i ⟨L,cond (eu A s M W.steps).d (y7 W.steps (eu A s M W.steps).r D) D,cond (eu A s M W.steps).d none (some (eu A s M W.steps).M)⟩,W.steps+1,cond (eu A s M W.steps).d (W.left - 1) W.left⟩
def WS.pick (A:PA) (W:WS) (i:Nat):WS:=match W.ks[i]? with
 |none=>W
 |some x=>match x.M with
  |some M=>W.go A W.s x.L x.D M i
  |none=>match x.L[x.D.length]? with
   |none=>W
   |some c=>W.go A { W.s with pl:=upd W.s.pl (i:Nat) (x.D.length:Nat) } x.L (x.D++[⟨(i:Nat),(x.D.length:Nat),c,Rt.zero,W.steps, -1⟩]) (ku.new A (i:Nat) c) i
theorem WS.EE {A:PA} {W:WS} {i:Nat} {x:Wk} {M:ku} (hx:W.ks[i]? =some x) (hM:x.M=some M):W.pick A i=W.go A W.s x.L x.D M i:=by
 unfold WS.pick;rw[hx];dsimp only;rw[hM]
theorem WS.Le {A:PA} {W:WS} {i:Nat} {x:Wk} (hx:W.ks[i]? =some x) (hM:x.M=none) (hc:x.L[x.D.length]? =none):W.pick A i=W:=by
 unfold WS.pick;rw[hx];dsimp only;rw[hM];dsimp only;rw[hc]
theorem WS.Ey {A:PA} {W:WS} {i:Nat} {x:Wk} {c:Cl} (hx:W.ks[i]? =some x) (hM:x.M=none) (hc:x.L[x.D.length]? =some c):W.pick A i=W.go A { W.s with pl:=upd W.s.pl (i:Nat) (x.D.length:Nat) } x.L (x.D++[⟨(i:Nat),(x.D.length:Nat),c,Rt.zero,W.steps, -1⟩]) (ku.new A (i:Nat) c) i:=by
 unfold WS.pick;rw[hx];dsimp only;rw[hM];dsimp only;rw[hc]
def Wk.woken (x:Wk):Nat:=match x.M with
 |none=>0
 |some M=>M.woken
def Wk.left (x:Wk):Nat:=x.L.length - x.D.length+(match x.M with|none=>0|some _=>1)
def jH (f:Wk→Nat) (l:List Wk):Nat:=(l.map f).sum
theorem tJ:∀ {l:List Nat} {n:Nat},n∈l→n≤l.sum
 | [],_,h=>by cases h
 |x::l,n,h=>by
  rw[List.sum_cons]
  rcases List.mem_cons.1 h with rfl|h
  ·omega
  ·have:=tJ h;omega
theorem rU {f:Wk→Nat}:∀ {l:List Wk} {i:Nat} {x:Wk} (y:Wk),l[i]? =some x→jH f (l.set i y)+f x=jH f l+f y
 | [],_,_,_,h=>by simp at h
 |z::l,0,x,y,h=>by simp at h;subst h;simp[jH];omega
 |z::l,i+1,x,y,h=>by
  have:=rU (f:=f) (l:=l) (i:=i) y (by simpa using h)
  simp[jH]at this ⊢
  omega
theorem uD {f:Wk→Nat} {l:List Wk} {i:Nat} {x:Wk} (h:l[i]? =some x):f x≤jH f l:=by
 have h1:=rU (f:=f) (x:=x) ⟨[],[],none⟩ h;have h2:f ⟨[],[],none⟩≤jH f (l.set i ⟨[],[],none⟩):=by
  unfold jH
  exact tJ (List.mem_map.2 ⟨_,List.mem_of_getElem? (i:=i) (by rw[List.getElem?_set_self (List.getElem?_eq_some_iff.1 h).1]),rfl⟩)
 omega
structure nz (A:PA) (W:WS) (N:Nat):Prop where
 P:jd W.s N
 K:∃ m,oL A.wd W.s m∧m+jH Wk.woken W.ks≤N
 law:dJ W.s.σ.log
 who:∀ x∈W.s.σ.log,(0≤x.who∧x.who<A.wk)∧(x.loc.k=11→x.kind≤4)
 ks:W.ks.length=A.wk
 mac:∀ (i:Nat) (x:Wk) (M:ku),W.ks[i]? =some x→x.M=some M→MInv A W.s N M∧M.arm W.s.σ∧M.who=(i:Nat)∧x.D≠ []
 list:∀ (i:Nat) (x:Wk),W.ks[i]? =some x→x.D.length≤x.L.length∧x.L.length≤100∧∀ c∈x.L,uV c
 steps:W.steps=(N:Int)
 left:W.left=(jH Wk.left W.ks:Nat)
theorem Eff.who {b:Int} {σ σ':MS} (e:Eff b σ σ'):∀ x∈σ'.log,x∈σ.log∨(x.who=b∧(x.loc.k=11→x.kind≤4)):=by
 have key:∀ ext:List Ev,σ'.log=σ.log++ext→(∀ x∈ext,x.who=b∧(x.loc.k=11→x.kind≤4))→∀ x∈σ'.log,x∈σ.log∨(x.who=b∧(x.loc.k=11→x.kind≤4)):=fun ext h1 h2 x hx=>by
  rw[h1]at hx
  rcases List.mem_append.1 hx with h|h
  ·exact .inl h
  ·exact .inr (h2 x h)
 cases e with
 |quiet ext h1 h2 _=>exact key ext h1 (fun x hx=>⟨(h2 x hx).1,fun h=>absurd h (h2 x hx).2⟩)
 |load l h1 _=>subst h1;exact key [⟨b,1,l⟩] rfl (by simp)
 |turn o how x h1=>
  rcases xX σ b o how x with h5|h5|h5<;>rw[h5]at h1<;>subst h1
  ·exact key [] (by simp) (by simp)
  ·exact key [⟨b,3,bQ o⟩] rfl (by simp)
  ·exact key [⟨b,4,bQ o⟩] rfl (by simp)
theorem ku.TQ (A:PA) (who:Int) (c:Cl):(ku.new A who c).who=who:=by
 unfold ku.new
 cases (c.op==3)<;>simp only[cond_false,cond_true]<;>(try cases (c.op==1||c.op==2))<;>rfl
theorem ku.Ap (A:PA) (who:Int) (c:Cl):(ku.new A who c).woken=0:=by
 unfold ku.new
 cases (c.op==3)<;>simp only[cond_false,cond_true]<;>(try cases (c.op==1||c.op==2))<;>rfl
theorem ku.RS (A:PA) (who:Int) (c:Cl) (σ:MS):(ku.new A who c).arm σ:=by
 unfold ku.new
 cases (c.op==3)<;>simp only[cond_false,cond_true]
 ·cases (c.op==1||c.op==2)<;>simp only[cond_false,cond_true]
  ·exact fun h=>by cases h
  ·refine fun h=>?_
   have h:(cond (c.op==1) EL.come EL.leave)=EL.shut:=h
   cases h1:(c.op==1)<;>rw[h1]at h<;>cases h
 ·exact fun h=>by rcases h with h|h|h|h<;>cases h
theorem MInv.new {A:PA} {s:PS} {N:Nat} (hA:Aq A) {who:Int} {c:Cl} (h0:0≤who) (h6:who<6) (hc:uV c):MInv A s N (ku.new A who c):=by
 have hm:=Int.emod_nonneg c.flow (show((A.sh:Nat):Int)≠0 by have:=hA.sh1;omega);have hl:=Int.emod_lt_of_pos c.flow (show(0:Int)<(A.sh:Nat) by have:=hA.sh1;omega);have h4:=hA.sh4;have hs1:=hA.sl1;have u0:dC 0:=by unfold dC;omega
 unfold ku.new
 cases (c.op==3)<;>simp only[cond_false,cond_true]
 ·cases (c.op==1||c.op==2)<;>simp only[cond_false,cond_true]
  ·exact(⟨⟨h0,h6⟩,⟨by simp[eQ.new],by simp[eQ.new]⟩,fun h=>(by cases h),⟨by simp[eQ.new],by simp[eQ.new]⟩,fun h=>(by cases h),⟨by simp[eQ.new],by simp[eQ.new]⟩,fun h=>(by rcases h with h|h|h<;>cases h),fun h=>(by rcases h with h|h<;>cases h),⟨by simp[eQ.new],by simp[eQ.new]⟩,fun y hy=>(by simp[eQ.new]at hy),by simp[eQ.new],by simp[eQ.new],u0,u0,by unfold I64;simp[eQ.new],fun h=>(by cases h),fun i h=>by simp[eQ.new]at h⟩:xh A s N (eQ.new who c))
  ·have hst:(jo.new who c (c.flow % (A.sh:Int))).st=.come∨(jo.new who c (c.flow % (A.sh:Int))).st=.leave:=by
    show(cond (c.op==1) EL.come EL.leave)=_∨(cond (c.op==1) EL.come EL.leave)=_
    cases (c.op==1)
    ·exact .inr rfl
    ·exact .inl rfl
   refine(⟨⟨h0,h6⟩,⟨hm,by show _<(4:Int);have:(jo.new who c (c.flow % (A.sh:Int))).shard=c.flow % (A.sh:Int):=rfl;omega⟩,⟨by simp[jo.new],by simp[jo.new]⟩,fun _=>(by show(0:Int)<_;omega),⟨by simp[jo.new],by simp[jo.new]⟩,⟨by simp[jo.new],by simp[jo.new]⟩,u0,⟨by simp[jo.new],by simp[jo.new]⟩,fun h=>?_,fun h=>?_,fun _=>rfl,fun h=>?_,fun i h=>by simp[jo.new]at h,hc.2.1⟩:RInv A s (jo.new who c (c.flow % (A.sh:Int))))
   ·rcases hst with e|e<;>rw[e]at h<;>cases h
   ·rcases hst with e|e<;>rw[e]at h<;>rcases h with h|h|h<;>cases h
   ·rcases hst with e|e<;>rw[e]at h<;>cases h
 ·exact(⟨⟨h0,h6⟩,⟨hm,by show _<(4:Int);have:(jQ.new who c (c.flow % (A.sh:Int))).shard=c.flow % (A.sh:Int):=rfl;omega⟩,⟨by simp[jQ.new],by simp[jQ.new]⟩,fun _=>(by show(0:Int)<_;omega),u0,⟨by simp[jQ.new],by simp[jQ.new]⟩,fun h=>(by cases h),fun h=>(by cases h),fun h=>(by cases h),fun h=>(by cases h),fun i h=>by simp[jQ.new]at h,hc.2.2.1⟩:zK A s (jQ.new who c (c.flow % (A.sh:Int))))
theorem oL.pl {wd m:Nat} {s:PS} (h:oL wd s m) (pl:Int→Int):oL wd { s with pl:=pl } m:=⟨h.k,h.ow,h.nil⟩
theorem jd.pl {s:PS} {N:Nat} (h:jd s N) (pl:Int→Int):jd { s with pl:=pl } N:=⟨h.u,h.log,h.pt,h.ob,h.cs,h.slot,h.inb,h.nx⟩
theorem MInv.pl {A:PA} {s:PS} {N:Nat} {M:ku} (h:MInv A s N M) (pl:Int→Int):MInv A { s with pl:=pl } N M:=by
 cases M with
 |e E=>
  have hE:zK A s E:=h
  exact(⟨hE.who,hE.sh,hE.i,hE.scan,hE.w,hE.top,hE.found,hE.look,hE.obj,hE.rg,hE.r,hE.len⟩:zK A { s with pl:=pl } E)
 |r E=>
  have hE:RInv A s E:=h
  exact(⟨hE.who,hE.sh,hE.i,hE.scan,hE.free,hE.at',hE.w,hE.obj,hE.put,hE.a,hE.none,hE.rg,hE.r,hE.flow⟩:RInv A { s with pl:=pl } E)
 |d E=>
  have hE:xh A s N E:=h
  exact(⟨hE.who,hE.j,hE.js,hE.left,hE.lp,hE.sh,hE.shs,hE.obj,hE.link,hE.woken,hE.wl,hE.pk,hE.n,hE.w,hE.x,hE.rg,hE.r⟩:xh A { s with pl:=pl } N E)
theorem nz.go {A:PA} {W:WS} {N i m:Nat} {s:PS} {L:List Cl} {D:List Dn} {M:ku} {x:Wk} (hA:Aq A) (hN:N≤20000) (hW:nz A W N) (hx:W.ks[i]? =some x)
  (hP:jd s N) (hK:oL A.wd s m) (hm:m+(jH Wk.woken W.ks - x.woken)+M.woken≤N) (hs:s.σ=W.s.σ) (hob:s.ob=W.s.ob) (hM:MInv A s N M) (ha:M.arm s.σ) (hwho:M.who=(i:Nat))
  (hL:x.L=L) (hD:D≠ []) (hDL:D.length≤L.length) (hleft:L.length - D.length+1=x.left):nz A (W.go A s L D M i) (N+1):=by
 have hi:i<A.wk:=by rw[←hW.ks];exact(List.getElem?_eq_some_iff.1 hx).1
 have h6:=hA.wk6;obtain⟨k1,k2,k3,⟨m',k4,k5⟩,k6⟩:=Nj (M:=M) W.steps hA hN hP hK hM;obtain⟨l1,l2,l3⟩:=NC (A:=A) (s:=s) (M:=M) W.steps (by rw[hs];exact hW.law) ha;have hxl:=hW.list i x hx;have hwx:=uD (f:=Wk.woken) hx;have hlx:=uD (f:=Wk.left) hx;unfold WS.go;refine⟨k1,⟨m',k4,?_⟩,l2,fun y hy=>?_,by simp[hW.ks],fun j y M' hj hM'=>?_,fun j y hj=>?_,?_,?_⟩
 ·show m'+jH Wk.woken (W.ks.set i _)≤N+1
  have:=rU (f:=Wk.woken) ⟨L,cond (eu A s M W.steps).d (y7 W.steps (eu A s M W.steps).r D) D,cond (eu A s M W.steps).d none (some (eu A s M W.steps).M)⟩ hx
  have h2:Wk.woken ⟨L,cond (eu A s M W.steps).d (y7 W.steps (eu A s M W.steps).r D) D,cond (eu A s M W.steps).d none (some (eu A s M W.steps).M)⟩≤(eu A s M W.steps).M.woken:=by
   cases (eu A s M W.steps).d
   ·exact Nat.le_refl _
   ·exact Nat.zero_le _
  omega
 ·rcases l1.who y hy with h|h
  ·rw[hs]at h;exact hW.who y h
  ·exact⟨by rw[h.1,hwho];omega,h.2⟩
 ·have hj:(W.ks.set i _)[j]? =some y:=hj
  by_cases hij:i=j
  ·subst hij
   rw[List.getElem?_set_self (by rw[hW.ks];exact hi)]at hj;simp only[Option.some.injEq]at hj;subst hj
   cases hd:(eu A s M W.steps).d
   ·simp only[hd,cond_false,Option.some.injEq]at hM'
    subst hM'
    exact⟨k2 hd,l3,k6.trans hwho,by simpa [hd]using hD⟩
   ·simp only[hd,cond_true]at hM'
    cases hM'
  ·rw[List.getElem?_set_ne hij]at hj
   obtain⟨g1,g2,g3,g4⟩:=hW.mac j y M' hj hM';refine⟨?_,?_,g3,g4⟩
   ·exact MInv.other g1 (by rw[←hob];exact k3)
   ·exact ku.N9 g2 (c:=M.who) (by rw[g3,hwho];omega) (by rw[←hs];exact l1)
 ·have hj:(W.ks.set i _)[j]? =some y:=hj
  by_cases hij:i=j
  ·subst hij
   rw[List.getElem?_set_self (by rw[hW.ks];exact hi)]at hj;simp only[Option.some.injEq]at hj;subst hj;refine⟨?_,hL▸hxl.2.1,hL▸hxl.2.2⟩
   cases hd:(eu A s M W.steps).d
   ·simpa [hd]using hDL
   ·simp only[hd,cond_true,wL];exact hDL
  ·rw[List.getElem?_set_ne hij]at hj
   exact hW.list j y hj
 ·show W.steps+1=((N+1:Nat):Int)
  rw[hW.steps];omega
 ·show cond _ (W.left - 1) W.left=((jH Wk.left (W.ks.set i _):Nat):Int)
  have:=rU (f:=Wk.left) ⟨L,cond (eu A s M W.steps).d (y7 W.steps (eu A s M W.steps).r D) D,cond (eu A s M W.steps).d none (some (eu A s M W.steps).M)⟩ hx
  have hwl:=hW.left
  cases hd:(eu A s M W.steps).d
  ·have e:Wk.left ⟨L,D,some (eu A s M W.steps).M⟩=L.length - D.length+1:=rfl
   simp only[hd,cond_false]at this ⊢
   omega
  ·have e:Wk.left ⟨L,y7 W.steps (eu A s M W.steps).r D,none⟩=L.length - D.length:=by unfold Wk.left;rw[wL];rfl
   simp only[hd,cond_true]at this ⊢
   omega
theorem nz.pick {A:PA} {W:WS} {N:Nat} (i:Nat) (hA:Aq A) (hN:N≤20000) (hW:nz A W N):∃ N',N'≤N+1∧nz A (W.pick A i) N':=by
 cases hx:W.ks[i]? with
 |none=>exact⟨N,by omega,by unfold WS.pick;rw[hx];exact hW⟩
 |some x=>
  obtain⟨m,hK,hm⟩:=hW.K;have hxl:=hW.list i x hx;have hwx:=uD (f:=Wk.woken) hx;have hi:i<A.wk:=by rw[←hW.ks];exact(List.getElem?_eq_some_iff.1 hx).1
  have h6:=hA.wk6
  cases hM:x.M with
  |some M=>
   obtain⟨g1,g2,g3,g4⟩:=hW.mac i x M hx hM;have e:x.woken=M.woken:=by unfold Wk.woken;rw[hM]
   rw[WS.EE hx hM]
   exact⟨N+1,Nat.le_refl _,hW.go hA hN hx hW.P hK (by omega) rfl rfl g1 g2 g3 rfl g4 hxl.1 (by unfold Wk.left;rw[hM])⟩
  |none=>
   cases hc:x.L[x.D.length]? with
   |none=>exact⟨N,by omega,by rw[WS.Le hx hM hc];exact hW⟩
   |some c=>
    have hlt:=(List.getElem?_eq_some_iff.1 hc).1;have hcc:=hxl.2.2 c (List.mem_of_getElem? hc);rw[WS.Ey hx hM hc];refine⟨N+1,Nat.le_refl _,hW.go hA hN hx (hW.P.pl _) (hK.pl _) (by rw[ku.Ap];omega) rfl rfl (MInv.new hA (by omega) (by omega) hcc) (ku.RS A _ c _) (ku.TQ A _ c) rfl (by simp) (by simp;omega) (by unfold Wk.left;rw[hM];simp;omega)⟩
structure WV where
 lv:Value
 dv:Value
 vs:List Value
 b:Nat
def fV (b:Nat):Option ku→Value
 |none=>.nilFunc
 |some M=>.func (.func M.f) #[ptr b] #[]
def dQ (z:Wk×WV):List Value:=[z.2.lv,z.2.dv,fV z.2.b z.1.M]
def VI (A:PA) (rs:List Nat) (b:Nat):Option ku→HA
 |none=>aG []
 |some M=>iR A.P rs b M
def zF (D:List Dn) (vs:List Value):HA:=aG (List.zipWith (fun y v=>fO v y.r.pk) D vs)
@[reducible] def eF (v:Value) (L:List Cl):HA:=aU v 49 4 L.length (recs Cl.cells L)
@[reducible] def iI (v:Value) (D:List Dn) (vs:List Value):HA:=aU v 62 12 D.length (recs bG (List.zip D vs))
def Jp (A:PA) (rs:List Nat) (z:Wk×WV):List HA:=[fact (z.2.vs.length=z.1.D.length),eF z.2.lv z.1.L,iI z.2.dv z.1.D z.2.vs,zF z.1.D z.2.vs,VI A rs z.2.b z.1.M]
def iF (A:PA) (rs:List Nat) (z:Wk×WV):HA:=aG (Jp A rs z)
@[reducible] def gQ (A:PA) (p g n:Nat) (steps left:Int):HA:=box p [ptr A.P,.slice (some ⟨g,0,none⟩) n n,J steps,J left] 80
def qJ (A:PA) (rs:List Nat) (p g:Nat) (s:PS) (steps left:Int) (zs:List (Wk×WV)):List HA:=ae A rs s::bP::gQ A p g zs.length steps left::box g (recs dQ zs) 94::zs.map (iF A rs)
theorem ve {α:Type}:∀ (l:List α) (i:Nat) (x:α),i<l.length→(l.eraseIdx i).insertIdx i x=l.set i x
 | [],_,_,h=>by simp at h
 |y::l,0,x,_=>rfl
 |y::l,i+1,x,h=>by
  show y::(l.eraseIdx i).insertIdx i x=_
  rw[ve l i x (by simpa using h)]
  rfl
theorem o7 (z:Wk×WV):(dQ z).length=3:=rfl
theorem KR (A:PA) (s:PS) (M:ku) (now:Int):(eu A s M now).M.f=M.f:=by cases M<;>rfl
section
variable {A:PA} {rs:List Nat} {s s1:PS} {p g i b N m:Nat} {steps left:Int} {zs:List (Wk×WV)} {z:Wk×WV} {M:ku} {S:List Nat} {w0 w:World} {Bs:List HA}
theorem oW (hz:zs[i]? =some z):(recs dQ zs)[i*3]? =some z.2.lv∧(recs dQ zs)[i*3+1]? =some z.2.dv∧(recs dQ zs)[i*3+2]? =some (fV z.2.b z.1.M):=
 ⟨(iJ o7 hz (j:=0) (by omega)).trans rfl,(iJ o7 hz (j:=1) (by omega)).trans rfl,(iJ o7 hz (j:=2) (by omega)).trans rfl⟩
theorem oZ (hz:zs[i]? =some z) (y:Wk×WV) (hl:y.2.lv=z.2.lv):((recs dQ zs).set (i*3+1) y.2.dv).set (i*3+2) (fV y.2.b y.1.M)=recs dQ (zs.set i y):=by
 rw[←vN o7 zs i y (List.getElem?_eq_some_iff.1 hz).1]
 show _=(((recs dQ zs).set (i*3) y.2.lv).set (i*3+1) y.2.dv).set (i*3+1+1) _
 congr 2
 rw[hl];refine(List.ext_getElem? fun j=>?_).symm
 by_cases e:i*3=j
 ·subst e
  rw[List.getElem?_set_self (List.getElem?_eq_some_iff.1 (oW hz).1).1,(oW hz).1]
 ·rw[List.getElem?_set_ne e]
theorem vT {D:List Dn} {vs:List Value} (h:vs.length=D.length) (y:Dn) (v:Value):zF (D++[y]) (vs++[v])=aG (List.zipWith (fun y v=>fO v y.r.pk) D vs++[fO v y.r.pk]):=by
 unfold zF;rw[List.zipWith_append h.symm]
 rfl
theorem uz {D:List Dn} {vs:List Value} (h:vs.length=D.length) (y:Dn) (v:Value):recs bG (List.zip (D++[y]) (vs++[v]))=recs bG (List.zip D vs)++bG (y,v):=by
 rw[List.zip_append h.symm,l7]
 simp[recs]
theorem pY (hi:i<zs.length) {s':PS} {st lf:Int} {y:Wk×WV}
  (h:Scope S w0 w (Jp A rs y++(ae A rs s'::bP::gQ A p g zs.length st lf::box g (recs dQ (zs.set i y)) 94::((zs.map (iF A rs)).eraseIdx i++Bs)))):Scope S w0 w (qJ A rs p g s' st lf (zs.set i y)++Bs):=by
 have h1:=h.shut1;have h2:Scope S w0 w (([iF A rs y]++(ae A rs s'::bP::gQ A p g zs.length st lf::box g (recs dQ (zs.set i y)) 94::(zs.map (iF A rs)).eraseIdx i))++Bs):=by simpa [iF]using h1
 refine h2.perm (List.Perm.append_right Bs ?_);have h3:=vI (i+4) (ae A rs s'::bP::gQ A p g zs.length st lf::box g (recs dQ (zs.set i y)) 94::(zs.map (iF A rs)).eraseIdx i) (iF A rs y) (by simp[List.length_eraseIdx,hi];omega);have e:(ae A rs s'::bP::gQ A p g zs.length st lf::box g (recs dQ (zs.set i y)) 94::(zs.map (iF A rs)).eraseIdx i).insertIdx (i+4) (iF A rs y)=qJ A rs p g s' st lf (zs.set i y):=by
  show ae A rs s'::bP::_::_::((zs.map (iF A rs)).eraseIdx i).insertIdx i (iF A rs y)=_
  rw[ve _ _ _ (by simpa using hi)];unfold qJ;rw[List.length_set,List.map_set]
 rw[e]at h3
 exact h3
theorem Ez {l:List Value} {j:Nat} {v:Value} (h:l[j]? =some v):l.set j v=l:=List.ext_getElem? fun k=>by
 by_cases e:j=k
 ·subst e;rw[List.getElem?_set_self (List.getElem?_eq_some_iff.1 h).1,h]
 ·rw[List.getElem?_set_ne e]
theorem yR {P:Prop} {L:List HA} (hp:P) (h:Scope S w0 w L):Scope S w0 w (fact P::L):=by
 obtain⟨c,fp,h1,h2⟩:=h
 exact⟨c,fp,⟨[],fp,⟨hp,rfl⟩,h1,(fun _ h=>by cases h),rfl⟩,h2⟩
theorem Au {o:MO} {L:List Cl} {D0:List Dn} {y:Dn} {lv dv1 sv0:Value} {vs0 wcs1:List Value} {e':Ending} {w':World} (hz:zs[i]? =some z) (hlv:lv=z.2.lv) (hvl:vs0.length=D0.length) (hwc:wcs1=recs dQ (zs.set i (⟨L,D0++[y],some M⟩,⟨lv,dv1,vs0++[sv0],b⟩))) (hf:o.M.f=M.f) (hall:∀ q,zs.map (iF A (rs++[q]))=zs.map (iF A rs))
  (h:JJ S w0 A rs p g zs.length i D0.length b steps left wcs1 (recs bG (List.zip D0 vs0)) dv1 sv0 y o (eF lv L::aG (List.zipWith (fun y v=>fO v y.r.pk) D0 vs0)::fO sv0 y.r.pk::((zs.map (iF A rs)).eraseIdx i++Bs)) e' w'):
  e'=.returned (.bool true)∧∃ rs' zs',zs'.map Prod.fst=(zs.map Prod.fst).set i ⟨L,cond o.d (D0++[{ y with te:=steps,r:=o.r }]) (D0++[y]),cond o.d none (some o.M)⟩∧rs'.length=o.s.ob.length∧Scope S w0 w' (qJ A rs' p g o.s (steps+1) (cond o.d (left - 1) left) zs'++Bs):=by
 have hi:=(List.getElem?_eq_some_iff.1 hz).1;obtain⟨rfl,rs',oa,c,h1,h2,h3⟩:=h;have hr:(zs.map (iF A rs)).eraseIdx i=(zs.map (iF A rs')).eraseIdx i:=by
  rcases h1 with rfl|⟨q,rfl⟩
  ·rfl
  ·rw[hall]
 rw[hr]at h3;refine⟨rfl,rs',?_⟩
 rcases h3 with⟨hd,h4⟩|⟨hd,h4⟩
 ·refine⟨zs.set i (⟨L,D0++[y],some o.M⟩,⟨lv,dv1,vs0++[sv0],b⟩),by rw[hd,List.map_set];rfl,h2,?_⟩
  rw[hd];refine pY hi ?_;rw[hwc]at h4;have e1:recs dQ (zs.set i (⟨L,D0++[y],some M⟩,⟨lv,dv1,vs0++[sv0],b⟩))=recs dQ (zs.set i (⟨L,D0++[y],some o.M⟩,⟨lv,dv1,vs0++[sv0],b⟩)):=by
   rw[←oZ hz _ hlv, ←oZ hz _ hlv];simp only[fV,hf]
  rw[e1, ←uz hvl]at h4;have h4:Scope S w0 w' ([ae A rs' o.s,iR A.P rs' b o.M,bP,gQ A p g zs.length (steps+1) left,box g (recs dQ (zs.set i (⟨L,D0++[y],some o.M⟩,⟨lv,dv1,vs0++[sv0],b⟩))) 94,aU dv1 62 12 (D0.length+1) (recs bG (List.zip (D0++[y]) (vs0++[sv0]))),eF lv L,aG (List.zipWith (fun y v=>fO v y.r.pk) D0 vs0),fO sv0 y.r.pk]++((zs.map (iF A rs')).eraseIdx i++Bs)):=h4;have h5:=h4.oP [7,8,6,5,1,0,2,3,4] (by rfl);have h6:=Scope.sV h5;rw[←vT hvl]at h6;have h7:=Scope.oP (As:=[zF (D0++[y]) (vs0++[sv0]),eF lv L,aU dv1 62 12 (D0.length+1) (recs bG (List.zip (D0++[y]) (vs0++[sv0])))]) h6 [1,2,0] (by rfl);have h8:=yR (show(vs0++[sv0]).length=(D0++[y]).length by simp[hvl]) h7;have e2:iI dv1 (D0++[y]) (vs0++[sv0])=aU dv1 62 12 (D0.length+1) (recs bG (List.zip (D0++[y]) (vs0++[sv0]))):=by unfold iI;rw[List.length_append];rfl
  show Scope S w0 w' (fact _::eF lv L::iI dv1 (D0++[y]) (vs0++[sv0])::_)
  rw[e2]
  exact h8
 ·refine⟨zs.set i (⟨L,D0++[{ y with te:=steps,r:=o.r }],none⟩,⟨lv,dv1,vs0++[.slice oa o.r.pk.length c],b⟩),by rw[hd,List.map_set];rfl,h2,?_⟩
  rw[hd];refine pY hi ?_;rw[hwc]at h4;have e1:(recs dQ (zs.set i (⟨L,D0++[y],some M⟩,⟨lv,dv1,vs0++[sv0],b⟩))).set (i*3+2) .nilFunc=recs dQ (zs.set i (⟨L,D0++[{ y with te:=steps,r:=o.r }],none⟩,⟨lv,dv1,vs0++[.slice oa o.r.pk.length c],b⟩)):=by
   rw[←oZ hz _ hlv, ←oZ hz _ hlv,List.set_set]
   rfl
  rw[e1, ←uz hvl]at h4;have h4:Scope S w0 w' ([ae A rs' o.s,fO (.slice oa o.r.pk.length c) o.r.pk,bP,gQ A p g zs.length (steps+1) (left - 1),box g (recs dQ (zs.set i (⟨L,D0++[{ y with te:=steps,r:=o.r }],none⟩,⟨lv,dv1,vs0++[.slice oa o.r.pk.length c],b⟩))) 94,aU dv1 62 12 (D0.length+1) (recs bG (List.zip (D0++[{ y with te:=steps,r:=o.r }]) (vs0++[.slice oa o.r.pk.length c]))),eF lv L,aG (List.zipWith (fun y v=>fO v y.r.pk) D0 vs0),fO sv0 y.r.pk]++((zs.map (iF A rs')).eraseIdx i++Bs)):=h4;have h5:Scope S w0 w' ([fO sv0 y.r.pk]++(aG (List.zipWith (fun y v=>fO v y.r.pk) D0 vs0)::fO (.slice oa o.r.pk.length c) o.r.pk::eF lv L::aU dv1 62 12 (D0.length+1) (recs bG (List.zip (D0++[{ y with te:=steps,r:=o.r }]) (vs0++[.slice oa o.r.pk.length c])))::ae A rs' o.s::bP::gQ A p g zs.length (steps+1) (left - 1)::box g (recs dQ (zs.set i (⟨L,D0++[{ y with te:=steps,r:=o.r }],none⟩,⟨lv,dv1,vs0++[.slice oa o.r.pk.length c],b⟩))) 94::((zs.map (iF A rs')).eraseIdx i++Bs))):=h4.oP [8,7,1,6,5,0,2,3,4] (by rfl);have h6:Scope S w0 w' (aG (List.zipWith (fun y v=>fO v y.r.pk) D0 vs0++[fO (.slice oa o.r.pk.length c) ({ y with te:=steps,r:=o.r }:Dn).r.pk])::_):=Scope.sV h5.drop_left;rw[←vT hvl { y with te:=steps,r:=o.r }]at h6;have h7:=Scope.oP (As:=[aG [],zF (D0++[{ y with te:=steps,r:=o.r }]) (vs0++[.slice oa o.r.pk.length c]),eF lv L,aU dv1 62 12 (D0.length+1) (recs bG (List.zip (D0++[{ y with te:=steps,r:=o.r }]) (vs0++[.slice oa o.r.pk.length c])))]) (Scope.shut1 (As:=[]) h6) [2,3,1,0] (by rfl);have h8:=yR (show(vs0++[Value.slice oa o.r.pk.length c]).length=(D0++[{ y with te:=steps,r:=o.r }]).length by simp[hvl]) h7;have e2:iI dv1 (D0++[{ y with te:=steps,r:=o.r }]) (vs0++[.slice oa o.r.pk.length c])=aU dv1 62 12 (D0.length+1) (recs bG (List.zip (D0++[{ y with te:=steps,r:=o.r }]) (vs0++[.slice oa o.r.pk.length c]))):=by unfold iI;rw[List.length_append];rfl
  show Scope S w0 w' (fact _::eF lv L::iI dv1 (D0++[{ y with te:=steps,r:=o.r }]) (vs0++[.slice oa o.r.pk.length c])::_)
  rw[e2]
  exact h8
theorem Rz {N:Nat} {W:WS} (hW:nz A W N) (hz:zs.map Prod.fst=W.ks) (hrs:rs.length=W.s.ob.length) (q:Nat):zs.map (iF A (rs++[q]))=zs.map (iF A rs):=by
 refine List.map_congr_left fun z hz'=>?_
 obtain⟨j,hj⟩:=List.getElem?_of_mem hz';have hk:W.ks[j]? =some z.1:=by rw[←hz,List.getElem?_map,hj];rfl
 unfold iF Jp
 cases hM:z.1.M with
 |none=>rfl
 |some M=>
  obtain⟨g1,_⟩:=hW.mac j z.1 M hk hM
  show aG [_,_,_,_,iR A.P (rs++[q]) _ M]=aG [_,_,_,_,iR A.P rs _ M]
  rw[Pm]
  intro k hk
  rw[hrs]
  cases M with
  |e E=>exact(show zK A W.s E from g1).r k hk
  |r E=>exact(show RInv A W.s E from g1).r k hk
  |d E=>exact(show xh A W.s N E from g1).r k hk
theorem Gp {N:Nat} {W:WS} (hA:Aq A) (hW:nz A W N):0≤W.left∧W.left<1000000:=by
 have h:=hW.left;have key:∀ l:List Wk,(∀ x∈l,x.L.length≤100)→jH Wk.left l≤l.length*101:=by
  intro l
  induction l with
  |nil=>intro _;simp[jH]
  |cons x l ih=>
   intro hl
   have h1:=ih (fun y hy=>hl y (by simp[hy]));have h2:=hl x (by simp);have h3:x.left≤101:=by unfold Wk.left;split<;>omega
   simp only[jH,List.map_cons,List.sum_cons,List.length_cons]at h1 ⊢
   omega
 have:=key W.ks (fun x hx=>by obtain⟨j,hj⟩:=List.getElem?_of_mem hx;exact(hW.list j x hj).2.1)
 have h6:=hA.wk6;rw[hW.ks]at this
 omega
def iV (S:List Nat) (w0:World) (A:PA) (p g:Nat) (W:WS) (Bs:List HA) (w':World):Prop:=
 ∃ rs' zs',zs'.map Prod.fst=W.ks∧rs'.length=W.s.ob.length∧Scope S w0 w' (qJ A rs' p g W.s W.steps W.left zs'++Bs)
set_option maxHeartbeats 1000000 in
theorem xP {W:WS} (hA:Aq A) (hW:nz A W N) (hN:N≤20000) (hi:i<A.wk) (hz:zs.map Prod.fst=W.ks) (hrs:rs.length=W.s.ob.length) (h:Scope S w0 w (qJ A rs p g W.s W.steps W.left zs++Bs)):
  Calls prog 16 #[ptr p,J (i:Nat)] w fun e' w'=>(∃ r,e'=.returned (.bool r))∧iV S w0 A p g (W.pick A i) Bs w':=by
 have hall:=Rz hW hz hrs;have hlen:zs.length=A.wk:=by rw[←hW.ks, ←hz,List.length_map]
 have h6:=hA.wk6;obtain⟨m,hK,hm⟩:=hW.K;have hleft:=Gp hA hW;have hst:=hW.steps;obtain⟨z,hzi⟩:∃ z,zs[i]? =some z:=⟨_,List.getElem?_eq_getElem (by omega)⟩
 have hx:W.ks[i]? =some z.1:=by rw[←hz,List.getElem?_map,hzi];rfl
 have hxl:=hW.list i z.1 hx;have hwx:=uD (f:=Wk.woken) hx;obtain⟨⟨L,D,Mo⟩,⟨lv,dv,vs,b⟩⟩:=z;have hx:W.ks[i]? =some ⟨L,D,Mo⟩:=hx;have hwx:Wk.woken ⟨L,D,Mo⟩≤jH Wk.woken W.ks:=hwx;have hxl:D.length≤L.length∧L.length≤100∧∀ c∈L,uV c:=hxl;have hf:Scope S w0 w (Jp A rs (⟨L,D,Mo⟩,⟨lv,dv,vs,b⟩)++(ae A rs W.s::bP::gQ A p g zs.length W.steps W.left::box g (recs dQ zs) 94::((zs.map (iF A rs)).eraseIdx i++Bs))):=by
  have h1:Scope S w0 w ((iF A rs (⟨L,D,Mo⟩,⟨lv,dv,vs,b⟩)::(ae A rs W.s::bP::gQ A p g zs.length W.steps W.left::box g (recs dQ zs) 94::(zs.map (iF A rs)).eraseIdx i))++Bs):=
   h.perm (List.Perm.append_right Bs (jF (i+4) _ _ (by show((zs.map (iF A rs)))[i]? =_;rw[List.getElem?_map,hzi];rfl)))
  exact Scope.gU h1
 obtain⟨g0,g1,g2⟩:=oW hzi;have hvl:vs.length=D.length:=hf.fact 0 rfl
 cases Mo with
 |some M=>
  obtain⟨m1,m2,m3,m4⟩:=hW.mac i _ M hx rfl;have hwk:Wk.woken ⟨L,D,some M⟩=M.woken:=rfl;rw[WS.EE hx rfl]
  rcases List.eq_nil_or_concat D with hD|⟨D0,y,hD⟩
  ·exact absurd hD m4
  rcases List.eq_nil_or_concat vs with hV|⟨vs0,sv0,hV⟩
  ·subst hV;subst hD;simp at hvl
  rw[List.concat_eq_append]at hD hV;subst hD;subst hV;have hvl0:vs0.length=D0.length:=by simpa using hvl
  have h2:Scope S w0 w ([fact ((vs0++[sv0]).length=(D0++[y]).length),eF lv L,aU dv 62 12 (D0.length+1) (recs bG (List.zip D0 vs0)++bG (y,sv0)),zF (D0++[y]) (vs0++[sv0]),iR A.P rs b M,ae A rs W.s,bP,gQ A p g zs.length W.steps W.left,box g (recs dQ zs) 94]++((zs.map (iF A rs)).eraseIdx i++Bs)):=by
   rw[←uz hvl0];have e2:iI dv (D0++[y]) (vs0++[sv0])=aU dv 62 12 (D0.length+1) (recs bG (List.zip (D0++[y]) (vs0++[sv0]))):=by unfold iI;rw[List.length_append];rfl
   rw[←e2]
   exact hf
  have h3:Scope S w0 w ([zF (D0++[y]) (vs0++[sv0])]++(ae A rs W.s::iR A.P rs b M::bP::gQ A p g zs.length W.steps W.left::box g (recs dQ zs) 94::aU dv 62 12 (D0.length+1) (recs bG (List.zip D0 vs0)++bG (y,sv0))::eF lv L::fact ((vs0++[sv0]).length=(D0++[y]).length)::((zs.map (iF A rs)).eraseIdx i++Bs))):=h2.oP [3,5,4,6,7,8,2,1,0] (by rfl);rw[vT hvl0]at h3;have h4:=Scope.gU h3;have h5:Scope S w0 w ([aG (List.zipWith (fun y v=>fO v y.r.pk) D0 vs0),fO sv0 y.r.pk,ae A rs W.s,iR A.P rs b M,bP,gQ A p g zs.length W.steps W.left,box g (recs dQ zs) 94,aU dv 62 12 (D0.length+1) (recs bG (List.zip D0 vs0)++bG (y,sv0)),eF lv L,fact ((vs0++[sv0]).length=(D0++[y]).length)]++((zs.map (iF A rs)).eraseIdx i++Bs)):=
   Scope.shut1 (by rw[List.append_assoc]at h4;exact h4)
  have h6':Scope S w0 w ([fact ((vs0++[sv0]).length=(D0++[y]).length)]++(ae A rs W.s::iR A.P rs b M::bP::gQ A p g zs.length W.steps W.left::box g (recs dQ zs) 94::aU dv 62 12 (D0.length+1) (recs bG (List.zip D0 vs0)++bG (y,sv0))::(eF lv L::aG (List.zipWith (fun y v=>fO v y.r.pk) D0 vs0)::fO sv0 y.r.pk::((zs.map (iF A rs)).eraseIdx i++Bs)))):=h5.oP [9,2,3,4,5,6,7,8,0,1] (by rfl);have hkD:D0.length<1000:=by have:=hxl.1;have:=hxl.2.1;simp at *;omega
  refine(NF (i:=i) (n:=zs.length) (k0:=D0.length) (by omega) (by omega) hkD (by omega) (by omega) hleft.1 hleft.2 (by rw[kP (n:=12) (fun _=>rfl),List.length_zip,hvl0,Nat.min_self]) g1 g2 hA hrs hN hW.P hK (by omega) m1 h6'.drop_left).mono ?_
  intro e' w' hp
  have hset:zs.set i (⟨L,D0++[y],some M⟩,⟨lv,dv,vs0++[sv0],b⟩)=zs:=by
   refine List.ext_getElem? fun j=>?_
   by_cases e:i=j
   ·subst e;rw[List.getElem?_set_self (by omega),hzi]
   ·rw[List.getElem?_set_ne e]
  obtain⟨r1,rs',zs',r2,r3,r4⟩:=Au (lv:=lv) hzi rfl hvl0 (by rw[hset]) (KR A W.s M W.steps) hall hp;refine⟨⟨true,r1⟩,rs',zs',?_,r3,r4⟩;rw[r2,hz]
  show _=W.ks.set i ⟨L,cond _ (y7 W.steps _ (D0++[y])) (D0++[y]),_⟩
  rw[vX]
 |none=>
  have h2:Scope S w0 w ([fact (vs.length=D.length),eF lv L,iI dv D vs,aG (List.zipWith (fun y v=>fO v y.r.pk) D vs),aG [],ae A rs W.s,bP,gQ A p g zs.length W.steps W.left,box g (recs dQ zs) 94]++((zs.map (iF A rs)).eraseIdx i++Bs)):=hf
  cases hc:L[D.length]? with
  |none=>
   rw[WS.Le hx rfl hc];have hDL:D.length=L.length:=by have:=List.getElem?_eq_none_iff.1 hc;have:=hxl.1;omega
   have e:iI dv D vs=aU dv 62 12 L.length (recs bG (List.zip D vs)):=by unfold iI;rw[hDL]
   have h3:=h2.oP [5,7,8,1,2,0,3,4,6] (by rfl);rw[e]at h3;have h3:Scope S w0 w (ae A rs W.s::gQ A p g zs.length W.steps W.left::box g (recs dQ zs) 94::eF lv L::aU dv 62 12 L.length (recs bG (List.zip D vs))::([fact (vs.length=D.length),aG (List.zipWith (fun y v=>fO v y.r.pk) D vs),aG [],bP]++((zs.map (iF A rs)).eraseIdx i++Bs))):=h3;refine(Pg (i:=i) (n:=zs.length) (by omega) g0 g1 g2 h3).mono ?_
   rintro e' w' ⟨rfl,h4⟩
   refine⟨⟨false,rfl⟩,rs,zs,hz,hrs,?_⟩;have h5:Scope S w0 w' ([ae A rs W.s,gQ A p g zs.length W.steps W.left,box g (recs dQ zs) 94,eF lv L,iI dv D vs,fact (vs.length=D.length),aG (List.zipWith (fun y v=>fO v y.r.pk) D vs),aG [],bP]++((zs.map (iF A rs)).eraseIdx i++Bs)):=by
    rw[e]
    exact h4
   have h6':=h5.oP [5,3,4,6,7,0,8,1,2] (by rfl);have hset:zs.set i (⟨L,D,none⟩,⟨lv,dv,vs,b⟩)=zs:=by
    refine List.ext_getElem? fun j=>?_
    by_cases e:i=j
    ·subst e;rw[List.getElem?_set_self (by omega),hzi]
    ·rw[List.getElem?_set_ne e]
   have h7:=pY (y:=(⟨L,D,none⟩,⟨lv,dv,vs,b⟩)) (i:=i) (zs:=zs) (by omega) (by rw[hset];exact h6');rw[hset]at h7
   exact h7
  |some c=>
   rw[WS.Ey hx rfl hc];have hcc:=hxl.2.2 c (List.mem_of_getElem? hc);have hlt:=(List.getElem?_eq_some_iff.1 hc).1;have hl100:L.length≤100:=hxl.2.1;have h3:Scope S w0 w ([fO (nS) []]++([fact (vs.length=D.length),aG [],ae A rs W.s,gQ A p g zs.length W.steps W.left,box g (recs dQ zs) 94,eF lv L,iI dv D vs,bP,aG (List.zipWith (fun y v=>fO v y.r.pk) D vs)]++((zs.map (iF A rs)).eraseIdx i++Bs))):=
    jX 64 3 (h2.oP [0,4,5,7,8,1,2,6,3] (by rfl))
   have h3:Scope S w0 w ([fact (vs.length=D.length),aG []]++(ae A rs W.s::gQ A p g zs.length W.steps W.left::box g (recs dQ zs) 94::eF lv L::aU dv 62 12 D.length (recs bG (List.zip D vs))::bP::(aG (List.zipWith (fun y v=>fO v y.r.pk) D vs)::fO (nS) []::((zs.map (iF A rs)).eraseIdx i++Bs)))):=h3.swap;refine(Oa (i:=i) (n:=zs.length) (k0:=D.length) (y:=⟨(i:Nat),(D.length:Nat),c,Rt.zero,W.steps, -1⟩) (M:=ku.new A (i:Nat) c) (s1:={ W.s with pl:=upd W.s.pl (i:Nat) (D.length:Nat) }) (nl:=L.length) (by omega) (by omega) (by omega) (by omega) (by omega) hleft.1 hleft.2 (by rw[kP (n:=12) (fun _=>rfl),List.length_zip,hvl,Nat.min_self]) hc rfl (by omega) g0 g1 g2 hA hA.sh1 hA.sh4 rfl rfl rfl hrs hN (hW.P.pl _) (hK.pl _) (by rw[ku.Ap];omega) (MInv.new hA (by omega) (by omega) hcc) h3.drop_left).mono ?_
   rintro e' w' ⟨dv1,b1,wcs1,hwc,hp⟩
   have hw:=oZ hzi ((⟨L,D++[(⟨(i:Nat),(D.length:Nat),c,Rt.zero,W.steps, -1⟩:Dn)],some (ku.new A (i:Nat) c)⟩:Wk),(⟨lv,dv1,vs++[Value.slice none 0 0],b1⟩:WV)) rfl;have hwc:wcs1=recs dQ (zs.set i ((⟨L,D++[(⟨(i:Nat),(D.length:Nat),c,Rt.zero,W.steps, -1⟩:Dn)],some (ku.new A (i:Nat) c)⟩:Wk),(⟨lv,dv1,vs++[Value.slice none 0 0],b1⟩:WV))):=hwc.trans hw;obtain⟨r1,rs',zs',r2,r3,r4⟩:=Au (D0:=D) (vs0:=vs) (sv0:=nS) (lv:=lv) (L:=L) (M:=ku.new A (i:Nat) c) hzi rfl hvl hwc (KR A _ _ W.steps) hall hp;refine⟨⟨true,r1⟩,rs',zs',?_,r3,r4⟩;rw[r2,hz]
   show _=W.ks.set i ⟨L,cond _ (y7 W.steps _ (D++[_])) (D++[_]),_⟩
   rw[vX]
end
end Go.Proofs.YtjnbbmgbmiggbaaGreatDoor
