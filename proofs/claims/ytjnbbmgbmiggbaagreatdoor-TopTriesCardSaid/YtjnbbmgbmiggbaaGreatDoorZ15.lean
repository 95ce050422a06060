/- Lemmas for TopTries' card: package deq, second part. -/
import Derived.Defers
import Derived.Recover
import Derived.Laws.Pointers
import Derived.Test.YtjnbbmgbmiggbaaGreatDoorZ14
set_option linter.unusedSimpArgs false
set_option linter.unusedVariables false
set_option maxRecDepth 20000
set_option maxHeartbeats 4000000
namespace Go.Proofs.YtjnbbmgbmiggbaaGreatDoor
open Go Go.RowKit Go.Maps Go.Proofs.Tryz
def wG (s:Int):Bool:=decide (s / 4294967296=s % 4294967296)
theorem Oo {s:Int} (h:dC s):Pure prog 258 #[Ju s] (.bool (wG s)):=fun w=>by
 have h0:=h.1;have h1:=h.2;clear h
 go_enter func258,ntmps258
 go_wp2
 go_ret
 exact⟨DC (by unfold wG;rw[Bool.eq_iff_iff];simp),dE.refl _ _⟩
def iO (s:PS) (E:eQ):DO:=⟨dN s E.who 1 df,cond (wG (s.σ.num df)) { E with calm:=s.σ.num df,shard:=0,st:=.grab } { E with calm:=s.σ.num df,st:=.quiet },false⟩
def dX (E:eQ) (sh:Nat):eQ:={ E with shard:=E.shard+1,st:=cond (decide ((sh:Int)≤E.shard+1)) .same .grab }
def Cc (s:PS) (E:eQ):PS:={ s with σ:=(s.σ.put E.who 3 (fB E.shard)).set (fB E.shard) 0 }
def jK (s:PS) (E:eQ) (sh:Nat):DO:=⟨Cc s E,cond (s.σ.num (fB E.shard)==0) (dX E sh) { E with obj:=s.σ.num (fB E.shard) - 1,st:=.behind },false⟩
def mD (s:PS) (E:eQ):DO:=⟨dN s E.who 5 (tN E.obj),{ E with link:=s.nx E.obj,st:=.thing },false⟩
def jC (s:PS) (E:eQ) (now:Int):DO:=⟨dN s E.who 1 df,cond (s.σ.num df==E.calm) { E with now:=now,st:=.pick } { E with st:=.quiet },false⟩
section
variable {A:PA} {rs:List Nat} {s:PS} {e:Nat} {E:eQ} {r:Nat} {x:mO} {tv wv:Value}
theorem Dt (now:Int) (h0:0≤E.j) (h1:E.j<1000) (hj:I64 E.j) (hl:s.σ.log.length≤1000000):Does prog [ae A rs s,aA tv wv A.P e (aV E.st.bz e) (rV rs E.r) E] 178 #[ptr e,J now] (bI 0 (iM s E A.wk).d) [ae A rs (iM s E A.wk).s,dA tv wv A.P rs e (iM s E A.wk).E]:=Does.ax fun S w0 w h=>by
 obtain⟨B,W,HB,HW,Sa⟩:=bV h;clear h
 go_enter func178,ntmps178
 go_wp2_with fail
 rw[←HB.out, ←HW.out];have sd:=Sa.out.drew;have re:=sd.row (k:=e) 1 rfl;have pc:=sd.bT 0 rfl;have h0:At W.drew e 0 (ptr A.P)∧At W.drew A.P 3 (ptr A.po)∧At W.drew e 1 (J E.who)∧At W.drew e 7 (J E.j):=⟨re.cell rfl,pc.po,re.cell rfl,re.cell rfl⟩
 have Sd2:=zd sd;clear sd re pc Sa;refine aP (by kernel_rfl) ?_;generalize W.drew=V1 at Sd2 h0 ⊢
 refine aY [0,7,11] ?_
 repeat (refine ay _ rfl (by kernel_rfl) (fun _ _ _ h=>h) (fun w'=>by(try simp only[ag,ah,aj]);go_simp;try with_reducible rfl) ?_;try simp only[Act.put,ag,ah,aj,aF,aB,aC])
 refine aH ?_;refine bJ (fun w'=>At w' e 0 (ptr A.P)∧At w' A.P 3 (ptr A.po)∧At w' e 1 (J E.who)∧At w' e 7 (J E.j)) [1,2,3,4,5,6,8,9,10,12,13,14] ?_
 repeat (refine aN _ rfl (by kernel_rfl) (fun _ _ _ h=>h) h0 (fun w' hS=>by(try dsimp only at hS);(try simp only[ag,ah,aj]);go_simp;try with_reducible rfl) ?_;try simp only[Act.put,ag,ah,aj,aF,aB,aC])
 refine bH (by kernel_rfl) ?_;refine af 15 (by kernel_rfl) rfl (by rfl) fun K hK=>?_
 go_simp;refine((uY E.who E.j hj hl).at0 Sd2.out).mono ?_
 rintro er w3 ⟨rfl,s4⟩
 refine hK _ _ ?_;obtain⟨s5,Hs5,s4⟩:=az (s':=dN s E.who 1 (fP E.j)) s4;have S6:Hid (Scope S w0 w3 [ae A rs s5,aA tv wv A.P e (aV E.st.bz e) (rV rs E.r) E,bK B 0]):=zd s4;clear s4 Sd2 hK K h0
 try simp only[Act.put,ag,ah,aj,aF,aB,aC]
 refine aY [16] ?_
 repeat (refine ay _ rfl (by kernel_rfl) (fun _ _ _ h=>h) (fun w'=>by(try simp only[ag,ah,aj]);go_simp;try with_reducible rfl) ?_;try simp only[Act.put,ag,ah,aj,aF,aB,aC])
 refine aH ?_;refine wpAny_done (by kernel_rfl) ?_ _;obtain⟨bb,hbb⟩:∃ bb,(s.σ.num (fP E.j)==1)=bb:=⟨_,rfl⟩
 cases bb
 ·have hO:iM s E A.wk=⟨dN s E.who 1 (fP E.j),fG E A.wk,false⟩:=by unfold iM;rw[hbb];rfl
  have HO:=zd hO;clear hO
  go_wp2_with fail
  refine((sH (s:=s5) (aV E.st.bz e) h0 h1).iY S6.out).mono ?_
  rintro er w7 ⟨rfl,s8⟩
  have S9:Hid (Scope S w0 w7 [ae A rs s5,dA tv wv A.P rs e (fG E A.wk),bK B 0]):=zd s8;clear s8 S6;obtain⟨b0,b1,b2,b3,f0,f1,f2,f3,Q4⟩:=aI (c:=0) S9.out
  go_wp2
  refine aQ (d:=false) (by rw[HO.out]) Q4 (fun Vz z0 z1 z2 z3=>by simp[results,results178,go_sem,z0,z1,z2,z3]) rfl fun _ q5=>?_
  rw[HO.out];have hs5:=Hs5.out;subst hs5
  exact q5
 ·have hO:iM s E A.wk=⟨dN s E.who 1 (fP E.j),{ E with st:=.arg },false⟩:=by unfold iM;rw[hbb];rfl
  have HO:=zd hO;clear hO
  go_wp2_with fail
  refine((bW (P:=A.P) (nx:=(aV E.st.bz e)) (rv:=(rV rs E.r)) (E:=E) 204).fC S6.out).mono ?_
  rintro er w10 ⟨rfl,s11⟩
  have S12:Hid (Scope S w0 w10 [ae A rs s5,aA tv wv A.P e (aV 204 e) (rV rs E.r) { E with st:=.arg },bK B 0]):=zd s11;clear s11 S6;obtain⟨b0,b1,b2,b3,f0,f1,f2,f3,Q4⟩:=aI (c:=0) S12.out
  go_wp2
  refine aQ (d:=false) (by rw[HO.out]) Q4 (fun Vz z0 z1 z2 z3=>by simp[results,results178,go_sem,z0,z1,z2,z3]) rfl fun _ q5=>?_
  rw[HO.out];have hs5:=Hs5.out;subst hs5
  exact q5
theorem FD (now:Int) (h0:0≤E.j) (h1:E.j<1000) (hj:I64 E.j) (hl:s.σ.log.length≤1000000):Does prog [ae A rs s,aA tv wv A.P e (aV E.st.bz e) (rV rs E.r) E] 245 #[ptr e,J now] (bI 0 (lW s E A.wk).d) [ae A rs (lW s E A.wk).s,dA tv wv A.P rs e (lW s E A.wk).E]:=Does.ax fun S w0 w h=>by
 obtain⟨B,W,HB,HW,Sa⟩:=bV h;clear h
 go_enter func245,ntmps245
 go_wp2_with fail
 rw[←HB.out, ←HW.out];have sd:=Sa.out.drew;have re:=sd.row (k:=e) 1 rfl;have pc:=sd.bT 0 rfl;have h0:At W.drew e 0 (ptr A.P)∧At W.drew A.P 3 (ptr A.po)∧At W.drew e 1 (J E.who)∧At W.drew e 7 (J E.j):=⟨re.cell rfl,pc.po,re.cell rfl,re.cell rfl⟩
 have Sd2:=zd sd;clear sd re pc Sa;refine aP (by kernel_rfl) ?_;generalize W.drew=V1 at Sd2 h0 ⊢
 refine aY [0,7,11] ?_
 repeat (refine ay _ rfl (by kernel_rfl) (fun _ _ _ h=>h) (fun w'=>by(try simp only[ag,ah,aj]);go_simp;try with_reducible rfl) ?_;try simp only[Act.put,ag,ah,aj,aF,aB,aC])
 refine aH ?_;refine bJ (fun w'=>At w' e 0 (ptr A.P)∧At w' A.P 3 (ptr A.po)∧At w' e 1 (J E.who)∧At w' e 7 (J E.j)) [1,2,3,4,5,6,8,9,10,12,13,14] ?_
 repeat (refine aN _ rfl (by kernel_rfl) (fun _ _ _ h=>h) h0 (fun w' hS=>by(try dsimp only at hS);(try simp only[ag,ah,aj]);go_simp;try with_reducible rfl) ?_;try simp only[Act.put,ag,ah,aj,aF,aB,aC])
 refine bH (by kernel_rfl) ?_;refine af 15 (by kernel_rfl) rfl (by rfl) fun K hK=>?_
 go_simp;refine((BG E.who E.j hj hl).at0 Sd2.out).mono ?_
 rintro er w3 ⟨rfl,s4⟩
 refine hK _ _ ?_;obtain⟨s5,Hs5,s4⟩:=az (s':=uA s E.who 2 (fP E.j) 2) s4;have S6:Hid (Scope S w0 w3 [ae A rs s5,aA tv wv A.P e (aV E.st.bz e) (rV rs E.r) E,bK B 0]):=zd s4;clear s4 Sd2 hK K h0
 try simp only[Act.put,ag,ah,aj,aF,aB,aC]
 refine wpAny_done (by kernel_rfl) ?_ _;have hO:lW s E A.wk=⟨uA s E.who 2 (fP E.j) 2,fG E A.wk,false⟩:=by rfl
 have HO:=zd hO;clear hO
 go_wp2_with fail
 refine((sH (s:=s5) (aV E.st.bz e) h0 h1).iY S6.out).mono ?_
 rintro er w7 ⟨rfl,s8⟩
 have S9:Hid (Scope S w0 w7 [ae A rs s5,dA tv wv A.P rs e (fG E A.wk),bK B 0]):=zd s8;clear s8 S6;obtain⟨b0,b1,b2,b3,f0,f1,f2,f3,Q4⟩:=aI (c:=0) S9.out
 go_wp2
 refine aQ (d:=false) (by rw[HO.out]) Q4 (fun Vz z0 z1 z2 z3=>by simp[results,results245,go_sem,z0,z1,z2,z3]) rfl fun _ q5=>?_
 rw[HO.out];have hs5:=Hs5.out;subst hs5
 exact q5
theorem ER (now:Int) (hu:dC (s.σ.num df)) (hl:s.σ.log.length≤1000000):Does prog [ae A rs s,aA tv wv A.P e (aV E.st.bz e) (rV rs E.r) E] 247 #[ptr e,J now] (bI 0 (iO s E).d) [ae A rs (iO s E).s,dA tv wv A.P rs e (iO s E).E]:=Does.ax fun S w0 w h=>by
 obtain⟨B,W,HB,HW,Sa⟩:=bV h;clear h
 go_enter func247,ntmps247
 go_wp2_with fail
 rw[←HB.out, ←HW.out];have sd:=Sa.out.drew;have re:=sd.row (k:=e) 1 rfl;have pc:=sd.bT 0 rfl;have h0:At W.drew e 0 (ptr A.P)∧At W.drew A.P 1 (ptr A.ib)∧At W.drew e 1 (J E.who):=⟨re.cell rfl,pc.ib,re.cell rfl⟩
 have Sd2:=zd sd;clear sd re pc Sa;refine aP (by kernel_rfl) ?_;generalize W.drew=V1 at Sd2 h0 ⊢
 refine aY [0,1,8] ?_
 repeat (refine ay _ rfl (by kernel_rfl) (fun _ _ _ h=>h) (fun w'=>by(try simp only[ag,ah,aj]);go_simp;try with_reducible rfl) ?_;try simp only[Act.put,ag,ah,aj,aF,aB,aC])
 refine aH ?_;refine bJ (fun w'=>At w' e 0 (ptr A.P)∧At w' A.P 1 (ptr A.ib)∧At w' e 1 (J E.who)) [2,3,4,5,6,7,9,10,11] ?_
 repeat (refine aN _ rfl (by kernel_rfl) (fun _ _ _ h=>h) h0 (fun w' hS=>by(try dsimp only at hS);(try simp only[ag,ah,aj]);go_simp;try with_reducible rfl) ?_;try simp only[Act.put,ag,ah,aj,aF,aB,aC])
 refine bH (by kernel_rfl) ?_;refine af 12 (by kernel_rfl) rfl (by rfl) fun K hK=>?_
 go_simp;refine((zh E.who hl).at0 Sd2.out).mono ?_
 rintro er w3 ⟨rfl,s4⟩
 refine hK _ _ ?_;obtain⟨s5,Hs5,s4⟩:=az (s':=dN s E.who 1 df) s4;have S6:Hid (Scope S w0 w3 [ae A rs s5,aA tv wv A.P e (aV E.st.bz e) (rV rs E.r) E,bK B 0]):=zd s4;clear s4 Sd2 hK K h0
 try simp only[Act.put,ag,ah,aj,aF,aB,aC]
 have rr:=S6.out.row (k:=e) 1 rfl;have c17:=rr.cell (j:=17) rfl;have f17:=rr.free 17;have q7:Scope S w0 w3 ([ae A rs s5]++([aA tv wv A.P e (aV E.st.bz e) (rV rs E.r) E]++[bK B 0])):=S6.out;have q8:=Scope.au q7 17 (Ju (s.σ.num df));have Q9:=zd q8;clear rr q7 q8 S6;refine aY [13,14] ?_
 repeat (refine ay _ rfl (by kernel_rfl) (fun _ _ _ h=>h) (fun w'=>by(try simp only[ag,ah,aj]);go_simp;try with_reducible rfl) ?_;try simp only[Act.put,ag,ah,aj,aF,aB,aC])
 refine aH ?_;refine af 15 (by kernel_rfl) rfl (by rfl) fun K hK=>?_
 go_simp;refine hK _ _ ?_;clear hK K
 try simp only[Act.put,ag,ah,aj,aF,aB,aC]
 refine wpAny_done (by kernel_rfl) ?_ _;clear c17 f17;obtain⟨V10,hV10⟩:∃ V10,V10=w3.setCell ⟨e,17,none⟩ (Ju (s.σ.num df)):=⟨_,rfl⟩
 have q11:=Q9.out;rw[←hV10]at q11 ⊢
 have S12:Hid (Scope S w0 V10 [ae A rs s5,aA tv wv A.P e (aV E.st.bz e) (rV rs E.r) { E with calm:=s.σ.num df },bK B 0]):=zd q11;clear q11 hV10 Q9;have rr:=S12.out.row (k:=e) 1 rfl;have c17:=rr.cell (j:=17) rfl;clear rr
 go_wp2_with fail
 clear c17;refine(Oo hu _).mono ?_
 rintro er wz ⟨rfl,hc⟩
 have Sq:=zd (S12.out.quiet hc);clear hc S12;obtain⟨bb,hbb⟩:∃ bb,wG (s.σ.num df)=bb:=⟨_,rfl⟩
 rw[hbb]
 cases bb
 ·have hO:iO s E=⟨dN s E.who 1 df,{ E with calm:=s.σ.num df,st:=.quiet },false⟩:=by unfold iO;rw[hbb];rfl
  have HO:=zd hO;clear hO
  go_wp2_with fail
  refine((bW (P:=A.P) (nx:=(aV E.st.bz e)) (rv:=(rV rs E.r)) (E:={ E with calm:=s.σ.num df }) 247).fC Sq.out).mono ?_
  rintro er w13 ⟨rfl,s14⟩
  have S15:Hid (Scope S w0 w13 [ae A rs s5,aA tv wv A.P e (aV 247 e) (rV rs E.r) { E with calm:=s.σ.num df,st:=.quiet },bK B 0]):=zd s14;clear s14 Sq;obtain⟨b0,b1,b2,b3,f0,f1,f2,f3,Q4⟩:=aI (c:=0) S15.out
  go_wp2
  refine aQ (d:=false) (by rw[HO.out]) Q4 (fun Vz z0 z1 z2 z3=>by simp[results,results247,go_sem,z0,z1,z2,z3]) rfl fun _ q5=>?_
  rw[HO.out];have hs5:=Hs5.out;subst hs5
  exact q5
 ·have hO:iO s E=⟨dN s E.who 1 df,{ E with calm:=s.σ.num df,shard:=0,st:=.grab },false⟩:=by unfold iO;rw[hbb];rfl
  have HO:=zd hO;clear hO;have rr:=Sq.out.row (k:=e) 1 rfl;have c18:=rr.cell (j:=18) rfl;have f18:=rr.free 18;have q16:Scope S w0 wz ([ae A rs s5]++([aA tv wv A.P e (aV E.st.bz e) (rV rs E.r) { E with calm:=s.σ.num df }]++[bK B 0])):=Sq.out;have q17:=Scope.au q16 18 (J 0);have Q18:=zd q17;clear rr q16 q17 Sq
  go_wp2_with fail
  clear c18 f18;obtain⟨V19,hV19⟩:∃ V19,V19=wz.setCell ⟨e,18,none⟩ (J 0):=⟨_,rfl⟩
  have q20:=Q18.out;rw[←hV19]at q20 ⊢
  have S21:Hid (Scope S w0 V19 [ae A rs s5,aA tv wv A.P e (aV E.st.bz e) (rV rs E.r) { E with calm:=s.σ.num df,shard:=0 },bK B 0]):=zd q20;clear q20 hV19 Q18;refine((bW (P:=A.P) (nx:=(aV E.st.bz e)) (rv:=(rV rs E.r)) (E:={ E with calm:=s.σ.num df,shard:=0 }) 259).fC S21.out).mono ?_
  rintro er w22 ⟨rfl,s23⟩
  have S24:Hid (Scope S w0 w22 [ae A rs s5,aA tv wv A.P e (aV 259 e) (rV rs E.r) { E with calm:=s.σ.num df,shard:=0,st:=.grab },bK B 0]):=zd s23;clear s23 S21;obtain⟨b0,b1,b2,b3,f0,f1,f2,f3,Q4⟩:=aI (c:=0) S24.out
  go_wp2
  refine aQ (d:=false) (by rw[HO.out]) Q4 (fun Vz z0 z1 z2 z3=>by simp[results,results247,go_sem,z0,z1,z2,z3]) rfl fun _ q5=>?_
  rw[HO.out];have hs5:=Hs5.out;subst hs5
  exact q5
theorem sN (nx:Value) (h0:0≤E.shard) (h1:E.shard<1000):Does prog [ae A rs s,aA tv wv A.P e nx (rV rs E.r) E] 266 #[ptr e] (bI 0 false) [ae A rs s,aA tv wv A.P e (aV (dX E A.sh).st.bz e) (rV rs E.r) (dX E A.sh)]:=Does.ax fun S w0 w h=>by
 have hwr:IntKind.i64.wrap (E.shard+1)=E.shard+1:=by rw[IntKind.wrap_i64];omega
 clear h0 h1;have rr:=h.row (k:=e) 1 rfl;have c18:=rr.cell (j:=18) rfl;have f18:=rr.free 18;have lp:=rr.lt;have hx:Scope S w0 w ([ae A rs s]++([aA tv wv A.P e nx (rV rs E.r) E]++[])):=h
 replace h:Scope S w0 _ [ae A rs s,aA tv wv A.P e nx (rV rs E.r) { E with shard:=E.shard+1 }]:=Scope.au hx 18 (J (E.shard+1))
 clear rr hx;obtain⟨B,W,HB,HW,Sa⟩:=bV h;rw[show(w.setCell ⟨e,18,none⟩ (J (E.shard+1))).heap.size=w.heap.size by simp]at HB;clear h
 go_enter func266,ntmps266
 go_wp2_with fail
 rw[←HB.out, ←HW.out];clear c18 f18 lp;have sd:=Sa.out.drew;have re:=sd.row (k:=e) 1 rfl;have pc:=sd.bT 0 rfl;have h0:At W.drew e 18 (J (E.shard+1))∧At W.drew e 0 (ptr A.P)∧At W.drew A.P 1 (ptr A.ib):=⟨re.cell rfl,re.cell rfl,pc.ib⟩
 have Sd2:=zd sd;clear sd re pc Sa;refine aP (by kernel_rfl) ?_;generalize W.drew=V1 at Sd2 h0 ⊢
 refine aY [0,4] ?_
 repeat (refine ay _ rfl (by kernel_rfl) (fun _ _ _ h=>h) (fun w'=>by(try simp only[ag,ah,aj]);go_simp;try with_reducible rfl) ?_;try simp only[Act.put,ag,ah,aj,aF,aB,aC])
 refine aH ?_;refine cu (fun w'=>At w' e 18 (J (E.shard+1))∧At w' e 0 (ptr A.P)∧At w' A.P 1 (ptr A.ib)) [1,2,3,5,6,7,8,9,10,11] [1,2,3,5,6,7,8,9,10] ?_
 repeat (refine aN _ rfl (by kernel_rfl) (fun _ _ _ h=>h) h0 (fun w' hS=>by(try dsimp only at hS);(try simp only[ag,ah,aj]);go_simp;try with_reducible rfl) ?_;try simp only[Act.put,ag,ah,aj,aF,aB,aC])
 refine bM ?_;refine aK 11 (by kernel_rfl) rfl (by rfl) fun K hK=>?_
 go_simp;refine((zT (s:=s)).at0 Sd2.out).mono ?_
 rintro er w3 ⟨rfl,s4⟩
 have re:=s4.row (k:=e) 1 rfl;have pc:=s4.bT 0 rfl;have h1:At w3 e 18 (J (E.shard+1))∧At w3 e 0 (ptr A.P)∧At w3 A.P 1 (ptr A.ib):=⟨re.cell rfl,re.cell rfl,pc.ib⟩
 refine hK _ _ ⟨fun _=>h1,?_⟩;clear re pc;have S5:Hid (Scope S w0 w3 [ae A rs s,aA tv wv A.P e nx (rV rs E.r) { E with shard:=E.shard+1 },bK B 0]):=zd s4;clear s4 Sd2 hK K h0
 try simp only[Act.put,ag,ah,aj,aF,aB,aC]
 refine dB [] (bH (by kernel_rfl) ?_);clear h1;refine aY [12] ?_
 repeat (refine ay _ rfl (by kernel_rfl) (fun _ _ _ h=>h) (fun w'=>by(try simp only[ag,ah,aj]);go_simp;try with_reducible rfl) ?_;try simp only[Act.put,ag,ah,aj,aF,aB,aC])
 refine aH ?_;refine wpAny_done (by kernel_rfl) ?_ _;obtain⟨bb,hbb⟩:∃ bb,decide ((A.sh:Int)≤E.shard+1)=bb:=⟨_,rfl⟩
 have Hbb:=zd hbb;clear hbb
 cases bb
 ·have hO:dX E A.sh={ E with shard:=E.shard+1,st:=.grab }:=by unfold dX;rw[Hbb.out];rfl
  have HO:=zd hO;clear hO;have hp:=of_decide_eq_false Hbb.out
  go_wp2_with fail
  refine((bW (P:=A.P) (nx:=nx) (rv:=(rV rs E.r)) (E:={ E with shard:=E.shard+1 }) 259).fC S5.out).mono ?_
  rintro er w6 ⟨rfl,s7⟩
  have S8:Hid (Scope S w0 w6 [ae A rs s,aA tv wv A.P e (aV 259 e) (rV rs E.r) { E with shard:=E.shard+1,st:=.grab },bK B 0]):=zd s7;clear s7 S5;obtain⟨b0,b1,b2,b3,f0,f1,f2,f3,Q4⟩:=aI (c:=0) S8.out
  go_wp2
  refine aQ (d:=false) rfl Q4 (fun Vz z0 z1 z2 z3=>by simp[results,results266,go_sem,z0,z1,z2,z3]) rfl fun _ q5=>?_
  rw[HO.out]
  exact q5
 ·have hO:dX E A.sh={ E with shard:=E.shard+1,st:=.same }:=by unfold dX;rw[Hbb.out];rfl
  have HO:=zd hO;clear hO;have hp:=of_decide_eq_true Hbb.out
  go_wp2_with fail
  refine((bW (P:=A.P) (nx:=nx) (rv:=(rV rs E.r)) (E:={ E with shard:=E.shard+1 }) 272).fC S5.out).mono ?_
  rintro er w9 ⟨rfl,s10⟩
  have S11:Hid (Scope S w0 w9 [ae A rs s,aA tv wv A.P e (aV 272 e) (rV rs E.r) { E with shard:=E.shard+1,st:=.same },bK B 0]):=zd s10;clear s10 S5;obtain⟨b0,b1,b2,b3,f0,f1,f2,f3,Q4⟩:=aI (c:=0) S11.out
  go_wp2
  refine aQ (d:=false) rfl Q4 (fun Vz z0 z1 z2 z3=>by simp[results,results266,go_sem,z0,z1,z2,z3]) rfl fun _ q5=>?_
  rw[HO.out]
  exact q5
theorem Jb (now:Int) (h0:0≤E.shard) (h1:E.shard<1000) (hsh:I64 E.shard) (hu:0≤s.σ.num (fB E.shard)) (hu2:s.σ.num (fB E.shard)<1000000) (hl:s.σ.log.length≤1000000):Does prog [ae A rs s,aA tv wv A.P e (aV E.st.bz e) (rV rs E.r) E] 259 #[ptr e,J now] (bI 0 (jK s E A.sh).d) [ae A rs (jK s E A.sh).s,dA tv wv A.P rs e (jK s E A.sh).E]:=Does.ax fun S w0 w h=>by
 obtain⟨B,W,HB,HW,Sa⟩:=bV h;clear h
 go_enter func259,ntmps259
 go_wp2_with fail
 rw[←HB.out, ←HW.out];have sd:=Sa.out.drew;have re:=sd.row (k:=e) 1 rfl;have pc:=sd.bT 0 rfl;have h0:At W.drew e 0 (ptr A.P)∧At W.drew A.P 1 (ptr A.ib)∧At W.drew e 1 (J E.who)∧At W.drew e 18 (J E.shard):=⟨re.cell rfl,pc.ib,re.cell rfl,re.cell rfl⟩
 have Sd2:=zd sd;clear sd re pc Sa;refine aP (by kernel_rfl) ?_;generalize W.drew=V1 at Sd2 h0 ⊢
 refine aY [0,7,11] ?_
 repeat (refine ay _ rfl (by kernel_rfl) (fun _ _ _ h=>h) (fun w'=>by(try simp only[ag,ah,aj]);go_simp;try with_reducible rfl) ?_;try simp only[Act.put,ag,ah,aj,aF,aB,aC])
 refine aH ?_;refine bJ (fun w'=>At w' e 0 (ptr A.P)∧At w' A.P 1 (ptr A.ib)∧At w' e 1 (J E.who)∧At w' e 18 (J E.shard)) [1,2,3,4,5,6,8,9,10,12,13,14] ?_
 repeat (refine aN _ rfl (by kernel_rfl) (fun _ _ _ h=>h) h0 (fun w' hS=>by(try dsimp only at hS);(try simp only[ag,ah,aj]);go_simp;try with_reducible rfl) ?_;try simp only[Act.put,ag,ah,aj,aF,aB,aC])
 refine bH (by kernel_rfl) ?_;refine af 15 (by kernel_rfl) rfl (by rfl) fun K hK=>?_
 go_simp;refine((FN E.who E.shard hsh hl).at0 Sd2.out).mono ?_
 rintro er w3 ⟨rfl,s4⟩
 refine hK _ _ ?_;obtain⟨s5,Hs5,s4⟩:=az (s':=Cc s E) s4;have S6:Hid (Scope S w0 w3 [ae A rs s5,aA tv wv A.P e (aV E.st.bz e) (rV rs E.r) E,bK B 0]):=zd s4;clear s4 Sd2 hK K h0;obtain⟨g,hg⟩:∃ g,s.σ.num (fB E.shard)=g:=⟨_,rfl⟩
 rw[hg];have Hg:=zd hg;clear hg
 try simp only[Act.put,ag,ah,aj,aF,aB,aC]
 refine aY [16] ?_
 repeat (refine ay _ rfl (by kernel_rfl) (fun _ _ _ h=>h) (fun w'=>by(try simp only[ag,ah,aj]);go_simp;try with_reducible rfl) ?_;try simp only[Act.put,ag,ah,aj,aF,aB,aC])
 refine aH ?_;refine wpAny_done (by kernel_rfl) ?_ _;obtain⟨bb,hbb⟩:∃ bb,(g==0)=bb:=⟨_,rfl⟩
 cases bb
 ·have hO:jK s E A.sh=⟨Cc s E,{ E with obj:=g - 1,st:=.behind },false⟩:=by unfold jK;rw[Hg.out,hbb];rfl
  have HO:=zd hO;clear hO;have hg0:g≠0:=by simpa using hbb
  have hw1:IntKind.u64.wrap (g - 1)=g - 1:=by rw[←Hg.out]at hg0 ⊢;rw[IntKind.wrap_u64];omega
  have hw2:IntKind.i64.wrap (g - 1)=g - 1:=by rw[←Hg.out]at hg0 ⊢;rw[IntKind.wrap_i64];omega
  clear hg0 hu hu2;have rr:=S6.out.row (k:=e) 1 rfl;have c19:=rr.cell (j:=19) rfl;have f19:=rr.free 19;have q7:Scope S w0 w3 ([ae A rs s5]++([aA tv wv A.P e (aV E.st.bz e) (rV rs E.r) E]++[bK B 0])):=S6.out;have q8:=Scope.au q7 19 (J (g - 1));have Q9:=zd q8;clear rr q7 q8 S6
  go_wp2_with fail
  clear c19 f19;obtain⟨V10,hV10⟩:∃ V10,V10=w3.setCell ⟨e,19,none⟩ (J (g - 1)):=⟨_,rfl⟩
  have q11:=Q9.out;rw[←hV10]at q11 ⊢
  have S12:Hid (Scope S w0 V10 [ae A rs s5,aA tv wv A.P e (aV E.st.bz e) (rV rs E.r) { E with obj:=g - 1 },bK B 0]):=zd q11;clear q11 hV10 Q9;refine((bW (P:=A.P) (nx:=(aV E.st.bz e)) (rv:=(rV rs E.r)) (E:={ E with obj:=g - 1 }) 267).fC S12.out).mono ?_
  rintro er w13 ⟨rfl,s14⟩
  have S15:Hid (Scope S w0 w13 [ae A rs s5,aA tv wv A.P e (aV 267 e) (rV rs E.r) { E with obj:=g - 1,st:=.behind },bK B 0]):=zd s14;clear s14 S12;obtain⟨b0,b1,b2,b3,f0,f1,f2,f3,Q4⟩:=aI (c:=0) S15.out
  go_wp2
  refine aQ (d:=false) (by rw[HO.out]) Q4 (fun Vz z0 z1 z2 z3=>by simp[results,results259,go_sem,z0,z1,z2,z3]) rfl fun _ q5=>?_
  rw[HO.out];have hs5:=Hs5.out;subst hs5
  exact q5
 ·have hO:jK s E A.sh=⟨Cc s E,dX E A.sh,false⟩:=by unfold jK;rw[Hg.out,hbb];rfl
  have HO:=zd hO;clear hO
  go_wp2_with fail
  refine((sN (s:=s5) (aV E.st.bz e) h0 h1).iY S6.out).mono ?_
  rintro er w16 ⟨rfl,s17⟩
  have S18:Hid (Scope S w0 w16 [ae A rs s5,dA tv wv A.P rs e (dX E A.sh),bK B 0]):=zd s17;clear s17 S6;obtain⟨b0,b1,b2,b3,f0,f1,f2,f3,Q4⟩:=aI (c:=0) S18.out
  go_wp2
  refine aQ (d:=false) (by rw[HO.out]) Q4 (fun Vz z0 z1 z2 z3=>by simp[results,results259,go_sem,z0,z1,z2,z3]) rfl fun _ q5=>?_
  rw[HO.out];have hs5:=Hs5.out;subst hs5
  exact q5
theorem BU (now:Int) (ho:I64 E.obj) (hl:s.σ.log.length≤1000000):Does prog [ae A rs s,aA tv wv A.P e (aV E.st.bz e) (rV rs E.r) E] 267 #[ptr e,J now] (bI 0 (mD s E).d) [ae A rs (mD s E).s,dA tv wv A.P rs e (mD s E).E]:=Does.ax fun S w0 w h=>by
 obtain⟨B,W,HB,HW,Sa⟩:=bV h;clear h
 go_enter func267,ntmps267
 go_wp2_with fail
 rw[←HB.out, ←HW.out];have sd:=Sa.out.drew;have re:=sd.row (k:=e) 1 rfl;have pc:=sd.bT 0 rfl;have h0:At W.drew e 0 (ptr A.P)∧At W.drew A.P 1 (ptr A.ib)∧At W.drew e 1 (J E.who)∧At W.drew e 19 (J E.obj):=⟨re.cell rfl,pc.ib,re.cell rfl,re.cell rfl⟩
 have Sd2:=zd sd;clear sd re pc Sa;refine aP (by kernel_rfl) ?_;generalize W.drew=V1 at Sd2 h0 ⊢
 refine aY [0,1,8,12] ?_
 repeat (refine ay _ rfl (by kernel_rfl) (fun _ _ _ h=>h) (fun w'=>by(try simp only[ag,ah,aj]);go_simp;try with_reducible rfl) ?_;try simp only[Act.put,ag,ah,aj,aF,aB,aC])
 refine aH ?_;refine bJ (fun w'=>At w' e 0 (ptr A.P)∧At w' A.P 1 (ptr A.ib)∧At w' e 1 (J E.who)∧At w' e 19 (J E.obj)) [2,3,4,5,6,7,9,10,11,13,14,15] ?_
 repeat (refine aN _ rfl (by kernel_rfl) (fun _ _ _ h=>h) h0 (fun w' hS=>by(try dsimp only at hS);(try simp only[ag,ah,aj]);go_simp;try with_reducible rfl) ?_;try simp only[Act.put,ag,ah,aj,aF,aB,aC])
 refine bH (by kernel_rfl) ?_;refine af 16 (by kernel_rfl) rfl (by rfl) fun K hK=>?_
 go_simp;refine((Fb E.who E.obj ho hl).at0 Sd2.out).mono ?_
 rintro er w3 ⟨rfl,s4⟩
 refine hK _ _ ?_;obtain⟨s5,Hs5,s4⟩:=az (s':=dN s E.who 5 (tN E.obj)) s4;have S6:Hid (Scope S w0 w3 [ae A rs s5,aA tv wv A.P e (aV E.st.bz e) (rV rs E.r) E,bK B 0]):=zd s4;clear s4 Sd2 hK K h0
 try simp only[Act.put,ag,ah,aj,aF,aB,aC]
 have rr:=S6.out.row (k:=e) 1 rfl;have c20:=rr.cell (j:=20) rfl;have f20:=rr.free 20;have q7:Scope S w0 w3 ([ae A rs s5]++([aA tv wv A.P e (aV E.st.bz e) (rV rs E.r) E]++[bK B 0])):=S6.out;have q8:=Scope.au q7 20 (Ju (s.nx E.obj));have Q9:=zd q8;clear rr q7 q8 S6;refine aY [17,18] ?_
 repeat (refine ay _ rfl (by kernel_rfl) (fun _ _ _ h=>h) (fun w'=>by(try simp only[ag,ah,aj]);go_simp;try with_reducible rfl) ?_;try simp only[Act.put,ag,ah,aj,aF,aB,aC])
 refine aH ?_;refine af 19 (by kernel_rfl) rfl (by rfl) fun K hK=>?_
 go_simp;refine hK _ _ ?_;clear hK K
 try simp only[Act.put,ag,ah,aj,aF,aB,aC]
 refine wpAny_done (by kernel_rfl) ?_ _;clear c20 f20;obtain⟨V10,hV10⟩:∃ V10,V10=w3.setCell ⟨e,20,none⟩ (Ju (s.nx E.obj)):=⟨_,rfl⟩
 have q11:=Q9.out;rw[←hV10]at q11 ⊢
 have S12:Hid (Scope S w0 V10 [ae A rs s5,aA tv wv A.P e (aV E.st.bz e) (rV rs E.r) { E with link:=s.nx E.obj },bK B 0]):=zd q11;clear q11 hV10 Q9
 go_wp2_with fail
 refine((bW (P:=A.P) (nx:=(aV E.st.bz e)) (rv:=(rV rs E.r)) (E:={ E with link:=s.nx E.obj }) 274).fC S12.out).mono ?_
 rintro er w13 ⟨rfl,s14⟩
 have S15:Hid (Scope S w0 w13 [ae A rs s5,aA tv wv A.P e (aV 274 e) (rV rs E.r) { E with link:=s.nx E.obj,st:=.thing },bK B 0]):=zd s14;clear s14 S12;obtain⟨b0,b1,b2,b3,f0,f1,f2,f3,Q4⟩:=aI (c:=0) S15.out
 go_wp2
 refine aQ (d:=false) rfl Q4 (fun Vz z0 z1 z2 z3=>by simp[results,results267,go_sem,z0,z1,z2,z3]) rfl fun _ q5=>?_
 have hs5:=Hs5.out;subst hs5
 exact q5
theorem Ia (now:Int) (hl:s.σ.log.length≤1000000):Does prog [ae A rs s,aA tv wv A.P e (aV E.st.bz e) (rV rs E.r) E] 272 #[ptr e,J now] (bI 0 (jC s E now).d) [ae A rs (jC s E now).s,dA tv wv A.P rs e (jC s E now).E]:=Does.ax fun S w0 w h=>by
 obtain⟨B,W,HB,HW,Sa⟩:=bV h;clear h
 go_enter func272,ntmps272
 go_wp2_with fail
 rw[←HB.out, ←HW.out];have sd:=Sa.out.drew;have re:=sd.row (k:=e) 1 rfl;have pc:=sd.bT 0 rfl;have h0:At W.drew e 0 (ptr A.P)∧At W.drew A.P 1 (ptr A.ib)∧At W.drew e 1 (J E.who)∧At W.drew e 17 (Ju E.calm):=⟨re.cell rfl,pc.ib,re.cell rfl,re.cell rfl⟩
 have Sd2:=zd sd;clear sd re pc Sa;refine aP (by kernel_rfl) ?_;generalize W.drew=V1 at Sd2 h0 ⊢
 refine aY [0,7,12] ?_
 repeat (refine ay _ rfl (by kernel_rfl) (fun _ _ _ h=>h) (fun w'=>by(try simp only[ag,ah,aj]);go_simp;try with_reducible rfl) ?_;try simp only[Act.put,ag,ah,aj,aF,aB,aC])
 refine aH ?_;refine cu (fun w'=>At w' e 0 (ptr A.P)∧At w' A.P 1 (ptr A.ib)∧At w' e 1 (J E.who)∧At w' e 17 (Ju E.calm)) [1,2,3,4,5,6,8,9,10,13,14,15,11] [1,2,3,4,5,6,8,9,10,13,14,15] ?_
 repeat (refine aN _ rfl (by kernel_rfl) (fun _ _ _ h=>h) h0 (fun w' hS=>by(try dsimp only at hS);(try simp only[ag,ah,aj]);go_simp;try with_reducible rfl) ?_;try simp only[Act.put,ag,ah,aj,aF,aB,aC])
 refine bM ?_;refine aK 11 (by kernel_rfl) rfl (by rfl) fun K hK=>?_
 go_simp;refine((zh E.who hl).at0 Sd2.out).mono ?_
 rintro er w3 ⟨rfl,s4⟩
 have re:=s4.row (k:=e) 1 rfl;have pc:=s4.bT 0 rfl;have h1:At w3 e 0 (ptr A.P)∧At w3 A.P 1 (ptr A.ib)∧At w3 e 1 (J E.who)∧At w3 e 17 (Ju E.calm):=⟨re.cell rfl,pc.ib,re.cell rfl,re.cell rfl⟩
 refine hK _ _ ⟨fun _=>h1,?_⟩;clear re pc;obtain⟨s5,Hs5,s4⟩:=az (s':=dN s E.who 1 df) s4;have S6:Hid (Scope S w0 w3 [ae A rs s5,aA tv wv A.P e (aV E.st.bz e) (rV rs E.r) E,bK B 0]):=zd s4;clear s4 Sd2 hK K h0
 try simp only[Act.put,ag,ah,aj,aF,aB,aC]
 refine dB [] (bH (by kernel_rfl) ?_);clear h1;refine aY [16] ?_
 repeat (refine ay _ rfl (by kernel_rfl) (fun _ _ _ h=>h) (fun w'=>by(try simp only[ag,ah,aj]);go_simp;try with_reducible rfl) ?_;try simp only[Act.put,ag,ah,aj,aF,aB,aC])
 refine aH ?_;refine wpAny_done (by kernel_rfl) ?_ _;obtain⟨bb,hbb⟩:∃ bb,(s.σ.num df==E.calm)=bb:=⟨_,rfl⟩
 cases bb
 ·have hO:jC s E now=⟨dN s E.who 1 df,{ E with st:=.quiet },false⟩:=by unfold jC;rw[hbb];rfl
  have HO:=zd hO;clear hO
  go_wp2_with fail
  refine((bW (P:=A.P) (nx:=(aV E.st.bz e)) (rv:=(rV rs E.r)) (E:=E) 247).fC S6.out).mono ?_
  rintro er w7 ⟨rfl,s8⟩
  have S9:Hid (Scope S w0 w7 [ae A rs s5,aA tv wv A.P e (aV 247 e) (rV rs E.r) { E with st:=.quiet },bK B 0]):=zd s8;clear s8 S6;obtain⟨b0,b1,b2,b3,f0,f1,f2,f3,Q4⟩:=aI (c:=0) S9.out
  go_wp2
  refine aQ (d:=false) (by rw[HO.out]) Q4 (fun Vz z0 z1 z2 z3=>by simp[results,results272,go_sem,z0,z1,z2,z3]) rfl fun _ q5=>?_
  rw[HO.out];have hs5:=Hs5.out;subst hs5
  exact q5
 ·have hO:jC s E now=⟨dN s E.who 1 df,{ E with now:=now,st:=.pick },false⟩:=by unfold jC;rw[hbb];rfl
  have HO:=zd hO;clear hO;have rr:=S6.out.row (k:=e) 1 rfl;have c22:=rr.cell (j:=22) rfl;have f22:=rr.free 22;have q10:Scope S w0 w3 ([ae A rs s5]++([aA tv wv A.P e (aV E.st.bz e) (rV rs E.r) E]++[bK B 0])):=S6.out;have q11:=Scope.au q10 22 (J now);have Q12:=zd q11;clear rr q10 q11 S6
  go_wp2_with fail
  clear c22 f22;obtain⟨V13,hV13⟩:∃ V13,V13=w3.setCell ⟨e,22,none⟩ (J now):=⟨_,rfl⟩
  have q14:=Q12.out;rw[←hV13]at q14 ⊢
  have S15:Hid (Scope S w0 V13 [ae A rs s5,aA tv wv A.P e (aV E.st.bz e) (rV rs E.r) { E with now:=now },bK B 0]):=zd q14;clear q14 hV13 Q12;refine((bW (P:=A.P) (nx:=(aV E.st.bz e)) (rv:=(rV rs E.r)) (E:={ E with now:=now }) 277).fC S15.out).mono ?_
  rintro er w16 ⟨rfl,s17⟩
  have S18:Hid (Scope S w0 w16 [ae A rs s5,aA tv wv A.P e (aV 277 e) (rV rs E.r) { E with now:=now,st:=.pick },bK B 0]):=zd s17;clear s17 S15;obtain⟨b0,b1,b2,b3,f0,f1,f2,f3,Q4⟩:=aI (c:=0) S18.out
  go_wp2
  refine aQ (d:=false) (by rw[HO.out]) Q4 (fun Vz z0 z1 z2 z3=>by simp[results,results272,go_sem,z0,z1,z2,z3]) rfl fun _ q5=>?_
  rw[HO.out];have hs5:=Hs5.out;subst hs5
  exact q5
end
def Ba (s:PS) (E:eQ):Lc:=lK (E.ri:Nat) (ix E.n (s.len E.ri))
def uX (s:PS) (E:eQ):Bool:=s.σ.num (Ba s E)==IntKind.u64.wrap (E.n+1)
def jO (s:PS) (E:eQ):DO:=⟨dN s E.who 1 (Ba s E),{ E with st:=cond (uX s E) .get .shown },false⟩
def qW (s:PS) (E:eQ):DO:=⟨uA s E.who 2 (jU (E.ri:Nat)) (IntKind.u64.wrap (E.n+1)),{ E with st:=.word },false⟩
@[reducible] def D9 (s:PS) (E:eQ):Int:=s.σ.num (bQ (E.ri:Nat))
@[reducible] def jY (s:PS) (E:eQ):Bool:=iD (D9 s E) != IntKind.u64.wrap (E.n+1)
def lN (s:PS) (E:eQ):DO:=⟨dN s E.who 1 (bQ (E.ri:Nat)),{ E with w:=D9 s E,more:=jY s E,st:=cond (jY s E) .keep .rest },false⟩
def EK (s:PS) (E:eQ):PS:={ s with σ:=s.σ.turn E.who (E.ri:Nat) 1 E.w }
def qF (s:PS) (E:eQ):DO:=⟨EK s E,{ E with more:= !(s.σ.turned (E.ri:Nat) 1 E.w),st:=.keep },false⟩
def nI (s:PS) (E:eQ):DO:=⟨tK s E,{ E with left:=E.left - 1,st:=cond ((E.left - 1==0)||(E.told.e==10)) .answer .turn },false⟩
section
variable {A:PA} {rs:List Nat} {s:PS} {e:Nat} {E:eQ} {r:Nat} {x:mO} {tv wv:Value}
theorem EC (now:Int) (hR:E.r=some E.ri) (hr:rs[E.ri]? =some r) (ho:s.ob[E.ri]? =some x) (hi:E.ri<1000000) (hn:dC E.n) (c0:0<x.cs.length) (c8:x.cs.length≤1000) (hl:s.σ.log.length≤1000000):Does prog [ae A rs s,aA tv wv A.P e (aV E.st.bz e) (rV rs E.r) E] 284 #[ptr e,J now] (bI 0 (jO s E).d) [ae A rs (jO s E).s,dA tv wv A.P rs e (jO s E).E]:=Does.ax fun S w0 w h=>by
 have hlen:=PS.tZ ho;have Hlen:=zd hlen;clear hlen;have hrv:rV rs E.r=ptr r:=by rw[hR];simp[rV,List.getD,hr]
 rw[show aA tv wv A.P e (aV E.st.bz e) (rV rs E.r) E=aA tv wv A.P e (aV E.st.bz e) (ptr r) E from by rw[hrv]]at h;have Hrv:=zd hrv;clear hrv;obtain⟨B,W,HB,HW,Sa⟩:=bV h;clear h
 go_enter func284,ntmps284
 go_wp2_with fail
 rw[←HB.out, ←HW.out];have sd:=Sa.out.drew;have re:=sd.row (k:=e) 1 rfl;have h0:At W.drew e 23 ((ptr r))∧At W.drew e 1 (J E.who)∧At W.drew e 24 (Ju E.n):=⟨re.cell rfl,re.cell rfl,re.cell rfl⟩
 have Sd2:=zd sd;clear sd re Sa;refine aP (by kernel_rfl) ?_;generalize W.drew=V1 at Sd2 h0 ⊢
 refine aY [0,4,8] ?_
 repeat (refine ay _ rfl (by kernel_rfl) (fun _ _ _ h=>h) (fun w'=>by(try simp only[ag,ah,aj]);go_simp;try with_reducible rfl) ?_;try simp only[Act.put,ag,ah,aj,aF,aB,aC])
 refine aH ?_;refine bJ (fun w'=>At w' e 23 ((ptr r))∧At w' e 1 (J E.who)∧At w' e 24 (Ju E.n)) [1,2,3,5,6,7,9,10,11] ?_
 repeat (refine aN _ rfl (by kernel_rfl) (fun _ _ _ h=>h) h0 (fun w' hS=>by(try dsimp only at hS);(try simp only[ag,ah,aj]);go_simp;try with_reducible rfl) ?_;try simp only[Act.put,ag,ah,aj,aF,aB,aC])
 refine bH (by kernel_rfl) ?_;refine af 12 (by kernel_rfl) rfl (by rfl) fun K hK=>?_
 go_simp;refine((BA hr ho hi hl c0 c8 E.who E.n hn).at0 Sd2.out).mono ?_
 rintro er w3 ⟨rfl,s4⟩
 refine hK _ _ ?_;obtain⟨s5,Hs5,s4⟩:=az (s':=dN s E.who 1 (lK (E.ri:Nat) (ix E.n x.cs.length))) s4;have S6:Hid (Scope S w0 w3 [ae A rs s5,aA tv wv A.P e (aV E.st.bz e) (ptr r) E,bK B 0]):=zd s4;clear s4 Sd2 hK K h0;obtain⟨bb,hbb⟩:∃ bb,(s.σ.num (lK (E.ri:Nat) (ix E.n x.cs.length))==IntKind.u64.wrap (E.n+1))=bb:=⟨_,rfl⟩
 rw[hbb];have Hbb:=zd hbb;clear hbb
 try simp only[Act.put,ag,ah,aj,aF,aB,aC]
 refine aY [13] ?_
 repeat (refine ay _ rfl (by kernel_rfl) (fun _ _ _ h=>h) (fun w'=>by(try simp only[ag,ah,aj]);go_simp;try with_reducible rfl) ?_;try simp only[Act.put,ag,ah,aj,aF,aB,aC])
 refine aH ?_;refine wpAny_done (by kernel_rfl) ?_ _
 cases bb
 ·have hO:jO s E=⟨dN s E.who 1 (lK (E.ri:Nat) (ix E.n x.cs.length)),{ E with st:=.shown },false⟩:=by unfold jO uX Ba;rw[Hlen.out,Hbb.out];rfl
  have HO:=zd hO;clear hO
  go_wp2_with fail
  refine((bW (P:=A.P) (nx:=(aV E.st.bz e)) (rv:=(ptr r)) (E:=E) 284).fC S6.out).mono ?_
  rintro er w7 ⟨rfl,s8⟩
  have S9:Hid (Scope S w0 w7 [ae A rs s5,aA tv wv A.P e (aV 284 e) (ptr r) { E with st:=.shown },bK B 0]):=zd s8;clear s8 S6;obtain⟨b0,b1,b2,b3,f0,f1,f2,f3,Q4⟩:=aI (c:=0) S9.out
  go_wp2
  refine aQ (d:=false) (by rw[HO.out]) Q4 (fun Vz z0 z1 z2 z3=>by simp[results,results284,go_sem,z0,z1,z2,z3]) rfl fun _ q5=>?_
  rw[HO.out];have hs5:=Hs5.out;subst hs5;rw[←Hrv.out]at q5
  exact q5
 ·have hO:jO s E=⟨dN s E.who 1 (lK (E.ri:Nat) (ix E.n x.cs.length)),{ E with st:=.get },false⟩:=by unfold jO uX Ba;rw[Hlen.out,Hbb.out];rfl
  have HO:=zd hO;clear hO
  go_wp2_with fail
  refine((bW (P:=A.P) (nx:=(aV E.st.bz e)) (rv:=(ptr r)) (E:=E) 288).fC S6.out).mono ?_
  rintro er w10 ⟨rfl,s11⟩
  have S12:Hid (Scope S w0 w10 [ae A rs s5,aA tv wv A.P e (aV 288 e) (ptr r) { E with st:=.get },bK B 0]):=zd s11;clear s11 S6;obtain⟨b0,b1,b2,b3,f0,f1,f2,f3,Q4⟩:=aI (c:=0) S12.out
  go_wp2
  refine aQ (d:=false) (by rw[HO.out]) Q4 (fun Vz z0 z1 z2 z3=>by simp[results,results284,go_sem,z0,z1,z2,z3]) rfl fun _ q5=>?_
  rw[HO.out];have hs5:=Hs5.out;subst hs5;rw[←Hrv.out]at q5
  exact q5
theorem H7 (now:Int) (hR:E.r=some E.ri) (hr:rs[E.ri]? =some r) (ho:s.ob[E.ri]? =some x) (hi:E.ri<1000000) (hl:s.σ.log.length≤1000000):Does prog [ae A rs s,aA tv wv A.P e (aV E.st.bz e) (rV rs E.r) E] 290 #[ptr e,J now] (bI 0 (qW s E).d) [ae A rs (qW s E).s,dA tv wv A.P rs e (qW s E).E]:=Does.ax fun S w0 w h=>by
 have hrv:rV rs E.r=ptr r:=by rw[hR];simp[rV,List.getD,hr]
 rw[show aA tv wv A.P e (aV E.st.bz e) (rV rs E.r) E=aA tv wv A.P e (aV E.st.bz e) (ptr r) E from by rw[hrv]]at h;have Hrv:=zd hrv;clear hrv;obtain⟨B,W,HB,HW,Sa⟩:=bV h;clear h
 go_enter func290,ntmps290
 go_wp2_with fail
 rw[←HB.out, ←HW.out];have sd:=Sa.out.drew;have re:=sd.row (k:=e) 1 rfl;have h0:At W.drew e 23 ((ptr r))∧At W.drew e 1 (J E.who)∧At W.drew e 24 (Ju E.n):=⟨re.cell rfl,re.cell rfl,re.cell rfl⟩
 have Sd2:=zd sd;clear sd re Sa;refine aP (by kernel_rfl) ?_;generalize W.drew=V1 at Sd2 h0 ⊢
 refine aY [0,4,8] ?_
 repeat (refine ay _ rfl (by kernel_rfl) (fun _ _ _ h=>h) (fun w'=>by(try simp only[ag,ah,aj]);go_simp;try with_reducible rfl) ?_;try simp only[Act.put,ag,ah,aj,aF,aB,aC])
 refine aH ?_;refine bJ (fun w'=>At w' e 23 ((ptr r))∧At w' e 1 (J E.who)∧At w' e 24 (Ju E.n)) [1,2,3,5,6,7,9,10,11] ?_
 repeat (refine aN _ rfl (by kernel_rfl) (fun _ _ _ h=>h) h0 (fun w' hS=>by(try dsimp only at hS);(try simp only[ag,ah,aj]);go_simp;try with_reducible rfl) ?_;try simp only[Act.put,ag,ah,aj,aF,aB,aC])
 refine bH (by kernel_rfl) ?_;refine af 12 (by kernel_rfl) rfl (by rfl) fun K hK=>?_
 go_simp;refine((DR hr ho hi hl E.who E.n).at0 Sd2.out).mono ?_
 rintro er w3 ⟨rfl,s4⟩
 refine hK _ _ ?_;obtain⟨s5,Hs5,s4⟩:=az (s':=uA s E.who 2 (jU (E.ri:Nat)) (IntKind.u64.wrap (E.n+1))) s4;have S6:Hid (Scope S w0 w3 [ae A rs s5,aA tv wv A.P e (aV E.st.bz e) (ptr r) E,bK B 0]):=zd s4;clear s4 Sd2 hK K h0
 try simp only[Act.put,ag,ah,aj,aF,aB,aC]
 refine wpAny_done (by kernel_rfl) ?_ _
 go_wp2_with fail
 refine((bW (P:=A.P) (nx:=(aV E.st.bz e)) (rv:=(ptr r)) (E:=E) 292).fC S6.out).mono ?_
 rintro er w7 ⟨rfl,s8⟩
 have S9:Hid (Scope S w0 w7 [ae A rs s5,aA tv wv A.P e (aV 292 e) (ptr r) { E with st:=.word },bK B 0]):=zd s8;clear s8 S6;obtain⟨b0,b1,b2,b3,f0,f1,f2,f3,Q4⟩:=aI (c:=0) S9.out
 go_wp2
 refine aQ (d:=false) rfl Q4 (fun Vz z0 z1 z2 z3=>by simp[results,results290,go_sem,z0,z1,z2,z3]) rfl fun _ q5=>?_
 have hs5:=Hs5.out;subst hs5;rw[←Hrv.out]at q5
 exact q5
theorem J4 (now:Int) (hR:E.r=some E.ri) (hr:rs[E.ri]? =some r) (ho:s.ob[E.ri]? =some x) (hi:E.ri<1000000) (hw:dC E.w) (hl:s.σ.log.length≤1000000):Does prog [ae A rs s,aA tv wv A.P e (aV E.st.bz e) (rV rs E.r) E] 294 #[ptr e,J now] (bI 0 (qF s E).d) [ae A rs (qF s E).s,dA tv wv A.P rs e (qF s E).E]:=Does.ax fun S w0 w h=>by
 have hrv:rV rs E.r=ptr r:=by rw[hR];simp[rV,List.getD,hr]
 rw[show aA tv wv A.P e (aV E.st.bz e) (rV rs E.r) E=aA tv wv A.P e (aV E.st.bz e) (ptr r) E from by rw[hrv]]at h;have Hrv:=zd hrv;clear hrv;obtain⟨B,W,HB,HW,Sa⟩:=bV h;clear h
 go_enter func294,ntmps294
 go_wp2_with fail
 rw[←HB.out, ←HW.out];have sd:=Sa.out.drew;have re:=sd.row (k:=e) 1 rfl;have h0:At W.drew e 23 ((ptr r))∧At W.drew e 1 (J E.who)∧At W.drew e 28 (Ju E.w):=⟨re.cell rfl,re.cell rfl,re.cell rfl⟩
 have Sd2:=zd sd;clear sd re Sa;refine aP (by kernel_rfl) ?_;generalize W.drew=V1 at Sd2 h0 ⊢
 refine aY [0,1,5,9] ?_
 repeat (refine ay _ rfl (by kernel_rfl) (fun _ _ _ h=>h) (fun w'=>by(try simp only[ag,ah,aj]);go_simp;try with_reducible rfl) ?_;try simp only[Act.put,ag,ah,aj,aF,aB,aC])
 refine aH ?_;refine bJ (fun w'=>At w' e 23 ((ptr r))∧At w' e 1 (J E.who)∧At w' e 28 (Ju E.w)) [2,3,4,6,7,8,10,11,12] ?_
 repeat (refine aN _ rfl (by kernel_rfl) (fun _ _ _ h=>h) h0 (fun w' hS=>by(try dsimp only at hS);(try simp only[ag,ah,aj]);go_simp;try with_reducible rfl) ?_;try simp only[Act.put,ag,ah,aj,aF,aB,aC])
 refine bH (by kernel_rfl) ?_;refine af 13 (by kernel_rfl) rfl (by rfl) fun K hK=>?_
 go_simp;refine((DZ hr ho hi hl E.who E.w hw).at0 Sd2.out).mono ?_
 rintro er w3 ⟨rfl,s4⟩
 refine hK _ _ ?_;obtain⟨s5,Hs5,s4⟩:=az (s':=EK s E) s4;have S6:Hid (Scope S w0 w3 [ae A rs s5,aA tv wv A.P e (aV E.st.bz e) (ptr r) E,bK B 0]):=zd s4;clear s4 Sd2 hK K h0
 try simp only[Act.put,ag,ah,aj,aF,aB,aC]
 have rr:=S6.out.row (k:=e) 1 rfl;have c29:=rr.cell (j:=29) rfl;have f29:=rr.free 29;have q7:Scope S w0 w3 ([ae A rs s5]++([aA tv wv A.P e (aV E.st.bz e) (ptr r) E]++[bK B 0])):=S6.out;have q8:=Scope.au q7 29 (.bool (!(s.σ.turned (E.ri:Nat) 1 E.w)));have Q9:=zd q8;clear rr q7 q8 S6;refine aY [14,15,16] ?_
 repeat (refine ay _ rfl (by kernel_rfl) (fun _ _ _ h=>h) (fun w'=>by(try simp only[ag,ah,aj]);go_simp;try with_reducible rfl) ?_;try simp only[Act.put,ag,ah,aj,aF,aB,aC])
 refine aH ?_;refine af 17 (by kernel_rfl) rfl (by rfl) fun K hK=>?_
 go_simp;refine hK _ _ ?_;clear hK K
 try simp only[Act.put,ag,ah,aj,aF,aB,aC]
 refine wpAny_done (by kernel_rfl) ?_ _;clear c29 f29;obtain⟨V10,hV10⟩:∃ V10,V10=w3.setCell ⟨e,29,none⟩ (.bool (!(s.σ.turned (E.ri:Nat) 1 E.w))):=⟨_,rfl⟩
 have q11:=Q9.out;rw[←hV10]at q11 ⊢
 have S12:Hid (Scope S w0 V10 [ae A rs s5,aA tv wv A.P e (aV E.st.bz e) (ptr r) { E with more:= !(s.σ.turned (E.ri:Nat) 1 E.w) },bK B 0]):=zd q11;clear q11 hV10 Q9
 go_wp2_with fail
 refine((bW (P:=A.P) (nx:=(aV E.st.bz e)) (rv:=(ptr r)) (E:={ E with more:= !(s.σ.turned (E.ri:Nat) 1 E.w) }) 293).fC S12.out).mono ?_
 rintro er w13 ⟨rfl,s14⟩
 have S15:Hid (Scope S w0 w13 [ae A rs s5,aA tv wv A.P e (aV 293 e) (ptr r) { E with more:= !(s.σ.turned (E.ri:Nat) 1 E.w),st:=.keep },bK B 0]):=zd s14;clear s14 S12;obtain⟨b0,b1,b2,b3,f0,f1,f2,f3,Q4⟩:=aI (c:=0) S15.out
 go_wp2
 refine aQ (d:=false) rfl Q4 (fun Vz z0 z1 z2 z3=>by simp[results,results294,go_sem,z0,z1,z2,z3]) rfl fun _ q5=>?_
 have hs5:=Hs5.out;subst hs5;rw[←Hrv.out]at q5
 exact q5
theorem Gs (now:Int) (hR:E.r=some E.ri) (hr:rs[E.ri]? =some r) (ho:s.ob[E.ri]? =some x) (hi:E.ri<1000000) (hu:dC (D9 s E)) (hl:s.σ.log.length≤1000000):Does prog [ae A rs s,aA tv wv A.P e (aV E.st.bz e) (rV rs E.r) E] 292 #[ptr e,J now] (bI 0 (lN s E).d) [ae A rs (lN s E).s,dA tv wv A.P rs e (lN s E).E]:=Does.ax fun S w0 w h=>by
 have hrv:rV rs E.r=ptr r:=by rw[hR];simp[rV,List.getD,hr]
 rw[show aA tv wv A.P e (aV E.st.bz e) (rV rs E.r) E=aA tv wv A.P e (aV E.st.bz e) (ptr r) E from by rw[hrv]]at h;have Hrv:=zd hrv;clear hrv;obtain⟨B,W,HB,HW,Sa⟩:=bV h;clear h
 go_enter func292,ntmps292
 go_wp2_with fail
 rw[←HB.out, ←HW.out];have sd:=Sa.out.drew;have re:=sd.row (k:=e) 1 rfl;have h0:At W.drew e 23 ((ptr r))∧At W.drew e 1 (J E.who):=⟨re.cell rfl,re.cell rfl⟩
 have Sd2:=zd sd;clear sd re Sa;refine aP (by kernel_rfl) ?_;generalize W.drew=V1 at Sd2 h0 ⊢
 refine aY [0,1,5] ?_
 repeat (refine ay _ rfl (by kernel_rfl) (fun _ _ _ h=>h) (fun w'=>by(try simp only[ag,ah,aj]);go_simp;try with_reducible rfl) ?_;try simp only[Act.put,ag,ah,aj,aF,aB,aC])
 refine aH ?_;refine bJ (fun w'=>At w' e 23 ((ptr r))∧At w' e 1 (J E.who)) [2,3,4,6,7,8] ?_
 repeat (refine aN _ rfl (by kernel_rfl) (fun _ _ _ h=>h) h0 (fun w' hS=>by(try dsimp only at hS);(try simp only[ag,ah,aj]);go_simp;try with_reducible rfl) ?_;try simp only[Act.put,ag,ah,aj,aF,aB,aC])
 refine bH (by kernel_rfl) ?_;refine af 9 (by kernel_rfl) rfl (by rfl) fun K hK=>?_
 go_simp;refine((nY hr ho hi hl E.who).at0 Sd2.out).mono ?_
 rintro er w3 ⟨rfl,s4⟩
 refine hK _ _ ?_;obtain⟨s5,Hs5,s4⟩:=az (s':=dN s E.who 1 (bQ (E.ri:Nat))) s4;have S6:Hid (Scope S w0 w3 [ae A rs s5,aA tv wv A.P e (aV E.st.bz e) (ptr r) E,bK B 0]):=zd s4;clear s4 Sd2 hK K h0
 try simp only[Act.put,ag,ah,aj,aF,aB,aC]
 have rr:=S6.out.row (k:=e) 1 rfl;have c28:=rr.cell (j:=28) rfl;have f28:=rr.free 28;have q7:Scope S w0 w3 ([ae A rs s5]++([aA tv wv A.P e (aV E.st.bz e) (ptr r) E]++[bK B 0])):=S6.out;have q8:=Scope.au q7 28 (Ju (D9 s E));have Q9:=zd q8;clear rr q7 q8 S6;refine aY [10,11] ?_
 repeat (refine ay _ rfl (by kernel_rfl) (fun _ _ _ h=>h) (fun w'=>by(try simp only[ag,ah,aj]);go_simp;try with_reducible rfl) ?_;try simp only[Act.put,ag,ah,aj,aF,aB,aC])
 refine aH ?_;refine af 12 (by kernel_rfl) rfl (by rfl) fun K hK=>?_
 go_simp;refine hK _ _ ?_;clear hK K
 try simp only[Act.put,ag,ah,aj,aF,aB,aC]
 refine wpAny_done (by kernel_rfl) ?_ _;clear c28 f28;obtain⟨V10,hV10⟩:∃ V10,V10=w3.setCell ⟨e,28,none⟩ (Ju (D9 s E)):=⟨_,rfl⟩
 have q11:=Q9.out;rw[←hV10]at q11 ⊢
 have S12:Hid (Scope S w0 V10 [ae A rs s5,aA tv wv A.P e (aV E.st.bz e) (ptr r) { E with w:=D9 s E },bK B 0]):=zd q11;clear q11 hV10 Q9
 go_wp2_with fail
 have sd:=S12.out.drew;have re:=sd.row (k:=e) 1 rfl;have h0:At V10.drew e 28 (Ju (D9 s E))∧At V10.drew e 24 (Ju E.n):=⟨re.cell rfl,re.cell rfl⟩
 have Sd14:=zd sd;clear sd re S12;refine aP (by kernel_rfl) ?_;generalize V10.drew=V13 at Sd14 h0 ⊢
 refine aY [0,1,6] ?_
 repeat (refine ay _ rfl (by kernel_rfl) (fun _ _ _ h=>h) (fun w'=>by(try simp only[ag,ah,aj]);go_simp;try with_reducible rfl) ?_;try simp only[Act.put,ag,ah,aj,aF,aB,aC])
 refine aH ?_;refine cu (fun w'=>At w' e 28 (Ju (D9 s E))∧At w' e 24 (Ju E.n)) [2,3,4,7,8,9,10,5] [2,3,4,7,8,9,10] ?_
 repeat (refine aN _ rfl (by kernel_rfl) (fun _ _ _ h=>h) h0 (fun w' hS=>by(try dsimp only at hS);(try simp only[ag,ah,aj]);go_simp;try with_reducible rfl) ?_;try simp only[Act.put,ag,ah,aj,aF,aB,aC])
 refine bM ?_;refine aK 5 (by kernel_rfl) rfl (by rfl) fun K hK=>?_
 go_simp;refine((iw (x:=D9 s E) hu) _).mono ?_
 rintro er w15 ⟨rfl,hw⟩
 subst hw;refine hK _ _ ⟨fun _=>h0,?_⟩;clear hK K h0
 try simp only[Act.put,ag,ah,aj,aF,aB,aC]
 refine dB [] (bH (by kernel_rfl) ?_);have rr:=Sd14.out.row (k:=e) 1 rfl;have c29:=rr.cell (j:=29) rfl;have f29:=rr.free 29;have q16:Scope S w0 V13 ([ae A rs s5]++([aA tv wv A.P e (aV E.st.bz e) (ptr r) { E with w:=D9 s E }]++[bK B 0])):=Sd14.out;have q17:=Scope.au q16 29 (.bool (jY s E));have Q18:=zd q17;clear rr q16 q17 Sd14;refine aY [11,12,13] ?_
 repeat (refine ay _ rfl (by kernel_rfl) (fun _ _ _ h=>h) (fun w'=>by(try simp only[ag,ah,aj]);go_simp;try with_reducible rfl) ?_;try simp only[Act.put,ag,ah,aj,aF,aB,aC])
 refine aH ?_;refine af 14 (by kernel_rfl) rfl (by rfl) fun K hK=>?_
 go_simp;refine hK _ _ ?_;clear hK K
 try simp only[Act.put,ag,ah,aj,aF,aB,aC]
 refine wpAny_done (by kernel_rfl) ?_ _;clear c29 f29;obtain⟨V19,hV19⟩:∃ V19,V19=V13.setCell ⟨e,29,none⟩ (.bool (jY s E)):=⟨_,rfl⟩
 have q20:=Q18.out;rw[←hV19]at q20 ⊢
 have S21:Hid (Scope S w0 V19 [ae A rs s5,aA tv wv A.P e (aV E.st.bz e) (ptr r) { E with w:=D9 s E,more:=jY s E },bK B 0]):=zd q20;clear q20 hV19 Q18;obtain⟨bb,hbb⟩:∃ bb,jY s E=bb:=⟨_,rfl⟩
 have Hbb:=zd hbb;clear hbb;have rr:=S21.out.row (k:=e) 1 rfl;have c29:V19.cell? ⟨e,29,none⟩=some (.bool bb):=by rw[←Hbb.out];exact rr.cell rfl
 clear rr
 cases bb
 ·have hO:lN s E=⟨dN s E.who 1 (bQ (E.ri:Nat)),{ E with w:=D9 s E,more:=jY s E,st:=.rest },false⟩:=by unfold lN;rw[show cond (jY s E) MX.keep .rest=.rest by rw[Hbb.out];rfl]
  have HO:=zd hO;clear hO
  go_wp2_with fail
  refine((bW (P:=A.P) (nx:=(aV E.st.bz e)) (rv:=(ptr r)) (E:={ E with w:=D9 s E,more:=jY s E }) 294).fC S21.out).mono ?_
  rintro er w22 ⟨rfl,s23⟩
  have S24:Hid (Scope S w0 w22 [ae A rs s5,aA tv wv A.P e (aV 294 e) (ptr r) { E with w:=D9 s E,more:=jY s E,st:=.rest },bK B 0]):=zd s23;clear s23 S21;obtain⟨b0,b1,b2,b3,f0,f1,f2,f3,Q4⟩:=aI (c:=0) S24.out
  go_wp2
  refine aQ (d:=false) (by rw[HO.out]) Q4 (fun Vz z0 z1 z2 z3=>by simp[results,results292,go_sem,z0,z1,z2,z3]) rfl fun _ q5=>?_
  rw[HO.out];have hs5:=Hs5.out;subst hs5;rw[←Hrv.out]at q5
  exact q5
 ·have hO:lN s E=⟨dN s E.who 1 (bQ (E.ri:Nat)),{ E with w:=D9 s E,more:=jY s E,st:=.keep },false⟩:=by unfold lN;rw[show cond (jY s E) MX.keep .rest=.keep by rw[Hbb.out];rfl]
  have HO:=zd hO;clear hO
  go_wp2_with fail
  refine((bW (P:=A.P) (nx:=(aV E.st.bz e)) (rv:=(ptr r)) (E:={ E with w:=D9 s E,more:=jY s E }) 293).fC S21.out).mono ?_
  rintro er w25 ⟨rfl,s26⟩
  have S27:Hid (Scope S w0 w25 [ae A rs s5,aA tv wv A.P e (aV 293 e) (ptr r) { E with w:=D9 s E,more:=jY s E,st:=.keep },bK B 0]):=zd s26;clear s26 S21;obtain⟨b0,b1,b2,b3,f0,f1,f2,f3,Q4⟩:=aI (c:=0) S27.out
  go_wp2
  refine aQ (d:=false) (by rw[HO.out]) Q4 (fun Vz z0 z1 z2 z3=>by simp[results,results292,go_sem,z0,z1,z2,z3]) rfl fun _ q5=>?_
  rw[HO.out];have hs5:=Hs5.out;subst hs5;rw[←Hrv.out]at q5
  exact q5
theorem Nr (now:Int) (h0:0≤E.left) (h1:E.left<1000) (hl:s.σ.log.length≤1000000):Does prog [ae A rs s,aA tv wv A.P e (aV E.st.bz e) (rV rs E.r) E] 283 #[ptr e,J now] (bI 0 (nI s E).d) [ae A rs (nI s E).s,dA tv wv A.P rs e (nI s E).E]:=Does.ax fun S w0 w h=>by
 have hwr:IntKind.i64.wrap (E.left - 1)=E.left - 1:=by rw[IntKind.wrap_i64];omega
 clear h0 h1;obtain⟨B,W,HB,HW,Sa⟩:=bV h;clear h
 go_enter func283,ntmps283
 go_wp2_with fail
 rw[←HB.out, ←HW.out];have sd:=Sa.out.drew;have re:=sd.row (k:=e) 1 rfl;have h0:At W.drew e 0 (ptr A.P)∧At W.drew e 1 (J E.who):=⟨re.cell rfl,re.cell rfl⟩
 have Sd2:=zd sd;clear sd re Sa;refine aP (by kernel_rfl) ?_;generalize W.drew=V1 at Sd2 h0 ⊢
 refine aY [0,4] ?_
 repeat (refine ay _ rfl (by kernel_rfl) (fun _ _ _ h=>h) (fun w'=>by(try simp only[ag,ah,aj]);go_simp;try with_reducible rfl) ?_;try simp only[Act.put,ag,ah,aj,aF,aB,aC])
 refine aH ?_;refine bJ (fun w'=>At w' e 0 (ptr A.P)∧At w' e 1 (J E.who)) [1,2,3,5,6,7] ?_
 repeat (refine aN _ rfl (by kernel_rfl) (fun _ _ _ h=>h) h0 (fun w' hS=>by(try dsimp only at hS);(try simp only[ag,ah,aj]);go_simp;try with_reducible rfl) ?_;try simp only[Act.put,ag,ah,aj,aF,aB,aC])
 refine bH (by kernel_rfl) ?_;refine af 8 (by kernel_rfl) rfl (by rfl) fun K hK=>?_
 go_simp;refine((yt hl E.who).at0 Sd2.out).mono ?_
 rintro er w3 ⟨rfl,s4⟩
 refine hK _ _ ?_;obtain⟨s5,Hs5,s4⟩:=az (s':=tK s E) s4;have S6:Hid (Scope S w0 w3 [ae A rs s5,aA tv wv A.P e (aV E.st.bz e) (rV rs E.r) E,bK B 0]):=zd s4;clear s4 Sd2 hK K h0
 try simp only[Act.put,ag,ah,aj,aF,aB,aC]
 refine wpAny_done (by kernel_rfl) ?_ _;obtain⟨ba,hba⟩:∃ ba,(E.left - 1==0)=ba:=⟨_,rfl⟩
 obtain⟨bb,hbb⟩:∃ bb,(E.told.e==10)=bb:=⟨_,rfl⟩
 cases ba
 ·cases bb
  ·have hO:nI s E=⟨tK s E,{ E with left:=E.left - 1,st:=.turn },false⟩:=by unfold nI;rw[hba,hbb];rfl
   have HO:=zd hO;clear hO;have rr:=S6.out.row (k:=e) 1 rfl;have c12:=rr.cell (j:=12) rfl;have c13:=rr.cell (j:=13) rfl;have f12:=rr.free 12;have q7:Scope S w0 w3 ([ae A rs s5]++([aA tv wv A.P e (aV E.st.bz e) (rV rs E.r) E]++[bK B 0])):=S6.out;have q8:=Scope.au q7 12 (J (E.left - 1));have Q9:=zd q8;clear rr q7 q8 S6
   go_wp2_with fail
   clear c12 c13 f12;obtain⟨V10,hV10⟩:∃ V10,V10=w3.setCell ⟨e,12,none⟩ (J (E.left - 1)):=⟨_,rfl⟩
   have q11:=Q9.out;rw[←hV10]at q11 ⊢
   have S12:Hid (Scope S w0 V10 [ae A rs s5,aA tv wv A.P e (aV E.st.bz e) (rV rs E.r) { E with left:=E.left - 1 },bK B 0]):=zd q11;clear q11 hV10 Q9;refine((bW (P:=A.P) (nx:=(aV E.st.bz e)) (rv:=(rV rs E.r)) (E:={ E with left:=E.left - 1 }) 226).fC S12.out).mono ?_
   rintro er w13 ⟨rfl,s14⟩
   have S15:Hid (Scope S w0 w13 [ae A rs s5,aA tv wv A.P e (aV 226 e) (rV rs E.r) { E with left:=E.left - 1,st:=.turn },bK B 0]):=zd s14;clear s14 S12;obtain⟨b0,b1,b2,b3,f0,f1,f2,f3,Q4⟩:=aI (c:=0) S15.out
   go_wp2
   refine aQ (d:=false) (by rw[HO.out]) Q4 (fun Vz z0 z1 z2 z3=>by simp[results,results283,go_sem,z0,z1,z2,z3]) rfl fun _ q5=>?_
   rw[HO.out];have hs5:=Hs5.out;subst hs5
   exact q5
  ·have hO:nI s E=⟨tK s E,{ E with left:=E.left - 1,st:=.answer },false⟩:=by unfold nI;rw[hba,hbb];rfl
   have HO:=zd hO;clear hO;have rr:=S6.out.row (k:=e) 1 rfl;have c12:=rr.cell (j:=12) rfl;have c13:=rr.cell (j:=13) rfl;have f12:=rr.free 12;have q16:Scope S w0 w3 ([ae A rs s5]++([aA tv wv A.P e (aV E.st.bz e) (rV rs E.r) E]++[bK B 0])):=S6.out;have q17:=Scope.au q16 12 (J (E.left - 1));have Q18:=zd q17;clear rr q16 q17 S6
   go_wp2_with fail
   clear c12 c13 f12;obtain⟨V19,hV19⟩:∃ V19,V19=w3.setCell ⟨e,12,none⟩ (J (E.left - 1)):=⟨_,rfl⟩
   have q20:=Q18.out;rw[←hV19]at q20 ⊢
   have S21:Hid (Scope S w0 V19 [ae A rs s5,aA tv wv A.P e (aV E.st.bz e) (rV rs E.r) { E with left:=E.left - 1 },bK B 0]):=zd q20;clear q20 hV19 Q18;refine((bW (P:=A.P) (nx:=(aV E.st.bz e)) (rv:=(rV rs E.r)) (E:={ E with left:=E.left - 1 }) 225).fC S21.out).mono ?_
   rintro er w22 ⟨rfl,s23⟩
   have S24:Hid (Scope S w0 w22 [ae A rs s5,aA tv wv A.P e (aV 225 e) (rV rs E.r) { E with left:=E.left - 1,st:=.answer },bK B 0]):=zd s23;clear s23 S21;obtain⟨b0,b1,b2,b3,f0,f1,f2,f3,Q4⟩:=aI (c:=0) S24.out
   go_wp2
   refine aQ (d:=false) (by rw[HO.out]) Q4 (fun Vz z0 z1 z2 z3=>by simp[results,results283,go_sem,z0,z1,z2,z3]) rfl fun _ q5=>?_
   rw[HO.out];have hs5:=Hs5.out;subst hs5
   exact q5
 ·have hO:nI s E=⟨tK s E,{ E with left:=E.left - 1,st:=.answer },false⟩:=by unfold nI;rw[hba];rfl
  have HO:=zd hO;clear hO;have rr:=S6.out.row (k:=e) 1 rfl;have c12:=rr.cell (j:=12) rfl;have c13:=rr.cell (j:=13) rfl;have f12:=rr.free 12;have q25:Scope S w0 w3 ([ae A rs s5]++([aA tv wv A.P e (aV E.st.bz e) (rV rs E.r) E]++[bK B 0])):=S6.out;have q26:=Scope.au q25 12 (J (E.left - 1));have Q27:=zd q26;clear rr q25 q26 S6
  go_wp2_with fail
  clear c12 c13 f12;obtain⟨V28,hV28⟩:∃ V28,V28=w3.setCell ⟨e,12,none⟩ (J (E.left - 1)):=⟨_,rfl⟩
  have q29:=Q27.out;rw[←hV28]at q29 ⊢
  have S30:Hid (Scope S w0 V28 [ae A rs s5,aA tv wv A.P e (aV E.st.bz e) (rV rs E.r) { E with left:=E.left - 1 },bK B 0]):=zd q29;clear q29 hV28 Q27;refine((bW (P:=A.P) (nx:=(aV E.st.bz e)) (rv:=(rV rs E.r)) (E:={ E with left:=E.left - 1 }) 225).fC S30.out).mono ?_
  rintro er w31 ⟨rfl,s32⟩
  have S33:Hid (Scope S w0 w31 [ae A rs s5,aA tv wv A.P e (aV 225 e) (rV rs E.r) { E with left:=E.left - 1,st:=.answer },bK B 0]):=zd s32;clear s32 S30;obtain⟨b0,b1,b2,b3,f0,f1,f2,f3,Q4⟩:=aI (c:=0) S33.out
  go_wp2
  refine aQ (d:=false) (by rw[HO.out]) Q4 (fun Vz z0 z1 z2 z3=>by simp[results,results283,go_sem,z0,z1,z2,z3]) rfl fun _ q5=>?_
  rw[HO.out];have hs5:=Hs5.out;subst hs5
  exact q5
end
theorem UT (v:Value) (w:World):Sem.run prog (Instr.typeAssert (.iface 31 v) 20 31 true) w=.ok (.tuple #[v,.bool true]) w:=by kernel_rfl
theorem U4 (w:World):Sem.run prog (Instr.typeAssert .nilIface 20 31 true) w=.ok (.tuple #[J 0,.bool false]) w:=by kernel_rfl
theorem oJ (p:Addr) (x c:Int) (older:List PanicEntry) (w:World) (hc:w.cell? p=some (J x)) (hz:w.frozen? p=false):
  CallsD prog 242 #[.pointer (some p)] (.panicking ({ v:=.iface 31 (J c),recovered:=false }::older)) w fun e u' w'=>
   e=.returned (.tuple #[])∧u'=.panicking ({ v:=.iface 31 (J c),recovered:=true }::older)∧w'=w.setCell p (J c):=by
 refine callsD_of_wpS func242 rfl fun c₀ cs hu=>?_
 apply wpS_seq
 apply wpS_region
 simp[wpOpsS,UT,go_sem,recoverD,hu,ntmps242,Exit.thenS]
 apply wpS_seq
 apply wpS_region
 simp[wpOpsS,go_sem,Exit.thenS]
 refine wpS_cond (t:=true) (by simp[Act.eval,Array.replicate]) ?_;simp only[if_true]
 apply wpS_region
 simp[wpOpsS,go_sem,hc,hz,bodyPostS,results,results242]
theorem Eb (p:Addr) (w:World):
  CallsD prog 242 #[.pointer (some p)] .returning w fun e u' w'=>e=.returned (.tuple #[])∧u'=.returning∧w'=w:=by
 refine callsD_of_wpS func242 rfl fun c₀ cs hu=>?_
 apply wpS_seq
 apply wpS_region
 simp[wpOpsS,U4,go_sem,recoverD,hu,ntmps242,Exit.thenS]
 apply wpS_seq
 apply wpS_region
 simp[wpOpsS,go_sem,Exit.thenS]
 refine wpS_cond (t:=false) (by simp[Act.eval,Array.replicate]) ?_;simp only[Bool.false_eq_true,if_false];refine wpS_of_wp (wp_skip ?_)
 cases c₀
 simp_all [bodyPostS,results,results242]
def CZ (c:Cl):Int:=cond (c.op==4) 1 (cond (c.op==5) (cond (decide (c.a<1)||decide (16<c.a)) 0 c.a) 0)
def vH (c:Cl):Int:=cond (c.op==4) 0 (cond (c.op==5) (cond (decide (c.a<1)||decide (16<c.a)) 1 0) 2)
section
variable {P e:Nat} {nx rv tv wv:Value} {E:eQ}
theorem MH:Does prog [aA tv wv P e nx rv E] 223 #[ptr e] (.tuple #[J (CZ E.ask),J (vH E.ask)]) [aA tv wv P e nx rv E]:=Does.ax fun S w0 w h=>by
 have hmf:∀ (fn:Fn) (first cap:Array Value) (w:World),(Instr.makeFunc fn first cap).run prog w=.ok (.func fn first cap) w:=fun _ _ _ _=>rfl
 have c8:=(h.row (k:=e) 0 rfl).cell (j:=8) rfl;have c10:=(h.row (k:=e) 0 rfl).cell (j:=10) rfl;have lp:=(h.row (k:=e) 0 rfl).lt;have Sb:∀ c:Int,Hid (Scope S w0 (w.alloc (.cells #[J c] 31)) ([aA tv wv P e nx rv E]++[box w.heap.size [J c] 31])):=fun c=>zd (h.box [J c] 31)
 have S0:=Sb 0;obtain⟨op,hop⟩:∃ op,E.ask.op=op:=⟨_,rfl⟩
 obtain⟨a,ha⟩:∃ a,E.ask.a=a:=⟨_,rfl⟩
 rw[show CZ E.ask=cond (op==4) 1 (cond (op==5) (cond (decide (a<1)||decide (16<a)) 0 a) 0) by unfold CZ;rw[hop,ha],show vH E.ask=cond (op==4) 0 (cond (op==5) (cond (decide (a<1)||decide (16<a)) 1 0) 2) by unfold vH;rw[hop,ha]];rw[hop]at c8;rw[ha]at c10;clear h hop ha;obtain⟨b4,h4⟩:∃ b,(op==4)=b:=⟨_,rfl⟩
 obtain⟨b5,h5⟩:∃ b,(op==5)=b:=⟨_,rfl⟩
 obtain⟨b1,h1⟩:∃ b,decide (a<1)=b:=⟨_,rfl⟩
 obtain⟨b16,h16⟩:∃ b,decide (16<a)=b:=⟨_,rfl⟩
 rw[h4,h5,h1,h16]
 cases b4
 ·cases b5
  ·go_enter_defers func223,ntmps223
   go_wp2
   refine⟨rfl,?_⟩;refine leaves_cons (f:=242) (args:=#[.pointer (some ⟨w.heap.size,0,none⟩)]) (by simp) (by simp[go_sem]) ?_;refine(oJ ⟨w.heap.size,0,none⟩ 0 2 [] _ (by simp[go_sem]) (by simp[go_sem])).mono ?_
   rintro e1 u' w'' ⟨rfl,rfl,rfl⟩
   have Sx:=Sb 2
   simp[Leaves,settle,results,results223,go_sem]
   exact Ends.mk [box w.heap.size [J 2] 31] Sx.out
  ·cases b1
   ·cases b16
    ·go_enter_defers func223,ntmps223
     go_wp2
     refine leaves_cons (f:=242) (args:=#[.pointer (some ⟨w.heap.size,0,none⟩)]) (by simp) (by simp[go_sem]) ?_;refine(Eb ⟨w.heap.size,0,none⟩ _).mono ?_
     rintro e1 u' w'' ⟨rfl,rfl,rfl⟩
     simp[Leaves,settle,results,results223,go_sem]
     exact Ends.mk [box w.heap.size [J 0] 31] S0.out
    ·go_enter_defers func223,ntmps223
     go_wp2
     refine⟨rfl,?_⟩;refine leaves_cons (f:=242) (args:=#[.pointer (some ⟨w.heap.size,0,none⟩)]) (by simp) (by simp[go_sem]) ?_;refine(oJ ⟨w.heap.size,0,none⟩ 0 1 [] _ (by simp[go_sem]) (by simp[go_sem])).mono ?_
     rintro e1 u' w'' ⟨rfl,rfl,rfl⟩
     have Sx:=Sb 1
     simp[Leaves,settle,results,results223,go_sem]
     exact Ends.mk [box w.heap.size [J 1] 31] Sx.out
   ·go_enter_defers func223,ntmps223
    go_wp2
    refine⟨rfl,?_⟩;refine leaves_cons (f:=242) (args:=#[.pointer (some ⟨w.heap.size,0,none⟩)]) (by simp) (by simp[go_sem]) ?_;refine(oJ ⟨w.heap.size,0,none⟩ 0 1 [] _ (by simp[go_sem]) (by simp[go_sem])).mono ?_
    rintro e1 u' w'' ⟨rfl,rfl,rfl⟩
    have Sx:=Sb 1
    simp[Leaves,settle,results,results223,go_sem]
    exact Ends.mk [box w.heap.size [J 1] 31] Sx.out
 ·go_enter_defers func223,ntmps223
  go_wp2
  refine leaves_cons (f:=242) (args:=#[.pointer (some ⟨w.heap.size,0,none⟩)]) (by simp) (by simp[go_sem]) ?_;refine(Eb ⟨w.heap.size,0,none⟩ _).mono ?_
  rintro e1 u' w'' ⟨rfl,rfl,rfl⟩
  simp[Leaves,settle,results,results223,go_sem]
  exact Ends.mk [box w.heap.size [J 0] 31] S0.out
end
def mr (s:PS) (E:eQ):Cl:=lastOf Cl.zero s.kc E.j
def wJ (s:PS) (E:eQ):PS:=dN s E.who 5 (qo E.j)
def AA (s:PS) (E:eQ):eQ:={ E with ask:=mr s E,told:=⟨0,[],0,0⟩ }
def lC (s:PS) (E:eQ) (now:Int):DO:=cond ((mr s E).op==6) ⟨wJ s E,{ AA s E with st:=.look },false⟩ (cond (vH (mr s E)==0) ⟨wJ s E,{ AA s E with left:=CZ (mr s E),st:=.turn },false⟩ ⟨(wJ s E).note now E.j (bD (vH (mr s E))),{ AA s E with told:=bD (vH (mr s E)),st:=.answer },false⟩)
def Bh (s:PS):Rt:=⟨0,[],s.k.served,s.k.v⟩
def pK (s:PS) (E:eQ) (now:Int):DO:=⟨(dN s E.who 5 nD).note now E.j (Bh s),{ E with told:=Bh s,st:=.answer },false⟩
section
variable {A:PA} {rs:List Nat} {s:PS} {e:Nat} {E:eQ} {tv wv nx rv:Value} {S:List Nat} {w0 w:World} {Bs:List HA}
theorem oz (now:Int) (r:Rt) (oa:Option Addr) (c:Nat) (hj:I64 E.j) (hn:s.pt.length<100000) (h:Scope S w0 w (ae A rs s::aA tv wv A.P e nx rv E::Bs)) (hsafe:∀ w',Scope S w0 w' (aA tv wv A.P e nx rv E::Bs)→vk w' (.slice oa r.pk.length c) r.pk) (hf:lJ r.pk):
  Calls prog 224 #[ptr e,J now,r.val (.slice oa r.pk.length c)] w fun e' w'=>e'=.returned (.tuple #[])∧Scope S w0 w' (ae A rs (s.note now E.j r)::aA tv wv A.P e nx rv E::Bs):=by
 obtain⟨B,hB⟩:∃ B,B=w.heap.size:=⟨_,rfl⟩
 have s1:=h.box [J r.e,.slice oa r.pk.length c,J r.n,Ju r.v] 60;rw[←hB]at s1;obtain⟨W,hW⟩:∃ W,W=w.alloc (.cells #[J r.e,.slice oa r.pk.length c,J r.n,Ju r.v] 60):=⟨_,rfl⟩
 rw[show w.alloc (.cells [J r.e,.slice oa r.pk.length c,J r.n,Ju r.v].toArray 60)=W from hW.symm]at s1;have sd:Scope S w0 W.drew (ae A rs s::((aA tv wv A.P e nx rv E::Bs)++[box B [J r.e,.slice oa r.pk.length c,J r.n,Ju r.v] 60])):=s1.drew;have re:=sd.row (k:=e) 1 rfl;have rb:=sd.row (k:=B) (vs:=[J r.e,.slice oa r.pk.length c,J r.n,Ju r.v]) (t:=60) (Bs.length+2) (by simp);have h0:At W.drew e 0 (ptr A.P)∧At W.drew e 7 (J E.j)∧At W.drew B 0 (J r.e)∧At W.drew B 1 (.slice oa r.pk.length c)∧At W.drew B 2 (J r.n)∧At W.drew B 3 (Ju r.v):=⟨re.cell rfl,re.cell rfl,rb.cell rfl,rb.cell rfl,rb.cell rfl,rb.cell rfl⟩
 have Sd:=zd sd;have HB:=zd hB;have HW:=zd hW;obtain⟨n,hnn⟩:∃ n,n=r.pk.length:=⟨_,rfl⟩
 have Hnn:=zd hnn;have hv:r.val (.slice oa r.pk.length c)=.agg #[J r.e,.slice oa n c,J r.n,Ju r.v]:=by rw[hnn]
 rw[hv];rw[←hnn]at h0;clear h s1 sd re rb hB hW hnn hv
 go_enter func224,ntmps224
 go_wp2_with fail
 rw[←HB.out,show w.alloc (.cells #[J r.e,.slice oa n c,J r.n,Ju r.v] 60)=W by rw[HW.out,Hnn.out]];refine aP (by kernel_rfl) ?_;generalize W.drew=V at Sd h0 ⊢
 refine aY [0,4,5] ?_
 repeat (refine ay _ rfl (by kernel_rfl) (fun _ _ _ h=>h) (fun w'=>by(try simp only[ag,ah,aj]);go_simp;try with_reducible rfl) ?_;try simp only[Act.put,ag,ah,aj,aF,aB,aC])
 refine aH ?_;refine bJ (fun w'=>At w' e 0 (ptr A.P)∧At w' e 7 (J E.j)∧At w' B 0 (J r.e)∧At w' B 1 (.slice oa n c)∧At w' B 2 (J r.n)∧At w' B 3 (Ju r.v)) [1,2,3,6,7,8,9] ?_
 repeat (refine aN _ rfl (by kernel_rfl) (fun _ _ _ h=>h) h0 (fun w' hS=>by(try dsimp only at hS);(try simp only[ag,ah,aj]);go_simp;try with_reducible rfl) ?_;try simp only[Act.put,ag,ah,aj,aF,aB,aC])
 refine bH (by kernel_rfl) ?_;refine af 10 (by kernel_rfl) rfl (by rfl) fun K hK=>?_
 go_simp;rw[show(Value.agg #[J r.e,.slice oa n c,J r.n,Ju r.v])=r.val (.slice oa r.pk.length c) by rw[Hnn.out]];refine(qR now E.j r (.slice oa r.pk.length c) hj hn Sd.out (fun w' hX=>hsafe w' hX.drop) hf).mono ?_
 rintro er w1 ⟨rfl,s1⟩
 refine hK _ _ ?_;have S1:=zd (Scope.drop (As:=ae A rs (s.note now E.j r)::aA tv wv A.P e nx rv E::Bs) s1);clear hK K h0 s1 Sd
 try simp only[Act.put,ag,ah,aj,aF,aB,aC]
 refine wpAny_done (by kernel_rfl) ?_ _
 go_wp2
 go_end0
 exact⟨rfl,S1.out⟩
end
section
variable {A:PA} {rs:List Nat} {s:PS} {e:Nat} {E:eQ} {r:Nat} {x:mO} {tv wv:Value}
end
end Go.Proofs.YtjnbbmgbmiggbaaGreatDoor
