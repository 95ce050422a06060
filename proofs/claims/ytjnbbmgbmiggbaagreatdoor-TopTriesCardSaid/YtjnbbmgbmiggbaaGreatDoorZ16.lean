/- Lemmas for TopTries' card: package deq, third part. -/
import Derived.Test.YtjnbbmgbmiggbaaGreatDoorZ15
set_option linter.unusedSimpArgs false
set_option linter.unusedVariables false
set_option maxRecDepth 20000
set_option maxHeartbeats 4000000
namespace Go.Proofs.YtjnbbmgbmiggbaaGreatDoor
open Go Go.RowKit Go.Maps Go.Proofs.Tryz
section
variable {A:PA} {rs:List Nat} {s:PS} {e:Nat} {E:eQ} {r:Nat} {x:mO} {tv wv:Value}
theorem L9 (now:Int) (hj:I64 E.j) (hn:s.pt.length<100000) (hl:s.σ.log.length≤1000000):Does prog [ae A rs s,aA tv wv A.P e (aV E.st.bz e) (rV rs E.r) E] 204 #[ptr e,J now] (bI 0 (lC s E now).d) [ae A rs (lC s E now).s,dA (nS) wv A.P rs e (lC s E now).E]:=Does.ax fun S w0 w h=>by
 obtain⟨c,hc⟩:∃ c,mr s E=c:=⟨_,rfl⟩
 have hc2:lastOf Cl.zero s.kc E.j=c:=hc;have Hc:=zd hc;have Hc2:=zd hc2;clear hc hc2;obtain⟨B,W,HB,HW,Sa⟩:=bV h;clear h
 go_enter func204,ntmps204
 go_wp2_with fail
 rw[←HB.out, ←HW.out];have sd:=Sa.out.drew;have re:=sd.row (k:=e) 1 rfl;have pc:=sd.bT 0 rfl;have h0:At W.drew e 0 (ptr A.P)∧At W.drew A.P 3 (ptr A.po)∧At W.drew e 1 (J E.who)∧At W.drew e 7 (J E.j):=⟨re.cell rfl,pc.po,re.cell rfl,re.cell rfl⟩
 have Sd2:=zd sd;clear sd re pc Sa;refine aP (by kernel_rfl) ?_;generalize W.drew=V1 at Sd2 h0 ⊢
 refine aY [0,1,8,12] ?_
 repeat (refine ay _ rfl (by kernel_rfl) (fun _ _ _ h=>h) (fun w'=>by(try simp only[ag,ah,aj]);go_simp;try with_reducible rfl) ?_;try simp only[Act.put,ag,ah,aj,aF,aB,aC])
 refine aH ?_;refine bJ (fun w'=>At w' e 0 (ptr A.P)∧At w' A.P 3 (ptr A.po)∧At w' e 1 (J E.who)∧At w' e 7 (J E.j)) [2,3,4,5,6,7,9,10,11,13,14,15] ?_
 repeat (refine aN _ rfl (by kernel_rfl) (fun _ _ _ h=>h) h0 (fun w' hS=>by(try dsimp only at hS);(try simp only[ag,ah,aj]);go_simp;try with_reducible rfl) ?_;try simp only[Act.put,ag,ah,aj,aF,aB,aC])
 refine bH (by kernel_rfl) ?_;refine af 16 (by kernel_rfl) rfl (by rfl) fun K hK=>?_
 go_simp;refine((by rw[←Hc2.out];exact IA E.who E.j hj hl:Does prog [ae A rs s] 221 #[ptr A.po,J E.who,J E.j] c.val [ae A rs (wJ s E)]).at0 Sd2.out).mono ?_
 rintro er w3 ⟨rfl,s4⟩
 refine hK _ _ ?_;obtain⟨s5,Hs5,s4⟩:=az (s':=wJ s E) s4;have S6:Hid (Scope S w0 w3 [ae A rs s5,aA tv wv A.P e (aV E.st.bz e) (rV rs E.r) E,bK B 0]):=zd s4;clear s4 Sd2 hK K h0
 try simp only[Act.put,ag,ah,aj,aF,aB,aC]
 have rr:=S6.out.row (k:=e) 1 rfl;have c8:=rr.cell (j:=8) rfl;have c9:=rr.cell (j:=9) rfl;have c10:=rr.cell (j:=10) rfl;have c11:=rr.cell (j:=11) rfl;have f8:=rr.free 8;have f9:=rr.free 9;have f10:=rr.free 10;have f11:=rr.free 11;have q7:Scope S w0 w3 ([ae A rs s5]++([aA tv wv A.P e (aV E.st.bz e) (rV rs E.r) E]++[bK B 0])):=S6.out;have q8:=Scope.au q7 8 (J c.op);have q9:=Scope.au q8 9 (J c.flow);have q10:=Scope.au q9 10 (J c.a);have q11:=Scope.au q10 11 (J c.b);have Q12:=zd q11;clear rr q7 q8 q9 q10 q11 S6;refine aY [17,18] ?_
 repeat (refine ay _ rfl (by kernel_rfl) (fun _ _ _ h=>h) (fun w'=>by(try simp only[ag,ah,aj]);go_simp;try with_reducible rfl) ?_;try simp only[Act.put,ag,ah,aj,aF,aB,aC])
 refine aH ?_;refine af 19 (by kernel_rfl) rfl (by rfl) fun K hK=>?_
 go_simp;refine hK _ _ ?_;clear hK K
 try simp only[Act.put,ag,ah,aj,aF,aB,aC]
 refine wpAny_done (by kernel_rfl) ?_ _;clear c8 c9 c10 c11 f8 f9 f10 f11;obtain⟨V13,hV13⟩:∃ V13,V13=(((w3.setCell ⟨e,8,none⟩ (J c.op)).setCell ⟨e,9,none⟩ (J c.flow)).setCell ⟨e,10,none⟩ (J c.a)).setCell ⟨e,11,none⟩ (J c.b):=⟨_,rfl⟩
 have q14:=Q12.out;rw[←hV13]at q14 ⊢
 have S15:Hid (Scope S w0 V13 [ae A rs s5,aA tv wv A.P e (aV E.st.bz e) (rV rs E.r) { E with ask.op:=c.op,ask.flow:=c.flow,ask.a:=c.a,ask.b:=c.b },bK B 0]):=zd q14;clear q14 hV13 Q12;obtain⟨ba,hba⟩:∃ ba,(c.op==6)=ba:=⟨_,rfl⟩
 cases ba
 ·have rr:=S15.out.row (k:=e) 1 rfl
  have c8:=rr.cell (j:=8) rfl;have c13:=rr.cell (j:=13) rfl;have c14:=rr.cell (j:=14) rfl;have c15:=rr.cell (j:=15) rfl;have c16:=rr.cell (j:=16) rfl;have f13:=rr.free 13;have f14:=rr.free 14;have f15:=rr.free 15;have f16:=rr.free 16;have q16:Scope S w0 V13 ([ae A rs s5]++([aA tv wv A.P e (aV E.st.bz e) (rV rs E.r) { E with ask.op:=c.op,ask.flow:=c.flow,ask.a:=c.a,ask.b:=c.b }]++[bK B 0])):=S15.out;have q17:=Scope.au q16 13 (J 0);have q18:=Scope.au q17 14 (nS);have q19:=Scope.au q18 15 (J 0);have q20:=Scope.au q19 16 (Ju 0);have Q21:=zd q20;clear rr q16 q17 q18 q19 q20 S15
  go_wp2_with fail
  clear c8 c13 c14 c15 c16 f13 f14 f15 f16;obtain⟨V22,hV22⟩:∃ V22,V22=(((V13.setCell ⟨e,13,none⟩ (J 0)).setCell ⟨e,14,none⟩ (nS)).setCell ⟨e,15,none⟩ (J 0)).setCell ⟨e,16,none⟩ (Ju 0):=⟨_,rfl⟩
  have q23:=Q21.out;rw[←hV22]at q23 ⊢
  have S24:Hid (Scope S w0 V22 [ae A rs s5,aA (nS) wv A.P e (aV E.st.bz e) (rV rs E.r) { E with ask.op:=c.op,ask.flow:=c.flow,ask.a:=c.a,ask.b:=c.b,told.e:=0,told.n:=0,told.v:=0 },bK B 0]):=zd q23;clear q23 hV22 Q21;refine((MH.fC S24.out)).mono ?_
  rintro er w25 ⟨rfl,s26⟩
  have S27:Hid (Scope S w0 w25 [ae A rs s5,aA (nS) wv A.P e (aV E.st.bz e) (rV rs E.r) { E with ask.op:=c.op,ask.flow:=c.flow,ask.a:=c.a,ask.b:=c.b,told.e:=0,told.n:=0,told.v:=0 },bK B 0]):=zd s26;clear s26 S24;obtain⟨mn,hmn⟩:∃ mn,CZ c=mn:=⟨_,rfl⟩
  rw[hmn];have Hmn:=zd hmn;clear hmn;obtain⟨mc,hmc⟩:∃ mc,vH c=mc:=⟨_,rfl⟩
  rw[hmc];have Hmc:=zd hmc;clear hmc;obtain⟨bb,hbb⟩:∃ bb,(mc==0)=bb:=⟨_,rfl⟩
  cases bb
  ·have hO:lC s E now=⟨(wJ s E).note now E.j (bD mc),{ E with ask:=c,told:=bD mc,st:=.answer },false⟩:=by unfold lC AA;rw[Hc.out,hba,Hmc.out,hbb];rfl
   have HO:=zd hO;clear hO;have rr:=S27.out.row (k:=e) 1 rfl;have c13:=rr.cell (j:=13) rfl;have c14:=rr.cell (j:=14) rfl;have c15:=rr.cell (j:=15) rfl;have c16:=rr.cell (j:=16) rfl;have f13:=rr.free 13;have q28:Scope S w0 w25 ([ae A rs s5]++([aA (nS) wv A.P e (aV E.st.bz e) (rV rs E.r) { E with ask.op:=c.op,ask.flow:=c.flow,ask.a:=c.a,ask.b:=c.b,told.e:=0,told.n:=0,told.v:=0 }]++[bK B 0])):=S27.out;have q29:=Scope.au q28 13 (J mc);have Q30:=zd q29;clear rr q28 q29 S27
   go_wp2_with fail
   clear c13 c14 c15 c16 f13;obtain⟨V31,hV31⟩:∃ V31,V31=w25.setCell ⟨e,13,none⟩ (J mc):=⟨_,rfl⟩
   have q32:=Q30.out;rw[←hV31]at q32 ⊢
   have S33:Hid (Scope S w0 V31 [ae A rs s5,aA (nS) wv A.P e (aV E.st.bz e) (rV rs E.r) { E with ask.op:=c.op,ask.flow:=c.flow,ask.a:=c.a,ask.b:=c.b,told.e:=mc,told.n:=0,told.v:=0 },bK B 0]):=zd q32;clear q32 hV31 Q30;refine(oz (s:=s5) (E:={ E with ask.op:=c.op,ask.flow:=c.flow,ask.a:=c.a,ask.b:=c.b,told.e:=mc,told.n:=0,told.v:=0 }) now (bD mc) none 0 hj (by rw[Hs5.out];exact hn) S33.out (fun _ _=>.inl ⟨rfl,rfl⟩) (by unfold lJ;simp)).mono ?_
   rintro er w34 ⟨rfl,s35⟩
   obtain⟨s36,Hs36,s35⟩:=az (s':=(s5).note now E.j (bD mc)) s35;have S37:Hid (Scope S w0 w34 [ae A rs s36,aA (nS) wv A.P e (aV E.st.bz e) (rV rs E.r) { E with ask.op:=c.op,ask.flow:=c.flow,ask.a:=c.a,ask.b:=c.b,told.e:=mc,told.n:=0,told.v:=0 },bK B 0]):=zd s35;clear s35 S33
   go_wp2_with fail
   refine((bW (P:=A.P) (nx:=(aV E.st.bz e)) (rv:=(rV rs E.r)) (E:={ E with ask.op:=c.op,ask.flow:=c.flow,ask.a:=c.a,ask.b:=c.b,told.e:=mc,told.n:=0,told.v:=0 }) 225).fC S37.out).mono ?_
   rintro er w38 ⟨rfl,s39⟩
   have S40:Hid (Scope S w0 w38 [ae A rs s36,aA (nS) wv A.P e (aV 225 e) (rV rs E.r) { E with ask.op:=c.op,ask.flow:=c.flow,ask.a:=c.a,ask.b:=c.b,told.e:=mc,told.n:=0,told.v:=0,st:=.answer },bK B 0]):=zd s39;clear s39 S37;obtain⟨b0,b1,b2,b3,f0,f1,f2,f3,Q4⟩:=aI (c:=0) S40.out
   go_wp2
   refine aQ (d:=false) (by rw[HO.out]) Q4 (fun Vz z0 z1 z2 z3=>by simp[results,results204,go_sem,z0,z1,z2,z3]) rfl fun _ q5=>?_
   rw[HO.out];have hs36:=Hs36.out;subst hs36;have hs5:=Hs5.out;subst hs5
   exact q5
  ·have hO:lC s E now=⟨wJ s E,{ E with ask:=c,told:=⟨0,[],0,0⟩,left:=mn,st:=.turn },false⟩:=by unfold lC AA;rw[Hc.out,hba,Hmc.out,hbb,Hmn.out];rfl
   have HO:=zd hO;clear hO;have rr:=S27.out.row (k:=e) 1 rfl;have c12:=rr.cell (j:=12) rfl;have f12:=rr.free 12;have q41:Scope S w0 w25 ([ae A rs s5]++([aA (nS) wv A.P e (aV E.st.bz e) (rV rs E.r) { E with ask.op:=c.op,ask.flow:=c.flow,ask.a:=c.a,ask.b:=c.b,told.e:=0,told.n:=0,told.v:=0 }]++[bK B 0])):=S27.out;have q42:=Scope.au q41 12 (J mn);have Q43:=zd q42;clear rr q41 q42 S27
   go_wp2_with fail
   clear c12 f12;obtain⟨V44,hV44⟩:∃ V44,V44=w25.setCell ⟨e,12,none⟩ (J mn):=⟨_,rfl⟩
   have q45:=Q43.out;rw[←hV44]at q45 ⊢
   have S46:Hid (Scope S w0 V44 [ae A rs s5,aA (nS) wv A.P e (aV E.st.bz e) (rV rs E.r) { E with ask.op:=c.op,ask.flow:=c.flow,ask.a:=c.a,ask.b:=c.b,told.e:=0,told.n:=0,told.v:=0,left:=mn },bK B 0]):=zd q45;clear q45 hV44 Q43;refine((bW (P:=A.P) (nx:=(aV E.st.bz e)) (rv:=(rV rs E.r)) (E:={ E with ask.op:=c.op,ask.flow:=c.flow,ask.a:=c.a,ask.b:=c.b,told.e:=0,told.n:=0,told.v:=0,left:=mn }) 226).fC S46.out).mono ?_
   rintro er w47 ⟨rfl,s48⟩
   have S49:Hid (Scope S w0 w47 [ae A rs s5,aA (nS) wv A.P e (aV 226 e) (rV rs E.r) { E with ask.op:=c.op,ask.flow:=c.flow,ask.a:=c.a,ask.b:=c.b,told.e:=0,told.n:=0,told.v:=0,left:=mn,st:=.turn },bK B 0]):=zd s48;clear s48 S46;obtain⟨b0,b1,b2,b3,f0,f1,f2,f3,Q4⟩:=aI (c:=0) S49.out
   go_wp2
   refine aQ (d:=false) (by rw[HO.out]) Q4 (fun Vz z0 z1 z2 z3=>by simp[results,results204,go_sem,z0,z1,z2,z3]) rfl fun _ q5=>?_
   rw[HO.out];have hs5:=Hs5.out;subst hs5
   exact q5
 ·have hO:lC s E now=⟨wJ s E,{ E with ask:=c,told:=⟨0,[],0,0⟩,st:=.look },false⟩:=by unfold lC AA;rw[Hc.out,hba];rfl
  have HO:=zd hO;clear hO;have rr:=S15.out.row (k:=e) 1 rfl;have c8:=rr.cell (j:=8) rfl;have c13:=rr.cell (j:=13) rfl;have c14:=rr.cell (j:=14) rfl;have c15:=rr.cell (j:=15) rfl;have c16:=rr.cell (j:=16) rfl;have f13:=rr.free 13;have f14:=rr.free 14;have f15:=rr.free 15;have f16:=rr.free 16;have q50:Scope S w0 V13 ([ae A rs s5]++([aA tv wv A.P e (aV E.st.bz e) (rV rs E.r) { E with ask.op:=c.op,ask.flow:=c.flow,ask.a:=c.a,ask.b:=c.b }]++[bK B 0])):=S15.out;have q51:=Scope.au q50 13 (J 0);have q52:=Scope.au q51 14 (nS);have q53:=Scope.au q52 15 (J 0);have q54:=Scope.au q53 16 (Ju 0);have Q55:=zd q54;clear rr q50 q51 q52 q53 q54 S15
  go_wp2_with fail
  clear c8 c13 c14 c15 c16 f13 f14 f15 f16;obtain⟨V56,hV56⟩:∃ V56,V56=(((V13.setCell ⟨e,13,none⟩ (J 0)).setCell ⟨e,14,none⟩ (nS)).setCell ⟨e,15,none⟩ (J 0)).setCell ⟨e,16,none⟩ (Ju 0):=⟨_,rfl⟩
  have q57:=Q55.out;rw[←hV56]at q57 ⊢
  have S58:Hid (Scope S w0 V56 [ae A rs s5,aA (nS) wv A.P e (aV E.st.bz e) (rV rs E.r) { E with ask.op:=c.op,ask.flow:=c.flow,ask.a:=c.a,ask.b:=c.b,told.e:=0,told.n:=0,told.v:=0 },bK B 0]):=zd q57;clear q57 hV56 Q55;refine((bW (P:=A.P) (nx:=(aV E.st.bz e)) (rv:=(rV rs E.r)) (E:={ E with ask.op:=c.op,ask.flow:=c.flow,ask.a:=c.a,ask.b:=c.b,told.e:=0,told.n:=0,told.v:=0 }) 222).fC S58.out).mono ?_
  rintro er w59 ⟨rfl,s60⟩
  have S61:Hid (Scope S w0 w59 [ae A rs s5,aA (nS) wv A.P e (aV 222 e) (rV rs E.r) { E with ask.op:=c.op,ask.flow:=c.flow,ask.a:=c.a,ask.b:=c.b,told.e:=0,told.n:=0,told.v:=0,st:=.look },bK B 0]):=zd s60;clear s60 S58;obtain⟨b0,b1,b2,b3,f0,f1,f2,f3,Q4⟩:=aI (c:=0) S61.out
  go_wp2
  refine aQ (d:=false) (by rw[HO.out]) Q4 (fun Vz z0 z1 z2 z3=>by simp[results,results204,go_sem,z0,z1,z2,z3]) rfl fun _ q5=>?_
  rw[HO.out];have hs5:=Hs5.out;subst hs5
  exact q5
theorem I7 (now:Int) (hj:I64 E.j) (hn:s.pt.length<100000) (hl:s.σ.log.length≤1000000):Does prog [ae A rs s,aA tv wv A.P e (aV E.st.bz e) (rV rs E.r) E] 222 #[ptr e,J now] (bI 0 (pK s E now).d) [ae A rs (pK s E now).s,dA (nS) wv A.P rs e (pK s E now).E]:=Does.ax fun S w0 w h=>by
 obtain⟨B,W,HB,HW,Sa⟩:=bV h;clear h
 go_enter func222,ntmps222
 go_wp2_with fail
 rw[←HB.out, ←HW.out];have sd:=Sa.out.drew;have re:=sd.row (k:=e) 1 rfl;have h0:At W.drew e 0 (ptr A.P)∧At W.drew e 1 (J E.who):=⟨re.cell rfl,re.cell rfl⟩
 have Sd2:=zd sd;clear sd re Sa;refine aP (by kernel_rfl) ?_;generalize W.drew=V1 at Sd2 h0 ⊢
 refine aY [0,4] ?_
 repeat (refine ay _ rfl (by kernel_rfl) (fun _ _ _ h=>h) (fun w'=>by(try simp only[ag,ah,aj]);go_simp;try with_reducible rfl) ?_;try simp only[Act.put,ag,ah,aj,aF,aB,aC])
 refine aH ?_;refine bJ (fun w'=>At w' e 0 (ptr A.P)∧At w' e 1 (J E.who)) [1,2,3,5,6,7] ?_
 repeat (refine aN _ rfl (by kernel_rfl) (fun _ _ _ h=>h) h0 (fun w' hS=>by(try dsimp only at hS);(try simp only[ag,ah,aj]);go_simp;try with_reducible rfl) ?_;try simp only[Act.put,ag,ah,aj,aF,aB,aC])
 refine bH (by kernel_rfl) ?_;refine af 8 (by kernel_rfl) rfl (by rfl) fun K hK=>?_
 go_simp;refine((IY hl E.who).at0 Sd2.out).mono ?_
 rintro er w3 ⟨rfl,s4⟩
 refine hK _ _ ?_;obtain⟨s5,Hs5,s4⟩:=az (s':=dN s E.who 5 nD) s4;have S6:Hid (Scope S w0 w3 [ae A rs s5,aA tv wv A.P e (aV E.st.bz e) (rV rs E.r) E,bK B 0]):=zd s4;clear s4 Sd2 hK K h0
 try simp only[Act.put,ag,ah,aj,aF,aB,aC]
 refine wpAny_done (by kernel_rfl) ?_ _
 go_wp2_with fail
 have sd:=S6.out.drew;have re:=sd.row (k:=e) 1 rfl;have pc:=sd.bT 0 rfl;have h0:At w3.drew e 0 (ptr A.P)∧At w3.drew A.P 4 (ptr A.co):=⟨re.cell rfl,pc.co⟩
 have Sd8:=zd sd;clear sd re pc S6;refine aP (by kernel_rfl) ?_;generalize w3.drew=V7 at Sd8 h0 ⊢
 refine aY [0,1,9] ?_
 repeat (refine ay _ rfl (by kernel_rfl) (fun _ _ _ h=>h) (fun w'=>by(try simp only[ag,ah,aj]);go_simp;try with_reducible rfl) ?_;try simp only[Act.put,ag,ah,aj,aF,aB,aC])
 refine aH ?_;refine cu (fun w'=>At w' e 0 (ptr A.P)∧At w' A.P 4 (ptr A.co)) [2,3,4,5,6,7,10,11,12,13,14,15,8] [2,3,4,5,6,7,10,11,12,13,14,15] ?_
 repeat (refine aN _ rfl (by kernel_rfl) (fun _ _ _ h=>h) h0 (fun w' hS=>by(try dsimp only at hS);(try simp only[ag,ah,aj]);go_simp;try with_reducible rfl) ?_;try simp only[Act.put,ag,ah,aj,aF,aB,aC])
 refine bM ?_;refine aK 8 (by kernel_rfl) rfl (by rfl) fun K hK=>?_
 go_simp;refine((zJ (s:=s5)).at0 Sd8.out).mono ?_
 rintro er w9 ⟨rfl,s10⟩
 have re:=s10.row (k:=e) 1 rfl;have pc:=s10.bT 0 rfl;have h1:At w9 e 0 (ptr A.P)∧At w9 A.P 4 (ptr A.co):=⟨re.cell rfl,pc.co⟩
 refine hK _ _ ⟨fun _=>h1,?_⟩;clear re pc;have S11:Hid (Scope S w0 w9 [ae A rs s5,aA tv wv A.P e (aV E.st.bz e) (rV rs E.r) E,bK B 0]):=zd s10;clear s10 Sd8 hK K h0
 try simp only[Act.put,ag,ah,aj,aF,aB,aC]
 refine dB [] (bH (by kernel_rfl) ?_);clear h1;refine af 16 (by kernel_rfl) rfl (by rfl) fun K hK=>?_
 go_simp;refine((O5 (s:=s5)).at0 S11.out).mono ?_
 rintro er w12 ⟨rfl,s13⟩
 refine hK _ _ ?_;have S14:Hid (Scope S w0 w12 [ae A rs s5,aA tv wv A.P e (aV E.st.bz e) (rV rs E.r) E,bK B 0]):=zd s13;clear s13 S11 hK K
 try simp only[Act.put,ag,ah,aj,aF,aB,aC]
 have rr:=S14.out.row (k:=e) 1 rfl;have c13:=rr.cell (j:=13) rfl;have c14:=rr.cell (j:=14) rfl;have c15:=rr.cell (j:=15) rfl;have c16:=rr.cell (j:=16) rfl;have f13:=rr.free 13;have f14:=rr.free 14;have f15:=rr.free 15;have f16:=rr.free 16;have q15:Scope S w0 w12 ([ae A rs s5]++([aA tv wv A.P e (aV E.st.bz e) (rV rs E.r) E]++[bK B 0])):=S14.out;have q16:=Scope.au q15 13 (J 0);have q17:=Scope.au q16 14 (nS);have q18:=Scope.au q17 15 (J s5.k.served);have q19:=Scope.au q18 16 (Ju s5.k.v);have Q20:=zd q19;clear rr q15 q16 q17 q18 q19 S14;refine aY [17,18,19] ?_
 repeat (refine ay _ rfl (by kernel_rfl) (fun _ _ _ h=>h) (fun w'=>by(try simp only[ag,ah,aj]);go_simp;try with_reducible rfl) ?_;try simp only[Act.put,ag,ah,aj,aF,aB,aC])
 refine aH ?_;refine af 20 (by kernel_rfl) rfl (by rfl) fun K hK=>?_
 go_simp;refine hK _ _ ?_;clear hK K
 try simp only[Act.put,ag,ah,aj,aF,aB,aC]
 refine wpAny_done (by kernel_rfl) ?_ _;clear c13 c14 c15 c16 f13 f14 f15 f16;obtain⟨V21,hV21⟩:∃ V21,V21=(((w12.setCell ⟨e,13,none⟩ (J 0)).setCell ⟨e,14,none⟩ (nS)).setCell ⟨e,15,none⟩ (J s5.k.served)).setCell ⟨e,16,none⟩ (Ju s5.k.v):=⟨_,rfl⟩
 have q22:=Q20.out;rw[←hV21]at q22 ⊢
 have S23:Hid (Scope S w0 V21 [ae A rs s5,aA (nS) wv A.P e (aV E.st.bz e) (rV rs E.r) { E with told.e:=0,told.n:=s5.k.served,told.v:=s5.k.v },bK B 0]):=zd q22;clear q22 hV21 Q20;have hO:pK s E now=⟨(dN s E.who 5 nD).note now E.j (Bh s),{ E with told:=Bh s,st:=.answer },false⟩:=by rfl
 have HO:=zd hO;clear hO;have rr:=S23.out.row (k:=e) 1 rfl;have c13:=rr.cell (j:=13) rfl;have c14:=rr.cell (j:=14) rfl;have c15:=rr.cell (j:=15) rfl;have c16:=rr.cell (j:=16) rfl;clear rr
 go_wp2_with fail
 clear c13 c14 c15 c16;refine(oz (s:=s5) (E:={ E with told.e:=0,told.n:=s5.k.served,told.v:=s5.k.v }) now ⟨0,[],s5.k.served,s5.k.v⟩ none 0 hj (by rw[Hs5.out];exact hn) S23.out (fun _ _=>.inl ⟨rfl,rfl⟩) (by unfold lJ;simp)).mono ?_
 rintro er w24 ⟨rfl,s25⟩
 obtain⟨s26,Hs26,s25⟩:=az (s':=(s5).note now E.j ⟨0,[],s5.k.served,s5.k.v⟩) s25;have S27:Hid (Scope S w0 w24 [ae A rs s26,aA (nS) wv A.P e (aV E.st.bz e) (rV rs E.r) { E with told.e:=0,told.n:=s5.k.served,told.v:=s5.k.v },bK B 0]):=zd s25;clear s25 S23
 go_wp2_with fail
 refine((bW (P:=A.P) (nx:=(aV E.st.bz e)) (rv:=(rV rs E.r)) (E:={ E with told.e:=0,told.n:=s5.k.served,told.v:=s5.k.v }) 225).fC S27.out).mono ?_
 rintro er w28 ⟨rfl,s29⟩
 have S30:Hid (Scope S w0 w28 [ae A rs s26,aA (nS) wv A.P e (aV 225 e) (rV rs E.r) { E with told.e:=0,told.n:=s5.k.served,told.v:=s5.k.v,st:=.answer },bK B 0]):=zd s29;clear s29 S27;obtain⟨b0,b1,b2,b3,f0,f1,f2,f3,Q4⟩:=aI (c:=0) S30.out
 go_wp2
 refine aQ (d:=false) (by rw[HO.out]) Q4 (fun Vz z0 z1 z2 z3=>by simp[results,results222,go_sem,z0,z1,z2,z3]) rfl fun _ q5=>?_
 rw[HO.out];have hs26:=Hs26.out;subst hs26;have hs5:=Hs5.out;subst hs5
 exact q5
end
section
variable {S:List Nat} {w0 w:World} {X Y Z:HA} {B:Nat} {Xs L:List HA}
theorem lX (h:Scope S w0 w Xs):∃ (B:Nat) (W:World),Hid (B=w.heap.size)∧Hid (W=w.alloc (.cells #[J 0,nS,J 0,Ju 0] 60))∧Hid (Scope S w0 W (Xs++[bK B 0])):=
 ⟨_,_,zd rfl,zd rfl,zd (h.box [J 0,nS,J 0,Ju 0] 60)⟩
@[reducible] def Vq (B:Nat) (c:Int) (sv:Value) (n v:Int):HA:=box B [J c,sv,J n,Ju v] 60
theorem iK {c:Int} {sv:Value} {n v:Int} (h:Scope S w0 w (Xs++[bK B 0])):w.cell? ⟨B,0,none⟩=some (J 0)∧w.cell? ⟨B,1,none⟩=some (nS)∧w.cell? ⟨B,2,none⟩=some (J 0)∧w.cell? ⟨B,3,none⟩=some (Ju 0)∧
  w.frozen? ⟨B,0,none⟩=false∧w.frozen? ⟨B,1,none⟩=false∧w.frozen? ⟨B,2,none⟩=false∧w.frozen? ⟨B,3,none⟩=false∧
  Hid (Scope S w0 ((((w.setCell ⟨B,0,none⟩ (J c)).setCell ⟨B,1,none⟩ sv).setCell ⟨B,2,none⟩ (J n)).setCell ⟨B,3,none⟩ (Ju v)) (Xs++[Vq B c sv n v])):=by
 have s4:Scope S w0 w (Xs++([bK B 0]++[])):=h;have rb:=s4.row (k:=B) (vs:=[J 0,nS,J 0,Ju 0]) (t:=60) Xs.length (by simp);have q4:=Scope.au (Scope.au (Scope.au (Scope.au s4 0 (J c)) 1 sv) 2 (J n)) 3 (Ju v)
 exact⟨rb.cell rfl,rb.cell rfl,rb.cell rfl,rb.cell rfl,rb.free 0,rb.free 1,rb.free 2,rb.free 3,zd q4⟩
theorem kz {fn:Func} {a:Act} {r:Value} {As':List HA} {c:Int} {sv:Value} {n v:Int} {d:Bool} (he:Value.tuple #[.agg #[J c,sv,J n,Ju v],.bool d]=r) (Q4:Hid (Scope S w0 w (Xs++[Vq B c sv n v])))
  (hres:∀ V:World,At V B 0 (J c)→At V B 1 sv→At V B 2 (J n)→At V B 3 (Ju v)→(results fn a.tmps).run prog V=.ok (Value.tuple #[.agg #[J c,sv,J n,Ju v],.bool d]) V)
  (hd:a.defers=[]) (hE:∀ V,Scope S w0 V (Xs++[Vq B c sv n v])→Scope S w0 V (As'++[Vq B c sv n v])):bodyPost prog fn (Ends S w0 r As') .ret a w:=by
 have rb:=Q4.out.row (k:=B) (vs:=[J c,sv,J n,Ju v]) (t:=60) Xs.length (by simp)
 exact bodyPost_ret (hres w (rb.cell rfl) (rb.cell rfl) (rb.cell rfl) (rb.cell rfl)) hd (Ends.mk' he [Vq B c sv n v] (hE w Q4.out))
theorem Does.UF {f:FuncId} {args:Array Value} {r:Value} {X' Z':HA} (d:Does prog [X,Z] f args r [X',Z']) (h:Scope S w0 w (X::Y::Z::L)):Calls prog f args w fun e w'=>e=.returned r∧Scope S w0 w' (X'::Y::Z'::L):=by
 refine(d.call (As:=[X,Z]) (As':=[X',Z']) (Bs:=Y::L) (h.perm (List.Perm.cons _ (List.Perm.swap _ _ _)))).mono fun e w' ⟨he,h2⟩=>⟨he,?_⟩
 exact Scope.perm (As:=X'::Z'::Y::L) h2 (List.Perm.cons _ (List.Perm.swap _ _ _))
@[reducible] def fO (v:Value) (pk:List Pk):HA:=aU v 64 3 pk.length (iU pk)
end
def I8 (s:PS) (E:eQ) (wd:Nat):PS:={ dN s E.who 6 nD with k:=s.k.done wd E.x.len E.more }
def lU (s:PS) (E:eQ) (wd:Nat):DO:=⟨I8 s E wd,{ E with st:=.end' },false⟩
def uq (s:PS) (E:eQ):PS:={ s with σ:=s.σ.put E.who 6 (oH E.j),jr:=s.jr++[(E.j,E.told)] }
def jy (s:PS) (E:eQ):DO:=⟨uq s E,{ E with st:=.ready },false⟩
section
variable {A:PA} {rs:List Nat} {s:PS} {e:Nat} {E:eQ} {r:Nat} {x:mO} {tv wv:Value}
theorem JF (now:Int) (hsz:I64 E.x.len) {m:Nat} (hk:rY s.k m) (hm:m+1<100000) (hwd:A.wd≤40) (hl:s.σ.log.length≤1000000):Does prog [ae A rs s,aA tv wv A.P e (aV E.st.bz e) (rV rs E.r) E,bP] 293 #[ptr e,J now] (bI 0 (lU s E A.wd).d) [ae A rs (lU s E A.wd).s,dA tv wv A.P rs e (lU s E A.wd).E,bP]:=Does.ax fun S w0 w h=>by
 obtain⟨B,W,HB,HW,Sa⟩:=lX h;clear h
 go_enter func293,ntmps293
 go_wp2_with fail
 rw[←HB.out, ←HW.out];have sd:=Sa.out.drew;have re:=sd.row (k:=e) 1 rfl;have h0:At W.drew e 0 (ptr A.P)∧At W.drew e 1 (J E.who):=⟨re.cell rfl,re.cell rfl⟩
 have Sd2:=zd sd;clear sd re Sa;refine aP (by kernel_rfl) ?_;generalize W.drew=V1 at Sd2 h0 ⊢
 refine aY [0,4] ?_
 repeat (refine ay _ rfl (by kernel_rfl) (fun _ _ _ h=>h) (fun w'=>by(try simp only[ag,ah,aj]);go_simp;try with_reducible rfl) ?_;try simp only[Act.put,ag,ah,aj,aF,aB,aC])
 refine aH ?_;refine bJ (fun w'=>At w' e 0 (ptr A.P)∧At w' e 1 (J E.who)) [1,2,3,5,6,7] ?_
 repeat (refine aN _ rfl (by kernel_rfl) (fun _ _ _ h=>h) h0 (fun w' hS=>by(try dsimp only at hS);(try simp only[ag,ah,aj]);go_simp;try with_reducible rfl) ?_;try simp only[Act.put,ag,ah,aj,aF,aB,aC])
 refine bH (by kernel_rfl) ?_;refine af 8 (by kernel_rfl) rfl (by rfl) fun K hK=>?_
 go_simp;refine((xZ hl E.who).at0 Sd2.out).mono ?_
 rintro er w3 ⟨rfl,s4⟩
 refine hK _ _ ?_;obtain⟨s5,Hs5,s4⟩:=az (s':=dN s E.who 6 nD) s4;have S6:Hid (Scope S w0 w3 [ae A rs s5,aA tv wv A.P e (aV E.st.bz e) (rV rs E.r) E,bP,bK B 0]):=zd s4;clear s4 Sd2 hK K h0
 try simp only[Act.put,ag,ah,aj,aF,aB,aC]
 refine wpAny_done (by kernel_rfl) ?_ _;have hks:s5.k=s.k:=by rw[Hs5.out];rfl
 have Hks:=zd hks;clear hks
 go_wp2_with fail
 have sd:=S6.out.drew;have re:=sd.row (k:=e) 1 rfl;have pc:=sd.bT 0 rfl;have h0:At w3.drew e 0 (ptr A.P)∧At w3.drew A.P 4 (ptr A.co)∧At w3.drew e 26 (J E.x.len)∧At w3.drew e 29 (.bool E.more):=⟨re.cell rfl,pc.co,re.cell rfl,re.cell rfl⟩
 have Sd8:=zd sd;clear sd re pc S6;refine aP (by kernel_rfl) ?_;generalize w3.drew=V7 at Sd8 h0 ⊢
 refine aY [0,7,12] ?_
 repeat (refine ay _ rfl (by kernel_rfl) (fun _ _ _ h=>h) (fun w'=>by(try simp only[ag,ah,aj]);go_simp;try with_reducible rfl) ?_;try simp only[Act.put,ag,ah,aj,aF,aB,aC])
 refine aH ?_;refine bJ (fun w'=>At w' e 0 (ptr A.P)∧At w' A.P 4 (ptr A.co)∧At w' e 26 (J E.x.len)∧At w' e 29 (.bool E.more)) [1,2,3,4,5,6,8,9,10,11,13,14,15] ?_
 repeat (refine aN _ rfl (by kernel_rfl) (fun _ _ _ h=>h) h0 (fun w' hS=>by(try dsimp only at hS);(try simp only[ag,ah,aj]);go_simp;try with_reducible rfl) ?_;try simp only[Act.put,ag,ah,aj,aF,aB,aC])
 refine bH (by kernel_rfl) ?_;refine af 16 (by kernel_rfl) rfl (by rfl) fun K hK=>?_
 go_simp;refine(((EJ (s:=s5) E.x.len hsz E.more (by rw[Hks.out];exact hk) hm hwd).UF Sd8.out)).mono ?_
 rintro er w9 ⟨rfl,s10⟩
 refine hK _ _ ?_;obtain⟨s11,Hs11,s10⟩:=az (s':={ s5 with k:=s5.k.done A.wd E.x.len E.more }) s10;have S12:Hid (Scope S w0 w9 [ae A rs s11,aA tv wv A.P e (aV E.st.bz e) (rV rs E.r) E,bP,bK B 0]):=zd s10;clear s10 Sd8 hK K h0
 try simp only[Act.put,ag,ah,aj,aF,aB,aC]
 refine wpAny_done (by kernel_rfl) ?_ _
 go_wp2_with fail
 refine((bW (P:=A.P) (nx:=(aV E.st.bz e)) (rv:=(rV rs E.r)) (E:=E) 283).fC S12.out).mono ?_
 rintro er w13 ⟨rfl,s14⟩
 have S15:Hid (Scope S w0 w13 [ae A rs s11,aA tv wv A.P e (aV 283 e) (rV rs E.r) { E with st:=.end' },bP,bK B 0]):=zd s14;clear s14 S12;obtain⟨b0,b1,b2,b3,f0,f1,f2,f3,Q4⟩:=iK (Xs:=[ae A rs s11,aA tv wv A.P e (aV 283 e) (rV rs E.r) { E with st:=.end' },bP]) (c:=0) (sv:=nS) (n:=0) (v:=0) S15.out
 go_wp2
 refine kz (Xs:=[ae A rs s11,aA tv wv A.P e (aV 283 e) (rV rs E.r) { E with st:=.end' },bP]) (d:=false) rfl Q4 (fun Vz z0 z1 z2 z3=>by simp[results,results293,go_sem,z0,z1,z2,z3]) rfl fun _ q5=>?_
 have hs11:=Hs11.out;subst hs11;have hs5:=Hs5.out;subst hs5
 exact q5
theorem BF (now:Int) {oa:Option Addr} {cp:Nat} (hj:I64 E.j) (hf:lJ E.told.pk) (hl:s.σ.log.length≤1000000):Does prog [ae A rs s,aA (.slice oa E.told.pk.length cp) wv A.P e (aV E.st.bz e) (rV rs E.r) E,fO (.slice oa E.told.pk.length cp) E.told.pk] 225 #[ptr e,J now] (bI 0 (jy s E).d) [ae A rs (jy s E).s,dA (.slice oa E.told.pk.length cp) wv A.P rs e (jy s E).E,fO (.slice oa E.told.pk.length cp) E.told.pk]:=Does.ax fun S w0 w h=>by
 obtain⟨B,W,HB,HW,Sa⟩:=lX h;clear h
 go_enter func225,ntmps225
 go_wp2_with fail
 rw[←HB.out, ←HW.out];have sd:=Sa.out.drew;have re:=sd.row (k:=e) 1 rfl;have pc:=sd.bT 0 rfl;have h0:At W.drew e 0 (ptr A.P)∧At W.drew A.P 3 (ptr A.po)∧At W.drew e 1 (J E.who)∧At W.drew e 7 (J E.j)∧At W.drew e 13 (J E.told.e)∧At W.drew e 14 (.slice oa E.told.pk.length cp)∧At W.drew e 15 (J E.told.n)∧At W.drew e 16 (Ju E.told.v):=⟨re.cell rfl,pc.po,re.cell rfl,re.cell rfl,re.cell rfl,re.cell rfl,re.cell rfl,re.cell rfl⟩
 have Sd2:=zd sd;clear sd re pc Sa;refine aP (by kernel_rfl) ?_;generalize W.drew=V1 at Sd2 h0 ⊢
 refine aY [0,7,11,15] ?_
 repeat (refine ay _ rfl (by kernel_rfl) (fun _ _ _ h=>h) (fun w'=>by(try simp only[ag,ah,aj]);go_simp;try with_reducible rfl) ?_;try simp only[Act.put,ag,ah,aj,aF,aB,aC])
 refine aH ?_;refine bJ (fun w'=>At w' e 0 (ptr A.P)∧At w' A.P 3 (ptr A.po)∧At w' e 1 (J E.who)∧At w' e 7 (J E.j)∧At w' e 13 (J E.told.e)∧At w' e 14 (.slice oa E.told.pk.length cp)∧At w' e 15 (J E.told.n)∧At w' e 16 (Ju E.told.v)) [1,2,3,4,5,6,8,9,10,12,13,14,16,17,18] ?_
 repeat (refine aN _ rfl (by kernel_rfl) (fun _ _ _ h=>h) h0 (fun w' hS=>by(try dsimp only at hS);(try simp only[ag,ah,aj]);go_simp;try with_reducible rfl) ?_;try simp only[Act.put,ag,ah,aj,aF,aB,aC])
 refine bH (by kernel_rfl) ?_;refine af 19 (by kernel_rfl) rfl (by rfl) fun K hK=>?_
 go_simp;refine(y8 E.who E.j E.told (.slice oa E.told.pk.length cp) Sd2.out hj (fun w' hX=>vk.jk (hX.jb 1 rfl)) hf hl).mono ?_
 rintro er w3 ⟨rfl,s4⟩
 refine hK _ _ ?_;obtain⟨s5,Hs5,s4⟩:=az (s':=uq s E) s4;have S6:Hid (Scope S w0 w3 [ae A rs s5,aA (.slice oa E.told.pk.length cp) wv A.P e (aV E.st.bz e) (rV rs E.r) E,fO (.slice oa E.told.pk.length cp) E.told.pk,bK B 0]):=zd s4;clear s4 Sd2 hK K h0
 try simp only[Act.put,ag,ah,aj,aF,aB,aC]
 refine wpAny_done (by kernel_rfl) ?_ _
 go_wp2_with fail
 refine((bW (P:=A.P) (nx:=(aV E.st.bz e)) (rv:=(rV rs E.r)) (E:=E) 245).fC S6.out).mono ?_
 rintro er w7 ⟨rfl,s8⟩
 have S9:Hid (Scope S w0 w7 [ae A rs s5,aA (.slice oa E.told.pk.length cp) wv A.P e (aV 245 e) (rV rs E.r) { E with st:=.ready },fO (.slice oa E.told.pk.length cp) E.told.pk,bK B 0]):=zd s8;clear s8 S6;obtain⟨b0,b1,b2,b3,f0,f1,f2,f3,Q4⟩:=iK (Xs:=[ae A rs s5,aA (.slice oa E.told.pk.length cp) wv A.P e (aV 245 e) (rV rs E.r) { E with st:=.ready },fO (.slice oa E.told.pk.length cp) E.told.pk]) (c:=0) (sv:=nS) (n:=0) (v:=0) S9.out
 go_wp2
 refine kz (Xs:=[ae A rs s5,aA (.slice oa E.told.pk.length cp) wv A.P e (aV 245 e) (rV rs E.r) { E with st:=.ready },fO (.slice oa E.told.pk.length cp) E.told.pk]) (d:=false) rfl Q4 (fun Vz z0 z1 z2 z3=>by simp[results,results225,go_sem,z0,z1,z2,z3]) rfl fun _ q5=>?_
 have hs5:=Hs5.out;subst hs5
 exact q5
end
def kF (s:PS) (E:eQ):Rt:=lastOf Rt.zero s.jr E.who
def qY (s:PS) (E:eQ):PS:={ s with σ:=s.σ.put E.who 5 (oH E.who) }
section
variable {A:PA} {rs:List Nat} {s:PS} {e:Nat} {E:eQ} {tv wv:Value} {S:List Nat} {w0 w:World} {Bs:List HA}
theorem zV (now:Int) (hwho:I64 E.who) (hl:s.σ.log.length≤1000000) (h:Scope S w0 w (ae A rs s::dA tv wv A.P rs e E::Bs)):
  Calls prog 202 #[ptr e,J now] w fun e' w'=>∃ oa c,e'=.returned (.tuple #[(kF s E).val (.slice oa (kF s E).pk.length c),.bool true])∧Scope S w0 w' (ae A rs (qY s E)::fO (.slice oa (kF s E).pk.length c) (kF s E).pk::dA tv wv A.P rs e E::Bs):=by
 obtain⟨R,hR⟩:∃ R,lastOf Rt.zero s.jr E.who=R:=⟨_,rfl⟩
 have hR2:kF s E=R:=hR;rw[hR2];have HR:=zd hR;clear hR hR2;obtain⟨B,W,HB,HW,Sa⟩:=lX h;clear h
 go_enter func202,ntmps202
 go_wp2_with fail
 rw[←HB.out, ←HW.out];have sd:Scope S w0 W.drew (ae A rs s::(dA tv wv A.P rs e E::(Bs++[bK B 0]))):=Sa.out.drew;have re:=sd.row (k:=e) 1 rfl;have pc:=sd.bT 0 rfl;have h0:At W.drew e 0 (ptr A.P)∧At W.drew A.P 3 (ptr A.po)∧At W.drew e 1 (J E.who):=⟨re.cell rfl,pc.po,re.cell rfl⟩
 have Sd:=zd sd;clear sd re pc Sa;refine aP (by kernel_rfl) ?_;generalize W.drew=V at Sd h0 ⊢
 refine aY [0,7] ?_
 repeat (refine ay _ rfl (by kernel_rfl) (fun _ _ _ h=>h) (fun w'=>by(try simp only[ag,ah,aj]);go_simp;try with_reducible rfl) ?_;try simp only[Act.put,ag,ah,aj,aF,aB,aC])
 refine aH ?_;refine bJ (fun w'=>At w' e 0 (ptr A.P)∧At w' A.P 3 (ptr A.po)∧At w' e 1 (J E.who)) [1,2,3,4,5,6,8,9,10] ?_
 repeat (refine aN _ rfl (by kernel_rfl) (fun _ _ _ h=>h) h0 (fun w' hS=>by(try dsimp only at hS);(try simp only[ag,ah,aj]);go_simp;try with_reducible rfl) ?_;try simp only[Act.put,ag,ah,aj,aF,aB,aC])
 refine bH (by kernel_rfl) ?_;refine af 11 (by kernel_rfl) rfl (by rfl) fun K hK=>?_
 go_simp;refine(yQ E.who Sd.out hwho hl).mono ?_
 rintro er w1 ⟨c,oa,rfl,s1⟩
 rw[HR.out]at s1 ⊢
 obtain⟨n,hn⟩:∃ n,R.pk.length=n:=⟨_,rfl⟩
 have Hn:=zd hn;rw[show(R.val (.slice oa R.pk.length c))=.agg #[J R.e,.slice oa n c,J R.n,Ju R.v] by rw[hn]];clear hn;refine hK _ _ ?_;obtain⟨b0,b1,b2,b3,f0,f1,f2,f3,Q4⟩:=iK (Xs:=ae A rs (qY s E)::fO (.slice oa R.pk.length c) R.pk::dA tv wv A.P rs e E::Bs) (c:=R.e) (sv:=.slice oa n c) (n:=R.n) (v:=R.v) s1;clear hK K h0 s1 Sd
 try simp only[Act.put,ag,ah,aj,aF,aB,aC]
 refine af 12 (by kernel_rfl) rfl (by rfl) fun K hK=>?_
 go_simp;refine hK _ _ ?_;clear hK K
 try simp only[Act.put,ag,ah,aj,aF,aB,aC]
 refine aY [13] ?_
 repeat (refine ay _ rfl (by kernel_rfl) (fun _ _ _ h=>h) (fun w'=>by(try simp only[ag,ah,aj]);go_simp;try with_reducible rfl) ?_;try simp only[Act.put,ag,ah,aj,aF,aB,aC])
 refine aH ?_;refine wpAny_done (by kernel_rfl) ?_ _
 go_wp2
 obtain⟨V4,hV4⟩:∃ V4,V4=(((w1.setCell ⟨B,0,none⟩ (J R.e)).setCell ⟨B,1,none⟩ (.slice oa n c)).setCell ⟨B,2,none⟩ (J R.n)).setCell ⟨B,3,none⟩ (Ju R.v):=⟨_,rfl⟩
 have q4:=Q4.out;rw[←hV4]at q4 ⊢
 have rb:=q4.row (k:=B) (vs:=[J R.e,.slice oa n c,J R.n,Ju R.v]) (t:=60) (Bs.length+3) (by simp);obtain⟨z0,z1,z2,z3⟩:=rb.c4;refine bodyPost_ret (v:=.tuple #[.agg #[J R.e,.slice oa n c,J R.n,Ju R.v],.bool true]) (by simp[results,results202,go_sem,z0,z1,z2,z3]) rfl ⟨oa,c,by rw[Hn.out],?_⟩
 exact Scope.drop (As:=ae A rs (qY s E)::fO (.slice oa R.pk.length c) R.pk::dA tv wv A.P rs e E::Bs) q4
end
section
variable {A:PA} {rs:List Nat} {s:PS} {e:Nat} {E:eQ} {r:Nat} {x:mO} {tv wv:Value}
end
def yX (s:PS) (E:eQ):Pk:=match s.ob[E.ri]? with|some x=>x.cs.getD (ix E.n x.cs.length) .zero|none=>.zero
def Ud (s:PS) (E:eQ):PS:=dN s E.who 5 (cellL (E.ri:Nat) (ix E.n (s.len E.ri)))
def nJ (s:PS) (E:eQ):DO:=⟨(Ud s E).note E.now E.j ⟨0,[yX s E],0,0⟩,{ E with x:=yX s E,told:=⟨E.told.e,E.told.pk++[yX s E],E.told.n,E.told.v⟩,st:=.free' },false⟩
theorem Ql (L:List Pk) (k:Pk):iU (L++[k])=iU L++[J k.flow,J k.len,J k.mark]:=by simp[iU,Pk.cells]
theorem Scope.GM {S:List Nat} {w0 w:World} {X:HA} {L:List HA} {F:Value→List HA} (v:Value) (h:Scope S w0 w (X::(F v++L))):Scope S w0 w (X::uk (fun v=>aG (F v))::L):=
 (Scope.tX (F:=fun v=>aG (F v)) v (Scope.shut1 (h.perm List.perm_middle.symm))).perm (List.Perm.swap _ _ _)
@[reducible] def VO (wv:Value) (P:Nat) (rs:List Nat) (e:Nat) (E:eQ):HA:=uk fun tv=>aG [dA tv wv P rs e E,fO tv E.told.pk]
section
variable {A:PA} {rs:List Nat} {s:PS} {e:Nat} {E:eQ} {r:Nat} {x:mO} {tv wv:Value}
theorem Nk (now:Int) (hR:E.r=some E.ri) (hr:rs[E.ri]? =some r) (ho:s.ob[E.ri]? =some x) (hi:E.ri<1000000) (hnU:dC E.n) {k:Pk} (hk:x.cs[ix E.n x.cs.length]? =some k) (c0:0<x.cs.length) (c8:x.cs.length≤1000) (hj:I64 E.j) (hn:s.pt.length<100000) (hf:E.told.pk.length<100000) (hl:s.σ.log.length≤1000000):Does prog [ae A rs s,aA tv wv A.P e (aV E.st.bz e) (rV rs E.r) E,fO tv E.told.pk] 288 #[ptr e,J now] (bI 0 false) [ae A rs (nJ s E).s,VO wv A.P rs e (nJ s E).E]:=Does.ax fun S w0 w h=>by
 have hK:yX s E=k:=by unfold yX;rw[ho];simp[List.getD,hk]
 have hlen:=PS.tZ ho;have hO:nJ s E=⟨(dN s E.who 5 (cellL (E.ri:Nat) (ix E.n x.cs.length))).note E.now E.j ⟨0,[k],0,0⟩,{ E with x:=k,told:=⟨E.told.e,E.told.pk++[k],E.told.n,E.told.v⟩,st:=.free' },false⟩:=by unfold nJ Ud;rw[hK,hlen]
 have HO:=zd hO;clear hO hK hlen;obtain⟨i1,hi1⟩:=Option.isSome_iff_exists.1 (show(prog.info? 64).isSome=true by kernel_rfl);obtain⟨hx0,hx1,hx2⟩:=lF 64 hi1 (z:=.agg #[J 0,J 0,J 0]) (s:=3) (b:=24) (by kernel_rfl) (by kernel_rfl) (by kernel_rfl);have Hi1:=zd hi1;have Hx0:=zd hx0;have Hx1:=zd hx1;have Hx2:=zd hx2;clear hi1 hx0 hx1 hx2;obtain⟨oa,cp,htv,hc1,hc2⟩:=(h.front 2 rfl).jh;subst htv;obtain⟨n,hn0⟩:∃ n,n=E.told.pk.length:=⟨_,rfl⟩
 rw[show fO (.slice oa E.told.pk.length cp) E.told.pk=aU (.slice oa n cp) 64 3 n (iU E.told.pk) by rw[hn0],show(Value.slice oa E.told.pk.length cp)=.slice oa n cp by rw[hn0]]at h;rw[←hn0]at hc1 hf;have Hn0:=zd hn0;have Hc1:=zd hc1;have Hc2:=zd hc2;have Hf:=zd hf;clear hn0 hc1 hc2 hf;have hrv:rV rs E.r=ptr r:=by rw[hR];simp[rV,List.getD,hr]
 rw[show aA (.slice oa n cp) wv A.P e (aV E.st.bz e) (rV rs E.r) E=aA (.slice oa n cp) wv A.P e (aV E.st.bz e) (ptr r) E from by rw[hrv]]at h;have Hrv:=zd hrv;clear hrv;obtain⟨B,W,HB,HW,Sa⟩:=lX h;clear h
 go_enter func288,ntmps288
 go_wp2_with fail
 rw[←HB.out, ←HW.out];have sd:=Sa.out.drew;have re:=sd.row (k:=e) 1 rfl;have h0:At W.drew e 23 ((ptr r))∧At W.drew e 1 (J E.who)∧At W.drew e 24 (Ju E.n):=⟨re.cell rfl,re.cell rfl,re.cell rfl⟩
 have Sd2:=zd sd;clear sd re Sa;refine aP (by kernel_rfl) ?_;generalize W.drew=V1 at Sd2 h0 ⊢
 refine aY [0,1,5,9] ?_
 repeat (refine ay _ rfl (by kernel_rfl) (fun _ _ _ h=>h) (fun w'=>by(try simp only[ag,ah,aj]);go_simp;try with_reducible rfl) ?_;try simp only[Act.put,ag,ah,aj,aF,aB,aC])
 refine aH ?_;refine bJ (fun w'=>At w' e 23 ((ptr r))∧At w' e 1 (J E.who)∧At w' e 24 (Ju E.n)) [2,3,4,6,7,8,10,11,12] ?_
 repeat (refine aN _ rfl (by kernel_rfl) (fun _ _ _ h=>h) h0 (fun w' hS=>by(try dsimp only at hS);(try simp only[ag,ah,aj]);go_simp;try with_reducible rfl) ?_;try simp only[Act.put,ag,ah,aj,aF,aB,aC])
 refine bH (by kernel_rfl) ?_;refine af 13 (by kernel_rfl) rfl (by rfl) fun K hK=>?_
 go_simp;refine((G6 hr ho hi hl c0 c8 E.who E.n k hnU hk).at0 Sd2.out).mono ?_
 rintro er w3 ⟨rfl,s4⟩
 refine hK _ _ ?_;obtain⟨s5,Hs5,s4⟩:=az (s':=dN s E.who 5 (cellL (E.ri:Nat) (ix E.n x.cs.length))) s4;have S6:Hid (Scope S w0 w3 [ae A rs s5,aA (.slice oa n cp) wv A.P e (aV E.st.bz e) (ptr r) E,aU (.slice oa n cp) 64 3 n (iU E.told.pk),bK B 0]):=zd s4;clear s4 Sd2 hK K h0
 try simp only[Act.put,ag,ah,aj,aF,aB,aC]
 have rr:=S6.out.row (k:=e) 1 rfl;have c25:=rr.cell (j:=25) rfl;have c26:=rr.cell (j:=26) rfl;have c27:=rr.cell (j:=27) rfl;have f25:=rr.free 25;have f26:=rr.free 26;have f27:=rr.free 27;have q7:Scope S w0 w3 ([ae A rs s5]++([aA (.slice oa n cp) wv A.P e (aV E.st.bz e) (ptr r) E]++[aU (.slice oa n cp) 64 3 n (iU E.told.pk),bK B 0])):=S6.out;have q8:=Scope.au q7 25 (J k.flow);have q9:=Scope.au q8 26 (J k.len);have q10:=Scope.au q9 27 (J k.mark);have Q11:=zd q10;clear rr q7 q8 q9 q10 S6;refine aY [14,15] ?_
 repeat (refine ay _ rfl (by kernel_rfl) (fun _ _ _ h=>h) (fun w'=>by(try simp only[ag,ah,aj]);go_simp;try with_reducible rfl) ?_;try simp only[Act.put,ag,ah,aj,aF,aB,aC])
 refine aH ?_;refine af 16 (by kernel_rfl) rfl (by rfl) fun K hK=>?_
 go_simp;refine hK _ _ ?_;clear hK K
 try simp only[Act.put,ag,ah,aj,aF,aB,aC]
 refine wpAny_done (by kernel_rfl) ?_ _;clear c25 c26 c27 f25 f26 f27;obtain⟨V12,hV12⟩:∃ V12,V12=((w3.setCell ⟨e,25,none⟩ (J k.flow)).setCell ⟨e,26,none⟩ (J k.len)).setCell ⟨e,27,none⟩ (J k.mark):=⟨_,rfl⟩
 have q13:=Q11.out;rw[←hV12]at q13 ⊢
 have S14:Hid (Scope S w0 V12 [ae A rs s5,aA (.slice oa n cp) wv A.P e (aV E.st.bz e) (ptr r) { E with x.flow:=k.flow,x.len:=k.len,x.mark:=k.mark },aU (.slice oa n cp) 64 3 n (iU E.told.pk),bK B 0]):=zd q13;clear q13 hV12 Q11
 go_wp2_with fail
 have sd:=S14.out.drew;have re:=sd.row (k:=e) 1 rfl;have h0:At V12.drew e 14 (.slice oa n cp)∧At V12.drew e 25 (J k.flow)∧At V12.drew e 26 (J k.len)∧At V12.drew e 27 (J k.mark):=⟨re.cell rfl,re.cell rfl,re.cell rfl,re.cell rfl⟩
 have SVa:=zd sd;clear sd re S14;refine aP (by kernel_rfl) ?_;generalize V12.drew=Va at SVa h0 ⊢
 refine aY [0,1,6] ?_
 repeat (refine ay _ rfl (by kernel_rfl) (fun _ _ _ h=>h) (fun w'=>by(try simp only[ag,ah,aj]);go_simp;try with_reducible rfl) ?_;try simp only[Act.put,ag,ah,aj,aF,aB,aC])
 refine aH ?_;refine cu (fun w'=>At w' e 14 (.slice oa n cp)∧At w' e 25 (J k.flow)∧At w' e 26 (J k.len)∧At w' e 27 (J k.mark)) [2,3,4,5,7,8,9,10] [2,3,4,5,7,8,9] ?_
 repeat (refine aN _ rfl (by kernel_rfl) (fun _ _ _ h=>h) h0 (fun w' hS=>by(try dsimp only at hS);(try simp only[ag,ah,aj]);go_simp;try with_reducible rfl) ?_;try simp only[Act.put,ag,ah,aj,aF,aB,aC])
 refine bM ?_;have TVa:Scope S w0 (Va.alloc (.cells #[J k.flow,J k.len,J k.mark] 64)) ([ae A rs s5,aA (.slice oa n cp) wv A.P e (aV E.st.bz e) (ptr r) { E with x.flow:=k.flow,x.len:=k.len,x.mark:=k.mark },aU (.slice oa n cp) 64 3 n (iU E.told.pk),bK B 0]++[box Va.heap.size [J k.flow,J k.len,J k.mark] 64]):=SVa.out.box [J k.flow,J k.len,J k.mark] 64;have re:=TVa.row (k:=e) 1 rfl;have h1:(Va.alloc (.cells #[J k.flow,J k.len,J k.mark] 64)).cell? ⟨e,14,none⟩=some (.slice oa n cp)∧(Va.alloc (.cells #[J k.flow,J k.len,J k.mark] 64)).cell? ⟨e,25,none⟩=some (J k.flow)∧(Va.alloc (.cells #[J k.flow,J k.len,J k.mark] 64)).cell? ⟨e,26,none⟩=some (J k.len)∧(Va.alloc (.cells #[J k.flow,J k.len,J k.mark] 64)).cell? ⟨e,27,none⟩=some (J k.mark):=⟨re.cell rfl,re.cell rfl,re.cell rfl,re.cell rfl⟩
 have QVa:=zd TVa;clear re TVa;refine aK 10 (by kernel_rfl) rfl (by rfl) fun K hK=>?_
 go_simp;refine hK _ _ ⟨fun _=>h1,?_⟩;clear hK K h0
 try simp only[Act.put,ag,ah,aj,aF,aB,aC]
 refine dB [] (bH (by kernel_rfl) ?_);clear h1 SVa;refine af 11 (by kernel_rfl) rfl (by rfl) fun K hK=>?_
 refine wp_append_lies _ _ _ _ rfl 0 64 i1 _ 3 24 underlying58 Hi1.out Hx0.out Hx1.out Hx2.out rfl (by omega) (.slice oa n cp) n (iU E.told.pk) (by rfl) (QVa.out.jb 2 rfl) ⟨Va.heap.size,0,none⟩ 1 1 [J k.flow,J k.len,J k.mark] (by rfl) (by rfl) (World.news_of_block (cs:=#[J k.flow,J k.len,J k.mark]) (t:=64) (fr:=(0,0)) (heap_alloc_new Va _)) (by simp[Value.oneCell'])
   (by have:=Hf.out;omega) (by have:=Hf.out;unfold maxLen;omega) (by have:=Hf.out;omega) (by have:=Hf.out;omega) (Va.heap.size+1) (by simp) ?_
 intro gg cap' w4 own gro hat hlt
 refine hK _ _ ?_;have s7:=Scope.appends (QVa.out.front 2 rfl) own gro (hat.imp id (fun h=>h.trans (by simp)));have s8:Scope S w0 w4 ([ae A rs s5,aU (.slice (some ⟨gg,0,none⟩) (n+1) cap') 64 3 (n+1) (iU E.told.pk++[J k.flow,J k.len,J k.mark])]++([aA (.slice oa n cp) wv A.P e (aV E.st.bz e) (ptr r) { E with x.flow:=k.flow,x.len:=k.len,x.mark:=k.mark }]++[bK B 0,box Va.heap.size [J k.flow,J k.len,J k.mark] 64])):=s7.front 1 rfl |>.perm (List.Perm.cons _ (List.Perm.swap _ _ _)) |>.perm (by exact List.Perm.cons _ (List.Perm.swap _ _ _))
 have rP:=s8.row (k:=e) 2 rfl;have c14:=rP.cell (j:=14) rfl;have f14:=rP.free 14;have S8:=zd (Scope.au s8 14 (.slice (some ⟨gg,0,none⟩) (n+1) cap'));clear hK K own gro hat hlt QVa s7 s8 rP
 try simp only[Act.put,ag,ah,aj,aF,aB,aC]
 refine aY [12,13,14] ?_
 repeat (refine ay _ rfl (by kernel_rfl) (fun _ _ _ h=>h) (fun w'=>by(try simp only[ag,ah,aj]);go_simp;try with_reducible rfl) ?_;try simp only[Act.put,ag,ah,aj,aF,aB,aC])
 refine aH ?_;refine af 15 (by kernel_rfl) rfl (by rfl) fun K hK=>?_
 go_simp;refine hK _ _ ?_;clear hK K
 try simp only[Act.put,ag,ah,aj,aF,aB,aC]
 refine wpAny_done (by kernel_rfl) ?_ _;clear c14 f14;obtain⟨V5,hV5⟩:∃ V5,V5=w4.setCell ⟨e,14,none⟩ (.slice (some ⟨gg,0,none⟩) (n+1) cap'):=⟨_,rfl⟩
 have s8:=S8.out;rw[←hV5]at s8 ⊢
 have S9:Hid (Scope S w0 V5 [ae A rs s5,aA (.slice (some ⟨gg,0,none⟩) (n+1) cap') wv A.P e (aV E.st.bz e) (ptr r) { E with x.flow:=k.flow,x.len:=k.len,x.mark:=k.mark },aU (.slice (some ⟨gg,0,none⟩) (n+1) cap') 64 3 (n+1) (iU E.told.pk++[J k.flow,J k.len,J k.mark]),bK B 0]):=zd (Scope.drop (Bs:=[box Va.heap.size [J k.flow,J k.len,J k.mark] 64]) (s8.perm (List.Perm.cons _ (List.Perm.swap _ _ _))));clear s8 hV5 S8
 go_wp2_with fail
 have sd:=S9.out.drew;have re:=sd.row (k:=e) 1 rfl;have h0:At V5.drew e 22 (J E.now)∧At V5.drew e 25 (J k.flow)∧At V5.drew e 26 (J k.len)∧At V5.drew e 27 (J k.mark):=⟨re.cell rfl,re.cell rfl,re.cell rfl,re.cell rfl⟩
 have SVb:=zd sd;clear sd re S9;refine aP (by kernel_rfl) ?_;generalize V5.drew=Vb at SVb h0 ⊢
 refine aY [0,1,5] ?_
 repeat (refine ay _ rfl (by kernel_rfl) (fun _ _ _ h=>h) (fun w'=>by(try simp only[ag,ah,aj]);go_simp;try with_reducible rfl) ?_;try simp only[Act.put,ag,ah,aj,aF,aB,aC])
 refine aH ?_;refine cu (fun w'=>At w' e 22 (J E.now)∧At w' e 25 (J k.flow)∧At w' e 26 (J k.len)∧At w' e 27 (J k.mark)) [2,3,4,6,7,8,9,10] [2,3,4,6,7,8] ?_
 repeat (refine aN _ rfl (by kernel_rfl) (fun _ _ _ h=>h) h0 (fun w' hS=>by(try dsimp only at hS);(try simp only[ag,ah,aj]);go_simp;try with_reducible rfl) ?_;try simp only[Act.put,ag,ah,aj,aF,aB,aC])
 refine bM ?_;have TVb:Scope S w0 (Vb.alloc (.cells #[J k.flow,J k.len,J k.mark] 64)) ([ae A rs s5,aA (.slice (some ⟨gg,0,none⟩) (n+1) cap') wv A.P e (aV E.st.bz e) (ptr r) { E with x.flow:=k.flow,x.len:=k.len,x.mark:=k.mark },aU (.slice (some ⟨gg,0,none⟩) (n+1) cap') 64 3 (n+1) (iU E.told.pk++[J k.flow,J k.len,J k.mark]),bK B 0]++[box Vb.heap.size [J k.flow,J k.len,J k.mark] 64]):=SVb.out.box [J k.flow,J k.len,J k.mark] 64;have re:=TVb.row (k:=e) 1 rfl;have h1:(Vb.alloc (.cells #[J k.flow,J k.len,J k.mark] 64)).cell? ⟨e,22,none⟩=some (J E.now)∧(Vb.alloc (.cells #[J k.flow,J k.len,J k.mark] 64)).cell? ⟨e,25,none⟩=some (J k.flow)∧(Vb.alloc (.cells #[J k.flow,J k.len,J k.mark] 64)).cell? ⟨e,26,none⟩=some (J k.len)∧(Vb.alloc (.cells #[J k.flow,J k.len,J k.mark] 64)).cell? ⟨e,27,none⟩=some (J k.mark):=⟨re.cell rfl,re.cell rfl,re.cell rfl,re.cell rfl⟩
 have QVb:=zd TVb;clear re TVb;refine aK 9 (by kernel_rfl) rfl (by rfl) fun K hK=>?_
 go_simp;refine hK _ _ ⟨fun _=>h1,?_⟩;clear hK K h0
 try simp only[Act.put,ag,ah,aj,aF,aB,aC]
 refine dB [10] ?_
 repeat (refine aN _ rfl (by kernel_rfl) (fun _ _ _ h=>h) h1 (fun w' hS=>by(try simp only[ag,ah,aj]);go_simp;try with_reducible rfl) ?_;try simp only[Act.put,ag,ah,aj,aF,aB,aC])
 refine bM ?_;refine dB [] (bH (by kernel_rfl) ?_);clear h1 SVb;refine af 11 (by kernel_rfl) rfl (by rfl) fun K hK=>?_
 go_simp;have hn9:s5.pt.length<100000:=by rw[Hs5.out];exact hn
 refine(oz (s:=s5) (E:={ E with x.flow:=k.flow,x.len:=k.len,x.mark:=k.mark }) E.now ⟨0,[k],0,0⟩ (some ⟨Vb.heap.size,0,none⟩) 1 hj hn9 QVb.out (fun w' hX=>vk.jk (L:=[k]) (DK (xs:=iU [k]) (rest:=[]) (n:=1) (cap:=1) (size:=3) (hX.row (k:=Vb.heap.size) 3 rfl) (by omega) (by unfold maxLen;omega) rfl rfl)) (by unfold lJ;simp)).mono ?_
 rintro er w6 ⟨rfl,s10⟩
 refine hK _ _ ?_;obtain⟨sx,Hsx,s10⟩:=az (s':=(s5).note E.now E.j ⟨0,[k],0,0⟩) s10;have S11:Hid (Scope S w0 w6 [ae A rs sx,aA (.slice (some ⟨gg,0,none⟩) (n+1) cap') wv A.P e (aV E.st.bz e) (ptr r) { E with x.flow:=k.flow,x.len:=k.len,x.mark:=k.mark },aU (.slice (some ⟨gg,0,none⟩) (n+1) cap') 64 3 (n+1) (iU E.told.pk++[J k.flow,J k.len,J k.mark]),bK B 0]):=zd (Scope.drop (Bs:=[box Vb.heap.size [J k.flow,J k.len,J k.mark] 64]) s10);clear hK K s10 QVb hn9
 try simp only[Act.put,ag,ah,aj,aF,aB,aC]
 refine wpAny_done (by kernel_rfl) ?_ _
 go_wp2_with fail
 refine((bW (P:=A.P) (nx:=(aV E.st.bz e)) (rv:=(ptr r)) (E:={ E with x.flow:=k.flow,x.len:=k.len,x.mark:=k.mark }) 290).fC S11.out).mono ?_
 rintro er w15 ⟨rfl,s16⟩
 have S17:Hid (Scope S w0 w15 [ae A rs sx,aA (.slice (some ⟨gg,0,none⟩) (n+1) cap') wv A.P e (aV 290 e) (ptr r) { E with x.flow:=k.flow,x.len:=k.len,x.mark:=k.mark,st:=.free' },aU (.slice (some ⟨gg,0,none⟩) (n+1) cap') 64 3 (n+1) (iU E.told.pk++[J k.flow,J k.len,J k.mark]),bK B 0]):=zd s16;clear s16 S11;obtain⟨b0,b1,b2,b3,f0,f1,f2,f3,Q4⟩:=iK (Xs:=[ae A rs sx,aA (.slice (some ⟨gg,0,none⟩) (n+1) cap') wv A.P e (aV 290 e) (ptr r) { E with x.flow:=k.flow,x.len:=k.len,x.mark:=k.mark,st:=.free' },aU (.slice (some ⟨gg,0,none⟩) (n+1) cap') 64 3 (n+1) (iU E.told.pk++[J k.flow,J k.len,J k.mark])]) (c:=0) (sv:=nS) (n:=0) (v:=0) S17.out
 go_wp2
 refine kz (Xs:=[ae A rs sx,aA (.slice (some ⟨gg,0,none⟩) (n+1) cap') wv A.P e (aV 290 e) (ptr r) { E with x.flow:=k.flow,x.len:=k.len,x.mark:=k.mark,st:=.free' },aU (.slice (some ⟨gg,0,none⟩) (n+1) cap') 64 3 (n+1) (iU E.told.pk++[J k.flow,J k.len,J k.mark])]) (d:=false) rfl Q4 (fun Vz z0 z1 z2 z3=>by simp[results,results288,go_sem,z0,z1,z2,z3]) rfl fun _ q5=>?_
 rw[HO.out];have hsx:=Hsx.out;subst hsx;have hs5:=Hs5.out;subst hs5;rw[←Hrv.out, ←Ql,show n+1=(E.told.pk++[k]).length by rw[Hn0.out];simp]at q5
 exact Scope.GM (F:=fun tv=>[dA tv wv A.P rs e { E with x:=k,told:=⟨E.told.e,E.told.pk++[k],E.told.n,E.told.v⟩,st:=.free' },fO tv (E.told.pk++[k])]) _ q5
end
@[reducible] def uU (y:Int×Ob):List Value:=[J y.1,J y.2.flow,J y.2.most,Ju y.2.r]
@[reducible] def rO (v:Value) (L:List (Int×Ob)):HA:=aU v 293 4 L.length (recs uU L)
theorem DD (L:List (Int×Ob)) (y:Int×Ob):recs uU (L++[y])=recs uU L++[J y.1,J y.2.flow,J y.2.most,Ju y.2.r]:=by simp[recs,uU]
@[reducible] def VN (tv:Value) (P:Nat) (rs:List Nat) (e:Nat) (E:eQ):HA:=uk fun wv=>aG [dA tv wv P rs e E,rO wv E.woken]
def rC (s:PS) (E:eQ):Ob:=match s.ob[E.obj.toNat]? with|some x=>x.o|none=>.zero
def rD (s:PS) (E:eQ):eQ:={ E with woken:=E.woken++[(E.obj,rC s E)] }
def fK (s:PS) (E:eQ) (sh:Nat):DO:=⟨dN s E.who 5 (o8 E.obj),cond (E.link==0) (dX (rD s E) sh) { rD s E with obj:=E.link - 1,st:=.behind },false⟩
section
variable {A:PA} {rs:List Nat} {s:PS} {e:Nat} {E:eQ} {r:Nat} {x:mO} {tv wv:Value}
theorem Fq (now:Int) {o:Nat} (hob:E.obj=(o:Nat)) (hr:rs[o]? =some r) (ho:s.ob[o]? =some x) (hf:E.woken.length<100000) (hu:0≤E.link) (hu2:E.link<1000000) (h0s:0≤E.shard) (h1s:E.shard<1000) (hl:s.σ.log.length≤1000000):Does prog [ae A rs s,aA tv wv A.P e (aV E.st.bz e) (rV rs E.r) E,rO wv E.woken] 274 #[ptr e,J now] (bI 0 false) [ae A rs (fK s E A.sh).s,VN tv A.P rs e (fK s E A.sh).E]:=Does.ax fun S w0 w h=>by
 have hX:rC s E=x.o:=by unfold rC;rw[hob];simp[ho]
 have HX:=zd hX;have Hob:=zd hob;clear hX;obtain⟨i1,hi1⟩:=Option.isSome_iff_exists.1 (show(prog.info? 293).isSome=true by kernel_rfl);obtain⟨hx0,hx1,hx2⟩:=lF 293 hi1 (z:=.agg #[J 0,J 0,J 0,Ju 0]) (s:=4) (b:=32) (by kernel_rfl) (by kernel_rfl) (by kernel_rfl);have Hi1:=zd hi1;have Hx0:=zd hx0;have Hx1:=zd hx1;have Hx2:=zd hx2;clear hi1 hx0 hx1 hx2;obtain⟨oa,cp,hwv,hc1,hc2⟩:=(h.front 2 rfl).jh;subst hwv;obtain⟨n,hn0⟩:∃ n,n=E.woken.length:=⟨_,rfl⟩
 rw[show rO (.slice oa E.woken.length cp) E.woken=aU (.slice oa n cp) 293 4 n (recs uU E.woken) by rw[hn0],show(Value.slice oa E.woken.length cp)=.slice oa n cp by rw[hn0]]at h;rw[←hn0]at hc1 hf;have Hn0:=zd hn0;have Hc1:=zd hc1;have Hc2:=zd hc2;have Hf:=zd hf;have Hu1:=zd hu;have Hu2:=zd hu2;have H0s:=zd h0s;have H1s:=zd h1s;clear hn0 hc1 hc2 hf hu hu2 h0s h1s hob;obtain⟨of,hof⟩:∃ a,a=x.o.flow:=⟨_,rfl⟩
 obtain⟨om,hom⟩:∃ a,a=x.o.most:=⟨_,rfl⟩
 obtain⟨ou,hou⟩:∃ a,a=x.o.r:=⟨_,rfl⟩
 have hov:x.o=⟨of,om,ou⟩:=by rw[hof,hom,hou]
 have Hov:=zd hov;clear hof hom hou hov;obtain⟨B,W,HB,HW,Sa⟩:=lX h;clear h
 go_enter func274,ntmps274
 go_wp2_with fail
 rw[←HB.out, ←HW.out];have sd:=Sa.out.drew;have re:=sd.row (k:=e) 1 rfl;have h0:At W.drew e 21 (.slice oa n cp)∧At W.drew e 19 (J E.obj)∧At W.drew e 0 (ptr A.P)∧At W.drew e 1 (J E.who):=⟨re.cell rfl,re.cell rfl,re.cell rfl,re.cell rfl⟩
 have SVa:=zd sd;clear sd re Sa;refine aP (by kernel_rfl) ?_;generalize W.drew=Va at SVa h0 ⊢
 refine aY [0,1,5,9,13,17] ?_
 repeat (refine ay _ rfl (by kernel_rfl) (fun _ _ _ h=>h) (fun w'=>by(try simp only[ag,ah,aj]);go_simp;try with_reducible rfl) ?_;try simp only[Act.put,ag,ah,aj,aF,aB,aC])
 refine aH ?_;refine cu (fun w'=>At w' e 21 (.slice oa n cp)∧At w' e 19 (J E.obj)∧At w' e 0 (ptr A.P)∧At w' e 1 (J E.who)) [2,3,4,6,7,8,10,11,12,14,15,16,18,19,20,21,22,23] [2,3,4,6,7,8,10,11,12,14,15,16,18,19,20] ?_
 repeat (refine aN _ rfl (by kernel_rfl) (fun _ _ _ h=>h) h0 (fun w' hS=>by(try dsimp only at hS);(try simp only[ag,ah,aj]);go_simp;try with_reducible rfl) ?_;try simp only[Act.put,ag,ah,aj,aF,aB,aC])
 refine bM ?_;refine aK 21 (by kernel_rfl) rfl (by rfl) fun K hK=>?_
 go_simp;refine((by rw[Hob.out];exact Az E.who hr ho hl:Does prog [ae A rs s] 164 #[ptr A.P,J E.who,J E.obj] (TR x.o) [ae A rs (dN s E.who 5 (o8 (o:Nat)))]).at0 SVa.out).mono ?_
 rintro er w1 ⟨rfl,s1⟩
 rw[show TR x.o=.agg #[J of,J om,Ju ou] by rw[Hov.out]];rw[←Hob.out]at s1;obtain⟨s2,Hs2,s1⟩:=az (s':=dN s E.who 5 (o8 E.obj)) s1;have s1:Scope S w0 w1 [ae A rs s2,aA tv (.slice oa n cp) A.P e (aV E.st.bz e) (rV rs E.r) E,aU (.slice oa n cp) 293 4 n (recs uU E.woken),bK B 0]:=s1;have re:=s1.row (k:=e) 1 rfl;have h1:At w1 e 21 (.slice oa n cp)∧At w1 e 19 (J E.obj)∧At w1 e 0 (ptr A.P)∧At w1 e 1 (J E.who):=⟨re.cell rfl,re.cell rfl,re.cell rfl,re.cell rfl⟩
 refine hK _ _ ⟨fun _=>h1,?_⟩;have S1:=zd s1;clear hK K h0 re s1 SVa
 try simp only[Act.put,ag,ah,aj,aF,aB,aC]
 refine dB [22] ?_
 repeat (refine aN _ rfl (by kernel_rfl) (fun _ _ _ h=>h) h1 (fun w' hS=>by(try simp only[ag,ah,aj]);go_simp;try with_reducible rfl) ?_;try simp only[Act.put,ag,ah,aj,aF,aB,aC])
 refine bM ?_;have s3:Scope S w0 (w1.alloc (.cells #[J E.obj,J of,J om,Ju ou] 293)) ([ae A rs s2,aA tv (.slice oa n cp) A.P e (aV E.st.bz e) (rV rs E.r) E,aU (.slice oa n cp) 293 4 n (recs uU E.woken),bK B 0]++[box w1.heap.size [J E.obj,J of,J om,Ju ou] 293]):=S1.out.box [J E.obj,J of,J om,Ju ou] 293;have re:=s3.row (k:=e) 1 rfl;have h2:(w1.alloc (.cells #[J E.obj,J of,J om,Ju ou] 293)).cell? ⟨e,21,none⟩=some (.slice oa n cp)∧(w1.alloc (.cells #[J E.obj,J of,J om,Ju ou] 293)).cell? ⟨e,19,none⟩=some (J E.obj)∧(w1.alloc (.cells #[J E.obj,J of,J om,Ju ou] 293)).cell? ⟨e,0,none⟩=some (ptr A.P)∧(w1.alloc (.cells #[J E.obj,J of,J om,Ju ou] 293)).cell? ⟨e,1,none⟩=some (J E.who):=⟨re.cell rfl,re.cell rfl,re.cell rfl,re.cell rfl⟩
 have S3:=zd s3;clear re s3 S1;refine aK 23 (by kernel_rfl) rfl (by rfl) fun K hK=>?_
 go_simp;refine hK _ _ ⟨fun _=>h2,?_⟩;clear hK K h1 h2
 try simp only[Act.put,ag,ah,aj,aF,aB,aC]
 refine dB [] (bH (by kernel_rfl) ?_);refine af 24 (by kernel_rfl) rfl (by rfl) fun K hK=>?_
 refine wp_append_lies _ _ _ _ rfl 0 293 i1 _ 4 32 underlying173 Hi1.out Hx0.out Hx1.out Hx2.out rfl (by omega) (.slice oa n cp) n (recs uU E.woken) (by rfl) (S3.out.jb 2 rfl) ⟨w1.heap.size,0,none⟩ 1 1 [J E.obj,J of,J om,Ju ou] (by rfl) (by rfl) (World.news_of_block (cs:=#[J E.obj,J of,J om,Ju ou]) (t:=293) (fr:=(0,0)) (heap_alloc_new w1 _)) (by simp[Value.oneCell'])
   (by have:=Hf.out;omega) (by have:=Hf.out;unfold maxLen;omega) (by have:=Hf.out;omega) (by have:=Hf.out;omega) (w1.heap.size+1) (by simp) ?_
 intro gg cap' w4 own gro hat hlt
 refine hK _ _ ?_;have s7:=Scope.appends (S3.out.front 2 rfl) own gro (hat.imp id (fun h=>h.trans (by simp)));have s8:Scope S w0 w4 ([ae A rs s2,aU (.slice (some ⟨gg,0,none⟩) (n+1) cap') 293 4 (n+1) (recs uU E.woken++[J E.obj,J of,J om,Ju ou])]++([aA tv (.slice oa n cp) A.P e (aV E.st.bz e) (rV rs E.r) E]++[bK B 0,box w1.heap.size [J E.obj,J of,J om,Ju ou] 293])):=s7.front 1 rfl |>.perm (List.Perm.cons _ (List.Perm.swap _ _ _)) |>.perm (by exact List.Perm.cons _ (List.Perm.swap _ _ _))
 have rP:=s8.row (k:=e) 2 rfl;have c21:=rP.cell (j:=21) rfl;have f21:=rP.free 21;have S8:=zd (Scope.au s8 21 (.slice (some ⟨gg,0,none⟩) (n+1) cap'));clear hK K own gro hat hlt S3 s7 s8 rP
 try simp only[Act.put,ag,ah,aj,aF,aB,aC]
 refine aY [25,26] ?_
 repeat (refine ay _ rfl (by kernel_rfl) (fun _ _ _ h=>h) (fun w'=>by(try simp only[ag,ah,aj]);go_simp;try with_reducible rfl) ?_;try simp only[Act.put,ag,ah,aj,aF,aB,aC])
 refine aH ?_;refine af 27 (by kernel_rfl) rfl (by rfl) fun K hK=>?_
 go_simp;refine hK _ _ ?_;clear hK K
 try simp only[Act.put,ag,ah,aj,aF,aB,aC]
 refine wpAny_done (by kernel_rfl) ?_ _;clear c21 f21;obtain⟨V5,hV5⟩:∃ V5,V5=w4.setCell ⟨e,21,none⟩ (.slice (some ⟨gg,0,none⟩) (n+1) cap'):=⟨_,rfl⟩
 have s8:=S8.out;rw[←hV5]at s8 ⊢
 have S9:Hid (Scope S w0 V5 [ae A rs s2,aA tv (.slice (some ⟨gg,0,none⟩) (n+1) cap') A.P e (aV E.st.bz e) (rV rs E.r) E,aU (.slice (some ⟨gg,0,none⟩) (n+1) cap') 293 4 (n+1) (recs uU E.woken++[J E.obj,J of,J om,Ju ou]),bK B 0]):=zd (Scope.drop (Bs:=[box w1.heap.size [J E.obj,J of,J om,Ju ou] 293]) (s8.perm (List.Perm.cons _ (List.Perm.swap _ _ _))));clear s8 hV5 S8;obtain⟨bb,hbb⟩:∃ bb,(E.link==0)=bb:=⟨_,rfl⟩
 have Hbb:=zd hbb
 cases bb
 ·have hO:fK s E A.sh=⟨dN s E.who 5 (o8 E.obj),{ E with woken:=E.woken++[(E.obj,⟨of,om,ou⟩)],obj:=E.link - 1,st:=.behind },false⟩:=by unfold fK rD;rw[HX.out,Hov.out,Hbb.out];rfl
  have HO:=zd hO;clear hO;have hg0:E.link≠0:=by simpa using hbb
  have hw1:IntKind.u64.wrap (E.link - 1)=E.link - 1:=by have:=Hu1.out;have:=Hu2.out;rw[IntKind.wrap_u64];omega
  have hw2:IntKind.i64.wrap (E.link - 1)=E.link - 1:=by have:=Hu1.out;have:=Hu2.out;rw[IntKind.wrap_i64];omega
  clear hg0;have rr:=S9.out.row (k:=e) 1 rfl;have c19:=rr.cell (j:=19) rfl;have c20:=rr.cell (j:=20) rfl;have f19:=rr.free 19;have q1:Scope S w0 V5 ([ae A rs s2]++([aA tv (.slice (some ⟨gg,0,none⟩) (n+1) cap') A.P e (aV E.st.bz e) (rV rs E.r) E]++[aU (.slice (some ⟨gg,0,none⟩) (n+1) cap') 293 4 (n+1) (recs uU E.woken++[J E.obj,J of,J om,Ju ou]),bK B 0])):=S9.out;have q2:=Scope.au q1 19 (J (E.link - 1));have Q3:=zd q2;clear rr q1 q2 S9
  go_wp2_with fail
  clear c19 c20 f19;obtain⟨V4,hV4⟩:∃ V4,V4=V5.setCell ⟨e,19,none⟩ (J (E.link - 1)):=⟨_,rfl⟩
  have q5:=Q3.out;rw[←hV4]at q5 ⊢
  have S6:Hid (Scope S w0 V4 [ae A rs s2,aA tv (.slice (some ⟨gg,0,none⟩) (n+1) cap') A.P e (aV E.st.bz e) (rV rs E.r) { E with obj:=E.link - 1 },aU (.slice (some ⟨gg,0,none⟩) (n+1) cap') 293 4 (n+1) (recs uU E.woken++[J E.obj,J of,J om,Ju ou]),bK B 0]):=zd q5;clear q5 hV4 Q3;refine((bW (P:=A.P) (nx:=(aV E.st.bz e)) (rv:=(rV rs E.r)) (E:={ E with obj:=E.link - 1 }) 267).fC S6.out).mono ?_
  rintro er w7 ⟨rfl,s8⟩
  have S9:Hid (Scope S w0 w7 [ae A rs s2,aA tv (.slice (some ⟨gg,0,none⟩) (n+1) cap') A.P e (aV 267 e) (rV rs E.r) { E with obj:=E.link - 1,st:=.behind },aU (.slice (some ⟨gg,0,none⟩) (n+1) cap') 293 4 (n+1) (recs uU E.woken++[J E.obj,J of,J om,Ju ou]),bK B 0]):=zd s8;clear s8 S6;obtain⟨b0,b1,b2,b3,f0,f1,f2,f3,Q4⟩:=iK (Xs:=[ae A rs s2,aA tv (.slice (some ⟨gg,0,none⟩) (n+1) cap') A.P e (aV 267 e) (rV rs E.r) { E with obj:=E.link - 1,st:=.behind },aU (.slice (some ⟨gg,0,none⟩) (n+1) cap') 293 4 (n+1) (recs uU E.woken++[J E.obj,J of,J om,Ju ou])]) (c:=0) (sv:=nS) (n:=0) (v:=0) S9.out
  go_wp2
  refine kz (Xs:=[ae A rs s2,aA tv (.slice (some ⟨gg,0,none⟩) (n+1) cap') A.P e (aV 267 e) (rV rs E.r) { E with obj:=E.link - 1,st:=.behind },aU (.slice (some ⟨gg,0,none⟩) (n+1) cap') 293 4 (n+1) (recs uU E.woken++[J E.obj,J of,J om,Ju ou])]) (d:=false) rfl Q4 (fun Vz z0 z1 z2 z3=>by simp[results,results274,go_sem,z0,z1,z2,z3]) rfl fun _ q5=>?_
  rw[HO.out];have hs2:=Hs2.out;subst hs2;rw[←DD (y:=(E.obj,⟨of,om,ou⟩)),show n+1=(E.woken++[(E.obj,(⟨of,om,ou⟩:Ob))]).length by rw[Hn0.out];simp]at q5
  exact Scope.GM (F:=fun wv=>[dA tv wv A.P rs e { E with woken:=E.woken++[(E.obj,⟨of,om,ou⟩)],obj:=E.link - 1,st:=.behind },rO wv (E.woken++[(E.obj,⟨of,om,ou⟩)])]) _ q5
 ·have hO:fK s E A.sh=⟨dN s E.who 5 (o8 E.obj),(dX { E with woken:=E.woken++[(E.obj,⟨of,om,ou⟩)] } A.sh),false⟩:=by unfold fK rD;rw[HX.out,Hov.out,Hbb.out];rfl
  have HO:=zd hO;clear hO;have rr:=S9.out.row (k:=e) 1 rfl;have c20:=rr.cell (j:=20) rfl;clear rr
  go_wp2_with fail
  clear c20;refine((sN (s:=s2) (aV E.st.bz e) H0s.out H1s.out).iY S9.out).mono ?_
  rintro er w10 ⟨rfl,s11⟩
  have S12:Hid (Scope S w0 w10 [ae A rs s2,dA tv (.slice (some ⟨gg,0,none⟩) (n+1) cap') A.P rs e (dX E A.sh),aU (.slice (some ⟨gg,0,none⟩) (n+1) cap') 293 4 (n+1) (recs uU E.woken++[J E.obj,J of,J om,Ju ou]),bK B 0]):=zd s11;clear s11 S9;obtain⟨b0,b1,b2,b3,f0,f1,f2,f3,Q4⟩:=iK (Xs:=[ae A rs s2,dA tv (.slice (some ⟨gg,0,none⟩) (n+1) cap') A.P rs e (dX E A.sh),aU (.slice (some ⟨gg,0,none⟩) (n+1) cap') 293 4 (n+1) (recs uU E.woken++[J E.obj,J of,J om,Ju ou])]) (c:=0) (sv:=nS) (n:=0) (v:=0) S12.out
  go_wp2
  refine kz (Xs:=[ae A rs s2,dA tv (.slice (some ⟨gg,0,none⟩) (n+1) cap') A.P rs e (dX E A.sh),aU (.slice (some ⟨gg,0,none⟩) (n+1) cap') 293 4 (n+1) (recs uU E.woken++[J E.obj,J of,J om,Ju ou])]) (d:=false) rfl Q4 (fun Vz z0 z1 z2 z3=>by simp[results,results274,go_sem,z0,z1,z2,z3]) rfl fun _ q5=>?_
  rw[HO.out];have hs2:=Hs2.out;subst hs2;rw[←DD (y:=(E.obj,⟨of,om,ou⟩)),show n+1=(E.woken++[(E.obj,(⟨of,om,ou⟩:Ob))]).length by rw[Hn0.out];simp]at q5
  exact Scope.GM (F:=fun wv=>[dA tv wv A.P rs e (dX { E with woken:=E.woken++[(E.obj,⟨of,om,ou⟩)] } A.sh),rO wv (E.woken++[(E.obj,⟨of,om,ou⟩)])]) _ q5
end
end Go.Proofs.YtjnbbmgbmiggbaaGreatDoor
