/- Lemmas for TopTries' card: package enq, second part. -/
import Derived.Test.YtjnbbmgbmiggbaaGreatDoorZ11
set_option linter.unusedSimpArgs false
set_option linter.unusedVariables false
set_option maxRecDepth 20000
set_option maxHeartbeats 4000000
namespace Go.Proofs.YtjnbbmgbmiggbaaGreatDoor
open Go Go.RowKit Go.Maps Go.Proofs.Tryz
structure EO where
 s:PS
 E:jQ
 c:Int
 d:Bool
def jQ.ri (E:jQ):Nat:=E.r.getD 0
def PS.wd (s:PS) (E:jQ):Int:=s.σ.num (bQ (E.ri:Nat))
def fJ (s:PS) (E:jQ) (nx:Tz):EO:=⟨{ s with σ:=s.σ.put E.who 1 (bQ (E.ri:Nat)) },{ E with w:=s.wd E,st:=cond (wst (s.wd E)==2) .lock nx },0,false⟩
section
variable {A:PA} {rs:List Nat} {s:PS} {e:Nat} {E:jQ} {r:Nat} {x:mO}
theorem II (now:Int) (hR:E.r=some E.ri) (hr:rs[E.ri]? =some r) (ho:s.ob[E.ri]? =some x) (hi:E.ri<1000000) (hu:dC (s.wd E)) (hl:s.σ.log.length≤1000000):Does prog [ae A rs s,aS A.P e (aV E.st.bz e) (rV rs E.r) E] 166 #[ptr e,J now] (bI (fJ s E .head).c (fJ s E .head).d) [ae A rs (fJ s E .head).s,mg A.P rs e (fJ s E .head).E]:=Does.ax fun S w0 w h=>by
 have hrv:rV rs E.r=ptr r:=by rw[hR];simp[rV,List.getD,hr]
 rw[show aS A.P e (aV E.st.bz e) (rV rs E.r) E=aS A.P e (aV E.st.bz e) (ptr r) E from by rw[hrv]]at h;have Hrv:=zd hrv;clear hrv;obtain⟨B,W,HB,HW,Sa⟩:=bV h;clear h
 go_enter func166,ntmps166
 go_wp2_with fail
 rw[←HB.out, ←HW.out];have sd:=Sa.out.drew;have re:=sd.row (k:=e) 1 rfl;have h0:At W.drew e 11 ((ptr r))∧At W.drew e 1 (J E.who):=⟨re.cell rfl,re.cell rfl⟩
 have Sd2:=zd sd;clear sd re Sa;refine aP (by kernel_rfl) ?_;generalize W.drew=V1 at Sd2 h0 ⊢
 refine aY [0,1,5] ?_
 repeat (refine ay _ rfl (by kernel_rfl) (fun _ _ _ h=>h) (fun w'=>by(try simp only[ag,ah,aj]);go_simp;try with_reducible rfl) ?_;try simp only[Act.put,ag,ah,aj,aF,aB,aC])
 refine aH ?_;refine bJ (fun w'=>At w' e 11 ((ptr r))∧At w' e 1 (J E.who)) [2,3,4,6,7,8] ?_
 repeat (refine aN _ rfl (by kernel_rfl) (fun _ _ _ h=>h) h0 (fun w' hS=>by(try dsimp only at hS);(try simp only[ag,ah,aj]);go_simp;try with_reducible rfl) ?_;try simp only[Act.put,ag,ah,aj,aF,aB,aC])
 refine bH (by kernel_rfl) ?_;refine af 9 (by kernel_rfl) rfl (by rfl) fun K hK=>?_
 go_simp;refine((nY hr ho hi hl E.who).at0 Sd2.out).mono ?_
 rintro er w3 ⟨rfl,s4⟩
 refine hK _ _ ?_;obtain⟨s5,Hs5,s4⟩:=az (s':={ s with σ:=s.σ.put E.who 1 (bQ (E.ri:Nat)) }) s4;have S6:Hid (Scope S w0 w3 [ae A rs s5,aS A.P e (aV E.st.bz e) (ptr r) E,bK B 0]):=zd s4;clear s4 Sd2 hK K h0
 try simp only[Act.put,ag,ah,aj,aF,aB,aC]
 have rr:=S6.out.row (k:=e) 1 rfl;have c12:=rr.cell (j:=12) rfl;have f12:=rr.free 12;have q7:Scope S w0 w3 ([ae A rs s5]++([aS A.P e (aV E.st.bz e) (ptr r) E]++[bK B 0])):=S6.out;have q8:=Scope.au q7 12 (Ju (s.σ.num (bQ (E.ri:Nat))));have Q9:=zd q8;clear rr q7 q8 S6;refine aY [10,11] ?_
 repeat (refine ay _ rfl (by kernel_rfl) (fun _ _ _ h=>h) (fun w'=>by(try simp only[ag,ah,aj]);go_simp;try with_reducible rfl) ?_;try simp only[Act.put,ag,ah,aj,aF,aB,aC])
 refine aH ?_;refine af 12 (by kernel_rfl) rfl (by rfl) fun K hK=>?_
 go_simp;refine hK _ _ ?_;clear hK K
 try simp only[Act.put,ag,ah,aj,aF,aB,aC]
 refine wpAny_done (by kernel_rfl) ?_ _;clear c12 f12;obtain⟨V10,hV10⟩:∃ V10,V10=w3.setCell ⟨e,12,none⟩ (Ju (s.σ.num (bQ (E.ri:Nat)))):=⟨_,rfl⟩
 have q11:=Q9.out;rw[←hV10]at q11 ⊢
 have S12:Hid (Scope S w0 V10 [ae A rs s5,aS A.P e (aV E.st.bz e) (ptr r) { E with w:=s.σ.num (bQ (E.ri:Nat)) },bK B 0]):=zd q11;clear q11 hV10 Q9;have rr:=S12.out.row (k:=e) 1 rfl;have c12:=rr.cell (j:=12) rfl;clear rr
 go_wp2_with fail
 clear c12;refine(iC (x:=s.σ.num (bQ (E.ri:Nat))) hu _).mono ?_
 rintro er wz ⟨rfl,hw⟩
 subst hw;obtain⟨bb,hbb⟩:∃ bb,(wst (s.σ.num (bQ (E.ri:Nat)))==2)=bb:=⟨_,rfl⟩
 cases bb
 ·have hO:fJ s E .head=⟨{ s with σ:=s.σ.put E.who 1 (bQ (E.ri:Nat)) },{ E with w:=s.σ.num (bQ (E.ri:Nat)),st:=.head },0,false⟩:=by unfold fJ;rw[show(wst (s.wd E)==2)=false from hbb];rfl
  have HO:=zd hO;clear hO
  go_wp2_with fail
  refine((cZ (P:=A.P) (nx:=(aV E.st.bz e)) (rv:=(ptr r)) (E:={ E with w:=s.σ.num (bQ (E.ri:Nat)) }) 190).fC S12.out).mono ?_
  rintro er w13 ⟨rfl,s14⟩
  have S15:Hid (Scope S w0 w13 [ae A rs s5,aS A.P e (aV 190 e) (ptr r) { E with w:=s.σ.num (bQ (E.ri:Nat)),st:=.head },bK B 0]):=zd s14;clear s14 S12;obtain⟨b0,b1,b2,b3,f0,f1,f2,f3,Q4⟩:=aI (c:=0) S15.out
  go_wp2
  refine aQ (d:=false) (by rw[HO.out]) Q4 (fun Vz z0 z1 z2 z3=>by simp[results,results166,go_sem,z0,z1,z2,z3]) rfl fun _ q5=>?_
  rw[HO.out];have hs5:=Hs5.out;subst hs5;rw[←Hrv.out]at q5
  exact q5
 ·have hO:fJ s E .head=⟨{ s with σ:=s.σ.put E.who 1 (bQ (E.ri:Nat)) },{ E with w:=s.σ.num (bQ (E.ri:Nat)),st:=.lock },0,false⟩:=by unfold fJ;rw[show(wst (s.wd E)==2)=true from hbb];rfl
  have HO:=zd hO;clear hO
  go_wp2_with fail
  refine((cZ (P:=A.P) (nx:=(aV E.st.bz e)) (rv:=(ptr r)) (E:={ E with w:=s.σ.num (bQ (E.ri:Nat)) }) 135).fC S12.out).mono ?_
  rintro er w16 ⟨rfl,s17⟩
  have S18:Hid (Scope S w0 w16 [ae A rs s5,aS A.P e (aV 135 e) (ptr r) { E with w:=s.σ.num (bQ (E.ri:Nat)),st:=.lock },bK B 0]):=zd s17;clear s17 S12;obtain⟨b0,b1,b2,b3,f0,f1,f2,f3,Q4⟩:=aI (c:=0) S18.out
  go_wp2
  refine aQ (d:=false) (by rw[HO.out]) Q4 (fun Vz z0 z1 z2 z3=>by simp[results,results166,go_sem,z0,z1,z2,z3]) rfl fun _ q5=>?_
  rw[HO.out];have hs5:=Hs5.out;subst hs5;rw[←Hrv.out]at q5
  exact q5
theorem xg (now:Int) (hR:E.r=some E.ri) (hr:rs[E.ri]? =some r) (ho:s.ob[E.ri]? =some x) (hi:E.ri<1000000) (hu:dC (s.wd E)) (hl:s.σ.log.length≤1000000):Does prog [ae A rs s,aS A.P e (aV E.st.bz e) (rV rs E.r) E] 228 #[ptr e,J now] (bI (fJ s E .headAgain).c (fJ s E .headAgain).d) [ae A rs (fJ s E .headAgain).s,mg A.P rs e (fJ s E .headAgain).E]:=Does.ax fun S w0 w h=>by
 have hrv:rV rs E.r=ptr r:=by rw[hR];simp[rV,List.getD,hr]
 rw[show aS A.P e (aV E.st.bz e) (rV rs E.r) E=aS A.P e (aV E.st.bz e) (ptr r) E from by rw[hrv]]at h;have Hrv:=zd hrv;clear hrv;obtain⟨B,W,HB,HW,Sa⟩:=bV h;clear h
 go_enter func228,ntmps228
 go_wp2_with fail
 rw[←HB.out, ←HW.out];have sd:=Sa.out.drew;have re:=sd.row (k:=e) 1 rfl;have h0:At W.drew e 11 ((ptr r))∧At W.drew e 1 (J E.who):=⟨re.cell rfl,re.cell rfl⟩
 have Sd2:=zd sd;clear sd re Sa;refine aP (by kernel_rfl) ?_;generalize W.drew=V1 at Sd2 h0 ⊢
 refine aY [0,1,5] ?_
 repeat (refine ay _ rfl (by kernel_rfl) (fun _ _ _ h=>h) (fun w'=>by(try simp only[ag,ah,aj]);go_simp;try with_reducible rfl) ?_;try simp only[Act.put,ag,ah,aj,aF,aB,aC])
 refine aH ?_;refine bJ (fun w'=>At w' e 11 ((ptr r))∧At w' e 1 (J E.who)) [2,3,4,6,7,8] ?_
 repeat (refine aN _ rfl (by kernel_rfl) (fun _ _ _ h=>h) h0 (fun w' hS=>by(try dsimp only at hS);(try simp only[ag,ah,aj]);go_simp;try with_reducible rfl) ?_;try simp only[Act.put,ag,ah,aj,aF,aB,aC])
 refine bH (by kernel_rfl) ?_;refine af 9 (by kernel_rfl) rfl (by rfl) fun K hK=>?_
 go_simp;refine((nY hr ho hi hl E.who).at0 Sd2.out).mono ?_
 rintro er w3 ⟨rfl,s4⟩
 refine hK _ _ ?_;obtain⟨s5,Hs5,s4⟩:=az (s':={ s with σ:=s.σ.put E.who 1 (bQ (E.ri:Nat)) }) s4;have S6:Hid (Scope S w0 w3 [ae A rs s5,aS A.P e (aV E.st.bz e) (ptr r) E,bK B 0]):=zd s4;clear s4 Sd2 hK K h0
 try simp only[Act.put,ag,ah,aj,aF,aB,aC]
 have rr:=S6.out.row (k:=e) 1 rfl;have c12:=rr.cell (j:=12) rfl;have f12:=rr.free 12;have q7:Scope S w0 w3 ([ae A rs s5]++([aS A.P e (aV E.st.bz e) (ptr r) E]++[bK B 0])):=S6.out;have q8:=Scope.au q7 12 (Ju (s.σ.num (bQ (E.ri:Nat))));have Q9:=zd q8;clear rr q7 q8 S6;refine aY [10,11] ?_
 repeat (refine ay _ rfl (by kernel_rfl) (fun _ _ _ h=>h) (fun w'=>by(try simp only[ag,ah,aj]);go_simp;try with_reducible rfl) ?_;try simp only[Act.put,ag,ah,aj,aF,aB,aC])
 refine aH ?_;refine af 12 (by kernel_rfl) rfl (by rfl) fun K hK=>?_
 go_simp;refine hK _ _ ?_;clear hK K
 try simp only[Act.put,ag,ah,aj,aF,aB,aC]
 refine wpAny_done (by kernel_rfl) ?_ _;clear c12 f12;obtain⟨V10,hV10⟩:∃ V10,V10=w3.setCell ⟨e,12,none⟩ (Ju (s.σ.num (bQ (E.ri:Nat)))):=⟨_,rfl⟩
 have q11:=Q9.out;rw[←hV10]at q11 ⊢
 have S12:Hid (Scope S w0 V10 [ae A rs s5,aS A.P e (aV E.st.bz e) (ptr r) { E with w:=s.σ.num (bQ (E.ri:Nat)) },bK B 0]):=zd q11;clear q11 hV10 Q9;have rr:=S12.out.row (k:=e) 1 rfl;have c12:=rr.cell (j:=12) rfl;clear rr
 go_wp2_with fail
 clear c12;refine(iC (x:=s.σ.num (bQ (E.ri:Nat))) hu _).mono ?_
 rintro er wz ⟨rfl,hw⟩
 subst hw;obtain⟨bb,hbb⟩:∃ bb,(wst (s.σ.num (bQ (E.ri:Nat)))==2)=bb:=⟨_,rfl⟩
 cases bb
 ·have hO:fJ s E .headAgain=⟨{ s with σ:=s.σ.put E.who 1 (bQ (E.ri:Nat)) },{ E with w:=s.σ.num (bQ (E.ri:Nat)),st:=.headAgain },0,false⟩:=by unfold fJ;rw[show(wst (s.wd E)==2)=false from hbb];rfl
  have HO:=zd hO;clear hO
  go_wp2_with fail
  refine((cZ (P:=A.P) (nx:=(aV E.st.bz e)) (rv:=(ptr r)) (E:={ E with w:=s.σ.num (bQ (E.ri:Nat)) }) 248).fC S12.out).mono ?_
  rintro er w13 ⟨rfl,s14⟩
  have S15:Hid (Scope S w0 w13 [ae A rs s5,aS A.P e (aV 248 e) (ptr r) { E with w:=s.σ.num (bQ (E.ri:Nat)),st:=.headAgain },bK B 0]):=zd s14;clear s14 S12;obtain⟨b0,b1,b2,b3,f0,f1,f2,f3,Q4⟩:=aI (c:=0) S15.out
  go_wp2
  refine aQ (d:=false) (by rw[HO.out]) Q4 (fun Vz z0 z1 z2 z3=>by simp[results,results228,go_sem,z0,z1,z2,z3]) rfl fun _ q5=>?_
  rw[HO.out];have hs5:=Hs5.out;subst hs5;rw[←Hrv.out]at q5
  exact q5
 ·have hO:fJ s E .headAgain=⟨{ s with σ:=s.σ.put E.who 1 (bQ (E.ri:Nat)) },{ E with w:=s.σ.num (bQ (E.ri:Nat)),st:=.lock },0,false⟩:=by unfold fJ;rw[show(wst (s.wd E)==2)=true from hbb];rfl
  have HO:=zd hO;clear hO
  go_wp2_with fail
  refine((cZ (P:=A.P) (nx:=(aV E.st.bz e)) (rv:=(ptr r)) (E:={ E with w:=s.σ.num (bQ (E.ri:Nat)) }) 135).fC S12.out).mono ?_
  rintro er w16 ⟨rfl,s17⟩
  have S18:Hid (Scope S w0 w16 [ae A rs s5,aS A.P e (aV 135 e) (ptr r) { E with w:=s.σ.num (bQ (E.ri:Nat)),st:=.lock },bK B 0]):=zd s17;clear s17 S12;obtain⟨b0,b1,b2,b3,f0,f1,f2,f3,Q4⟩:=aI (c:=0) S18.out
  go_wp2
  refine aQ (d:=false) (by rw[HO.out]) Q4 (fun Vz z0 z1 z2 z3=>by simp[results,results228,go_sem,z0,z1,z2,z3]) rfl fun _ q5=>?_
  rw[HO.out];have hs5:=Hs5.out;subst hs5;rw[←Hrv.out]at q5
  exact q5
end
def PS.len (s:PS) (i:Nat):Nat:=match s.ob[i]? with|some x=>x.cs.length|none=>0
theorem PS.tZ {s:PS} {i:Nat} {x:mO} (h:s.ob[i]? =some x):s.len i=x.cs.length:=by unfold PS.len;rw[h]
def mM (s:PS) (E:jQ):Bool:=decide (s.σ.num (jU (E.ri:Nat))≤iD E.w∧(s.len E.ri:Int)≤iD E.w - s.σ.num (jU (E.ri:Nat)))
def oI (s:PS) (E:jQ):PS:={ s with σ:=s.σ.put E.who 1 (jU (E.ri:Nat)) }
def jZ (s:PS) (E:jQ):EO:=⟨oI s E,{ E with st:=cond (mM s E) .seq (cond (wst E.w==1) .claim .begin) },0,false⟩
def dZ (s:PS) (E:jQ) (now:Int):EO:=cond (mM s E) ⟨oI s E,{ E with now:=now,st:=.seqAgain },0,false⟩ ⟨oI s E,{ E with st:=.word },0,false⟩
def qL (s:PS) (E:jQ):PS:={ s with σ:=s.σ.turn E.who (E.ri:Nat) 0 E.w }
def dO (s:PS) (E:jQ) (now:Int) (a b:Tz):EO:=cond (s.σ.turned (E.ri:Nat) 0 E.w) ⟨(qL s E).note now E.who (bD 0),{ E with st:=a },0,false⟩ ⟨qL s E,{ E with st:=b },0,false⟩
def BL (s:PS) (E:jQ):PS:={ s with σ:=s.σ.swap E.who (fB E.shard) E.top (CO E.obj) }
def kW (s:PS) (E:jQ):EO:=⟨BL s E,{ E with st:=cond (decide (s.σ.num (fB E.shard)=E.top)) .end' .topmost },0,false⟩
section
variable {A:PA} {rs:List Nat} {s:PS} {e:Nat} {E:jQ} {r:Nat} {x:mO}
theorem KD (now:Int) (hR:E.r=some E.ri) (hr:rs[E.ri]? =some r) (ho:s.ob[E.ri]? =some x) (hi:E.ri<1000000) (c8:x.cs.length≤1000) (hw:dC E.w) (hh:dC (s.σ.num (jU (E.ri:Nat)))) (hl:s.σ.log.length≤1000000):Does prog [ae A rs s,aS A.P e (aV E.st.bz e) (rV rs E.r) E] 190 #[ptr e,J now] (bI (jZ s E).c (jZ s E).d) [ae A rs (jZ s E).s,mg A.P rs e (jZ s E).E]:=Does.ax fun S w0 w h=>by
 have hrv:rV rs E.r=ptr r:=by rw[hR];simp[rV,List.getD,hr]
 rw[show aS A.P e (aV E.st.bz e) (rV rs E.r) E=aS A.P e (aV E.st.bz e) (ptr r) E from by rw[hrv]]at h;have Hrv:=zd hrv;clear hrv;obtain⟨B,W,HB,HW,Sa⟩:=bV h;clear h
 go_enter func190,ntmps190
 go_wp2_with fail
 rw[←HB.out, ←HW.out];have sd:=Sa.out.drew;have re:=sd.row (k:=e) 1 rfl;have h0:At W.drew e 11 ((ptr r))∧At W.drew e 1 (J E.who):=⟨re.cell rfl,re.cell rfl⟩
 have Sd2:=zd sd;clear sd re Sa;refine aP (by kernel_rfl) ?_;generalize W.drew=V1 at Sd2 h0 ⊢
 refine aY [0,4] ?_
 repeat (refine ay _ rfl (by kernel_rfl) (fun _ _ _ h=>h) (fun w'=>by(try simp only[ag,ah,aj]);go_simp;try with_reducible rfl) ?_;try simp only[Act.put,ag,ah,aj,aF,aB,aC])
 refine aH ?_;refine bJ (fun w'=>At w' e 11 ((ptr r))∧At w' e 1 (J E.who)) [1,2,3,5,6,7] ?_
 repeat (refine aN _ rfl (by kernel_rfl) (fun _ _ _ h=>h) h0 (fun w' hS=>by(try dsimp only at hS);(try simp only[ag,ah,aj]);go_simp;try with_reducible rfl) ?_;try simp only[Act.put,ag,ah,aj,aF,aB,aC])
 refine bH (by kernel_rfl) ?_;refine af 8 (by kernel_rfl) rfl (by rfl) fun K hK=>?_
 go_simp;refine((wQ hr ho hi hl E.who).at0 Sd2.out).mono ?_
 rintro er w3 ⟨rfl,s4⟩
 refine hK _ _ ?_;obtain⟨s5,Hs5,s4⟩:=az (s':=oI s E) s4;have S6:Hid (Scope S w0 w3 [ae A rs s5,aS A.P e (aV E.st.bz e) (ptr r) E,bK B 0]):=zd s4;clear s4 Sd2 hK K h0
 try simp only[Act.put,ag,ah,aj,aF,aB,aC]
 refine aY [9] ?_
 repeat (refine ay _ rfl (by kernel_rfl) (fun _ _ _ h=>h) (fun w'=>by(try simp only[ag,ah,aj]);go_simp;try with_reducible rfl) ?_;try simp only[Act.put,ag,ah,aj,aF,aB,aC])
 refine aH ?_;refine wpAny_done (by kernel_rfl) ?_ _
 go_wp2_with fail
 have sd:=S6.out.drew;have re:=sd.row (k:=e) 1 rfl;have h0:At w3.drew e 11 ((ptr r))∧At w3.drew e 12 (Ju E.w):=⟨re.cell rfl,re.cell rfl⟩
 have Sd8:=zd sd;clear sd re S6;refine aP (by kernel_rfl) ?_;generalize w3.drew=V7 at Sd8 h0 ⊢
 refine aY [0,4,8] ?_
 repeat (refine ay _ rfl (by kernel_rfl) (fun _ _ _ h=>h) (fun w'=>by(try simp only[ag,ah,aj]);go_simp;try with_reducible rfl) ?_;try simp only[Act.put,ag,ah,aj,aF,aB,aC])
 refine aH ?_;refine bJ (fun w'=>At w' e 11 ((ptr r))∧At w' e 12 (Ju E.w)) [1,2,3,5,6,7] ?_
 repeat (refine aN _ rfl (by kernel_rfl) (fun _ _ _ h=>h) h0 (fun w' hS=>by(try dsimp only at hS);(try simp only[ag,ah,aj]);go_simp;try with_reducible rfl) ?_;try simp only[Act.put,ag,ah,aj,aF,aB,aC])
 refine bH (by kernel_rfl) ?_;refine af 9 (by kernel_rfl) rfl (by rfl) fun K hK=>?_
 go_simp;refine((wU hr (by rw[Hs5.out];exact ho) c8 hw hh).at0 Sd8.out).mono ?_
 rintro er w9 ⟨rfl,s10⟩
 refine hK _ _ ?_;have S11:Hid (Scope S w0 w9 [ae A rs s5,aS A.P e (aV E.st.bz e) (ptr r) E,bK B 0]):=zd s10;clear s10 Sd8 hK K h0;obtain⟨bb,hbb⟩:∃ bb,decide (s.σ.num (jU (E.ri:Nat))≤iD E.w∧(x.cs.length:Int)≤iD E.w - s.σ.num (jU (E.ri:Nat)))=bb:=⟨_,rfl⟩
 rw[hbb];have Hbb:=zd hbb;clear hbb
 try simp only[Act.put,ag,ah,aj,aF,aB,aC]
 refine aY [10] ?_
 repeat (refine ay _ rfl (by kernel_rfl) (fun _ _ _ h=>h) (fun w'=>by(try simp only[ag,ah,aj]);go_simp;try with_reducible rfl) ?_;try simp only[Act.put,ag,ah,aj,aF,aB,aC])
 refine aH ?_;refine wpAny_done (by kernel_rfl) ?_ _
 cases bb
 ·have rr:=S11.out.row (k:=e) 1 rfl
  have c12:=rr.cell (j:=12) rfl;clear rr
  go_wp2_with fail
  clear c12;refine(iC hw _).mono ?_
  rintro er wz ⟨rfl,hz⟩
  subst hz;obtain⟨b2,hb2⟩:∃ b2,(wst E.w==1)=b2:=⟨_,rfl⟩
  cases b2
  ·have hO:jZ s E=⟨oI s E,{ E with st:=.begin },0,false⟩:=by unfold jZ;rw[(by unfold mM;rw[PS.tZ ho];exact Hbb.out:mM s E=false),hb2];rfl
   have HO:=zd hO;clear hO
   go_wp2_with fail
   refine((cZ (P:=A.P) (nx:=(aV E.st.bz e)) (rv:=(ptr r)) (E:=E) 211).fC S11.out).mono ?_
   rintro er w12 ⟨rfl,s13⟩
   have S14:Hid (Scope S w0 w12 [ae A rs s5,aS A.P e (aV 211 e) (ptr r) { E with st:=.begin },bK B 0]):=zd s13;clear s13 S11;obtain⟨b0,b1,b2,b3,f0,f1,f2,f3,Q4⟩:=aI (c:=0) S14.out
   go_wp2
   refine aQ (d:=false) (by rw[HO.out]) Q4 (fun Vz z0 z1 z2 z3=>by simp[results,results190,go_sem,z0,z1,z2,z3]) rfl fun _ q5=>?_
   rw[HO.out];have hs5:=Hs5.out;subst hs5;rw[←Hrv.out]at q5
   exact q5
  ·have hO:jZ s E=⟨oI s E,{ E with st:=.claim },0,false⟩:=by unfold jZ;rw[(by unfold mM;rw[PS.tZ ho];exact Hbb.out:mM s E=false),hb2];rfl
   have HO:=zd hO;clear hO
   go_wp2_with fail
   refine((cZ (P:=A.P) (nx:=(aV E.st.bz e)) (rv:=(ptr r)) (E:=E) 210).fC S11.out).mono ?_
   rintro er w15 ⟨rfl,s16⟩
   have S17:Hid (Scope S w0 w15 [ae A rs s5,aS A.P e (aV 210 e) (ptr r) { E with st:=.claim },bK B 0]):=zd s16;clear s16 S11;obtain⟨b0,b1,b2,b3,f0,f1,f2,f3,Q4⟩:=aI (c:=0) S17.out
   go_wp2
   refine aQ (d:=false) (by rw[HO.out]) Q4 (fun Vz z0 z1 z2 z3=>by simp[results,results190,go_sem,z0,z1,z2,z3]) rfl fun _ q5=>?_
   rw[HO.out];have hs5:=Hs5.out;subst hs5;rw[←Hrv.out]at q5
   exact q5
 ·have hO:jZ s E=⟨oI s E,{ E with st:=.seq },0,false⟩:=by unfold jZ;rw[(by unfold mM;rw[PS.tZ ho];exact Hbb.out:mM s E=true)];rfl
  have HO:=zd hO;clear hO
  go_wp2_with fail
  refine((cZ (P:=A.P) (nx:=(aV E.st.bz e)) (rv:=(ptr r)) (E:=E) 209).fC S11.out).mono ?_
  rintro er w18 ⟨rfl,s19⟩
  have S20:Hid (Scope S w0 w18 [ae A rs s5,aS A.P e (aV 209 e) (ptr r) { E with st:=.seq },bK B 0]):=zd s19;clear s19 S11;obtain⟨b0,b1,b2,b3,f0,f1,f2,f3,Q4⟩:=aI (c:=0) S20.out
  go_wp2
  refine aQ (d:=false) (by rw[HO.out]) Q4 (fun Vz z0 z1 z2 z3=>by simp[results,results190,go_sem,z0,z1,z2,z3]) rfl fun _ q5=>?_
  rw[HO.out];have hs5:=Hs5.out;subst hs5;rw[←Hrv.out]at q5
  exact q5
theorem xm (now:Int) (hR:E.r=some E.ri) (hr:rs[E.ri]? =some r) (ho:s.ob[E.ri]? =some x) (hi:E.ri<1000000) (c8:x.cs.length≤1000) (hw:dC E.w) (hh:dC (s.σ.num (jU (E.ri:Nat)))) (hl:s.σ.log.length≤1000000):Does prog [ae A rs s,aS A.P e (aV E.st.bz e) (rV rs E.r) E] 248 #[ptr e,J now] (bI (dZ s E now).c (dZ s E now).d) [ae A rs (dZ s E now).s,mg A.P rs e (dZ s E now).E]:=Does.ax fun S w0 w h=>by
 have hrv:rV rs E.r=ptr r:=by rw[hR];simp[rV,List.getD,hr]
 rw[show aS A.P e (aV E.st.bz e) (rV rs E.r) E=aS A.P e (aV E.st.bz e) (ptr r) E from by rw[hrv]]at h;have Hrv:=zd hrv;clear hrv;obtain⟨B,W,HB,HW,Sa⟩:=bV h;clear h
 go_enter func248,ntmps248
 go_wp2_with fail
 rw[←HB.out, ←HW.out];have sd:=Sa.out.drew;have re:=sd.row (k:=e) 1 rfl;have h0:At W.drew e 11 ((ptr r))∧At W.drew e 12 (Ju E.w)∧At W.drew e 1 (J E.who):=⟨re.cell rfl,re.cell rfl,re.cell rfl⟩
 have Sd2:=zd sd;clear sd re Sa;refine aP (by kernel_rfl) ?_;generalize W.drew=V1 at Sd2 h0 ⊢
 refine aY [0,4,8,12] ?_
 repeat (refine ay _ rfl (by kernel_rfl) (fun _ _ _ h=>h) (fun w'=>by(try simp only[ag,ah,aj]);go_simp;try with_reducible rfl) ?_;try simp only[Act.put,ag,ah,aj,aF,aB,aC])
 refine aH ?_;refine cu (fun w'=>At w' e 11 ((ptr r))∧At w' e 12 (Ju E.w)∧At w' e 1 (J E.who)) [1,2,3,5,6,7,9,10,11,13,14,15,16] [1,2,3,5,6,7,9,10,11,13,14,15] ?_
 repeat (refine aN _ rfl (by kernel_rfl) (fun _ _ _ h=>h) h0 (fun w' hS=>by(try dsimp only at hS);(try simp only[ag,ah,aj]);go_simp;try with_reducible rfl) ?_;try simp only[Act.put,ag,ah,aj,aF,aB,aC])
 refine bM ?_;refine aK 16 (by kernel_rfl) rfl (by rfl) fun K hK=>?_
 go_simp;refine((wQ hr ho hi hl E.who).at0 Sd2.out).mono ?_
 rintro er w3 ⟨rfl,s4⟩
 have re:=s4.row (k:=e) 1 rfl;have h1:At w3 e 11 ((ptr r))∧At w3 e 12 (Ju E.w)∧At w3 e 1 (J E.who):=⟨re.cell rfl,re.cell rfl,re.cell rfl⟩
 refine hK _ _ ⟨fun _=>h1,?_⟩;clear re;obtain⟨s5,Hs5,s4⟩:=az (s':=oI s E) s4;have S6:Hid (Scope S w0 w3 [ae A rs s5,aS A.P e (aV E.st.bz e) (ptr r) E,bK B 0]):=zd s4;clear s4 Sd2 hK K h0
 try simp only[Act.put,ag,ah,aj,aF,aB,aC]
 refine dB [] (bH (by kernel_rfl) ?_);clear h1;refine af 17 (by kernel_rfl) rfl (by rfl) fun K hK=>?_
 go_simp;refine((wU (s:=s5) hr (by rw[Hs5.out];exact ho) c8 hw hh).at0 S6.out).mono ?_
 rintro er w7 ⟨rfl,s8⟩
 refine hK _ _ ?_;have S9:Hid (Scope S w0 w7 [ae A rs s5,aS A.P e (aV E.st.bz e) (ptr r) E,bK B 0]):=zd s8;clear s8 S6 hK K;obtain⟨bb,hbb⟩:∃ bb,decide (s.σ.num (jU (E.ri:Nat))≤iD E.w∧(x.cs.length:Int)≤iD E.w - s.σ.num (jU (E.ri:Nat)))=bb:=⟨_,rfl⟩
 rw[hbb];have Hbb:=zd hbb;clear hbb
 try simp only[Act.put,ag,ah,aj,aF,aB,aC]
 refine aY [18] ?_
 repeat (refine ay _ rfl (by kernel_rfl) (fun _ _ _ h=>h) (fun w'=>by(try simp only[ag,ah,aj]);go_simp;try with_reducible rfl) ?_;try simp only[Act.put,ag,ah,aj,aF,aB,aC])
 refine aH ?_;refine wpAny_done (by kernel_rfl) ?_ _
 cases bb
 ·have hO:dZ s E now=⟨oI s E,{ E with st:=.word },0,false⟩:=by unfold dZ;rw[(by unfold mM;rw[PS.tZ ho];exact Hbb.out:mM s E=false)];rfl
  have HO:=zd hO;clear hO
  go_wp2_with fail
  refine((cZ (P:=A.P) (nx:=(aV E.st.bz e)) (rv:=(ptr r)) (E:=E) 166).fC S9.out).mono ?_
  rintro er w10 ⟨rfl,s11⟩
  have S12:Hid (Scope S w0 w10 [ae A rs s5,aS A.P e (aV 166 e) (ptr r) { E with st:=.word },bK B 0]):=zd s11;clear s11 S9;obtain⟨b0,b1,b2,b3,f0,f1,f2,f3,Q4⟩:=aI (c:=0) S12.out
  go_wp2
  refine aQ (d:=false) (by rw[HO.out]) Q4 (fun Vz z0 z1 z2 z3=>by simp[results,results248,go_sem,z0,z1,z2,z3]) rfl fun _ q5=>?_
  rw[HO.out];have hs5:=Hs5.out;subst hs5;rw[←Hrv.out]at q5
  exact q5
 ·have hO:dZ s E now=⟨oI s E,{ E with now:=now,st:=.seqAgain },0,false⟩:=by unfold dZ;rw[(by unfold mM;rw[PS.tZ ho];exact Hbb.out:mM s E=true)];rfl
  have HO:=zd hO;clear hO;have rr:=S9.out.row (k:=e) 1 rfl;have c14:=rr.cell (j:=14) rfl;have f14:=rr.free 14;have q13:Scope S w0 w7 ([ae A rs s5]++([aS A.P e (aV E.st.bz e) (ptr r) E]++[bK B 0])):=S9.out;have q14:=Scope.au q13 14 (J now);have Q15:=zd q14;clear rr q13 q14 S9
  go_wp2_with fail
  clear c14 f14;obtain⟨V16,hV16⟩:∃ V16,V16=w7.setCell ⟨e,14,none⟩ (J now):=⟨_,rfl⟩
  have q17:=Q15.out;rw[←hV16]at q17 ⊢
  have S18:Hid (Scope S w0 V16 [ae A rs s5,aS A.P e (aV E.st.bz e) (ptr r) { E with now:=now },bK B 0]):=zd q17;clear q17 hV16 Q15;refine((cZ (P:=A.P) (nx:=(aV E.st.bz e)) (rv:=(ptr r)) (E:={ E with now:=now }) 260).fC S18.out).mono ?_
  rintro er w19 ⟨rfl,s20⟩
  have S21:Hid (Scope S w0 w19 [ae A rs s5,aS A.P e (aV 260 e) (ptr r) { E with now:=now,st:=.seqAgain },bK B 0]):=zd s20;clear s20 S18;obtain⟨b0,b1,b2,b3,f0,f1,f2,f3,Q4⟩:=aI (c:=0) S21.out
  go_wp2
  refine aQ (d:=false) (by rw[HO.out]) Q4 (fun Vz z0 z1 z2 z3=>by simp[results,results248,go_sem,z0,z1,z2,z3]) rfl fun _ q5=>?_
  rw[HO.out];have hs5:=Hs5.out;subst hs5;rw[←Hrv.out]at q5
  exact q5
theorem F7 (now:Int) (hR:E.r=some E.ri) (hr:rs[E.ri]? =some r) (ho:s.ob[E.ri]? =some x) (hi:E.ri<1000000) (hw:dC E.w) (hwho:I64 E.who) (hn:s.pt.length<100000) (hl:s.σ.log.length≤1000000):Does prog [ae A rs s,aS A.P e (aV E.st.bz e) (rV rs E.r) E] 210 #[ptr e,J now] (bI (dO s E now .put .word).c (dO s E now .put .word).d) [ae A rs (dO s E now .put .word).s,mg A.P rs e (dO s E now .put .word).E]:=Does.ax fun S w0 w h=>by
 have hrv:rV rs E.r=ptr r:=by rw[hR];simp[rV,List.getD,hr]
 rw[show aS A.P e (aV E.st.bz e) (rV rs E.r) E=aS A.P e (aV E.st.bz e) (ptr r) E from by rw[hrv]]at h;have Hrv:=zd hrv;clear hrv;obtain⟨B,W,HB,HW,Sa⟩:=bV h;clear h
 go_enter func210,ntmps210
 go_wp2_with fail
 rw[←HB.out, ←HW.out];have sd:=Sa.out.drew;have re:=sd.row (k:=e) 1 rfl;have h0:At W.drew e 11 ((ptr r))∧At W.drew e 1 (J E.who)∧At W.drew e 12 (Ju E.w):=⟨re.cell rfl,re.cell rfl,re.cell rfl⟩
 have Sd2:=zd sd;clear sd re Sa;refine aP (by kernel_rfl) ?_;generalize W.drew=V1 at Sd2 h0 ⊢
 refine aY [0,4,8] ?_
 repeat (refine ay _ rfl (by kernel_rfl) (fun _ _ _ h=>h) (fun w'=>by(try simp only[ag,ah,aj]);go_simp;try with_reducible rfl) ?_;try simp only[Act.put,ag,ah,aj,aF,aB,aC])
 refine aH ?_;refine bJ (fun w'=>At w' e 11 ((ptr r))∧At w' e 1 (J E.who)∧At w' e 12 (Ju E.w)) [1,2,3,5,6,7,9,10,11] ?_
 repeat (refine aN _ rfl (by kernel_rfl) (fun _ _ _ h=>h) h0 (fun w' hS=>by(try dsimp only at hS);(try simp only[ag,ah,aj]);go_simp;try with_reducible rfl) ?_;try simp only[Act.put,ag,ah,aj,aF,aB,aC])
 refine bH (by kernel_rfl) ?_;refine af 12 (by kernel_rfl) rfl (by rfl) fun K hK=>?_
 go_simp;refine((uQ hr ho hi hl E.who E.w hw).at0 Sd2.out).mono ?_
 rintro er w3 ⟨rfl,s4⟩
 refine hK _ _ ?_;obtain⟨s5,Hs5,s4⟩:=az (s':=qL s E) s4;have S6:Hid (Scope S w0 w3 [ae A rs s5,aS A.P e (aV E.st.bz e) (ptr r) E,bK B 0]):=zd s4;clear s4 Sd2 hK K h0;obtain⟨bb,hbb⟩:∃ bb,s.σ.turned (E.ri:Nat) 0 E.w=bb:=⟨_,rfl⟩
 rw[hbb];have Hbb:=zd hbb;clear hbb
 try simp only[Act.put,ag,ah,aj,aF,aB,aC]
 refine aY [13] ?_
 repeat (refine ay _ rfl (by kernel_rfl) (fun _ _ _ h=>h) (fun w'=>by(try simp only[ag,ah,aj]);go_simp;try with_reducible rfl) ?_;try simp only[Act.put,ag,ah,aj,aF,aB,aC])
 refine aH ?_;refine wpAny_done (by kernel_rfl) ?_ _
 cases bb
 ·have hO:dO s E now .put .word=⟨qL s E,{ E with st:=.word },0,false⟩:=by unfold dO;rw[Hbb.out];rfl
  have HO:=zd hO;clear hO
  go_wp2_with fail
  refine((cZ (P:=A.P) (nx:=(aV E.st.bz e)) (rv:=(ptr r)) (E:=E) 166).fC S6.out).mono ?_
  rintro er w7 ⟨rfl,s8⟩
  have S9:Hid (Scope S w0 w7 [ae A rs s5,aS A.P e (aV 166 e) (ptr r) { E with st:=.word },bK B 0]):=zd s8;clear s8 S6;obtain⟨b0,b1,b2,b3,f0,f1,f2,f3,Q4⟩:=aI (c:=0) S9.out
  go_wp2
  refine aQ (d:=false) (by rw[HO.out]) Q4 (fun Vz z0 z1 z2 z3=>by simp[results,results210,go_sem,z0,z1,z2,z3]) rfl fun _ q5=>?_
  rw[HO.out];have hs5:=Hs5.out;subst hs5;rw[←Hrv.out]at q5
  exact q5
 ·have hO:dO s E now .put .word=⟨(qL s E).note now E.who (bD 0),{ E with st:=.put },0,false⟩:=by unfold dO;rw[Hbb.out];rfl
  have HO:=zd hO;clear hO
  go_wp2_with fail
  refine((pW (s:=s5) now 0 hwho (by rw[Hs5.out];exact hn)).iY S6.out).mono ?_
  rintro er w10 ⟨rfl,s11⟩
  obtain⟨s12,Hs12,s11⟩:=az (s':=(s5).note now E.who (bD 0)) s11;have S13:Hid (Scope S w0 w10 [ae A rs s12,aS A.P e (aV E.st.bz e) (ptr r) E,bK B 0]):=zd s11;clear s11 S6
  go_wp2_with fail
  refine((cZ (P:=A.P) (nx:=(aV E.st.bz e)) (rv:=(ptr r)) (E:=E) 230).fC S13.out).mono ?_
  rintro er w14 ⟨rfl,s15⟩
  have S16:Hid (Scope S w0 w14 [ae A rs s12,aS A.P e (aV 230 e) (ptr r) { E with st:=.put },bK B 0]):=zd s15;clear s15 S13;obtain⟨b0,b1,b2,b3,f0,f1,f2,f3,Q4⟩:=aI (c:=0) S16.out
  go_wp2
  refine aQ (d:=false) (by rw[HO.out]) Q4 (fun Vz z0 z1 z2 z3=>by simp[results,results210,go_sem,z0,z1,z2,z3]) rfl fun _ q5=>?_
  rw[HO.out];have hs12:=Hs12.out;subst hs12;have hs5:=Hs5.out;subst hs5;rw[←Hrv.out]at q5
  exact q5
theorem IX (now:Int) (hR:E.r=some E.ri) (hr:rs[E.ri]? =some r) (ho:s.ob[E.ri]? =some x) (hi:E.ri<1000000) (hw:dC E.w) (hwho:I64 E.who) (hn:s.pt.length<100000) (hl:s.σ.log.length≤1000000):Does prog [ae A rs s,aS A.P e (aV E.st.bz e) (rV rs E.r) E] 232 #[ptr e,J now] (bI (dO s E now .down .back).c (dO s E now .down .back).d) [ae A rs (dO s E now .down .back).s,mg A.P rs e (dO s E now .down .back).E]:=Does.ax fun S w0 w h=>by
 have hrv:rV rs E.r=ptr r:=by rw[hR];simp[rV,List.getD,hr]
 rw[show aS A.P e (aV E.st.bz e) (rV rs E.r) E=aS A.P e (aV E.st.bz e) (ptr r) E from by rw[hrv]]at h;have Hrv:=zd hrv;clear hrv;obtain⟨B,W,HB,HW,Sa⟩:=bV h;clear h
 go_enter func232,ntmps232
 go_wp2_with fail
 rw[←HB.out, ←HW.out];have sd:=Sa.out.drew;have re:=sd.row (k:=e) 1 rfl;have h0:At W.drew e 11 ((ptr r))∧At W.drew e 1 (J E.who)∧At W.drew e 12 (Ju E.w):=⟨re.cell rfl,re.cell rfl,re.cell rfl⟩
 have Sd2:=zd sd;clear sd re Sa;refine aP (by kernel_rfl) ?_;generalize W.drew=V1 at Sd2 h0 ⊢
 refine aY [0,4,8] ?_
 repeat (refine ay _ rfl (by kernel_rfl) (fun _ _ _ h=>h) (fun w'=>by(try simp only[ag,ah,aj]);go_simp;try with_reducible rfl) ?_;try simp only[Act.put,ag,ah,aj,aF,aB,aC])
 refine aH ?_;refine bJ (fun w'=>At w' e 11 ((ptr r))∧At w' e 1 (J E.who)∧At w' e 12 (Ju E.w)) [1,2,3,5,6,7,9,10,11] ?_
 repeat (refine aN _ rfl (by kernel_rfl) (fun _ _ _ h=>h) h0 (fun w' hS=>by(try dsimp only at hS);(try simp only[ag,ah,aj]);go_simp;try with_reducible rfl) ?_;try simp only[Act.put,ag,ah,aj,aF,aB,aC])
 refine bH (by kernel_rfl) ?_;refine af 12 (by kernel_rfl) rfl (by rfl) fun K hK=>?_
 go_simp;refine((uQ hr ho hi hl E.who E.w hw).at0 Sd2.out).mono ?_
 rintro er w3 ⟨rfl,s4⟩
 refine hK _ _ ?_;obtain⟨s5,Hs5,s4⟩:=az (s':=qL s E) s4;have S6:Hid (Scope S w0 w3 [ae A rs s5,aS A.P e (aV E.st.bz e) (ptr r) E,bK B 0]):=zd s4;clear s4 Sd2 hK K h0;obtain⟨bb,hbb⟩:∃ bb,s.σ.turned (E.ri:Nat) 0 E.w=bb:=⟨_,rfl⟩
 rw[hbb];have Hbb:=zd hbb;clear hbb
 try simp only[Act.put,ag,ah,aj,aF,aB,aC]
 refine aY [13] ?_
 repeat (refine ay _ rfl (by kernel_rfl) (fun _ _ _ h=>h) (fun w'=>by(try simp only[ag,ah,aj]);go_simp;try with_reducible rfl) ?_;try simp only[Act.put,ag,ah,aj,aF,aB,aC])
 refine aH ?_;refine wpAny_done (by kernel_rfl) ?_ _
 cases bb
 ·have hO:dO s E now .down .back=⟨qL s E,{ E with st:=.back },0,false⟩:=by unfold dO;rw[Hbb.out];rfl
  have HO:=zd hO;clear hO
  go_wp2_with fail
  refine((cZ (P:=A.P) (nx:=(aV E.st.bz e)) (rv:=(ptr r)) (E:=E) 253).fC S6.out).mono ?_
  rintro er w7 ⟨rfl,s8⟩
  have S9:Hid (Scope S w0 w7 [ae A rs s5,aS A.P e (aV 253 e) (ptr r) { E with st:=.back },bK B 0]):=zd s8;clear s8 S6;obtain⟨b0,b1,b2,b3,f0,f1,f2,f3,Q4⟩:=aI (c:=0) S9.out
  go_wp2
  refine aQ (d:=false) (by rw[HO.out]) Q4 (fun Vz z0 z1 z2 z3=>by simp[results,results232,go_sem,z0,z1,z2,z3]) rfl fun _ q5=>?_
  rw[HO.out];have hs5:=Hs5.out;subst hs5;rw[←Hrv.out]at q5
  exact q5
 ·have hO:dO s E now .down .back=⟨(qL s E).note now E.who (bD 0),{ E with st:=.down },0,false⟩:=by unfold dO;rw[Hbb.out];rfl
  have HO:=zd hO;clear hO
  go_wp2_with fail
  refine((pW (s:=s5) now 0 hwho (by rw[Hs5.out];exact hn)).iY S6.out).mono ?_
  rintro er w10 ⟨rfl,s11⟩
  obtain⟨s12,Hs12,s11⟩:=az (s':=(s5).note now E.who (bD 0)) s11;have S13:Hid (Scope S w0 w10 [ae A rs s12,aS A.P e (aV E.st.bz e) (ptr r) E,bK B 0]):=zd s11;clear s11 S6
  go_wp2_with fail
  refine((cZ (P:=A.P) (nx:=(aV E.st.bz e)) (rv:=(ptr r)) (E:=E) 254).fC S13.out).mono ?_
  rintro er w14 ⟨rfl,s15⟩
  have S16:Hid (Scope S w0 w14 [ae A rs s12,aS A.P e (aV 254 e) (ptr r) { E with st:=.down },bK B 0]):=zd s15;clear s15 S13;obtain⟨b0,b1,b2,b3,f0,f1,f2,f3,Q4⟩:=aI (c:=0) S16.out
  go_wp2
  refine aQ (d:=false) (by rw[HO.out]) Q4 (fun Vz z0 z1 z2 z3=>by simp[results,results232,go_sem,z0,z1,z2,z3]) rfl fun _ q5=>?_
  rw[HO.out];have hs12:=Hs12.out;subst hs12;have hs5:=Hs5.out;subst hs5;rw[←Hrv.out]at q5
  exact q5
theorem GH (now:Int) (hsh:I64 E.shard) (hl:s.σ.log.length≤1000000):Does prog [ae A rs s,aS A.P e (aV E.st.bz e) (rV rs E.r) E] 279 #[ptr e,J now] (bI (kW s E).c (kW s E).d) [ae A rs (kW s E).s,mg A.P rs e (kW s E).E]:=Does.ax fun S w0 w h=>by
 obtain⟨B,W,HB,HW,Sa⟩:=bV h;clear h
 go_enter func279,ntmps279
 go_wp2_with fail
 rw[←HB.out, ←HW.out];have sd:=Sa.out.drew;have re:=sd.row (k:=e) 1 rfl;have pc:=sd.bT 0 rfl;have h0:At W.drew e 0 (ptr A.P)∧At W.drew A.P 1 (ptr A.ib)∧At W.drew e 1 (J E.who)∧At W.drew e 6 (J E.shard)∧At W.drew e 15 (Ju E.top)∧At W.drew e 9 (J E.obj):=⟨re.cell rfl,pc.ib,re.cell rfl,re.cell rfl,re.cell rfl,re.cell rfl⟩
 have Sd2:=zd sd;clear sd re pc Sa;refine aP (by kernel_rfl) ?_;generalize W.drew=V1 at Sd2 h0 ⊢
 refine aY [0,7,11,15,19] ?_
 repeat (refine ay _ rfl (by kernel_rfl) (fun _ _ _ h=>h) (fun w'=>by(try simp only[ag,ah,aj]);go_simp;try with_reducible rfl) ?_;try simp only[Act.put,ag,ah,aj,aF,aB,aC])
 refine aH ?_;refine bJ (fun w'=>At w' e 0 (ptr A.P)∧At w' A.P 1 (ptr A.ib)∧At w' e 1 (J E.who)∧At w' e 6 (J E.shard)∧At w' e 15 (Ju E.top)∧At w' e 9 (J E.obj)) [1,2,3,4,5,6,8,9,10,12,13,14,16,17,18,20,21,22] ?_
 repeat (refine aN _ rfl (by kernel_rfl) (fun _ _ _ h=>h) h0 (fun w' hS=>by(try dsimp only at hS);(try simp only[ag,ah,aj]);go_simp;try with_reducible rfl) ?_;try simp only[Act.put,ag,ah,aj,aF,aB,aC])
 refine bH (by kernel_rfl) ?_;refine af 23 (by kernel_rfl) rfl (by rfl) fun K hK=>?_
 go_simp;refine((DU E.who E.shard E.top E.obj hsh hl).at0 Sd2.out).mono ?_
 rintro er w3 ⟨rfl,s4⟩
 refine hK _ _ ?_;obtain⟨s5,Hs5,s4⟩:=az (s':=BL s E) s4;have S6:Hid (Scope S w0 w3 [ae A rs s5,aS A.P e (aV E.st.bz e) (rV rs E.r) E,bK B 0]):=zd s4;clear s4 Sd2 hK K h0;obtain⟨bb,hbb⟩:∃ bb,decide (s.σ.num (fB E.shard)=E.top)=bb:=⟨_,rfl⟩
 rw[hbb];have Hbb:=zd hbb;clear hbb
 try simp only[Act.put,ag,ah,aj,aF,aB,aC]
 refine aY [24] ?_
 repeat (refine ay _ rfl (by kernel_rfl) (fun _ _ _ h=>h) (fun w'=>by(try simp only[ag,ah,aj]);go_simp;try with_reducible rfl) ?_;try simp only[Act.put,ag,ah,aj,aF,aB,aC])
 refine aH ?_;refine wpAny_done (by kernel_rfl) ?_ _
 cases bb
 ·have hO:kW s E=⟨BL s E,{ E with st:=.topmost },0,false⟩:=by unfold kW;rw[Hbb.out];rfl
  have HO:=zd hO;clear hO
  go_wp2_with fail
  refine((cZ (P:=A.P) (nx:=(aV E.st.bz e)) (rv:=(rV rs E.r)) (E:=E) 269).fC S6.out).mono ?_
  rintro er w7 ⟨rfl,s8⟩
  have S9:Hid (Scope S w0 w7 [ae A rs s5,aS A.P e (aV 269 e) (rV rs E.r) { E with st:=.topmost },bK B 0]):=zd s8;clear s8 S6;obtain⟨b0,b1,b2,b3,f0,f1,f2,f3,Q4⟩:=aI (c:=0) S9.out
  go_wp2
  refine aQ (d:=false) (by rw[HO.out]) Q4 (fun Vz z0 z1 z2 z3=>by simp[results,results279,go_sem,z0,z1,z2,z3]) rfl fun _ q5=>?_
  rw[HO.out];have hs5:=Hs5.out;subst hs5
  exact q5
 ·have hO:kW s E=⟨BL s E,{ E with st:=.end' },0,false⟩:=by unfold kW;rw[Hbb.out];rfl
  have HO:=zd hO;clear hO
  go_wp2_with fail
  refine((cZ (P:=A.P) (nx:=(aV E.st.bz e)) (rv:=(rV rs E.r)) (E:=E) 286).fC S6.out).mono ?_
  rintro er w10 ⟨rfl,s11⟩
  have S12:Hid (Scope S w0 w10 [ae A rs s5,aS A.P e (aV 286 e) (rV rs E.r) { E with st:=.end' },bK B 0]):=zd s11;clear s11 S6;obtain⟨b0,b1,b2,b3,f0,f1,f2,f3,Q4⟩:=aI (c:=0) S12.out
  go_wp2
  refine aQ (d:=false) (by rw[HO.out]) Q4 (fun Vz z0 z1 z2 z3=>by simp[results,results279,go_sem,z0,z1,z2,z3]) rfl fun _ q5=>?_
  rw[HO.out];have hs5:=Hs5.out;subst hs5
  exact q5
end
def qC (s:PS) (E:jQ):PS:={ s with σ:=(s.σ.put E.who 2 (ja E.shard)).set (ja E.shard) 0 }
def iL (s:PS) (E:jQ):EO:=cond E.found ⟨qC s E,{ E with st:=.look },0,false⟩ ⟨qC s E,E,5,true⟩
def uT (s:PS) (E:jQ):PS:={ s with σ:=s.σ.put E.who 1 gm }
def nX (s:PS) (E:jQ):EO:=⟨uT s E,{ E with q:=s.σ.num gm,st:=cond ((s.σ.num gm).tmod 2==1) .word .wordAgain },0,false⟩
def fF (s:PS) (E:jQ):EO:=cond (s.σ.num gm==E.q) ⟨(uT s E).note E.now E.who (bD 9),E,9,true⟩ ⟨uT s E,{ E with st:=.word },0,false⟩
def BX (s:PS) (E:jQ) (o:Nat):PS:={ s with σ:=s.σ.put E.who 5 (o8 (o:Nat)) }
def oG (s:PS) (E:jQ) (o:Nat):EO:=⟨BX s E o,{ E with r:=some o,st:=.word },0,false⟩
section
variable {A:PA} {rs:List Nat} {s:PS} {e:Nat} {E:jQ} {r:Nat} {x:mO}
theorem lD (nx rv:Value) (now c:Int) (hwho:I64 E.who) (hn:s.pt.length<100000):Does prog [ae A rs s,aS A.P e nx rv E] 91 #[ptr e,J now,J c] (bI c true) [ae A rs (s.note now E.who (bD c)),aS A.P e nx rv E]:=Does.ax fun S w0 w h=>by
 obtain⟨B,W,HB,HW,Sa⟩:=bV h;clear h
 go_enter func91,ntmps91
 go_wp2_with fail
 rw[←HB.out, ←HW.out];refine((pW (s:=s) now c hwho hn).iY Sa.out).mono ?_
 rintro er w1 ⟨rfl,s2⟩
 obtain⟨s3,Hs3,s2⟩:=az (s':=(s).note now E.who (bD c)) s2;have S4:Hid (Scope S w0 w1 [ae A rs s3,aS A.P e nx rv E,bK B 0]):=zd s2;clear s2 Sa
 go_wp2_with fail
 refine(rF e c w1).mono ?_
 rintro er w9 ⟨rfl,c9⟩
 have S9:Hid (Scope S w0 w9 [ae A rs s3,aS A.P e nx rv E,bK B 0]):=zd (S4.out.quiet c9);clear c9 S4;obtain⟨b0,b1,b2,b3,f0,f1,f2,f3,Q4⟩:=aI (c:=c) S9.out
 go_wp2
 refine aQ (d:=true) rfl Q4 (fun Vz z0 z1 z2 z3=>by simp[results,results91,go_sem,z0,z1,z2,z3]) rfl fun _ q5=>?_
 have hs3:=Hs3.out;subst hs3
 exact q5
theorem BC (now:Int) (hsh:I64 E.shard) (hl:s.σ.log.length≤1000000):Does prog [ae A rs s,aS A.P e (aV E.st.bz e) (rV rs E.r) E] 191 #[ptr e,J now] (bI (iL s E).c (iL s E).d) [ae A rs (iL s E).s,mg A.P rs e (iL s E).E]:=Does.ax fun S w0 w h=>by
 obtain⟨B,W,HB,HW,Sa⟩:=bV h;clear h
 go_enter func191,ntmps191
 go_wp2_with fail
 rw[←HB.out, ←HW.out];have sd:=Sa.out.drew;have re:=sd.row (k:=e) 1 rfl;have pc:=sd.bT 0 rfl;have h0:At W.drew e 0 (ptr A.P)∧At W.drew A.P 2 (ptr A.tb)∧At W.drew e 1 (J E.who)∧At W.drew e 6 (J E.shard):=⟨re.cell rfl,pc.tb,re.cell rfl,re.cell rfl⟩
 have Sd2:=zd sd;clear sd re pc Sa;refine aP (by kernel_rfl) ?_;generalize W.drew=V1 at Sd2 h0 ⊢
 refine aY [0,7,11] ?_
 repeat (refine ay _ rfl (by kernel_rfl) (fun _ _ _ h=>h) (fun w'=>by(try simp only[ag,ah,aj]);go_simp;try with_reducible rfl) ?_;try simp only[Act.put,ag,ah,aj,aF,aB,aC])
 refine aH ?_;refine bJ (fun w'=>At w' e 0 (ptr A.P)∧At w' A.P 2 (ptr A.tb)∧At w' e 1 (J E.who)∧At w' e 6 (J E.shard)) [1,2,3,4,5,6,8,9,10,12,13,14] ?_
 repeat (refine aN _ rfl (by kernel_rfl) (fun _ _ _ h=>h) h0 (fun w' hS=>by(try dsimp only at hS);(try simp only[ag,ah,aj]);go_simp;try with_reducible rfl) ?_;try simp only[Act.put,ag,ah,aj,aF,aB,aC])
 refine bH (by kernel_rfl) ?_;refine af 15 (by kernel_rfl) rfl (by rfl) fun K hK=>?_
 go_simp;refine((sF E.who E.shard hsh hl).at0 Sd2.out).mono ?_
 rintro er w3 ⟨rfl,s4⟩
 refine hK _ _ ?_;obtain⟨s5,Hs5,s4⟩:=az (s':=qC s E) s4;have S6:Hid (Scope S w0 w3 [ae A rs s5,aS A.P e (aV E.st.bz e) (rV rs E.r) E,bK B 0]):=zd s4;clear s4 Sd2 hK K h0
 try simp only[Act.put,ag,ah,aj,aF,aB,aC]
 refine wpAny_done (by kernel_rfl) ?_ _;obtain⟨fb,hfb⟩:∃ fb,E.found=fb:=⟨_,rfl⟩
 have Hfb:=zd hfb;clear hfb;have rr:=S6.out.row (k:=e) 1 rfl;have c10:w3.cell? ⟨e,10,none⟩=some (.bool fb):=by rw[←Hfb.out];exact rr.cell rfl
 clear rr
 cases fb
 ·have hO:iL s E=⟨qC s E,E,5,true⟩:=by unfold iL;rw[Hfb.out];rfl
  have HO:=zd hO;clear hO
  go_wp2_with fail
  refine(rF e 5 w3).mono ?_
  rintro er w7 ⟨rfl,c9⟩
  have S8:Hid (Scope S w0 w7 [ae A rs s5,aS A.P e (aV E.st.bz e) (rV rs E.r) E,bK B 0]):=zd (S6.out.quiet c9);clear c9 S6;obtain⟨b0,b1,b2,b3,f0,f1,f2,f3,Q4⟩:=aI (c:=5) S8.out
  go_wp2
  refine aQ (d:=true) (by rw[HO.out]) Q4 (fun Vz z0 z1 z2 z3=>by simp[results,results191,go_sem,z0,z1,z2,z3]) rfl fun _ q5=>?_
  rw[HO.out];have hs5:=Hs5.out;subst hs5
  exact q5
 ·have hO:iL s E=⟨qC s E,{ E with st:=.look },0,false⟩:=by unfold iL;rw[Hfb.out];rfl
  have HO:=zd hO;clear hO
  go_wp2_with fail
  refine((cZ (P:=A.P) (nx:=(aV E.st.bz e)) (rv:=(rV rs E.r)) (E:=E) 134).fC S6.out).mono ?_
  rintro er w10 ⟨rfl,s11⟩
  have S12:Hid (Scope S w0 w10 [ae A rs s5,aS A.P e (aV 134 e) (rV rs E.r) { E with st:=.look },bK B 0]):=zd s11;clear s11 S6;obtain⟨b0,b1,b2,b3,f0,f1,f2,f3,Q4⟩:=aI (c:=0) S12.out
  go_wp2
  refine aQ (d:=false) (by rw[HO.out]) Q4 (fun Vz z0 z1 z2 z3=>by simp[results,results191,go_sem,z0,z1,z2,z3]) rfl fun _ q5=>?_
  rw[HO.out];have hs5:=Hs5.out;subst hs5
  exact q5
theorem MG (now:Int) (hu:dC (s.σ.num gm)) (hl:s.σ.log.length≤1000000):Does prog [ae A rs s,aS A.P e (aV E.st.bz e) (rV rs E.r) E] 209 #[ptr e,J now] (bI (nX s E).c (nX s E).d) [ae A rs (nX s E).s,mg A.P rs e (nX s E).E]:=Does.ax fun S w0 w h=>by
 obtain⟨B,W,HB,HW,Sa⟩:=bV h;clear h
 go_enter func209,ntmps209
 go_wp2_with fail
 rw[←HB.out, ←HW.out];have sd:=Sa.out.drew;have re:=sd.row (k:=e) 1 rfl;have h0:At W.drew e 0 (ptr A.P)∧At W.drew e 1 (J E.who):=⟨re.cell rfl,re.cell rfl⟩
 have Sd2:=zd sd;clear sd re Sa;refine aP (by kernel_rfl) ?_;generalize W.drew=V1 at Sd2 h0 ⊢
 refine aY [0,1,5] ?_
 repeat (refine ay _ rfl (by kernel_rfl) (fun _ _ _ h=>h) (fun w'=>by(try simp only[ag,ah,aj]);go_simp;try with_reducible rfl) ?_;try simp only[Act.put,ag,ah,aj,aF,aB,aC])
 refine aH ?_;refine bJ (fun w'=>At w' e 0 (ptr A.P)∧At w' e 1 (J E.who)) [2,3,4,6,7,8] ?_
 repeat (refine aN _ rfl (by kernel_rfl) (fun _ _ _ h=>h) h0 (fun w' hS=>by(try dsimp only at hS);(try simp only[ag,ah,aj]);go_simp;try with_reducible rfl) ?_;try simp only[Act.put,ag,ah,aj,aF,aB,aC])
 refine bH (by kernel_rfl) ?_;refine af 9 (by kernel_rfl) rfl (by rfl) fun K hK=>?_
 go_simp;refine((rQ hl E.who).at0 Sd2.out).mono ?_
 rintro er w3 ⟨rfl,s4⟩
 refine hK _ _ ?_;obtain⟨s5,Hs5,s4⟩:=az (s':=uT s E) s4;have S6:Hid (Scope S w0 w3 [ae A rs s5,aS A.P e (aV E.st.bz e) (rV rs E.r) E,bK B 0]):=zd s4;clear s4 Sd2 hK K h0
 try simp only[Act.put,ag,ah,aj,aF,aB,aC]
 have rr:=S6.out.row (k:=e) 1 rfl;have c13:=rr.cell (j:=13) rfl;have f13:=rr.free 13;have q7:Scope S w0 w3 ([ae A rs s5]++([aS A.P e (aV E.st.bz e) (rV rs E.r) E]++[bK B 0])):=S6.out;have q8:=Scope.au q7 13 (Ju (s.σ.num gm));have Q9:=zd q8;clear rr q7 q8 S6;refine aY [10,11] ?_
 repeat (refine ay _ rfl (by kernel_rfl) (fun _ _ _ h=>h) (fun w'=>by(try simp only[ag,ah,aj]);go_simp;try with_reducible rfl) ?_;try simp only[Act.put,ag,ah,aj,aF,aB,aC])
 refine aH ?_;refine af 12 (by kernel_rfl) rfl (by rfl) fun K hK=>?_
 go_simp;refine hK _ _ ?_;clear hK K
 try simp only[Act.put,ag,ah,aj,aF,aB,aC]
 refine wpAny_done (by kernel_rfl) ?_ _;clear c13 f13;obtain⟨V10,hV10⟩:∃ V10,V10=w3.setCell ⟨e,13,none⟩ (Ju (s.σ.num gm)):=⟨_,rfl⟩
 have q11:=Q9.out;rw[←hV10]at q11 ⊢
 have S12:Hid (Scope S w0 V10 [ae A rs s5,aS A.P e (aV E.st.bz e) (rV rs E.r) { E with q:=s.σ.num gm },bK B 0]):=zd q11;clear q11 hV10 Q9;obtain⟨bb,hbb⟩:∃ bb,((s.σ.num gm).tmod 2==1)=bb:=⟨_,rfl⟩
 cases bb
 ·have hO:nX s E=⟨uT s E,{ E with q:=s.σ.num gm,st:=.wordAgain },0,false⟩:=by unfold nX;rw[hbb];rfl
  have HO:=zd hO;clear hO;have rr:=S12.out.row (k:=e) 1 rfl;have c13:=rr.cell (j:=13) rfl;clear rr
  go_wp2_with fail
  clear c13;refine((cZ (P:=A.P) (nx:=(aV E.st.bz e)) (rv:=(rV rs E.r)) (E:={ E with q:=s.σ.num gm }) 228).fC S12.out).mono ?_
  rintro er w13 ⟨rfl,s14⟩
  have S15:Hid (Scope S w0 w13 [ae A rs s5,aS A.P e (aV 228 e) (rV rs E.r) { E with q:=s.σ.num gm,st:=.wordAgain },bK B 0]):=zd s14;clear s14 S12;obtain⟨b0,b1,b2,b3,f0,f1,f2,f3,Q4⟩:=aI (c:=0) S15.out
  go_wp2
  refine aQ (d:=false) (by rw[HO.out]) Q4 (fun Vz z0 z1 z2 z3=>by simp[results,results209,go_sem,z0,z1,z2,z3]) rfl fun _ q5=>?_
  rw[HO.out];have hs5:=Hs5.out;subst hs5
  exact q5
 ·have hO:nX s E=⟨uT s E,{ E with q:=s.σ.num gm,st:=.word },0,false⟩:=by unfold nX;rw[hbb];rfl
  have HO:=zd hO;clear hO;have rr:=S12.out.row (k:=e) 1 rfl;have c13:=rr.cell (j:=13) rfl;clear rr
  go_wp2_with fail
  clear c13;refine((cZ (P:=A.P) (nx:=(aV E.st.bz e)) (rv:=(rV rs E.r)) (E:={ E with q:=s.σ.num gm }) 166).fC S12.out).mono ?_
  rintro er w16 ⟨rfl,s17⟩
  have S18:Hid (Scope S w0 w16 [ae A rs s5,aS A.P e (aV 166 e) (rV rs E.r) { E with q:=s.σ.num gm,st:=.word },bK B 0]):=zd s17;clear s17 S12;obtain⟨b0,b1,b2,b3,f0,f1,f2,f3,Q4⟩:=aI (c:=0) S18.out
  go_wp2
  refine aQ (d:=false) (by rw[HO.out]) Q4 (fun Vz z0 z1 z2 z3=>by simp[results,results209,go_sem,z0,z1,z2,z3]) rfl fun _ q5=>?_
  rw[HO.out];have hs5:=Hs5.out;subst hs5
  exact q5
theorem y9 (now:Int) (hwho:I64 E.who) (hn:s.pt.length<100000) (hl:s.σ.log.length≤1000000):Does prog [ae A rs s,aS A.P e (aV E.st.bz e) (rV rs E.r) E] 260 #[ptr e,J now] (bI (fF s E).c (fF s E).d) [ae A rs (fF s E).s,mg A.P rs e (fF s E).E]:=Does.ax fun S w0 w h=>by
 obtain⟨B,W,HB,HW,Sa⟩:=bV h;clear h
 go_enter func260,ntmps260
 go_wp2_with fail
 rw[←HB.out, ←HW.out];have sd:=Sa.out.drew;have re:=sd.row (k:=e) 1 rfl;have h0:At W.drew e 0 (ptr A.P)∧At W.drew e 1 (J E.who)∧At W.drew e 13 (Ju E.q):=⟨re.cell rfl,re.cell rfl,re.cell rfl⟩
 have Sd2:=zd sd;clear sd re Sa;refine aP (by kernel_rfl) ?_;generalize W.drew=V1 at Sd2 h0 ⊢
 refine aY [0,4,9] ?_
 repeat (refine ay _ rfl (by kernel_rfl) (fun _ _ _ h=>h) (fun w'=>by(try simp only[ag,ah,aj]);go_simp;try with_reducible rfl) ?_;try simp only[Act.put,ag,ah,aj,aF,aB,aC])
 refine aH ?_;refine cu (fun w'=>At w' e 0 (ptr A.P)∧At w' e 1 (J E.who)∧At w' e 13 (Ju E.q)) [1,2,3,5,6,7,10,11,12,8] [1,2,3,5,6,7,10,11,12] ?_
 repeat (refine aN _ rfl (by kernel_rfl) (fun _ _ _ h=>h) h0 (fun w' hS=>by(try dsimp only at hS);(try simp only[ag,ah,aj]);go_simp;try with_reducible rfl) ?_;try simp only[Act.put,ag,ah,aj,aF,aB,aC])
 refine bM ?_;refine aK 8 (by kernel_rfl) rfl (by rfl) fun K hK=>?_
 go_simp;refine((rQ hl E.who).at0 Sd2.out).mono ?_
 rintro er w3 ⟨rfl,s4⟩
 have re:=s4.row (k:=e) 1 rfl;have h1:At w3 e 0 (ptr A.P)∧At w3 e 1 (J E.who)∧At w3 e 13 (Ju E.q):=⟨re.cell rfl,re.cell rfl,re.cell rfl⟩
 refine hK _ _ ⟨fun _=>h1,?_⟩;clear re;obtain⟨s5,Hs5,s4⟩:=az (s':=uT s E) s4;have S6:Hid (Scope S w0 w3 [ae A rs s5,aS A.P e (aV E.st.bz e) (rV rs E.r) E,bK B 0]):=zd s4;clear s4 Sd2 hK K h0
 try simp only[Act.put,ag,ah,aj,aF,aB,aC]
 refine dB [] (bH (by kernel_rfl) ?_);clear h1;refine aY [13] ?_
 repeat (refine ay _ rfl (by kernel_rfl) (fun _ _ _ h=>h) (fun w'=>by(try simp only[ag,ah,aj]);go_simp;try with_reducible rfl) ?_;try simp only[Act.put,ag,ah,aj,aF,aB,aC])
 refine aH ?_;refine wpAny_done (by kernel_rfl) ?_ _;obtain⟨bb,hbb⟩:∃ bb,(s.σ.num gm==E.q)=bb:=⟨_,rfl⟩
 cases bb
 ·have hO:fF s E=⟨uT s E,{ E with st:=.word },0,false⟩:=by unfold fF;rw[hbb];rfl
  have HO:=zd hO;clear hO
  go_wp2_with fail
  refine((cZ (P:=A.P) (nx:=(aV E.st.bz e)) (rv:=(rV rs E.r)) (E:=E) 166).fC S6.out).mono ?_
  rintro er w7 ⟨rfl,s8⟩
  have S9:Hid (Scope S w0 w7 [ae A rs s5,aS A.P e (aV 166 e) (rV rs E.r) { E with st:=.word },bK B 0]):=zd s8;clear s8 S6;obtain⟨b0,b1,b2,b3,f0,f1,f2,f3,Q4⟩:=aI (c:=0) S9.out
  go_wp2
  refine aQ (d:=false) (by rw[HO.out]) Q4 (fun Vz z0 z1 z2 z3=>by simp[results,results260,go_sem,z0,z1,z2,z3]) rfl fun _ q5=>?_
  rw[HO.out];have hs5:=Hs5.out;subst hs5
  exact q5
 ·have hO:fF s E=⟨(uT s E).note E.now E.who (bD 9),E,9,true⟩:=by unfold fF;rw[hbb];rfl
  have HO:=zd hO;clear hO;have rr:=S6.out.row (k:=e) 1 rfl;have c14:=rr.cell (j:=14) rfl;clear rr
  go_wp2_with fail
  clear c14;refine((lD (s:=s5) (aV E.st.bz e) (rV rs E.r) E.now 9 hwho (by rw[Hs5.out];exact hn)).iY S6.out).mono ?_
  rintro er w10 ⟨rfl,s11⟩
  obtain⟨s12,Hs12,s11⟩:=az (s':=(s5).note E.now E.who (bD 9)) s11;have S13:Hid (Scope S w0 w10 [ae A rs s12,aS A.P e (aV E.st.bz e) (rV rs E.r) E,bK B 0]):=zd s11;clear s11 S6;obtain⟨b0,b1,b2,b3,f0,f1,f2,f3,Q4⟩:=aI (c:=9) S13.out
  go_wp2
  refine aQ (d:=true) (by rw[HO.out]) Q4 (fun Vz z0 z1 z2 z3=>by simp[results,results260,go_sem,z0,z1,z2,z3]) rfl fun _ q5=>?_
  rw[HO.out];have hs12:=Hs12.out;subst hs12;have hs5:=Hs5.out;subst hs5
  exact q5
theorem JX (now:Int) {o:Nat} (hob:E.obj=(o:Nat)) (hr:rs[o]? =some r) (ho:s.ob[o]? =some x) (hl:s.σ.log.length≤1000000):Does prog [ae A rs s,aS A.P e (aV E.st.bz e) (rV rs E.r) E] 134 #[ptr e,J now] (bI (oG s E o).c (oG s E o).d) [ae A rs (oG s E o).s,mg A.P rs e (oG s E o).E]:=Does.ax fun S w0 w h=>by
 have Hob:=zd hob;clear hob;obtain⟨B,W,HB,HW,Sa⟩:=bV h;clear h
 go_enter func134,ntmps134
 go_wp2_with fail
 rw[←HB.out, ←HW.out];have sd:=Sa.out.drew;have re:=sd.row (k:=e) 1 rfl;have h0:At W.drew e 0 (ptr A.P)∧At W.drew e 1 (J E.who)∧At W.drew e 9 (J E.obj):=⟨re.cell rfl,re.cell rfl,re.cell rfl⟩
 have Sd2:=zd sd;clear sd re Sa;refine aP (by kernel_rfl) ?_;generalize W.drew=V1 at Sd2 h0 ⊢
 refine aY [0,4,8] ?_
 repeat (refine ay _ rfl (by kernel_rfl) (fun _ _ _ h=>h) (fun w'=>by(try simp only[ag,ah,aj]);go_simp;try with_reducible rfl) ?_;try simp only[Act.put,ag,ah,aj,aF,aB,aC])
 refine aH ?_;refine bJ (fun w'=>At w' e 0 (ptr A.P)∧At w' e 1 (J E.who)∧At w' e 9 (J E.obj)) [1,2,3,5,6,7,9,10,11] ?_
 repeat (refine aN _ rfl (by kernel_rfl) (fun _ _ _ h=>h) h0 (fun w' hS=>by(try dsimp only at hS);(try simp only[ag,ah,aj]);go_simp;try with_reducible rfl) ?_;try simp only[Act.put,ag,ah,aj,aF,aB,aC])
 refine bH (by kernel_rfl) ?_;refine af 12 (by kernel_rfl) rfl (by rfl) fun K hK=>?_
 go_simp;refine((by rw[Hob.out];exact Az E.who hr ho hl:Does prog [ae A rs s] 164 #[ptr A.P,J E.who,J E.obj] (TR x.o) [ae A rs (BX s E o)]).at0 Sd2.out).mono ?_
 rintro er w3 ⟨rfl,s4⟩
 refine hK _ _ ?_;obtain⟨s5,Hs5,s4⟩:=az (s':=BX s E o) s4;have S6:Hid (Scope S w0 w3 [ae A rs s5,aS A.P e (aV E.st.bz e) (rV rs E.r) E,bK B 0]):=zd s4;clear s4 Sd2 hK K h0
 try simp only[Act.put,ag,ah,aj,aF,aB,aC]
 refine wpAny_done (by kernel_rfl) ?_ _
 go_wp2_with fail
 have hrv:rV rs (some o)=ptr r:=by simp[rV,List.getD,hr]
 have Hrv:=zd hrv;clear hrv;have sd:=S6.out.drew;have re:=sd.row (k:=e) 1 rfl;have h0:At w3.drew e 0 (ptr A.P)∧At w3.drew e 9 (J E.obj):=⟨re.cell rfl,re.cell rfl⟩
 have Sd8:=zd sd;clear sd re S6;refine aP (by kernel_rfl) ?_;generalize w3.drew=V7 at Sd8 h0 ⊢
 refine aY [0,1,5] ?_
 repeat (refine ay _ rfl (by kernel_rfl) (fun _ _ _ h=>h) (fun w'=>by(try simp only[ag,ah,aj]);go_simp;try with_reducible rfl) ?_;try simp only[Act.put,ag,ah,aj,aF,aB,aC])
 refine aH ?_;refine bJ (fun w'=>At w' e 0 (ptr A.P)∧At w' e 9 (J E.obj)) [2,3,4,6,7,8] ?_
 repeat (refine aN _ rfl (by kernel_rfl) (fun _ _ _ h=>h) h0 (fun w' hS=>by(try dsimp only at hS);(try simp only[ag,ah,aj]);go_simp;try with_reducible rfl) ?_;try simp only[Act.put,ag,ah,aj,aF,aB,aC])
 refine bH (by kernel_rfl) ?_;refine af 9 (by kernel_rfl) rfl (by rfl) fun K hK=>?_
 go_simp;refine((by rw[Hob.out];exact sS hr (by rw[Hs5.out];exact ho):Does prog [ae A rs s5] 165 #[ptr A.P,J E.obj] (ptr r) [ae A rs s5]).at0 Sd8.out).mono ?_
 rintro er w9 ⟨rfl,s10⟩
 refine hK _ _ ?_;have S11:Hid (Scope S w0 w9 [ae A rs s5,aS A.P e (aV E.st.bz e) (rV rs E.r) E,bK B 0]):=zd s10;clear s10 Sd8 hK K h0
 try simp only[Act.put,ag,ah,aj,aF,aB,aC]
 have rr:=S11.out.row (k:=e) 1 rfl;have c11:=rr.cell (j:=11) rfl;have f11:=rr.free 11;have q12:Scope S w0 w9 ([ae A rs s5]++([aS A.P e (aV E.st.bz e) (rV rs E.r) E]++[bK B 0])):=S11.out;have q13:=Scope.au q12 11 ((ptr r));have Q14:=zd q13;clear rr q12 q13 S11;refine aY [10,11] ?_
 repeat (refine ay _ rfl (by kernel_rfl) (fun _ _ _ h=>h) (fun w'=>by(try simp only[ag,ah,aj]);go_simp;try with_reducible rfl) ?_;try simp only[Act.put,ag,ah,aj,aF,aB,aC])
 refine aH ?_;refine af 12 (by kernel_rfl) rfl (by rfl) fun K hK=>?_
 go_simp;refine hK _ _ ?_;clear hK K
 try simp only[Act.put,ag,ah,aj,aF,aB,aC]
 refine wpAny_done (by kernel_rfl) ?_ _;clear c11 f11;obtain⟨V15,hV15⟩:∃ V15,V15=w9.setCell ⟨e,11,none⟩ ((ptr r)):=⟨_,rfl⟩
 have q16:=Q14.out;rw[←hV15]at q16 ⊢
 have S17:Hid (Scope S w0 V15 [ae A rs s5,aS A.P e (aV E.st.bz e) (ptr r) { E with r:=some o },bK B 0]):=zd q16;clear q16 hV15 Q14;have hO:oG s E o=⟨BX s E o,{ E with r:=some o,st:=.word },0,false⟩:=by rfl
 have HO:=zd hO;clear hO
 go_wp2_with fail
 refine((cZ (P:=A.P) (nx:=(aV E.st.bz e)) (rv:=(ptr r)) (E:={ E with r:=some o }) 166).fC S17.out).mono ?_
 rintro er w18 ⟨rfl,s19⟩
 have S20:Hid (Scope S w0 w18 [ae A rs s5,aS A.P e (aV 166 e) (ptr r) { E with r:=some o,st:=.word },bK B 0]):=zd s19;clear s19 S17;obtain⟨b0,b1,b2,b3,f0,f1,f2,f3,Q4⟩:=aI (c:=0) S20.out
 go_wp2
 refine aQ (d:=false) (by rw[HO.out]) Q4 (fun Vz z0 z1 z2 z3=>by simp[results,results134,go_sem,z0,z1,z2,z3]) rfl fun _ q5=>?_
 rw[HO.out];have hs5:=Hs5.out;subst hs5;rw[←Hrv.out]at q5
 exact q5
end
def TW (E:jQ):Pk:=⟨E.c.flow,E.c.a,E.c.b⟩
def fQ (s:PS) (E:jQ) (n:Nat) (x:mO):PS:={ s with σ:=s.σ.put E.who 6 (cellL (E.ri:Nat) (ix (iD E.w) n)),ob:=s.ob.set E.ri ⟨x.o,x.cs.set (ix (iD E.w) n) (TW E)⟩ }
def jq (s:PS) (E:jQ) (n:Nat):PS:={ s with σ:=(s.σ.put E.who 2 (lK (E.ri:Nat) (ix (iD E.w) n))).set (lK (E.ri:Nat) (ix (iD E.w) n)) (IntKind.u64.wrap (iD E.w+1)) }
section
variable {A:PA} {rs:List Nat} {s:PS} {e:Nat} {E:jQ} {r:Nat} {x:mO}
theorem Ar (nx:Value) (hw:dC E.w) (hcu:dC (iD E.w)) (hr:rs[E.ri]? =some r) (ho:s.ob[E.ri]? =some x) (hi:E.ri<1000000) (c0:0<x.cs.length) (c8:x.cs.length≤1000) (hl:s.σ.log.length≤1000000):Does prog [ae A rs s,aS A.P e nx (ptr r) E] 250 #[ptr e] (.tuple #[]) [ae A rs (fQ s E x.cs.length x),aS A.P e nx (ptr r) E]:=Does.ax fun S w0 w h=>by
 have Sa:=zd h;clear h
 go_enter func250,ntmps250
 go_wp2_with fail
 have sd:=Sa.out.drew;have re:=sd.row (k:=e) 1 rfl;have h0:At w.drew e 11 ((ptr r))∧At w.drew e 1 (J E.who)∧At w.drew e 12 (Ju E.w)∧At w.drew e 3 (J E.c.flow)∧At w.drew e 4 (J E.c.a)∧At w.drew e 5 (J E.c.b):=⟨re.cell rfl,re.cell rfl,re.cell rfl,re.cell rfl,re.cell rfl,re.cell rfl⟩
 have Sd2:=zd sd;clear sd re Sa;refine aP (by kernel_rfl) ?_;generalize w.drew=V1 at Sd2 h0 ⊢
 refine aY [0,4,8,13,18,23] ?_
 repeat (refine ay _ rfl (by kernel_rfl) (fun _ _ _ h=>h) (fun w'=>by(try simp only[ag,ah,aj]);go_simp;try with_reducible rfl) ?_;try simp only[Act.put,ag,ah,aj,aF,aB,aC])
 refine aH ?_;refine cu (fun w'=>At w' e 11 ((ptr r))∧At w' e 1 (J E.who)∧At w' e 12 (Ju E.w)∧At w' e 3 (J E.c.flow)∧At w' e 4 (J E.c.a)∧At w' e 5 (J E.c.b)) [1,2,3,5,6,7,9,10,11,14,15,16,17,19,20,21,22,24,25,26,27,28,12] [1,2,3,5,6,7,9,10,11,14,15,16,17,19,20,21,22,24,25,26,27,28] ?_
 repeat (refine aN _ rfl (by kernel_rfl) (fun _ _ _ h=>h) h0 (fun w' hS=>by(try dsimp only at hS);(try simp only[ag,ah,aj]);go_simp;try with_reducible rfl) ?_;try simp only[Act.put,ag,ah,aj,aF,aB,aC])
 refine bM ?_;refine aK 12 (by kernel_rfl) rfl (by rfl) fun K hK=>?_
 go_simp;refine((iw hw) _).mono ?_
 rintro er w3 ⟨rfl,hw⟩
 subst hw;refine hK _ _ ⟨fun _=>h0,?_⟩;clear hK K h0
 try simp only[Act.put,ag,ah,aj,aF,aB,aC]
 refine dB [] (bH (by kernel_rfl) ?_);refine af 29 (by kernel_rfl) rfl (by rfl) fun K hK=>?_
 go_simp;refine((Ht hr ho hi hl c0 c8 E.who (iD E.w) (TW E) hcu).at0 Sd2.out).mono ?_
 rintro er w4 ⟨rfl,s5⟩
 refine hK _ _ ?_;obtain⟨s6,Hs6,s5⟩:=az (s':=fQ s E x.cs.length x) s5;have S7:Hid (Scope S w0 w4 [ae A rs s6,aS A.P e nx (ptr r) E]):=zd s5;clear s5 Sd2 hK K
 try simp only[Act.put,ag,ah,aj,aF,aB,aC]
 refine wpAny_done (by kernel_rfl) ?_ _
 go_wp2
 go_end0
 have hs6:=Hs6.out;subst hs6
 exact Ends.mk [] S7.out
theorem MZ (now:Int) (hR:E.r=some E.ri) (hr:rs[E.ri]? =some r) (ho:s.ob[E.ri]? =some x) (hi:E.ri<1000000) (hw:dC E.w) (hcu:dC (iD E.w)) (c0:0<x.cs.length) (c8:x.cs.length≤1000) (hl:s.σ.log.length≤1000000):Does prog [ae A rs s,aS A.P e (aV E.st.bz e) (rV rs E.r) E] 230 #[ptr e,J now] (bI ((⟨fQ s E x.cs.length x,{ E with st:=.show' },0,false⟩:EO)).c ((⟨fQ s E x.cs.length x,{ E with st:=.show' },0,false⟩:EO)).d) [ae A rs ((⟨fQ s E x.cs.length x,{ E with st:=.show' },0,false⟩:EO)).s,mg A.P rs e ((⟨fQ s E x.cs.length x,{ E with st:=.show' },0,false⟩:EO)).E]:=Does.ax fun S w0 w h=>by
 have hrv:rV rs E.r=ptr r:=by rw[hR];simp[rV,List.getD,hr]
 rw[show aS A.P e (aV E.st.bz e) (rV rs E.r) E=aS A.P e (aV E.st.bz e) (ptr r) E from by rw[hrv]]at h;have Hrv:=zd hrv;clear hrv;obtain⟨B,W,HB,HW,Sa⟩:=bV h;clear h
 go_enter func230,ntmps230
 go_wp2_with fail
 rw[←HB.out, ←HW.out];refine((Ar (aV E.st.bz e) hw hcu hr ho hi c0 c8 hl).iY Sa.out).mono ?_
 rintro er w1 ⟨rfl,s2⟩
 obtain⟨s3,Hs3,s2⟩:=az (s':=fQ s E x.cs.length x) s2;have S4:Hid (Scope S w0 w1 [ae A rs s3,aS A.P e (aV E.st.bz e) (ptr r) E,bK B 0]):=zd s2;clear s2 Sa
 go_wp2_with fail
 refine((cZ (P:=A.P) (nx:=(aV E.st.bz e)) (rv:=(ptr r)) (E:=E) 251).fC S4.out).mono ?_
 rintro er w5 ⟨rfl,s6⟩
 have S7:Hid (Scope S w0 w5 [ae A rs s3,aS A.P e (aV 251 e) (ptr r) { E with st:=.show' },bK B 0]):=zd s6;clear s6 S4;obtain⟨b0,b1,b2,b3,f0,f1,f2,f3,Q4⟩:=aI (c:=0) S7.out
 go_wp2
 refine aQ (d:=false) rfl Q4 (fun Vz z0 z1 z2 z3=>by simp[results,results230,go_sem,z0,z1,z2,z3]) rfl fun _ q5=>?_
 have hs3:=Hs3.out;subst hs3;rw[←Hrv.out]at q5
 exact q5
theorem Kt (now:Int) (hR:E.r=some E.ri) (hr:rs[E.ri]? =some r) (ho:s.ob[E.ri]? =some x) (hi:E.ri<1000000) (hw:dC E.w) (hcu:dC (iD E.w)) (c0:0<x.cs.length) (c8:x.cs.length≤1000) (hl:s.σ.log.length≤1000000):Does prog [ae A rs s,aS A.P e (aV E.st.bz e) (rV rs E.r) E] 254 #[ptr e,J now] (bI ((⟨fQ s E x.cs.length x,{ E with st:=.shown },0,false⟩:EO)).c ((⟨fQ s E x.cs.length x,{ E with st:=.shown },0,false⟩:EO)).d) [ae A rs ((⟨fQ s E x.cs.length x,{ E with st:=.shown },0,false⟩:EO)).s,mg A.P rs e ((⟨fQ s E x.cs.length x,{ E with st:=.shown },0,false⟩:EO)).E]:=Does.ax fun S w0 w h=>by
 have hrv:rV rs E.r=ptr r:=by rw[hR];simp[rV,List.getD,hr]
 rw[show aS A.P e (aV E.st.bz e) (rV rs E.r) E=aS A.P e (aV E.st.bz e) (ptr r) E from by rw[hrv]]at h;have Hrv:=zd hrv;clear hrv;obtain⟨B,W,HB,HW,Sa⟩:=bV h;clear h
 go_enter func254,ntmps254
 go_wp2_with fail
 rw[←HB.out, ←HW.out];refine((Ar (aV E.st.bz e) hw hcu hr ho hi c0 c8 hl).iY Sa.out).mono ?_
 rintro er w1 ⟨rfl,s2⟩
 obtain⟨s3,Hs3,s2⟩:=az (s':=fQ s E x.cs.length x) s2;have S4:Hid (Scope S w0 w1 [ae A rs s3,aS A.P e (aV E.st.bz e) (ptr r) E,bK B 0]):=zd s2;clear s2 Sa
 go_wp2_with fail
 refine((cZ (P:=A.P) (nx:=(aV E.st.bz e)) (rv:=(ptr r)) (E:=E) 264).fC S4.out).mono ?_
 rintro er w5 ⟨rfl,s6⟩
 have S7:Hid (Scope S w0 w5 [ae A rs s3,aS A.P e (aV 264 e) (ptr r) { E with st:=.shown },bK B 0]):=zd s6;clear s6 S4;obtain⟨b0,b1,b2,b3,f0,f1,f2,f3,Q4⟩:=aI (c:=0) S7.out
 go_wp2
 refine aQ (d:=false) rfl Q4 (fun Vz z0 z1 z2 z3=>by simp[results,results254,go_sem,z0,z1,z2,z3]) rfl fun _ q5=>?_
 have hs3:=Hs3.out;subst hs3;rw[←Hrv.out]at q5
 exact q5
theorem Kz (now:Int) (hR:E.r=some E.ri) (hr:rs[E.ri]? =some r) (ho:s.ob[E.ri]? =some x) (hi:E.ri<1000000) (hw:dC E.w) (hcu:dC (iD E.w)) (c0:0<x.cs.length) (c8:x.cs.length≤1000) (hl:s.σ.log.length≤1000000):Does prog [ae A rs s,aS A.P e (aV E.st.bz e) (rV rs E.r) E] 251 #[ptr e,J now] (bI ((⟨jq s E x.cs.length,E,0,true⟩:EO)).c ((⟨jq s E x.cs.length,E,0,true⟩:EO)).d) [ae A rs ((⟨jq s E x.cs.length,E,0,true⟩:EO)).s,mg A.P rs e ((⟨jq s E x.cs.length,E,0,true⟩:EO)).E]:=Does.ax fun S w0 w h=>by
 have hrv:rV rs E.r=ptr r:=by rw[hR];simp[rV,List.getD,hr]
 rw[show aS A.P e (aV E.st.bz e) (rV rs E.r) E=aS A.P e (aV E.st.bz e) (ptr r) E from by rw[hrv]]at h;have Hrv:=zd hrv;clear hrv;obtain⟨B,W,HB,HW,Sa⟩:=bV h;clear h
 go_enter func251,ntmps251
 go_wp2_with fail
 rw[←HB.out, ←HW.out];have sd:=Sa.out.drew;have re:=sd.row (k:=e) 1 rfl;have h0:At W.drew e 11 ((ptr r))∧At W.drew e 1 (J E.who)∧At W.drew e 12 (Ju E.w):=⟨re.cell rfl,re.cell rfl,re.cell rfl⟩
 have Sd2:=zd sd;clear sd re Sa;refine aP (by kernel_rfl) ?_;generalize W.drew=V1 at Sd2 h0 ⊢
 refine aY [0,4,8] ?_
 repeat (refine ay _ rfl (by kernel_rfl) (fun _ _ _ h=>h) (fun w'=>by(try simp only[ag,ah,aj]);go_simp;try with_reducible rfl) ?_;try simp only[Act.put,ag,ah,aj,aF,aB,aC])
 refine aH ?_;refine cu (fun w'=>At w' e 11 ((ptr r))∧At w' e 1 (J E.who)∧At w' e 12 (Ju E.w)) [1,2,3,5,6,7,9,10,11,12] [1,2,3,5,6,7,9,10,11] ?_
 repeat (refine aN _ rfl (by kernel_rfl) (fun _ _ _ h=>h) h0 (fun w' hS=>by(try dsimp only at hS);(try simp only[ag,ah,aj]);go_simp;try with_reducible rfl) ?_;try simp only[Act.put,ag,ah,aj,aF,aB,aC])
 refine bM ?_;refine aK 12 (by kernel_rfl) rfl (by rfl) fun K hK=>?_
 go_simp;refine((iw hw) _).mono ?_
 rintro er w3 ⟨rfl,hw⟩
 subst hw;refine hK _ _ ⟨fun _=>h0,?_⟩;clear hK K h0
 try simp only[Act.put,ag,ah,aj,aF,aB,aC]
 refine dB [] (bH (by kernel_rfl) ?_);refine af 13 (by kernel_rfl) rfl (by rfl) fun K hK=>?_
 go_simp;refine((wF hr ho hi hl c0 c8 E.who (iD E.w) hcu).at0 Sd2.out).mono ?_
 rintro er w4 ⟨rfl,s5⟩
 refine hK _ _ ?_;obtain⟨s6,Hs6,s5⟩:=az (s':=jq s E x.cs.length) s5;have S7:Hid (Scope S w0 w4 [ae A rs s6,aS A.P e (aV E.st.bz e) (ptr r) E,bK B 0]):=zd s5;clear s5 Sd2 hK K
 try simp only[Act.put,ag,ah,aj,aF,aB,aC]
 refine wpAny_done (by kernel_rfl) ?_ _
 go_wp2_with fail
 refine(rF e 0 w4).mono ?_
 rintro er w8 ⟨rfl,c10⟩
 have S9:Hid (Scope S w0 w8 [ae A rs s6,aS A.P e (aV E.st.bz e) (ptr r) E,bK B 0]):=zd (S7.out.quiet c10);clear c10 S7;obtain⟨b0,b1,b2,b3,f0,f1,f2,f3,Q4⟩:=aI (c:=0) S9.out
 go_wp2
 refine aQ (d:=true) rfl Q4 (fun Vz z0 z1 z2 z3=>by simp[results,results251,go_sem,z0,z1,z2,z3]) rfl fun _ q5=>?_
 have hs6:=Hs6.out;subst hs6;rw[←Hrv.out]at q5
 exact q5
theorem EZ (now:Int) (hR:E.r=some E.ri) (hr:rs[E.ri]? =some r) (ho:s.ob[E.ri]? =some x) (hi:E.ri<1000000) (hw:dC E.w) (hcu:dC (iD E.w)) (c0:0<x.cs.length) (c8:x.cs.length≤1000) (hl:s.σ.log.length≤1000000):Does prog [ae A rs s,aS A.P e (aV E.st.bz e) (rV rs E.r) E] 264 #[ptr e,J now] (bI ((⟨jq s E x.cs.length,{ E with st:=.topmost },0,false⟩:EO)).c ((⟨jq s E x.cs.length,{ E with st:=.topmost },0,false⟩:EO)).d) [ae A rs ((⟨jq s E x.cs.length,{ E with st:=.topmost },0,false⟩:EO)).s,mg A.P rs e ((⟨jq s E x.cs.length,{ E with st:=.topmost },0,false⟩:EO)).E]:=Does.ax fun S w0 w h=>by
 have hrv:rV rs E.r=ptr r:=by rw[hR];simp[rV,List.getD,hr]
 rw[show aS A.P e (aV E.st.bz e) (rV rs E.r) E=aS A.P e (aV E.st.bz e) (ptr r) E from by rw[hrv]]at h;have Hrv:=zd hrv;clear hrv;obtain⟨B,W,HB,HW,Sa⟩:=bV h;clear h
 go_enter func264,ntmps264
 go_wp2_with fail
 rw[←HB.out, ←HW.out];have sd:=Sa.out.drew;have re:=sd.row (k:=e) 1 rfl;have h0:At W.drew e 11 ((ptr r))∧At W.drew e 1 (J E.who)∧At W.drew e 12 (Ju E.w):=⟨re.cell rfl,re.cell rfl,re.cell rfl⟩
 have Sd2:=zd sd;clear sd re Sa;refine aP (by kernel_rfl) ?_;generalize W.drew=V1 at Sd2 h0 ⊢
 refine aY [0,4,8] ?_
 repeat (refine ay _ rfl (by kernel_rfl) (fun _ _ _ h=>h) (fun w'=>by(try simp only[ag,ah,aj]);go_simp;try with_reducible rfl) ?_;try simp only[Act.put,ag,ah,aj,aF,aB,aC])
 refine aH ?_;refine cu (fun w'=>At w' e 11 ((ptr r))∧At w' e 1 (J E.who)∧At w' e 12 (Ju E.w)) [1,2,3,5,6,7,9,10,11,12] [1,2,3,5,6,7,9,10,11] ?_
 repeat (refine aN _ rfl (by kernel_rfl) (fun _ _ _ h=>h) h0 (fun w' hS=>by(try dsimp only at hS);(try simp only[ag,ah,aj]);go_simp;try with_reducible rfl) ?_;try simp only[Act.put,ag,ah,aj,aF,aB,aC])
 refine bM ?_;refine aK 12 (by kernel_rfl) rfl (by rfl) fun K hK=>?_
 go_simp;refine((iw hw) _).mono ?_
 rintro er w3 ⟨rfl,hw⟩
 subst hw;refine hK _ _ ⟨fun _=>h0,?_⟩;clear hK K h0
 try simp only[Act.put,ag,ah,aj,aF,aB,aC]
 refine dB [] (bH (by kernel_rfl) ?_);refine af 13 (by kernel_rfl) rfl (by rfl) fun K hK=>?_
 go_simp;refine((wF hr ho hi hl c0 c8 E.who (iD E.w) hcu).at0 Sd2.out).mono ?_
 rintro er w4 ⟨rfl,s5⟩
 refine hK _ _ ?_;obtain⟨s6,Hs6,s5⟩:=az (s':=jq s E x.cs.length) s5;have S7:Hid (Scope S w0 w4 [ae A rs s6,aS A.P e (aV E.st.bz e) (ptr r) E,bK B 0]):=zd s5;clear s5 Sd2 hK K
 try simp only[Act.put,ag,ah,aj,aF,aB,aC]
 refine wpAny_done (by kernel_rfl) ?_ _
 go_wp2_with fail
 refine((cZ (P:=A.P) (nx:=(aV E.st.bz e)) (rv:=(ptr r)) (E:=E) 269).fC S7.out).mono ?_
 rintro er w8 ⟨rfl,s9⟩
 have S10:Hid (Scope S w0 w8 [ae A rs s6,aS A.P e (aV 269 e) (ptr r) { E with st:=.topmost },bK B 0]):=zd s9;clear s9 S7;obtain⟨b0,b1,b2,b3,f0,f1,f2,f3,Q4⟩:=aI (c:=0) S10.out
 go_wp2
 refine aQ (d:=false) rfl Q4 (fun Vz z0 z1 z2 z3=>by simp[results,results264,go_sem,z0,z1,z2,z3]) rfl fun _ q5=>?_
 have hs6:=Hs6.out;subst hs6;rw[←Hrv.out]at q5
 exact q5
end
end Go.Proofs.YtjnbbmgbmiggbaaGreatDoor
