/- Lemmas for TopTries' card: package enq, third part; package reg, first part. -/
import Derived.Test.YtjnbbmgbmiggbaaGreatDoorZ12
set_option linter.unusedSimpArgs false
set_option linter.unusedVariables false
set_option maxRecDepth 20000
set_option maxHeartbeats 4000000
namespace Go.Proofs.YtjnbbmgbmiggbaaGreatDoor
open Go Go.RowKit Go.Maps Go.Proofs.Tryz
@[reducible] def jB (s:PS) (E:jQ):Int:=s.σ.num (slotL E.shard E.i)
def jJ (s:PS) (E:jQ):Bool:=jI (jB s E)&&(uO (jB s E)==E.c.flow)
def fU (s:PS) (E:jQ):jQ:={ E with i:=E.i+1,found:=jJ s E,obj:=cond (jJ s E) (dL (jB s E)) E.obj }
def jw (s:PS) (E:jQ):PS:={ s with σ:=s.σ.put E.who 1 (slotL E.shard E.i) }
def ed (s:PS) (E:jQ) (sl:Nat):EO:=⟨jw s E,{ fU s E with st:=cond (jJ s E) .look (cond (decide ((sl:Int)≤E.i+1)) .lock .scan) },0,false⟩
def fZ (s:PS) (E:jQ) (sl:Nat) (now:Int):EO:=cond (jJ s E) ⟨jw s E,{ fU s E with st:=.unlock },0,false⟩ (cond (decide ((sl:Int)≤E.i+1)) ⟨(jw s E).note now E.who (bD 5),{ fU s E with st:=.unlock },0,false⟩ ⟨jw s E,{ fU s E with st:=.search },0,false⟩)
section
variable {A:PA} {rs:List Nat} {s:PS} {e:Nat} {E:jQ} {r:Nat} {x:mO}
theorem Aj (nx rv:Value) (hsh:I64 E.shard) (h0:0≤E.i) (h1:E.i<1000) (hu:dC (jB s E)) (hl:s.σ.log.length≤1000000):Does prog [ae A rs s,aS A.P e nx rv E] 132 #[ptr e] (.bool (decide ((A.sl:Int)≤E.i+1))) [ae A rs (jw s E),aS A.P e nx rv (fU s E)]:=Does.ax fun S w0 w h=>by
 have hi:I64 E.i:=by unfold I64;omega
 have hwr:IntKind.i64.wrap (E.i+1)=E.i+1:=by rw[IntKind.wrap_i64];omega
 clear h0 h1;have Sa:=zd h;clear h
 go_enter func132,ntmps132
 go_wp2_with fail
 have sd:=Sa.out.drew;have re:=sd.row (k:=e) 1 rfl;have pc:=sd.bT 0 rfl;have h0:At w.drew e 0 (ptr A.P)∧At w.drew A.P 2 (ptr A.tb)∧At w.drew e 1 (J E.who)∧At w.drew e 6 (J E.shard)∧At w.drew e 8 (J E.i):=⟨re.cell rfl,pc.tb,re.cell rfl,re.cell rfl,re.cell rfl⟩
 have Sd2:=zd sd;clear sd re pc Sa;refine aP (by kernel_rfl) ?_;generalize w.drew=V1 at Sd2 h0 ⊢
 refine aY [0,7,11,15] ?_
 repeat (refine ay _ rfl (by kernel_rfl) (fun _ _ _ h=>h) (fun w'=>by(try simp only[ag,ah,aj]);go_simp;try with_reducible rfl) ?_;try simp only[Act.put,ag,ah,aj,aF,aB,aC])
 refine aH ?_;refine bJ (fun w'=>At w' e 0 (ptr A.P)∧At w' A.P 2 (ptr A.tb)∧At w' e 1 (J E.who)∧At w' e 6 (J E.shard)∧At w' e 8 (J E.i)) [1,2,3,4,5,6,8,9,10,12,13,14,16,17,18] ?_
 repeat (refine aN _ rfl (by kernel_rfl) (fun _ _ _ h=>h) h0 (fun w' hS=>by(try dsimp only at hS);(try simp only[ag,ah,aj]);go_simp;try with_reducible rfl) ?_;try simp only[Act.put,ag,ah,aj,aF,aB,aC])
 refine bH (by kernel_rfl) ?_;refine af 19 (by kernel_rfl) rfl (by rfl) fun K hK=>?_
 go_simp;refine((wO E.who E.shard E.i hsh hi hl hu).at0 Sd2.out).mono ?_
 rintro er w3 ⟨rfl,s4⟩
 refine hK _ _ ?_;obtain⟨s5,Hs5,s4⟩:=az (s':=jw s E) s4;have S6:Hid (Scope S w0 w3 [ae A rs s5,aS A.P e nx rv E]):=zd s4;clear s4 Sd2 hK K h0;rw[show uM (s.σ.num (slotL E.shard E.i))=.tuple #[J (uO (jB s E)),J (dL (jB s E)),.bool (jI (jB s E))]from rfl]
 try simp only[Act.put,ag,ah,aj,aF,aB,aC]
 refine aY [20,21,22,23] ?_
 repeat (refine ay _ rfl (by kernel_rfl) (fun _ _ _ h=>h) (fun w'=>by(try simp only[ag,ah,aj]);go_simp;try with_reducible rfl) ?_;try simp only[Act.put,ag,ah,aj,aF,aB,aC])
 refine aH ?_;refine af 24 (by kernel_rfl) rfl (by rfl) fun K hK=>?_
 go_simp;refine hK _ _ ?_;clear hK K
 try simp only[Act.put,ag,ah,aj,aF,aB,aC]
 refine af 25 (by kernel_rfl) rfl (by rfl) fun K hK=>?_
 go_simp;refine hK _ _ ?_;clear hK K
 try simp only[Act.put,ag,ah,aj,aF,aB,aC]
 refine af 26 (by kernel_rfl) rfl (by rfl) fun K hK=>?_
 go_simp;refine hK _ _ ?_;clear hK K
 try simp only[Act.put,ag,ah,aj,aF,aB,aC]
 refine wpAny_done (by kernel_rfl) ?_ _;obtain⟨bb,hbb⟩:∃ bb,jI (jB s E)=bb:=⟨_,rfl⟩
 have Hbb:=zd hbb;clear hbb;rw[Hbb.out]
 cases bb
 ·have rr:=S6.out.row (k:=e) 1 rfl
  have c8:=rr.cell (j:=8) rfl;have c10:=rr.cell (j:=10) rfl;have f8:=rr.free 8;have f10:=rr.free 10;have q7:Scope S w0 w3 ([ae A rs s5]++([aS A.P e nx rv E]++[])):=S6.out;have q8:=Scope.au q7 8 (J (E.i+1));have q9:=Scope.au q8 10 (.bool false);have Q10:=zd q9;clear rr q7 q8 q9 S6
  go_wp2_with fail
  clear c8 c10 f8 f10;obtain⟨V11,hV11⟩:∃ V11,V11=(w3.setCell ⟨e,8,none⟩ (J (E.i+1))).setCell ⟨e,10,none⟩ (.bool false):=⟨_,rfl⟩
  have q12:=Q10.out;rw[←hV11]at q12 ⊢
  have S13:Hid (Scope S w0 V11 [ae A rs s5,aS A.P e nx rv { E with i:=E.i+1,found:=false }]):=zd q12;clear q12 hV11 Q10;have sd:=S13.out.drew;have re:=sd.row (k:=e) 1 rfl;have pc:=sd.bT 0 rfl;have h0:At V11.drew e 8 (J (E.i+1))∧At V11.drew e 0 (ptr A.P)∧At V11.drew A.P 2 (ptr A.tb):=⟨re.cell rfl,re.cell rfl,pc.tb⟩
  have Sd15:=zd sd;clear sd re pc S13;refine aP (by kernel_rfl) ?_;generalize V11.drew=V14 at Sd15 h0 ⊢
  refine aY [0,4] ?_
  repeat (refine ay _ rfl (by kernel_rfl) (fun _ _ _ h=>h) (fun w'=>by(try simp only[ag,ah,aj]);go_simp;try with_reducible rfl) ?_;try simp only[Act.put,ag,ah,aj,aF,aB,aC])
  refine aH ?_;refine cu (fun w'=>At w' e 8 (J (E.i+1))∧At w' e 0 (ptr A.P)∧At w' A.P 2 (ptr A.tb)) [1,2,3,5,6,7,8,9,10,11] [1,2,3,5,6,7,8,9,10] ?_
  repeat (refine aN _ rfl (by kernel_rfl) (fun _ _ _ h=>h) h0 (fun w' hS=>by(try dsimp only at hS);(try simp only[ag,ah,aj]);go_simp;try with_reducible rfl) ?_;try simp only[Act.put,ag,ah,aj,aF,aB,aC])
  refine bM ?_;refine aK 11 (by kernel_rfl) rfl (by rfl) fun K hK=>?_
  go_simp;refine((jM (s:=s5)).at0 Sd15.out).mono ?_
  rintro er w16 ⟨rfl,s17⟩
  have re:=s17.row (k:=e) 1 rfl;have pc:=s17.bT 0 rfl;have h1:At w16 e 8 (J (E.i+1))∧At w16 e 0 (ptr A.P)∧At w16 A.P 2 (ptr A.tb):=⟨re.cell rfl,re.cell rfl,pc.tb⟩
  refine hK _ _ ⟨fun _=>h1,?_⟩;clear re pc;have S18:Hid (Scope S w0 w16 [ae A rs s5,aS A.P e nx rv { E with i:=E.i+1,found:=false }]):=zd s17;clear s17 Sd15 hK K h0
  try simp only[Act.put,ag,ah,aj,aF,aB,aC]
  refine dB [] (bH (by kernel_rfl) ?_);clear h1;refine aY [12] ?_
  repeat (refine ay _ rfl (by kernel_rfl) (fun _ _ _ h=>h) (fun w'=>by(try simp only[ag,ah,aj]);go_simp;try with_reducible rfl) ?_;try simp only[Act.put,ag,ah,aj,aF,aB,aC])
  refine aH ?_;refine aY [13] ?_
  repeat (refine ay _ rfl (by kernel_rfl) (fun _ _ _ h=>h) (fun w'=>by(try simp only[ag,ah,aj]);go_simp;try with_reducible rfl) ?_;try simp only[Act.put,ag,ah,aj,aF,aB,aC])
  refine aH ?_;refine wpAny_done (by kernel_rfl) ?_ _;have hE:fU s E={ E with i:=E.i+1,found:=false }:=by unfold fU jJ;rw[Hbb.out];rfl
  have hss5:=Hs5.out;subst hss5
  go_wp2
  go_ret
  exact Ends.mk [] S18.out
 ·obtain⟨fb,hfb⟩:∃ fb,(uO (jB s E)==E.c.flow)=fb:=⟨_,rfl⟩
  have Hfb:=zd hfb;clear hfb;have hfb:=Hfb.out
  cases fb
  ·have rr:=S6.out.row (k:=e) 1 rfl
   have c3:=rr.cell (j:=3) rfl;have c8:=rr.cell (j:=8) rfl;have c10:=rr.cell (j:=10) rfl;have f8:=rr.free 8;have f10:=rr.free 10;have q19:Scope S w0 w3 ([ae A rs s5]++([aS A.P e nx rv E]++[])):=S6.out;have q20:=Scope.au q19 8 (J (E.i+1));have q21:=Scope.au q20 10 (.bool false);have Q22:=zd q21;clear rr q19 q20 q21 S6
   go_wp2_with fail
   clear c3 c8 c10 f8 f10;obtain⟨V23,hV23⟩:∃ V23,V23=(w3.setCell ⟨e,8,none⟩ (J (E.i+1))).setCell ⟨e,10,none⟩ (.bool false):=⟨_,rfl⟩
   have q24:=Q22.out;rw[←hV23]at q24 ⊢
   have S25:Hid (Scope S w0 V23 [ae A rs s5,aS A.P e nx rv { E with i:=E.i+1,found:=false }]):=zd q24;clear q24 hV23 Q22;have sd:=S25.out.drew;have re:=sd.row (k:=e) 1 rfl;have pc:=sd.bT 0 rfl;have h0:At V23.drew e 8 (J (E.i+1))∧At V23.drew e 0 (ptr A.P)∧At V23.drew A.P 2 (ptr A.tb):=⟨re.cell rfl,re.cell rfl,pc.tb⟩
   have Sd27:=zd sd;clear sd re pc S25;refine aP (by kernel_rfl) ?_;generalize V23.drew=V26 at Sd27 h0 ⊢
   refine aY [0,4] ?_
   repeat (refine ay _ rfl (by kernel_rfl) (fun _ _ _ h=>h) (fun w'=>by(try simp only[ag,ah,aj]);go_simp;try with_reducible rfl) ?_;try simp only[Act.put,ag,ah,aj,aF,aB,aC])
   refine aH ?_;refine cu (fun w'=>At w' e 8 (J (E.i+1))∧At w' e 0 (ptr A.P)∧At w' A.P 2 (ptr A.tb)) [1,2,3,5,6,7,8,9,10,11] [1,2,3,5,6,7,8,9,10] ?_
   repeat (refine aN _ rfl (by kernel_rfl) (fun _ _ _ h=>h) h0 (fun w' hS=>by(try dsimp only at hS);(try simp only[ag,ah,aj]);go_simp;try with_reducible rfl) ?_;try simp only[Act.put,ag,ah,aj,aF,aB,aC])
   refine bM ?_;refine aK 11 (by kernel_rfl) rfl (by rfl) fun K hK=>?_
   go_simp;refine((jM (s:=s5)).at0 Sd27.out).mono ?_
   rintro er w28 ⟨rfl,s29⟩
   have re:=s29.row (k:=e) 1 rfl;have pc:=s29.bT 0 rfl;have h1:At w28 e 8 (J (E.i+1))∧At w28 e 0 (ptr A.P)∧At w28 A.P 2 (ptr A.tb):=⟨re.cell rfl,re.cell rfl,pc.tb⟩
   refine hK _ _ ⟨fun _=>h1,?_⟩;clear re pc;have S30:Hid (Scope S w0 w28 [ae A rs s5,aS A.P e nx rv { E with i:=E.i+1,found:=false }]):=zd s29;clear s29 Sd27 hK K h0
   try simp only[Act.put,ag,ah,aj,aF,aB,aC]
   refine dB [] (bH (by kernel_rfl) ?_);clear h1;refine aY [12] ?_
   repeat (refine ay _ rfl (by kernel_rfl) (fun _ _ _ h=>h) (fun w'=>by(try simp only[ag,ah,aj]);go_simp;try with_reducible rfl) ?_;try simp only[Act.put,ag,ah,aj,aF,aB,aC])
   refine aH ?_;refine aY [13] ?_
   repeat (refine ay _ rfl (by kernel_rfl) (fun _ _ _ h=>h) (fun w'=>by(try simp only[ag,ah,aj]);go_simp;try with_reducible rfl) ?_;try simp only[Act.put,ag,ah,aj,aF,aB,aC])
   refine aH ?_;refine wpAny_done (by kernel_rfl) ?_ _;have hE:fU s E={ E with i:=E.i+1,found:=false }:=by unfold fU jJ;rw[Hbb.out,Hfb.out];rfl
   have hss5:=Hs5.out;subst hss5
   go_wp2
   go_ret
   exact Ends.mk [] S30.out
  ·have rr:=S6.out.row (k:=e) 1 rfl
   have c3:=rr.cell (j:=3) rfl;have c8:=rr.cell (j:=8) rfl;have c9:=rr.cell (j:=9) rfl;have c10:=rr.cell (j:=10) rfl;have f8:=rr.free 8;have f9:=rr.free 9;have f10:=rr.free 10;have q31:Scope S w0 w3 ([ae A rs s5]++([aS A.P e nx rv E]++[])):=S6.out;have q32:=Scope.au q31 8 (J (E.i+1));have q33:=Scope.au q32 10 (.bool true);have q34:=Scope.au q33 9 (J (dL (jB s E)));have Q35:=zd q34;clear rr q31 q32 q33 q34 S6
   go_wp2_with fail
   clear c3 c8 c9 c10 f8 f9 f10;obtain⟨V36,hV36⟩:∃ V36,V36=((w3.setCell ⟨e,8,none⟩ (J (E.i+1))).setCell ⟨e,10,none⟩ (.bool true)).setCell ⟨e,9,none⟩ (J (dL (jB s E))):=⟨_,rfl⟩
   have q37:=Q35.out;rw[←hV36]at q37 ⊢
   have S38:Hid (Scope S w0 V36 [ae A rs s5,aS A.P e nx rv { E with i:=E.i+1,found:=true,obj:=dL (jB s E) }]):=zd q37;clear q37 hV36 Q35;have sd:=S38.out.drew;have re:=sd.row (k:=e) 1 rfl;have pc:=sd.bT 0 rfl;have h0:At V36.drew e 8 (J (E.i+1))∧At V36.drew e 0 (ptr A.P)∧At V36.drew A.P 2 (ptr A.tb):=⟨re.cell rfl,re.cell rfl,pc.tb⟩
   have Sd40:=zd sd;clear sd re pc S38;refine aP (by kernel_rfl) ?_;generalize V36.drew=V39 at Sd40 h0 ⊢
   refine aY [0,4] ?_
   repeat (refine ay _ rfl (by kernel_rfl) (fun _ _ _ h=>h) (fun w'=>by(try simp only[ag,ah,aj]);go_simp;try with_reducible rfl) ?_;try simp only[Act.put,ag,ah,aj,aF,aB,aC])
   refine aH ?_;refine cu (fun w'=>At w' e 8 (J (E.i+1))∧At w' e 0 (ptr A.P)∧At w' A.P 2 (ptr A.tb)) [1,2,3,5,6,7,8,9,10,11] [1,2,3,5,6,7,8,9,10] ?_
   repeat (refine aN _ rfl (by kernel_rfl) (fun _ _ _ h=>h) h0 (fun w' hS=>by(try dsimp only at hS);(try simp only[ag,ah,aj]);go_simp;try with_reducible rfl) ?_;try simp only[Act.put,ag,ah,aj,aF,aB,aC])
   refine bM ?_;refine aK 11 (by kernel_rfl) rfl (by rfl) fun K hK=>?_
   go_simp;refine((jM (s:=s5)).at0 Sd40.out).mono ?_
   rintro er w41 ⟨rfl,s42⟩
   have re:=s42.row (k:=e) 1 rfl;have pc:=s42.bT 0 rfl;have h1:At w41 e 8 (J (E.i+1))∧At w41 e 0 (ptr A.P)∧At w41 A.P 2 (ptr A.tb):=⟨re.cell rfl,re.cell rfl,pc.tb⟩
   refine hK _ _ ⟨fun _=>h1,?_⟩;clear re pc;have S43:Hid (Scope S w0 w41 [ae A rs s5,aS A.P e nx rv { E with i:=E.i+1,found:=true,obj:=dL (jB s E) }]):=zd s42;clear s42 Sd40 hK K h0
   try simp only[Act.put,ag,ah,aj,aF,aB,aC]
   refine dB [] (bH (by kernel_rfl) ?_);clear h1;refine aY [12] ?_
   repeat (refine ay _ rfl (by kernel_rfl) (fun _ _ _ h=>h) (fun w'=>by(try simp only[ag,ah,aj]);go_simp;try with_reducible rfl) ?_;try simp only[Act.put,ag,ah,aj,aF,aB,aC])
   refine aH ?_;refine aY [13] ?_
   repeat (refine ay _ rfl (by kernel_rfl) (fun _ _ _ h=>h) (fun w'=>by(try simp only[ag,ah,aj]);go_simp;try with_reducible rfl) ?_;try simp only[Act.put,ag,ah,aj,aF,aB,aC])
   refine aH ?_;refine wpAny_done (by kernel_rfl) ?_ _;have hE:fU s E={ E with i:=E.i+1,found:=true,obj:=dL (jB s E) }:=by unfold fU jJ;rw[Hbb.out,Hfb.out];rfl
   have hss5:=Hs5.out;subst hss5
   go_wp2
   go_ret
   exact Ends.mk [] S43.out
theorem yT (now:Int) (hsh:I64 E.shard) (h0:0≤E.i) (h1:E.i<1000) (hu:dC (jB s E)) (hl:s.σ.log.length≤1000000):Does prog [ae A rs s,aS A.P e (aV E.st.bz e) (rV rs E.r) E] 92 #[ptr e,J now] (bI (ed s E A.sl).c (ed s E A.sl).d) [ae A rs (ed s E A.sl).s,mg A.P rs e (ed s E A.sl).E]:=Does.ax fun S w0 w h=>by
 obtain⟨B,W,HB,HW,Sa⟩:=bV h;clear h
 go_enter func92,ntmps92
 go_wp2_with fail
 rw[←HB.out, ←HW.out];refine((Aj (aV E.st.bz e) (rV rs E.r) hsh h0 h1 hu hl).iY Sa.out).mono ?_
 rintro er w1 ⟨rfl,s2⟩
 obtain⟨s3,Hs3,s2⟩:=az (s':=jw s E) s2;have S4:Hid (Scope S w0 w1 [ae A rs s3,aS A.P e (aV E.st.bz e) (rV rs E.r) (fU s E),bK B 0]):=zd s2;clear s2 Sa;obtain⟨last,hlast⟩:∃ last,decide ((A.sl:Int)≤E.i+1)=last:=⟨_,rfl⟩
 rw[hlast];have Hlast:=zd hlast;clear hlast;obtain⟨E1,hE1⟩:∃ E1,E1=fU s E:=⟨_,rfl⟩
 have S5x:=S4.out;rw[←hE1]at S5x;have S5:=zd S5x;have HE1:=zd hE1;clear hE1 S5x S4;have hf:E1.found=jJ s E:=by rw[HE1.out];rfl
 obtain⟨fb,hfb⟩:∃ fb,jJ s E=fb:=⟨_,rfl⟩
 have rr:=S5.out.row (k:=e) 1 rfl;have c10:w1.cell? ⟨e,10,none⟩=some (.bool fb):=by rw[←hfb, ←hf];exact rr.cell rfl
 have Hfb:=zd hfb;clear rr hf hfb
 cases fb
 ·cases last
  ·have hO:ed s E A.sl=⟨jw s E,{ fU s E with st:=.scan },0,false⟩:=by unfold ed;rw[Hfb.out,Hlast.out];rfl
   have HO:=zd hO;clear hO
   go_wp2_with fail
   refine((cZ (P:=A.P) (nx:=(aV E.st.bz e)) (rv:=(rV rs E.r)) (E:=E1) 92).fC S5.out).mono ?_
   rintro er w6 ⟨rfl,s7⟩
   have S8:Hid (Scope S w0 w6 [ae A rs s3,aS A.P e (aV 92 e) (rV rs E.r) { E1 with st:=.scan },bK B 0]):=zd s7;clear s7 S5;obtain⟨b0,b1,b2,b3,f0,f1,f2,f3,Q4⟩:=aI (c:=0) S8.out
   go_wp2
   refine aQ (d:=false) (by rw[HO.out]) Q4 (fun Vz z0 z1 z2 z3=>by simp[results,results92,go_sem,z0,z1,z2,z3]) rfl fun _ q5=>?_
   rw[HO.out];have hE1:=HE1.out;subst hE1;have hs3:=Hs3.out;subst hs3
   exact q5
  ·have hO:ed s E A.sl=⟨jw s E,{ fU s E with st:=.lock },0,false⟩:=by unfold ed;rw[Hfb.out,Hlast.out];rfl
   have HO:=zd hO;clear hO
   go_wp2_with fail
   refine((cZ (P:=A.P) (nx:=(aV E.st.bz e)) (rv:=(rV rs E.r)) (E:=E1) 135).fC S5.out).mono ?_
   rintro er w9 ⟨rfl,s10⟩
   have S11:Hid (Scope S w0 w9 [ae A rs s3,aS A.P e (aV 135 e) (rV rs E.r) { E1 with st:=.lock },bK B 0]):=zd s10;clear s10 S5;obtain⟨b0,b1,b2,b3,f0,f1,f2,f3,Q4⟩:=aI (c:=0) S11.out
   go_wp2
   refine aQ (d:=false) (by rw[HO.out]) Q4 (fun Vz z0 z1 z2 z3=>by simp[results,results92,go_sem,z0,z1,z2,z3]) rfl fun _ q5=>?_
   rw[HO.out];have hE1:=HE1.out;subst hE1;have hs3:=Hs3.out;subst hs3
   exact q5
 ·have hO:ed s E A.sl=⟨jw s E,{ fU s E with st:=.look },0,false⟩:=by unfold ed;rw[Hfb.out];rfl
  have HO:=zd hO;clear hO;clear Hlast
  go_wp2_with fail
  refine((cZ (P:=A.P) (nx:=(aV E.st.bz e)) (rv:=(rV rs E.r)) (E:=E1) 134).fC S5.out).mono ?_
  rintro er w12 ⟨rfl,s13⟩
  have S14:Hid (Scope S w0 w12 [ae A rs s3,aS A.P e (aV 134 e) (rV rs E.r) { E1 with st:=.look },bK B 0]):=zd s13;clear s13 S5;obtain⟨b0,b1,b2,b3,f0,f1,f2,f3,Q4⟩:=aI (c:=0) S14.out
  go_wp2
  refine aQ (d:=false) (by rw[HO.out]) Q4 (fun Vz z0 z1 z2 z3=>by simp[results,results92,go_sem,z0,z1,z2,z3]) rfl fun _ q5=>?_
  rw[HO.out];have hE1:=HE1.out;subst hE1;have hs3:=Hs3.out;subst hs3
  exact q5
theorem CG (now:Int) (hsh:I64 E.shard) (h0:0≤E.i) (h1:E.i<1000) (hu:dC (jB s E)) (hwho:I64 E.who) (hn:s.pt.length<100000) (hl:s.σ.log.length≤1000000):Does prog [ae A rs s,aS A.P e (aV E.st.bz e) (rV rs E.r) E] 167 #[ptr e,J now] (bI (fZ s E A.sl now).c (fZ s E A.sl now).d) [ae A rs (fZ s E A.sl now).s,mg A.P rs e (fZ s E A.sl now).E]:=Does.ax fun S w0 w h=>by
 obtain⟨B,W,HB,HW,Sa⟩:=bV h;clear h
 go_enter func167,ntmps167
 go_wp2_with fail
 rw[←HB.out, ←HW.out];refine((Aj (aV E.st.bz e) (rV rs E.r) hsh h0 h1 hu hl).iY Sa.out).mono ?_
 rintro er w1 ⟨rfl,s2⟩
 obtain⟨s3,Hs3,s2⟩:=az (s':=jw s E) s2;have S4:Hid (Scope S w0 w1 [ae A rs s3,aS A.P e (aV E.st.bz e) (rV rs E.r) (fU s E),bK B 0]):=zd s2;clear s2 Sa;obtain⟨last,hlast⟩:∃ last,decide ((A.sl:Int)≤E.i+1)=last:=⟨_,rfl⟩
 rw[hlast];have Hlast:=zd hlast;clear hlast;obtain⟨E1,hE1⟩:∃ E1,E1=fU s E:=⟨_,rfl⟩
 have S5x:=S4.out;rw[←hE1]at S5x;have S5:=zd S5x;have HE1:=zd hE1;clear hE1 S5x S4;have hf:E1.found=jJ s E:=by rw[HE1.out];rfl
 obtain⟨fb,hfb⟩:∃ fb,jJ s E=fb:=⟨_,rfl⟩
 have rr:=S5.out.row (k:=e) 1 rfl;have c10:w1.cell? ⟨e,10,none⟩=some (.bool fb):=by rw[←hfb, ←hf];exact rr.cell rfl
 have Hfb:=zd hfb;clear rr hf hfb
 cases fb
 ·cases last
  ·have hO:fZ s E A.sl now=⟨jw s E,{ fU s E with st:=.search },0,false⟩:=by unfold fZ;rw[Hfb.out,Hlast.out];rfl
   have HO:=zd hO;clear hO
   go_wp2_with fail
   refine((cZ (P:=A.P) (nx:=(aV E.st.bz e)) (rv:=(rV rs E.r)) (E:=E1) 167).fC S5.out).mono ?_
   rintro er w6 ⟨rfl,s7⟩
   have S8:Hid (Scope S w0 w6 [ae A rs s3,aS A.P e (aV 167 e) (rV rs E.r) { E1 with st:=.search },bK B 0]):=zd s7;clear s7 S5;obtain⟨b0,b1,b2,b3,f0,f1,f2,f3,Q4⟩:=aI (c:=0) S8.out
   go_wp2
   refine aQ (d:=false) (by rw[HO.out]) Q4 (fun Vz z0 z1 z2 z3=>by simp[results,results167,go_sem,z0,z1,z2,z3]) rfl fun _ q5=>?_
   rw[HO.out];have hE1:=HE1.out;subst hE1;have hs3:=Hs3.out;subst hs3
   exact q5
  ·have hO:fZ s E A.sl now=⟨(jw s E).note now E.who (bD 5),{ fU s E with st:=.unlock },0,false⟩:=by unfold fZ;rw[Hfb.out,Hlast.out];rfl
   have HO:=zd hO;clear hO
   go_wp2_with fail
   refine((pW (s:=s3) (E:=E1) now 5 (by rw[HE1.out];exact hwho) (by rw[Hs3.out];exact hn)).iY S5.out).mono ?_
   rintro er w9 ⟨rfl,s10⟩
   obtain⟨s11,Hs11,s10⟩:=az (s':=(s3).note now E1.who (bD 5)) s10;have S12:Hid (Scope S w0 w9 [ae A rs s11,aS A.P e (aV E.st.bz e) (rV rs E.r) E1,bK B 0]):=zd s10;clear s10 S5
   go_wp2_with fail
   refine((cZ (P:=A.P) (nx:=(aV E.st.bz e)) (rv:=(rV rs E.r)) (E:=E1) 191).fC S12.out).mono ?_
   rintro er w13 ⟨rfl,s14⟩
   have S15:Hid (Scope S w0 w13 [ae A rs s11,aS A.P e (aV 191 e) (rV rs E.r) { E1 with st:=.unlock },bK B 0]):=zd s14;clear s14 S12;obtain⟨b0,b1,b2,b3,f0,f1,f2,f3,Q4⟩:=aI (c:=0) S15.out
   go_wp2
   refine aQ (d:=false) (by rw[HO.out]) Q4 (fun Vz z0 z1 z2 z3=>by simp[results,results167,go_sem,z0,z1,z2,z3]) rfl fun _ q5=>?_
   rw[HO.out];have hs11:=Hs11.out;subst hs11;have hE1:=HE1.out;subst hE1;have hs3:=Hs3.out;subst hs3
   exact q5
 ·have hO:fZ s E A.sl now=⟨jw s E,{ fU s E with st:=.unlock },0,false⟩:=by unfold fZ;rw[Hfb.out];rfl
  have HO:=zd hO;clear hO;clear Hlast
  go_wp2_with fail
  refine((cZ (P:=A.P) (nx:=(aV E.st.bz e)) (rv:=(rV rs E.r)) (E:=E1) 191).fC S5.out).mono ?_
  rintro er w16 ⟨rfl,s17⟩
  have S18:Hid (Scope S w0 w16 [ae A rs s3,aS A.P e (aV 191 e) (rV rs E.r) { E1 with st:=.unlock },bK B 0]):=zd s17;clear s17 S5;obtain⟨b0,b1,b2,b3,f0,f1,f2,f3,Q4⟩:=aI (c:=0) S18.out
  go_wp2
  refine aQ (d:=false) (by rw[HO.out]) Q4 (fun Vz z0 z1 z2 z3=>by simp[results,results167,go_sem,z0,z1,z2,z3]) rfl fun _ q5=>?_
  rw[HO.out];have hE1:=HE1.out;subst hE1;have hs3:=Hs3.out;subst hs3
  exact q5
end
def gB (s:PS) (E:jQ) (sl:Nat) (now:Int):EO:=cond (decide (E.c.a<1)||decide (65536<E.c.a)) ⟨s.note now E.who (bD 3),E,3,true⟩ (cond (decide (E.c.flow<0)||decide (1048576<E.c.flow)) ⟨s.note now E.who (bD 5),E,5,true⟩ (ed s E sl))
section
variable {A:PA} {rs:List Nat} {s:PS} {e:Nat} {E:jQ} {r:Nat} {x:mO}
theorem Fv (now:Int) (hwho:I64 E.who) (hn:s.pt.length<100000) (hsh:I64 E.shard) (h0:0≤E.i) (h1:E.i<1000) (hu:dC (jB s E)) (hl:s.σ.log.length≤1000000):Does prog [ae A rs s,aS A.P e (aV E.st.bz e) (rV rs E.r) E] 68 #[ptr e,J now] (bI (gB s E A.sl now).c (gB s E A.sl now).d) [ae A rs (gB s E A.sl now).s,mg A.P rs e (gB s E A.sl now).E]:=Does.ax fun S w0 w h=>by
 obtain⟨ba,hba⟩:∃ ba,decide (E.c.a<1)=ba:=⟨_,rfl⟩
 obtain⟨bb,hbb⟩:∃ bb,decide (65536<E.c.a)=bb:=⟨_,rfl⟩
 obtain⟨bc,hbc⟩:∃ bc,decide (E.c.flow<0)=bc:=⟨_,rfl⟩
 obtain⟨bd,hbd⟩:∃ bd,decide (1048576<E.c.flow)=bd:=⟨_,rfl⟩
 cases ba
 ·cases bb
  ·cases bc
   ·cases bd
    ·have hO:gB s E A.sl now=⟨jw s E,(ed s E A.sl).E,0,false⟩:=by unfold gB;rw[hba,hbb,hbc,hbd];rfl
     have HO:=zd hO;clear hO;obtain⟨B,W,HB,HW,Sa⟩:=bV h;have c3:=(h.row (k:=e) 1 rfl).cell (j:=3) rfl;have c4:=(h.row (k:=e) 1 rfl).cell (j:=4) rfl;have lp:=(h.row (k:=e) 1 rfl).lt;clear h
     go_enter func68,ntmps68
     go_wp2_with fail
     rw[←HB.out, ←HW.out];clear lp c3 c4;refine((by exact yT now hsh h0 h1 hu hl:Does prog [ae A rs s,mg A.P rs e E] 92 #[ptr e,J now] (bI 0 false) [ae A rs (jw s E),mg A.P rs e (ed s E A.sl).E]).iY Sa.out).mono ?_
     rintro er w1 ⟨rfl,s2⟩
     obtain⟨s3,Hs3,s2⟩:=az (s':=jw s E) s2;have S4:Hid (Scope S w0 w1 [ae A rs s3,mg A.P rs e (ed s E A.sl).E,bK B 0]):=zd s2;clear s2 Sa;obtain⟨b0,b1,b2,b3,f0,f1,f2,f3,Q4⟩:=aI (c:=0) S4.out
     go_wp2
     refine aQ (d:=false) (by rw[HO.out]) Q4 (fun Vz z0 z1 z2 z3=>by simp[results,results68,go_sem,z0,z1,z2,z3]) rfl fun _ q5=>?_
     rw[HO.out];have hs3:=Hs3.out;subst hs3
     exact q5
    ·have hO:gB s E A.sl now=⟨s.note now E.who (bD 5),E,5,true⟩:=by unfold gB;rw[hba,hbb,hbc,hbd];rfl
     have HO:=zd hO;clear hO;obtain⟨B,W,HB,HW,Sa⟩:=bV h;have c3:=(h.row (k:=e) 1 rfl).cell (j:=3) rfl;have c4:=(h.row (k:=e) 1 rfl).cell (j:=4) rfl;have lp:=(h.row (k:=e) 1 rfl).lt;clear h
     go_enter func68,ntmps68
     go_wp2_with fail
     rw[←HB.out, ←HW.out];clear lp c3 c4;refine((lD (s:=s) (aV E.st.bz e) (rV rs E.r) now 5 hwho hn).iY Sa.out).mono ?_
     rintro er w5 ⟨rfl,s6⟩
     obtain⟨s7,Hs7,s6⟩:=az (s':=(s).note now E.who (bD 5)) s6;have S8:Hid (Scope S w0 w5 [ae A rs s7,aS A.P e (aV E.st.bz e) (rV rs E.r) E,bK B 0]):=zd s6;clear s6 Sa;obtain⟨b0,b1,b2,b3,f0,f1,f2,f3,Q4⟩:=aI (c:=5) S8.out
     go_wp2
     refine aQ (d:=true) (by rw[HO.out]) Q4 (fun Vz z0 z1 z2 z3=>by simp[results,results68,go_sem,z0,z1,z2,z3]) rfl fun _ q5=>?_
     rw[HO.out];have hs7:=Hs7.out;subst hs7
     exact q5
   ·have hO:gB s E A.sl now=⟨s.note now E.who (bD 5),E,5,true⟩:=by unfold gB;rw[hba,hbb,hbc];rfl
    have HO:=zd hO;clear hO;obtain⟨B,W,HB,HW,Sa⟩:=bV h;have c3:=(h.row (k:=e) 1 rfl).cell (j:=3) rfl;have c4:=(h.row (k:=e) 1 rfl).cell (j:=4) rfl;have lp:=(h.row (k:=e) 1 rfl).lt;clear h
    go_enter func68,ntmps68
    go_wp2_with fail
    rw[←HB.out, ←HW.out];clear lp c3 c4;refine((lD (s:=s) (aV E.st.bz e) (rV rs E.r) now 5 hwho hn).iY Sa.out).mono ?_
    rintro er w9 ⟨rfl,s10⟩
    obtain⟨s11,Hs11,s10⟩:=az (s':=(s).note now E.who (bD 5)) s10;have S12:Hid (Scope S w0 w9 [ae A rs s11,aS A.P e (aV E.st.bz e) (rV rs E.r) E,bK B 0]):=zd s10;clear s10 Sa;obtain⟨b0,b1,b2,b3,f0,f1,f2,f3,Q4⟩:=aI (c:=5) S12.out
    go_wp2
    refine aQ (d:=true) (by rw[HO.out]) Q4 (fun Vz z0 z1 z2 z3=>by simp[results,results68,go_sem,z0,z1,z2,z3]) rfl fun _ q5=>?_
    rw[HO.out];have hs11:=Hs11.out;subst hs11
    exact q5
  ·have hO:gB s E A.sl now=⟨s.note now E.who (bD 3),E,3,true⟩:=by unfold gB;rw[hba,hbb];rfl
   have HO:=zd hO;clear hO;obtain⟨B,W,HB,HW,Sa⟩:=bV h;have c3:=(h.row (k:=e) 1 rfl).cell (j:=3) rfl;have c4:=(h.row (k:=e) 1 rfl).cell (j:=4) rfl;have lp:=(h.row (k:=e) 1 rfl).lt;clear h
   go_enter func68,ntmps68
   go_wp2_with fail
   rw[←HB.out, ←HW.out];clear lp c3 c4;refine((lD (s:=s) (aV E.st.bz e) (rV rs E.r) now 3 hwho hn).iY Sa.out).mono ?_
   rintro er w13 ⟨rfl,s14⟩
   obtain⟨s15,Hs15,s14⟩:=az (s':=(s).note now E.who (bD 3)) s14;have S16:Hid (Scope S w0 w13 [ae A rs s15,aS A.P e (aV E.st.bz e) (rV rs E.r) E,bK B 0]):=zd s14;clear s14 Sa;obtain⟨b0,b1,b2,b3,f0,f1,f2,f3,Q4⟩:=aI (c:=3) S16.out
   go_wp2
   refine aQ (d:=true) (by rw[HO.out]) Q4 (fun Vz z0 z1 z2 z3=>by simp[results,results68,go_sem,z0,z1,z2,z3]) rfl fun _ q5=>?_
   rw[HO.out];have hs15:=Hs15.out;subst hs15
   exact q5
 ·have hO:gB s E A.sl now=⟨s.note now E.who (bD 3),E,3,true⟩:=by unfold gB;rw[hba];rfl
  have HO:=zd hO;clear hO;obtain⟨B,W,HB,HW,Sa⟩:=bV h;have c3:=(h.row (k:=e) 1 rfl).cell (j:=3) rfl;have c4:=(h.row (k:=e) 1 rfl).cell (j:=4) rfl;have lp:=(h.row (k:=e) 1 rfl).lt;clear h
  go_enter func68,ntmps68
  go_wp2_with fail
  rw[←HB.out, ←HW.out];clear lp c3 c4;refine((lD (s:=s) (aV E.st.bz e) (rV rs E.r) now 3 hwho hn).iY Sa.out).mono ?_
  rintro er w17 ⟨rfl,s18⟩
  obtain⟨s19,Hs19,s18⟩:=az (s':=(s).note now E.who (bD 3)) s18;have S20:Hid (Scope S w0 w17 [ae A rs s19,aS A.P e (aV E.st.bz e) (rV rs E.r) E,bK B 0]):=zd s18;clear s18 Sa;obtain⟨b0,b1,b2,b3,f0,f1,f2,f3,Q4⟩:=aI (c:=3) S20.out
  go_wp2
  refine aQ (d:=true) (by rw[HO.out]) Q4 (fun Vz z0 z1 z2 z3=>by simp[results,results68,go_sem,z0,z1,z2,z3]) rfl fun _ q5=>?_
  rw[HO.out];have hs19:=Hs19.out;subst hs19
  exact q5
end
theorem pJ (f:FuncId) (h:(prog.funcs[f]?).any (fun fn=> !(fn.name== "runtime.NumGoroutine")&& !fn.body.isNone)=true) (args:Array Value) (w:World):Sem.run prog (callFunc f args) w=.ok (.enter f args) w:=by
 cases hf:prog.funcs[f]? with
 |none=>rw[hf]at h;simp at h
 |some fn=>
  rw[hf]at h;simp only[Option.any_some,Bool.and_eq_true,Bool.not_eq_true']at h;have h1:¬ fn.name= "runtime.NumGoroutine" :=by simpa using h.1
  have h2:¬ fn.body=none:=fun e=>by rw[e]at h;simp at h
  simp[callFunc,hf,h1,h2,go_sem]
theorem Tz.enters (t:Tz) (args:Array Value) (w:World):Sem.run prog (callFunc t.bz args) w=.ok (.enter t.bz args) w:=by
 cases t<;>exact pJ _ (by kernel_rfl) _ _
section
variable {A:PA} {rs:List Nat} {s:PS} {e:Nat} {E:jQ} {r:Nat} {x:mO}
end
inductive EL where
 |come|enter|search|make|put|out|leave|lock|find|word|seq|wordAgain|seqAgain|shut|clear
 deriving DecidableEq
structure jo where
 who:Int
 c:Cl
 shard:Int
 st:EL
 i:Int
 free:Int
 at':Int
 obj:Int
 r:Option Nat
 w:Int
 q:Int
 now:Int
 told:Int
def EL.bz:EL→FuncId
 |.come=>70|.enter=>96|.search=>140|.make=>173|.put=>200|.out=>172|.leave=>69|.lock=>95|.find=>139|.word=>171|.seq=>196|.wordAgain=>215|.seqAgain=>236|.shut=>195|.clear=>213
@[reducible] def aO (P e:Nat) (nx rv:Value) (E:jo):HA:=box e [ptr P,J E.who,J E.c.op,J E.c.flow,J E.c.a,J E.c.b,J E.shard,nx,J E.i,J E.free,J E.at',J E.obj,rv,Ju E.w,Ju E.q,J E.now,J E.told] 171
@[reducible] def rW (P:Nat) (rs:List Nat) (e:Nat) (E:jo):HA:=aO P e (aV E.st.bz e) (rV rs E.r) E
structure RO where
 s:PS
 E:jo
 c:Int
 d:Bool
def jo.ri (E:jo):Nat:=E.r.getD 0
section
variable {P e:Nat} {nx rv:Value} {E:jo}
theorem dK (f:FuncId):Does prog [aO P e nx rv E] 138 #[ptr e,.func (.func f) #[ptr e] #[]] (bI 0 false) [aO P e (aV f e) rv E]:=Does.ax fun S w0 w h=>by
 obtain⟨B,hB⟩:∃ B,B=w.heap.size:=⟨_,rfl⟩
 have c7:=(h.row (k:=e) 0 rfl).cell (j:=7) rfl;have lp:=(h.row (k:=e) 0 rfl).lt;have f7:=(h.row (k:=e) 0 rfl).free 7;have t1:=Scope.au (As:=[]) (Bs:=[]) h 7 (.func (.func f) #[ptr e] #[]);have t2:=t1.box [J 0,nS,J 0,Ju 0] 60;rw[show(w.setCell ⟨e,7,none⟩ (.func (.func f) #[ptr e] #[])).heap.size=B by rw[hB];simp]at t2;have T2:=zd t2;have HB:=zd hB;clear h t1 t2 hB
 go_enter func138,ntmps138
 go_wp2
 have q3:=T2.out;obtain⟨V,hV⟩:∃ V,V=(w.setCell ⟨e,7,none⟩ (.func (.func f) #[ptr e] #[])).alloc (.cells #[J 0,nS,J 0,Ju 0] 60):=⟨_,rfl⟩
 rw[show(w.setCell ⟨e,7,none⟩ (.func (.func f) #[ptr e] #[])).alloc (.cells [J 0,nS,J 0,Ju 0].toArray 60)=V from hV.symm]at q3;rw[←hV, ←HB.out];have z0:At V B 0 (J 0):=(q3.row (k:=B) 1 rfl).cell rfl;have z1:At V B 1 (nS):=(q3.row (k:=B) 1 rfl).cell rfl;have z2:At V B 2 (J 0):=(q3.row (k:=B) 1 rfl).cell rfl;have z3:At V B 3 (Ju 0):=(q3.row (k:=B) 1 rfl).cell rfl
 exact bodyPost_ret (v:=bI 0 false) (by simp[results,results138,go_sem,z0,z1,z2,z3]) rfl (Ends.mk [box B [J 0,nS,J 0,Ju 0] 60] q3)
end
theorem EL.enters (t:EL) (args:Array Value) (w:World):Sem.run prog (callFunc t.bz args) w=.ok (.enter t.bz args) w:=by
 cases t<;>exact pJ _ (by kernel_rfl) _ _
section
variable {A:PA} {rs:List Nat} {s:PS} {e:Nat} {E:jo} {r:Nat} {x:mO}
theorem kJ (nx rv:Value) (now c:Int) (hwho:I64 E.who) (hn:s.pt.length<100000):Does prog [ae A rs s,aO A.P e nx rv E] 136 #[ptr e,J now,J c] (.tuple #[]) [ae A rs (s.note now E.who (bD c)),aO A.P e nx rv { E with told:=c }]:=Does.ax fun S w0 w h=>by
 have rr:=h.row (k:=e) 1 rfl;have c16:=rr.cell (j:=16) rfl;have f16:=rr.free 16;have q:Scope S w0 w ([ae A rs s]++([aO A.P e nx rv E]++[])):=h;have Q:=zd (Scope.au q 16 (J c));clear rr q h
 go_enter func136,ntmps136
 go_wp2_with fail
 obtain⟨V1,hV1⟩:∃ V1,V1=w.setCell ⟨e,16,none⟩ (J c):=⟨_,rfl⟩
 have q2:=Q.out;rw[←hV1]at q2 ⊢
 have S3:Hid (Scope S w0 V1 [ae A rs s,aO A.P e nx rv { E with told:=c }]):=zd q2;clear q2 hV1 Q;have sd:=S3.out.drew;have re:=sd.row (k:=e) 1 rfl;have h0:At V1.drew e 0 (ptr A.P)∧At V1.drew e 1 (J E.who):=⟨re.cell rfl,re.cell rfl⟩
 have Sd5:=zd sd;clear sd re S3;refine aP (by kernel_rfl) ?_;generalize V1.drew=V4 at Sd5 h0 ⊢
 refine aY [0,4,5,9] ?_
 repeat (refine ay _ rfl (by kernel_rfl) (fun _ _ _ h=>h) (fun w'=>by(try simp only[ag,ah,aj]);go_simp;try with_reducible rfl) ?_;try simp only[Act.put,ag,ah,aj,aF,aB,aC])
 refine aH ?_;refine bJ (fun w'=>At w' e 0 (ptr A.P)∧At w' e 1 (J E.who)) [1,2,3,6,7,8,10] ?_
 repeat (refine aN _ rfl (by kernel_rfl) (fun _ _ _ h=>h) h0 (fun w' hS=>by(try dsimp only at hS);(try simp only[ag,ah,aj]);go_simp;try with_reducible rfl) ?_;try simp only[Act.put,ag,ah,aj,aF,aB,aC])
 refine bH (by kernel_rfl) ?_;refine af 11 (by kernel_rfl) rfl (by rfl) fun K hK=>?_
 go_simp;refine(qR now E.who (bD c) (nS) hwho hn Sd5.out (fun _ _=>.inl ⟨rfl,rfl⟩) (by unfold lJ;simp)).mono ?_
 rintro er w6 ⟨rfl,s7⟩
 refine hK _ _ ?_;obtain⟨s8,Hs8,s7⟩:=az (s':=(s).note now E.who (bD c)) s7;have S9:Hid (Scope S w0 w6 [ae A rs s8,aO A.P e nx rv { E with told:=c }]):=zd s7;clear s7 Sd5 hK K h0
 try simp only[Act.put,ag,ah,aj,aF,aB,aC]
 refine wpAny_done (by kernel_rfl) ?_ _
 go_wp2
 go_end0
 have hs8:=Hs8.out;subst hs8
 exact Ends.mk [] S9.out
theorem iT (nx rv:Value) (now c:Int) (hwho:I64 E.who) (hn:s.pt.length<100000):Does prog [ae A rs s,aO A.P e nx rv E] 94 #[ptr e,J now,J c] (bI c true) [ae A rs (s.note now E.who (bD c)),aO A.P e nx rv { E with told:=c }]:=Does.ax fun S w0 w h=>by
 obtain⟨B,W,HB,HW,Sa⟩:=bV h;clear h
 go_enter func94,ntmps94
 go_wp2_with fail
 rw[←HB.out, ←HW.out];refine((kJ (s:=s) nx rv now c hwho hn).iY Sa.out).mono ?_
 rintro er w1 ⟨rfl,s2⟩
 obtain⟨s3,Hs3,s2⟩:=az (s':=(s).note now E.who (bD c)) s2;have S4:Hid (Scope S w0 w1 [ae A rs s3,aO A.P e nx rv { E with told:=c },bK B 0]):=zd s2;clear s2 Sa;obtain⟨b0,b1,b2,b3,f0,f1,f2,f3,Q4⟩:=aI (c:=c) S4.out
 go_wp2
 refine aQ (d:=true) rfl Q4 (fun Vz z0 z1 z2 z3=>by simp[results,results94,go_sem,z0,z1,z2,z3]) rfl fun _ q5=>?_
 have hs3:=Hs3.out;subst hs3
 exact q5
theorem sQ (nx rv:Value):Does prog [ae A rs s,aO A.P e nx rv E] 93 #[ptr e] (.bool (decide (E.c.flow<0)||decide (1048576<E.c.flow))) [ae A rs s,aO A.P e nx rv E]:=Does.ax fun S w0 w h=>by
 have c3:=(h.row (k:=e) 1 rfl).cell (j:=3) rfl;have Sa:=zd h;clear h;obtain⟨ba,hba⟩:∃ ba,decide (E.c.flow<0)=ba:=⟨_,rfl⟩
 obtain⟨bb,hbb⟩:∃ bb,decide (1048576<E.c.flow)=bb:=⟨_,rfl⟩
 rw[hba,hbb]
 cases ba<;>cases bb
 all_goals
  go_enter func93,ntmps93
  go_wp2
  go_ret
  exact Ends.mk' (by simp) [] Sa.out
end
def lS (s:PS) (E:jo):PS:={ s with σ:=s.σ.swap E.who (ja E.shard) 0 1 }
def dI (s:PS) (E:jo) (a b:EL):RO:=⟨lS s E,{ E with st:=cond (decide (s.σ.num (ja E.shard)=0)) a b },0,false⟩
@[reducible] def qw (s:PS) (E:jo):Int:=s.σ.num (bQ (E.ri:Nat))
def nU (s:PS) (E:jo):PS:={ s with σ:=s.σ.put E.who 1 (bQ (E.ri:Nat)) }
def kV (s:PS) (E:jo):RO:=⟨nU s E,{ E with w:=qw s E,st:=cond (wst (qw s E)==0) .shut .seq },0,false⟩
def dU (s:PS) (E:jo) (now:Int):RO:=cond (wst (qw s E)==0) ⟨nU s E,{ E with w:=qw s E,st:=.shut },0,false⟩ ⟨nU s E,{ E with w:=qw s E,now:=now,st:=.seqAgain },0,false⟩
def uN (s:PS) (E:jo):PS:={ s with σ:=s.σ.put E.who 1 gm }
def og (s:PS) (E:jo):RO:=⟨uN s E,{ E with q:=s.σ.num gm,st:=cond ((s.σ.num gm).tmod 2==1) .word .wordAgain },0,false⟩
def eG (s:PS) (E:jo):RO:=cond (s.σ.num gm==E.q) ⟨(uN s E).note E.now E.who (bD 8),{ E with told:=8,st:=.out },0,false⟩ ⟨uN s E,{ E with st:=.word },0,false⟩
section
variable {A:PA} {rs:List Nat} {s:PS} {e:Nat} {E:jo} {r:Nat} {x:mO}
theorem wB (now:Int) (hsh:I64 E.shard) (hl:s.σ.log.length≤1000000):Does prog [ae A rs s,aO A.P e (aV E.st.bz e) (rV rs E.r) E] 96 #[ptr e,J now] (bI (dI s E .search .enter).c (dI s E .search .enter).d) [ae A rs (dI s E .search .enter).s,rW A.P rs e (dI s E .search .enter).E]:=Does.ax fun S w0 w h=>by
 obtain⟨B,W,HB,HW,Sa⟩:=bV h;clear h
 go_enter func96,ntmps96
 go_wp2_with fail
 rw[←HB.out, ←HW.out];have sd:=Sa.out.drew;have re:=sd.row (k:=e) 1 rfl;have pc:=sd.bT 0 rfl;have h0:At W.drew e 0 (ptr A.P)∧At W.drew A.P 2 (ptr A.tb)∧At W.drew e 1 (J E.who)∧At W.drew e 6 (J E.shard):=⟨re.cell rfl,pc.tb,re.cell rfl,re.cell rfl⟩
 have Sd2:=zd sd;clear sd re pc Sa;refine aP (by kernel_rfl) ?_;generalize W.drew=V1 at Sd2 h0 ⊢
 refine aY [0,7,11] ?_
 repeat (refine ay _ rfl (by kernel_rfl) (fun _ _ _ h=>h) (fun w'=>by(try simp only[ag,ah,aj]);go_simp;try with_reducible rfl) ?_;try simp only[Act.put,ag,ah,aj,aF,aB,aC])
 refine aH ?_;refine bJ (fun w'=>At w' e 0 (ptr A.P)∧At w' A.P 2 (ptr A.tb)∧At w' e 1 (J E.who)∧At w' e 6 (J E.shard)) [1,2,3,4,5,6,8,9,10,12,13,14] ?_
 repeat (refine aN _ rfl (by kernel_rfl) (fun _ _ _ h=>h) h0 (fun w' hS=>by(try dsimp only at hS);(try simp only[ag,ah,aj]);go_simp;try with_reducible rfl) ?_;try simp only[Act.put,ag,ah,aj,aF,aB,aC])
 refine bH (by kernel_rfl) ?_;refine af 15 (by kernel_rfl) rfl (by rfl) fun K hK=>?_
 go_simp;refine((qQ E.who E.shard hsh hl).at0 Sd2.out).mono ?_
 rintro er w3 ⟨rfl,s4⟩
 refine hK _ _ ?_;obtain⟨s5,Hs5,s4⟩:=az (s':=lS s E) s4;have S6:Hid (Scope S w0 w3 [ae A rs s5,aO A.P e (aV E.st.bz e) (rV rs E.r) E,bK B 0]):=zd s4;clear s4 Sd2 hK K h0;obtain⟨bb,hbb⟩:∃ bb,decide (s.σ.num (ja E.shard)=0)=bb:=⟨_,rfl⟩
 rw[hbb];have Hbb:=zd hbb;clear hbb
 try simp only[Act.put,ag,ah,aj,aF,aB,aC]
 refine aY [16] ?_
 repeat (refine ay _ rfl (by kernel_rfl) (fun _ _ _ h=>h) (fun w'=>by(try simp only[ag,ah,aj]);go_simp;try with_reducible rfl) ?_;try simp only[Act.put,ag,ah,aj,aF,aB,aC])
 refine aH ?_;refine wpAny_done (by kernel_rfl) ?_ _
 cases bb
 ·have hO:dI s E .search .enter=⟨lS s E,{ E with st:=.enter },0,false⟩:=by unfold dI;rw[Hbb.out];rfl
  have HO:=zd hO;clear hO
  go_wp2_with fail
  refine((dK (P:=A.P) (nx:=(aV E.st.bz e)) (rv:=(rV rs E.r)) (E:=E) 96).fC S6.out).mono ?_
  rintro er w7 ⟨rfl,s8⟩
  have S9:Hid (Scope S w0 w7 [ae A rs s5,aO A.P e (aV 96 e) (rV rs E.r) { E with st:=.enter },bK B 0]):=zd s8;clear s8 S6;obtain⟨b0,b1,b2,b3,f0,f1,f2,f3,Q4⟩:=aI (c:=0) S9.out
  go_wp2
  refine aQ (d:=false) (by rw[HO.out]) Q4 (fun Vz z0 z1 z2 z3=>by simp[results,results96,go_sem,z0,z1,z2,z3]) rfl fun _ q5=>?_
  rw[HO.out];have hs5:=Hs5.out;subst hs5
  exact q5
 ·have hO:dI s E .search .enter=⟨lS s E,{ E with st:=.search },0,false⟩:=by unfold dI;rw[Hbb.out];rfl
  have HO:=zd hO;clear hO
  go_wp2_with fail
  refine((dK (P:=A.P) (nx:=(aV E.st.bz e)) (rv:=(rV rs E.r)) (E:=E) 140).fC S6.out).mono ?_
  rintro er w10 ⟨rfl,s11⟩
  have S12:Hid (Scope S w0 w10 [ae A rs s5,aO A.P e (aV 140 e) (rV rs E.r) { E with st:=.search },bK B 0]):=zd s11;clear s11 S6;obtain⟨b0,b1,b2,b3,f0,f1,f2,f3,Q4⟩:=aI (c:=0) S12.out
  go_wp2
  refine aQ (d:=false) (by rw[HO.out]) Q4 (fun Vz z0 z1 z2 z3=>by simp[results,results96,go_sem,z0,z1,z2,z3]) rfl fun _ q5=>?_
  rw[HO.out];have hs5:=Hs5.out;subst hs5
  exact q5
theorem yO (now:Int) (hsh:I64 E.shard) (hl:s.σ.log.length≤1000000):Does prog [ae A rs s,aO A.P e (aV E.st.bz e) (rV rs E.r) E] 95 #[ptr e,J now] (bI (dI s E .find .lock).c (dI s E .find .lock).d) [ae A rs (dI s E .find .lock).s,rW A.P rs e (dI s E .find .lock).E]:=Does.ax fun S w0 w h=>by
 obtain⟨B,W,HB,HW,Sa⟩:=bV h;clear h
 go_enter func95,ntmps95
 go_wp2_with fail
 rw[←HB.out, ←HW.out];have sd:=Sa.out.drew;have re:=sd.row (k:=e) 1 rfl;have pc:=sd.bT 0 rfl;have h0:At W.drew e 0 (ptr A.P)∧At W.drew A.P 2 (ptr A.tb)∧At W.drew e 1 (J E.who)∧At W.drew e 6 (J E.shard):=⟨re.cell rfl,pc.tb,re.cell rfl,re.cell rfl⟩
 have Sd2:=zd sd;clear sd re pc Sa;refine aP (by kernel_rfl) ?_;generalize W.drew=V1 at Sd2 h0 ⊢
 refine aY [0,7,11] ?_
 repeat (refine ay _ rfl (by kernel_rfl) (fun _ _ _ h=>h) (fun w'=>by(try simp only[ag,ah,aj]);go_simp;try with_reducible rfl) ?_;try simp only[Act.put,ag,ah,aj,aF,aB,aC])
 refine aH ?_;refine bJ (fun w'=>At w' e 0 (ptr A.P)∧At w' A.P 2 (ptr A.tb)∧At w' e 1 (J E.who)∧At w' e 6 (J E.shard)) [1,2,3,4,5,6,8,9,10,12,13,14] ?_
 repeat (refine aN _ rfl (by kernel_rfl) (fun _ _ _ h=>h) h0 (fun w' hS=>by(try dsimp only at hS);(try simp only[ag,ah,aj]);go_simp;try with_reducible rfl) ?_;try simp only[Act.put,ag,ah,aj,aF,aB,aC])
 refine bH (by kernel_rfl) ?_;refine af 15 (by kernel_rfl) rfl (by rfl) fun K hK=>?_
 go_simp;refine((qQ E.who E.shard hsh hl).at0 Sd2.out).mono ?_
 rintro er w3 ⟨rfl,s4⟩
 refine hK _ _ ?_;obtain⟨s5,Hs5,s4⟩:=az (s':=lS s E) s4;have S6:Hid (Scope S w0 w3 [ae A rs s5,aO A.P e (aV E.st.bz e) (rV rs E.r) E,bK B 0]):=zd s4;clear s4 Sd2 hK K h0;obtain⟨bb,hbb⟩:∃ bb,decide (s.σ.num (ja E.shard)=0)=bb:=⟨_,rfl⟩
 rw[hbb];have Hbb:=zd hbb;clear hbb
 try simp only[Act.put,ag,ah,aj,aF,aB,aC]
 refine aY [16] ?_
 repeat (refine ay _ rfl (by kernel_rfl) (fun _ _ _ h=>h) (fun w'=>by(try simp only[ag,ah,aj]);go_simp;try with_reducible rfl) ?_;try simp only[Act.put,ag,ah,aj,aF,aB,aC])
 refine aH ?_;refine wpAny_done (by kernel_rfl) ?_ _
 cases bb
 ·have hO:dI s E .find .lock=⟨lS s E,{ E with st:=.lock },0,false⟩:=by unfold dI;rw[Hbb.out];rfl
  have HO:=zd hO;clear hO
  go_wp2_with fail
  refine((dK (P:=A.P) (nx:=(aV E.st.bz e)) (rv:=(rV rs E.r)) (E:=E) 95).fC S6.out).mono ?_
  rintro er w7 ⟨rfl,s8⟩
  have S9:Hid (Scope S w0 w7 [ae A rs s5,aO A.P e (aV 95 e) (rV rs E.r) { E with st:=.lock },bK B 0]):=zd s8;clear s8 S6;obtain⟨b0,b1,b2,b3,f0,f1,f2,f3,Q4⟩:=aI (c:=0) S9.out
  go_wp2
  refine aQ (d:=false) (by rw[HO.out]) Q4 (fun Vz z0 z1 z2 z3=>by simp[results,results95,go_sem,z0,z1,z2,z3]) rfl fun _ q5=>?_
  rw[HO.out];have hs5:=Hs5.out;subst hs5
  exact q5
 ·have hO:dI s E .find .lock=⟨lS s E,{ E with st:=.find },0,false⟩:=by unfold dI;rw[Hbb.out];rfl
  have HO:=zd hO;clear hO
  go_wp2_with fail
  refine((dK (P:=A.P) (nx:=(aV E.st.bz e)) (rv:=(rV rs E.r)) (E:=E) 139).fC S6.out).mono ?_
  rintro er w10 ⟨rfl,s11⟩
  have S12:Hid (Scope S w0 w10 [ae A rs s5,aO A.P e (aV 139 e) (rV rs E.r) { E with st:=.find },bK B 0]):=zd s11;clear s11 S6;obtain⟨b0,b1,b2,b3,f0,f1,f2,f3,Q4⟩:=aI (c:=0) S12.out
  go_wp2
  refine aQ (d:=false) (by rw[HO.out]) Q4 (fun Vz z0 z1 z2 z3=>by simp[results,results95,go_sem,z0,z1,z2,z3]) rfl fun _ q5=>?_
  rw[HO.out];have hs5:=Hs5.out;subst hs5
  exact q5
theorem AU (nx:Value) (hr:rs[E.ri]? =some r) (ho:s.ob[E.ri]? =some x) (hi:E.ri<1000000) (hu:dC (qw s E)) (hl:s.σ.log.length≤1000000):Does prog [ae A rs s,aO A.P e nx (ptr r) E] 194 #[ptr e] (.bool (wst (qw s E)==0)) [ae A rs (nU s E),aO A.P e nx (ptr r) { E with w:=qw s E }]:=Does.ax fun S w0 w h=>by
 have Sa:=zd h;clear h
 go_enter func194,ntmps194
 go_wp2_with fail
 have sd:=Sa.out.drew;have re:=sd.row (k:=e) 1 rfl;have h0:At w.drew e 12 ((ptr r))∧At w.drew e 1 (J E.who):=⟨re.cell rfl,re.cell rfl⟩
 have Sd2:=zd sd;clear sd re Sa;refine aP (by kernel_rfl) ?_;generalize w.drew=V1 at Sd2 h0 ⊢
 refine aY [0,1,5] ?_
 repeat (refine ay _ rfl (by kernel_rfl) (fun _ _ _ h=>h) (fun w'=>by(try simp only[ag,ah,aj]);go_simp;try with_reducible rfl) ?_;try simp only[Act.put,ag,ah,aj,aF,aB,aC])
 refine aH ?_;refine bJ (fun w'=>At w' e 12 ((ptr r))∧At w' e 1 (J E.who)) [2,3,4,6,7,8] ?_
 repeat (refine aN _ rfl (by kernel_rfl) (fun _ _ _ h=>h) h0 (fun w' hS=>by(try dsimp only at hS);(try simp only[ag,ah,aj]);go_simp;try with_reducible rfl) ?_;try simp only[Act.put,ag,ah,aj,aF,aB,aC])
 refine bH (by kernel_rfl) ?_;refine af 9 (by kernel_rfl) rfl (by rfl) fun K hK=>?_
 go_simp;refine((nY hr ho hi hl E.who).at0 Sd2.out).mono ?_
 rintro er w3 ⟨rfl,s4⟩
 refine hK _ _ ?_;obtain⟨s5,Hs5,s4⟩:=az (s':=nU s E) s4;have S6:Hid (Scope S w0 w3 [ae A rs s5,aO A.P e nx (ptr r) E]):=zd s4;clear s4 Sd2 hK K h0
 try simp only[Act.put,ag,ah,aj,aF,aB,aC]
 have rr:=S6.out.row (k:=e) 1 rfl;have c13:=rr.cell (j:=13) rfl;have f13:=rr.free 13;have q7:Scope S w0 w3 ([ae A rs s5]++([aO A.P e nx (ptr r) E]++[])):=S6.out;have q8:=Scope.au q7 13 (Ju (qw s E));have Q9:=zd q8;clear rr q7 q8 S6;refine aY [10,11] ?_
 repeat (refine ay _ rfl (by kernel_rfl) (fun _ _ _ h=>h) (fun w'=>by(try simp only[ag,ah,aj]);go_simp;try with_reducible rfl) ?_;try simp only[Act.put,ag,ah,aj,aF,aB,aC])
 refine aH ?_;refine af 12 (by kernel_rfl) rfl (by rfl) fun K hK=>?_
 go_simp;refine hK _ _ ?_;clear hK K
 try simp only[Act.put,ag,ah,aj,aF,aB,aC]
 refine wpAny_done (by kernel_rfl) ?_ _;clear c13 f13;obtain⟨V10,hV10⟩:∃ V10,V10=w3.setCell ⟨e,13,none⟩ (Ju (qw s E)):=⟨_,rfl⟩
 have q11:=Q9.out;rw[←hV10]at q11 ⊢
 have S12:Hid (Scope S w0 V10 [ae A rs s5,aO A.P e nx (ptr r) { E with w:=qw s E }]):=zd q11;clear q11 hV10 Q9;have rr:=S12.out.row (k:=e) 1 rfl;have c13:=rr.cell (j:=13) rfl;clear rr
 go_wp2_with fail
 clear c13;refine(iC (x:=qw s E) hu _).mono ?_
 rintro er wz ⟨rfl,hw⟩
 subst hw;have hs5:=Hs5.out;subst hs5
 go_wp2
 go_ret
 exact Ends.mk [] S12.out
theorem I4 (now:Int) (hR:E.r=some E.ri) (hr:rs[E.ri]? =some r) (ho:s.ob[E.ri]? =some x) (hi:E.ri<1000000) (hu:dC (qw s E)) (hl:s.σ.log.length≤1000000):Does prog [ae A rs s,aO A.P e (aV E.st.bz e) (rV rs E.r) E] 171 #[ptr e,J now] (bI (kV s E).c (kV s E).d) [ae A rs (kV s E).s,rW A.P rs e (kV s E).E]:=Does.ax fun S w0 w h=>by
 have hrv:rV rs E.r=ptr r:=by rw[hR];simp[rV,List.getD,hr]
 rw[show aO A.P e (aV E.st.bz e) (rV rs E.r) E=aO A.P e (aV E.st.bz e) (ptr r) E from by rw[hrv]]at h;have Hrv:=zd hrv;clear hrv;obtain⟨B,W,HB,HW,Sa⟩:=bV h;clear h
 go_enter func171,ntmps171
 go_wp2_with fail
 rw[←HB.out, ←HW.out];refine((AU (s:=s) (aV E.st.bz e) hr ho hi hu hl).iY Sa.out).mono ?_
 rintro er w1 ⟨rfl,s2⟩
 obtain⟨s3,Hs3,s2⟩:=az (s':=nU s E) s2;have S4:Hid (Scope S w0 w1 [ae A rs s3,aO A.P e (aV E.st.bz e) (ptr r) { E with w:=qw s E },bK B 0]):=zd s2;clear s2 Sa;obtain⟨bb,hbb⟩:∃ bb,(wst (qw s E)==0)=bb:=⟨_,rfl⟩
 rw[hbb];have Hbb:=zd hbb;clear hbb
 cases bb
 ·have hO:kV s E=⟨nU s E,{ E with w:=qw s E,st:=.seq },0,false⟩:=by unfold kV;rw[Hbb.out];rfl
  have HO:=zd hO;clear hO
  go_wp2_with fail
  refine((dK (P:=A.P) (nx:=(aV E.st.bz e)) (rv:=(ptr r)) (E:={ E with w:=qw s E }) 196).fC S4.out).mono ?_
  rintro er w5 ⟨rfl,s6⟩
  have S7:Hid (Scope S w0 w5 [ae A rs s3,aO A.P e (aV 196 e) (ptr r) { E with w:=qw s E,st:=.seq },bK B 0]):=zd s6;clear s6 S4;obtain⟨b0,b1,b2,b3,f0,f1,f2,f3,Q4⟩:=aI (c:=0) S7.out
  go_wp2
  refine aQ (d:=false) (by rw[HO.out]) Q4 (fun Vz z0 z1 z2 z3=>by simp[results,results171,go_sem,z0,z1,z2,z3]) rfl fun _ q5=>?_
  rw[HO.out];have hs3:=Hs3.out;subst hs3;rw[←Hrv.out]at q5
  exact q5
 ·have hO:kV s E=⟨nU s E,{ E with w:=qw s E,st:=.shut },0,false⟩:=by unfold kV;rw[Hbb.out];rfl
  have HO:=zd hO;clear hO
  go_wp2_with fail
  refine((dK (P:=A.P) (nx:=(aV E.st.bz e)) (rv:=(ptr r)) (E:={ E with w:=qw s E }) 195).fC S4.out).mono ?_
  rintro er w8 ⟨rfl,s9⟩
  have S10:Hid (Scope S w0 w8 [ae A rs s3,aO A.P e (aV 195 e) (ptr r) { E with w:=qw s E,st:=.shut },bK B 0]):=zd s9;clear s9 S4;obtain⟨b0,b1,b2,b3,f0,f1,f2,f3,Q4⟩:=aI (c:=0) S10.out
  go_wp2
  refine aQ (d:=false) (by rw[HO.out]) Q4 (fun Vz z0 z1 z2 z3=>by simp[results,results171,go_sem,z0,z1,z2,z3]) rfl fun _ q5=>?_
  rw[HO.out];have hs3:=Hs3.out;subst hs3;rw[←Hrv.out]at q5
  exact q5
theorem wZ (now:Int) (hR:E.r=some E.ri) (hr:rs[E.ri]? =some r) (ho:s.ob[E.ri]? =some x) (hi:E.ri<1000000) (hu:dC (qw s E)) (hl:s.σ.log.length≤1000000):Does prog [ae A rs s,aO A.P e (aV E.st.bz e) (rV rs E.r) E] 215 #[ptr e,J now] (bI (dU s E now).c (dU s E now).d) [ae A rs (dU s E now).s,rW A.P rs e (dU s E now).E]:=Does.ax fun S w0 w h=>by
 have hrv:rV rs E.r=ptr r:=by rw[hR];simp[rV,List.getD,hr]
 rw[show aO A.P e (aV E.st.bz e) (rV rs E.r) E=aO A.P e (aV E.st.bz e) (ptr r) E from by rw[hrv]]at h;have Hrv:=zd hrv;clear hrv;obtain⟨B,W,HB,HW,Sa⟩:=bV h;clear h
 go_enter func215,ntmps215
 go_wp2_with fail
 rw[←HB.out, ←HW.out];refine((AU (s:=s) (aV E.st.bz e) hr ho hi hu hl).iY Sa.out).mono ?_
 rintro er w1 ⟨rfl,s2⟩
 obtain⟨s3,Hs3,s2⟩:=az (s':=nU s E) s2;have S4:Hid (Scope S w0 w1 [ae A rs s3,aO A.P e (aV E.st.bz e) (ptr r) { E with w:=qw s E },bK B 0]):=zd s2;clear s2 Sa;obtain⟨bb,hbb⟩:∃ bb,(wst (qw s E)==0)=bb:=⟨_,rfl⟩
 rw[hbb];have Hbb:=zd hbb;clear hbb
 cases bb
 ·have hO:dU s E now=⟨nU s E,{ E with w:=qw s E,now:=now,st:=.seqAgain },0,false⟩:=by unfold dU;rw[Hbb.out];rfl
  have HO:=zd hO;clear hO;have rr:=S4.out.row (k:=e) 1 rfl;have c15:=rr.cell (j:=15) rfl;have f15:=rr.free 15;have q5:Scope S w0 w1 ([ae A rs s3]++([aO A.P e (aV E.st.bz e) (ptr r) { E with w:=qw s E }]++[bK B 0])):=S4.out;have q6:=Scope.au q5 15 (J now);have Q7:=zd q6;clear rr q5 q6 S4
  go_wp2_with fail
  clear c15 f15;obtain⟨V8,hV8⟩:∃ V8,V8=w1.setCell ⟨e,15,none⟩ (J now):=⟨_,rfl⟩
  have q9:=Q7.out;rw[←hV8]at q9 ⊢
  have S10:Hid (Scope S w0 V8 [ae A rs s3,aO A.P e (aV E.st.bz e) (ptr r) { E with w:=qw s E,now:=now },bK B 0]):=zd q9;clear q9 hV8 Q7;refine((dK (P:=A.P) (nx:=(aV E.st.bz e)) (rv:=(ptr r)) (E:={ E with w:=qw s E,now:=now }) 236).fC S10.out).mono ?_
  rintro er w11 ⟨rfl,s12⟩
  have S13:Hid (Scope S w0 w11 [ae A rs s3,aO A.P e (aV 236 e) (ptr r) { E with w:=qw s E,now:=now,st:=.seqAgain },bK B 0]):=zd s12;clear s12 S10;obtain⟨b0,b1,b2,b3,f0,f1,f2,f3,Q4⟩:=aI (c:=0) S13.out
  go_wp2
  refine aQ (d:=false) (by rw[HO.out]) Q4 (fun Vz z0 z1 z2 z3=>by simp[results,results215,go_sem,z0,z1,z2,z3]) rfl fun _ q5=>?_
  rw[HO.out];have hs3:=Hs3.out;subst hs3;rw[←Hrv.out]at q5
  exact q5
 ·have hO:dU s E now=⟨nU s E,{ E with w:=qw s E,st:=.shut },0,false⟩:=by unfold dU;rw[Hbb.out];rfl
  have HO:=zd hO;clear hO
  go_wp2_with fail
  refine((dK (P:=A.P) (nx:=(aV E.st.bz e)) (rv:=(ptr r)) (E:={ E with w:=qw s E }) 195).fC S4.out).mono ?_
  rintro er w14 ⟨rfl,s15⟩
  have S16:Hid (Scope S w0 w14 [ae A rs s3,aO A.P e (aV 195 e) (ptr r) { E with w:=qw s E,st:=.shut },bK B 0]):=zd s15;clear s15 S4;obtain⟨b0,b1,b2,b3,f0,f1,f2,f3,Q4⟩:=aI (c:=0) S16.out
  go_wp2
  refine aQ (d:=false) (by rw[HO.out]) Q4 (fun Vz z0 z1 z2 z3=>by simp[results,results215,go_sem,z0,z1,z2,z3]) rfl fun _ q5=>?_
  rw[HO.out];have hs3:=Hs3.out;subst hs3;rw[←Hrv.out]at q5
  exact q5
theorem MN (now:Int) (hu:dC (s.σ.num gm)) (hl:s.σ.log.length≤1000000):Does prog [ae A rs s,aO A.P e (aV E.st.bz e) (rV rs E.r) E] 196 #[ptr e,J now] (bI (og s E).c (og s E).d) [ae A rs (og s E).s,rW A.P rs e (og s E).E]:=Does.ax fun S w0 w h=>by
 obtain⟨B,W,HB,HW,Sa⟩:=bV h;clear h
 go_enter func196,ntmps196
 go_wp2_with fail
 rw[←HB.out, ←HW.out];have sd:=Sa.out.drew;have re:=sd.row (k:=e) 1 rfl;have h0:At W.drew e 0 (ptr A.P)∧At W.drew e 1 (J E.who):=⟨re.cell rfl,re.cell rfl⟩
 have Sd2:=zd sd;clear sd re Sa;refine aP (by kernel_rfl) ?_;generalize W.drew=V1 at Sd2 h0 ⊢
 refine aY [0,1,5] ?_
 repeat (refine ay _ rfl (by kernel_rfl) (fun _ _ _ h=>h) (fun w'=>by(try simp only[ag,ah,aj]);go_simp;try with_reducible rfl) ?_;try simp only[Act.put,ag,ah,aj,aF,aB,aC])
 refine aH ?_;refine bJ (fun w'=>At w' e 0 (ptr A.P)∧At w' e 1 (J E.who)) [2,3,4,6,7,8] ?_
 repeat (refine aN _ rfl (by kernel_rfl) (fun _ _ _ h=>h) h0 (fun w' hS=>by(try dsimp only at hS);(try simp only[ag,ah,aj]);go_simp;try with_reducible rfl) ?_;try simp only[Act.put,ag,ah,aj,aF,aB,aC])
 refine bH (by kernel_rfl) ?_;refine af 9 (by kernel_rfl) rfl (by rfl) fun K hK=>?_
 go_simp;refine((rQ hl E.who).at0 Sd2.out).mono ?_
 rintro er w3 ⟨rfl,s4⟩
 refine hK _ _ ?_;obtain⟨s5,Hs5,s4⟩:=az (s':=uN s E) s4;have S6:Hid (Scope S w0 w3 [ae A rs s5,aO A.P e (aV E.st.bz e) (rV rs E.r) E,bK B 0]):=zd s4;clear s4 Sd2 hK K h0
 try simp only[Act.put,ag,ah,aj,aF,aB,aC]
 have rr:=S6.out.row (k:=e) 1 rfl;have c14:=rr.cell (j:=14) rfl;have f14:=rr.free 14;have q7:Scope S w0 w3 ([ae A rs s5]++([aO A.P e (aV E.st.bz e) (rV rs E.r) E]++[bK B 0])):=S6.out;have q8:=Scope.au q7 14 (Ju (s.σ.num gm));have Q9:=zd q8;clear rr q7 q8 S6;refine aY [10,11] ?_
 repeat (refine ay _ rfl (by kernel_rfl) (fun _ _ _ h=>h) (fun w'=>by(try simp only[ag,ah,aj]);go_simp;try with_reducible rfl) ?_;try simp only[Act.put,ag,ah,aj,aF,aB,aC])
 refine aH ?_;refine af 12 (by kernel_rfl) rfl (by rfl) fun K hK=>?_
 go_simp;refine hK _ _ ?_;clear hK K
 try simp only[Act.put,ag,ah,aj,aF,aB,aC]
 refine wpAny_done (by kernel_rfl) ?_ _;clear c14 f14;obtain⟨V10,hV10⟩:∃ V10,V10=w3.setCell ⟨e,14,none⟩ (Ju (s.σ.num gm)):=⟨_,rfl⟩
 have q11:=Q9.out;rw[←hV10]at q11 ⊢
 have S12:Hid (Scope S w0 V10 [ae A rs s5,aO A.P e (aV E.st.bz e) (rV rs E.r) { E with q:=s.σ.num gm },bK B 0]):=zd q11;clear q11 hV10 Q9;obtain⟨bb,hbb⟩:∃ bb,((s.σ.num gm).tmod 2==1)=bb:=⟨_,rfl⟩
 cases bb
 ·have hO:og s E=⟨uN s E,{ E with q:=s.σ.num gm,st:=.wordAgain },0,false⟩:=by unfold og;rw[hbb];rfl
  have HO:=zd hO;clear hO;have rr:=S12.out.row (k:=e) 1 rfl;have c14:=rr.cell (j:=14) rfl;clear rr
  go_wp2_with fail
  clear c14;refine((dK (P:=A.P) (nx:=(aV E.st.bz e)) (rv:=(rV rs E.r)) (E:={ E with q:=s.σ.num gm }) 215).fC S12.out).mono ?_
  rintro er w13 ⟨rfl,s14⟩
  have S15:Hid (Scope S w0 w13 [ae A rs s5,aO A.P e (aV 215 e) (rV rs E.r) { E with q:=s.σ.num gm,st:=.wordAgain },bK B 0]):=zd s14;clear s14 S12;obtain⟨b0,b1,b2,b3,f0,f1,f2,f3,Q4⟩:=aI (c:=0) S15.out
  go_wp2
  refine aQ (d:=false) (by rw[HO.out]) Q4 (fun Vz z0 z1 z2 z3=>by simp[results,results196,go_sem,z0,z1,z2,z3]) rfl fun _ q5=>?_
  rw[HO.out];have hs5:=Hs5.out;subst hs5
  exact q5
 ·have hO:og s E=⟨uN s E,{ E with q:=s.σ.num gm,st:=.word },0,false⟩:=by unfold og;rw[hbb];rfl
  have HO:=zd hO;clear hO;have rr:=S12.out.row (k:=e) 1 rfl;have c14:=rr.cell (j:=14) rfl;clear rr
  go_wp2_with fail
  clear c14;refine((dK (P:=A.P) (nx:=(aV E.st.bz e)) (rv:=(rV rs E.r)) (E:={ E with q:=s.σ.num gm }) 171).fC S12.out).mono ?_
  rintro er w16 ⟨rfl,s17⟩
  have S18:Hid (Scope S w0 w16 [ae A rs s5,aO A.P e (aV 171 e) (rV rs E.r) { E with q:=s.σ.num gm,st:=.word },bK B 0]):=zd s17;clear s17 S12;obtain⟨b0,b1,b2,b3,f0,f1,f2,f3,Q4⟩:=aI (c:=0) S18.out
  go_wp2
  refine aQ (d:=false) (by rw[HO.out]) Q4 (fun Vz z0 z1 z2 z3=>by simp[results,results196,go_sem,z0,z1,z2,z3]) rfl fun _ q5=>?_
  rw[HO.out];have hs5:=Hs5.out;subst hs5
  exact q5
theorem yh (now:Int) (hwho:I64 E.who) (hn:s.pt.length<100000) (hl:s.σ.log.length≤1000000):Does prog [ae A rs s,aO A.P e (aV E.st.bz e) (rV rs E.r) E] 236 #[ptr e,J now] (bI (eG s E).c (eG s E).d) [ae A rs (eG s E).s,rW A.P rs e (eG s E).E]:=Does.ax fun S w0 w h=>by
 obtain⟨B,W,HB,HW,Sa⟩:=bV h;clear h
 go_enter func236,ntmps236
 go_wp2_with fail
 rw[←HB.out, ←HW.out];have sd:=Sa.out.drew;have re:=sd.row (k:=e) 1 rfl;have h0:At W.drew e 0 (ptr A.P)∧At W.drew e 1 (J E.who)∧At W.drew e 14 (Ju E.q):=⟨re.cell rfl,re.cell rfl,re.cell rfl⟩
 have Sd2:=zd sd;clear sd re Sa;refine aP (by kernel_rfl) ?_;generalize W.drew=V1 at Sd2 h0 ⊢
 refine aY [0,4,9] ?_
 repeat (refine ay _ rfl (by kernel_rfl) (fun _ _ _ h=>h) (fun w'=>by(try simp only[ag,ah,aj]);go_simp;try with_reducible rfl) ?_;try simp only[Act.put,ag,ah,aj,aF,aB,aC])
 refine aH ?_;refine cu (fun w'=>At w' e 0 (ptr A.P)∧At w' e 1 (J E.who)∧At w' e 14 (Ju E.q)) [1,2,3,5,6,7,10,11,12,8] [1,2,3,5,6,7,10,11,12] ?_
 repeat (refine aN _ rfl (by kernel_rfl) (fun _ _ _ h=>h) h0 (fun w' hS=>by(try dsimp only at hS);(try simp only[ag,ah,aj]);go_simp;try with_reducible rfl) ?_;try simp only[Act.put,ag,ah,aj,aF,aB,aC])
 refine bM ?_;refine aK 8 (by kernel_rfl) rfl (by rfl) fun K hK=>?_
 go_simp;refine((rQ hl E.who).at0 Sd2.out).mono ?_
 rintro er w3 ⟨rfl,s4⟩
 have re:=s4.row (k:=e) 1 rfl;have h1:At w3 e 0 (ptr A.P)∧At w3 e 1 (J E.who)∧At w3 e 14 (Ju E.q):=⟨re.cell rfl,re.cell rfl,re.cell rfl⟩
 refine hK _ _ ⟨fun _=>h1,?_⟩;clear re;obtain⟨s5,Hs5,s4⟩:=az (s':=uN s E) s4;have S6:Hid (Scope S w0 w3 [ae A rs s5,aO A.P e (aV E.st.bz e) (rV rs E.r) E,bK B 0]):=zd s4;clear s4 Sd2 hK K h0
 try simp only[Act.put,ag,ah,aj,aF,aB,aC]
 refine dB [] (bH (by kernel_rfl) ?_);clear h1;refine aY [13] ?_
 repeat (refine ay _ rfl (by kernel_rfl) (fun _ _ _ h=>h) (fun w'=>by(try simp only[ag,ah,aj]);go_simp;try with_reducible rfl) ?_;try simp only[Act.put,ag,ah,aj,aF,aB,aC])
 refine aH ?_;refine wpAny_done (by kernel_rfl) ?_ _;obtain⟨bb,hbb⟩:∃ bb,(s.σ.num gm==E.q)=bb:=⟨_,rfl⟩
 cases bb
 ·have hO:eG s E=⟨uN s E,{ E with st:=.word },0,false⟩:=by unfold eG;rw[hbb];rfl
  have HO:=zd hO;clear hO
  go_wp2_with fail
  refine((dK (P:=A.P) (nx:=(aV E.st.bz e)) (rv:=(rV rs E.r)) (E:=E) 171).fC S6.out).mono ?_
  rintro er w7 ⟨rfl,s8⟩
  have S9:Hid (Scope S w0 w7 [ae A rs s5,aO A.P e (aV 171 e) (rV rs E.r) { E with st:=.word },bK B 0]):=zd s8;clear s8 S6;obtain⟨b0,b1,b2,b3,f0,f1,f2,f3,Q4⟩:=aI (c:=0) S9.out
  go_wp2
  refine aQ (d:=false) (by rw[HO.out]) Q4 (fun Vz z0 z1 z2 z3=>by simp[results,results236,go_sem,z0,z1,z2,z3]) rfl fun _ q5=>?_
  rw[HO.out];have hs5:=Hs5.out;subst hs5
  exact q5
 ·have hO:eG s E=⟨(uN s E).note E.now E.who (bD 8),{ E with told:=8,st:=.out },0,false⟩:=by unfold eG;rw[hbb];rfl
  have HO:=zd hO;clear hO;have rr:=S6.out.row (k:=e) 1 rfl;have c15:=rr.cell (j:=15) rfl;clear rr
  go_wp2_with fail
  clear c15;refine((kJ (s:=s5) (aV E.st.bz e) (rV rs E.r) E.now 8 hwho (by rw[Hs5.out];exact hn)).iY S6.out).mono ?_
  rintro er w10 ⟨rfl,s11⟩
  obtain⟨s12,Hs12,s11⟩:=az (s':=(s5).note E.now E.who (bD 8)) s11;have S13:Hid (Scope S w0 w10 [ae A rs s12,aO A.P e (aV E.st.bz e) (rV rs E.r) { E with told:=8 },bK B 0]):=zd s11;clear s11 S6
  go_wp2_with fail
  refine((dK (P:=A.P) (nx:=(aV E.st.bz e)) (rv:=(rV rs E.r)) (E:={ E with told:=8 }) 172).fC S13.out).mono ?_
  rintro er w14 ⟨rfl,s15⟩
  have S16:Hid (Scope S w0 w14 [ae A rs s12,aO A.P e (aV 172 e) (rV rs E.r) { E with told:=8,st:=.out },bK B 0]):=zd s15;clear s15 S13;obtain⟨b0,b1,b2,b3,f0,f1,f2,f3,Q4⟩:=aI (c:=0) S16.out
  go_wp2
  refine aQ (d:=false) (by rw[HO.out]) Q4 (fun Vz z0 z1 z2 z3=>by simp[results,results236,go_sem,z0,z1,z2,z3]) rfl fun _ q5=>?_
  rw[HO.out];have hs12:=Hs12.out;subst hs12;have hs5:=Hs5.out;subst hs5
  exact q5
end
def yV (s:PS) (E:jo):PS:={ s with σ:=s.σ.turn E.who (E.ri:Nat) 2 E.w }
def kM (s:PS) (E:jo) (now:Int):RO:=cond (s.σ.turned (E.ri:Nat) 2 E.w) ⟨(yV s E).note now E.who (bD 0),{ E with told:=0,st:=.clear },0,false⟩ ⟨yV s E,{ E with st:=.word },0,false⟩
def Lt (s:PS) (E:jo):PS:={ s with σ:=(s.σ.put E.who 2 (slotL E.shard E.at')).set (slotL E.shard E.at') 0 }
def mW (s:PS) (E:jo):RO:=⟨Lt s E,{ E with st:=.out },0,false⟩
def Pj (s:PS) (E:jo):PS:={ s with σ:=s.σ.uf E.who E.shard E.free E.c.flow E.obj }
def uG (s:PS) (E:jo) (now:Int):RO:=⟨(Pj s E).note now E.who (bD 0),{ E with told:=0,st:=.out },0,false⟩
def TS (s:PS) (E:jo):PS:={ s with σ:=(s.σ.put E.who 2 (ja E.shard)).set (ja E.shard) 0 }
def uH (s:PS) (E:jo):RO:=⟨TS s E,E,E.told,true⟩
section
variable {A:PA} {rs:List Nat} {s:PS} {e:Nat} {E:jo} {r:Nat} {x:mO}
theorem Il (now:Int) (hR:E.r=some E.ri) (hr:rs[E.ri]? =some r) (ho:s.ob[E.ri]? =some x) (hi:E.ri<1000000) (hw:dC E.w) (hwho:I64 E.who) (hn:s.pt.length<100000) (hl:s.σ.log.length≤1000000):Does prog [ae A rs s,aO A.P e (aV E.st.bz e) (rV rs E.r) E] 195 #[ptr e,J now] (bI (kM s E now).c (kM s E now).d) [ae A rs (kM s E now).s,rW A.P rs e (kM s E now).E]:=Does.ax fun S w0 w h=>by
 have hrv:rV rs E.r=ptr r:=by rw[hR];simp[rV,List.getD,hr]
 rw[show aO A.P e (aV E.st.bz e) (rV rs E.r) E=aO A.P e (aV E.st.bz e) (ptr r) E from by rw[hrv]]at h;have Hrv:=zd hrv;clear hrv;obtain⟨B,W,HB,HW,Sa⟩:=bV h;clear h
 go_enter func195,ntmps195
 go_wp2_with fail
 rw[←HB.out, ←HW.out];have sd:=Sa.out.drew;have re:=sd.row (k:=e) 1 rfl;have h0:At W.drew e 12 ((ptr r))∧At W.drew e 1 (J E.who)∧At W.drew e 13 (Ju E.w):=⟨re.cell rfl,re.cell rfl,re.cell rfl⟩
 have Sd2:=zd sd;clear sd re Sa;refine aP (by kernel_rfl) ?_;generalize W.drew=V1 at Sd2 h0 ⊢
 refine aY [0,4,8] ?_
 repeat (refine ay _ rfl (by kernel_rfl) (fun _ _ _ h=>h) (fun w'=>by(try simp only[ag,ah,aj]);go_simp;try with_reducible rfl) ?_;try simp only[Act.put,ag,ah,aj,aF,aB,aC])
 refine aH ?_;refine bJ (fun w'=>At w' e 12 ((ptr r))∧At w' e 1 (J E.who)∧At w' e 13 (Ju E.w)) [1,2,3,5,6,7,9,10,11] ?_
 repeat (refine aN _ rfl (by kernel_rfl) (fun _ _ _ h=>h) h0 (fun w' hS=>by(try dsimp only at hS);(try simp only[ag,ah,aj]);go_simp;try with_reducible rfl) ?_;try simp only[Act.put,ag,ah,aj,aF,aB,aC])
 refine bH (by kernel_rfl) ?_;refine af 12 (by kernel_rfl) rfl (by rfl) fun K hK=>?_
 go_simp;refine((En hr ho hi hl E.who E.w hw).at0 Sd2.out).mono ?_
 rintro er w3 ⟨rfl,s4⟩
 refine hK _ _ ?_;obtain⟨s5,Hs5,s4⟩:=az (s':=yV s E) s4;have S6:Hid (Scope S w0 w3 [ae A rs s5,aO A.P e (aV E.st.bz e) (ptr r) E,bK B 0]):=zd s4;clear s4 Sd2 hK K h0;obtain⟨bb,hbb⟩:∃ bb,s.σ.turned (E.ri:Nat) 2 E.w=bb:=⟨_,rfl⟩
 rw[hbb];have Hbb:=zd hbb;clear hbb
 try simp only[Act.put,ag,ah,aj,aF,aB,aC]
 refine aY [13] ?_
 repeat (refine ay _ rfl (by kernel_rfl) (fun _ _ _ h=>h) (fun w'=>by(try simp only[ag,ah,aj]);go_simp;try with_reducible rfl) ?_;try simp only[Act.put,ag,ah,aj,aF,aB,aC])
 refine aH ?_;refine wpAny_done (by kernel_rfl) ?_ _
 cases bb
 ·have hO:kM s E now=⟨yV s E,{ E with st:=.word },0,false⟩:=by unfold kM;rw[Hbb.out];rfl
  have HO:=zd hO;clear hO
  go_wp2_with fail
  refine((dK (P:=A.P) (nx:=(aV E.st.bz e)) (rv:=(ptr r)) (E:=E) 171).fC S6.out).mono ?_
  rintro er w7 ⟨rfl,s8⟩
  have S9:Hid (Scope S w0 w7 [ae A rs s5,aO A.P e (aV 171 e) (ptr r) { E with st:=.word },bK B 0]):=zd s8;clear s8 S6;obtain⟨b0,b1,b2,b3,f0,f1,f2,f3,Q4⟩:=aI (c:=0) S9.out
  go_wp2
  refine aQ (d:=false) (by rw[HO.out]) Q4 (fun Vz z0 z1 z2 z3=>by simp[results,results195,go_sem,z0,z1,z2,z3]) rfl fun _ q5=>?_
  rw[HO.out];have hs5:=Hs5.out;subst hs5;rw[←Hrv.out]at q5
  exact q5
 ·have hO:kM s E now=⟨(yV s E).note now E.who (bD 0),{ E with told:=0,st:=.clear },0,false⟩:=by unfold kM;rw[Hbb.out];rfl
  have HO:=zd hO;clear hO
  go_wp2_with fail
  refine((kJ (s:=s5) (aV E.st.bz e) (ptr r) now 0 hwho (by rw[Hs5.out];exact hn)).iY S6.out).mono ?_
  rintro er w10 ⟨rfl,s11⟩
  obtain⟨s12,Hs12,s11⟩:=az (s':=(s5).note now E.who (bD 0)) s11;have S13:Hid (Scope S w0 w10 [ae A rs s12,aO A.P e (aV E.st.bz e) (ptr r) { E with told:=0 },bK B 0]):=zd s11;clear s11 S6
  go_wp2_with fail
  refine((dK (P:=A.P) (nx:=(aV E.st.bz e)) (rv:=(ptr r)) (E:={ E with told:=0 }) 213).fC S13.out).mono ?_
  rintro er w14 ⟨rfl,s15⟩
  have S16:Hid (Scope S w0 w14 [ae A rs s12,aO A.P e (aV 213 e) (ptr r) { E with told:=0,st:=.clear },bK B 0]):=zd s15;clear s15 S13;obtain⟨b0,b1,b2,b3,f0,f1,f2,f3,Q4⟩:=aI (c:=0) S16.out
  go_wp2
  refine aQ (d:=false) (by rw[HO.out]) Q4 (fun Vz z0 z1 z2 z3=>by simp[results,results195,go_sem,z0,z1,z2,z3]) rfl fun _ q5=>?_
  rw[HO.out];have hs12:=Hs12.out;subst hs12;have hs5:=Hs5.out;subst hs5;rw[←Hrv.out]at q5
  exact q5
theorem Dz (now:Int) (hsh:I64 E.shard) (hat:I64 E.at') (hl:s.σ.log.length≤1000000):Does prog [ae A rs s,aO A.P e (aV E.st.bz e) (rV rs E.r) E] 213 #[ptr e,J now] (bI (mW s E).c (mW s E).d) [ae A rs (mW s E).s,rW A.P rs e (mW s E).E]:=Does.ax fun S w0 w h=>by
 obtain⟨B,W,HB,HW,Sa⟩:=bV h;clear h
 go_enter func213,ntmps213
 go_wp2_with fail
 rw[←HB.out, ←HW.out];have sd:=Sa.out.drew;have re:=sd.row (k:=e) 1 rfl;have pc:=sd.bT 0 rfl;have h0:At W.drew e 0 (ptr A.P)∧At W.drew A.P 2 (ptr A.tb)∧At W.drew e 1 (J E.who)∧At W.drew e 6 (J E.shard)∧At W.drew e 10 (J E.at'):=⟨re.cell rfl,pc.tb,re.cell rfl,re.cell rfl,re.cell rfl⟩
 have Sd2:=zd sd;clear sd re pc Sa;refine aP (by kernel_rfl) ?_;generalize W.drew=V1 at Sd2 h0 ⊢
 refine aY [0,7,11,15] ?_
 repeat (refine ay _ rfl (by kernel_rfl) (fun _ _ _ h=>h) (fun w'=>by(try simp only[ag,ah,aj]);go_simp;try with_reducible rfl) ?_;try simp only[Act.put,ag,ah,aj,aF,aB,aC])
 refine aH ?_;refine bJ (fun w'=>At w' e 0 (ptr A.P)∧At w' A.P 2 (ptr A.tb)∧At w' e 1 (J E.who)∧At w' e 6 (J E.shard)∧At w' e 10 (J E.at')) [1,2,3,4,5,6,8,9,10,12,13,14,16,17,18] ?_
 repeat (refine aN _ rfl (by kernel_rfl) (fun _ _ _ h=>h) h0 (fun w' hS=>by(try dsimp only at hS);(try simp only[ag,ah,aj]);go_simp;try with_reducible rfl) ?_;try simp only[Act.put,ag,ah,aj,aF,aB,aC])
 refine bH (by kernel_rfl) ?_;refine af 19 (by kernel_rfl) rfl (by rfl) fun K hK=>?_
 go_simp;refine((CW E.who E.shard E.at' hsh hat hl).at0 Sd2.out).mono ?_
 rintro er w3 ⟨rfl,s4⟩
 refine hK _ _ ?_;obtain⟨s5,Hs5,s4⟩:=az (s':=Lt s E) s4;have S6:Hid (Scope S w0 w3 [ae A rs s5,aO A.P e (aV E.st.bz e) (rV rs E.r) E,bK B 0]):=zd s4;clear s4 Sd2 hK K h0
 try simp only[Act.put,ag,ah,aj,aF,aB,aC]
 refine wpAny_done (by kernel_rfl) ?_ _
 go_wp2_with fail
 refine((dK (P:=A.P) (nx:=(aV E.st.bz e)) (rv:=(rV rs E.r)) (E:=E) 172).fC S6.out).mono ?_
 rintro er w7 ⟨rfl,s8⟩
 have S9:Hid (Scope S w0 w7 [ae A rs s5,aO A.P e (aV 172 e) (rV rs E.r) { E with st:=.out },bK B 0]):=zd s8;clear s8 S6;obtain⟨b0,b1,b2,b3,f0,f1,f2,f3,Q4⟩:=aI (c:=0) S9.out
 go_wp2
 refine aQ (d:=false) rfl Q4 (fun Vz z0 z1 z2 z3=>by simp[results,results213,go_sem,z0,z1,z2,z3]) rfl fun _ q5=>?_
 have hs5:=Hs5.out;subst hs5
 exact q5
theorem N7 (now:Int) (hsh:I64 E.shard) (hfr:I64 E.free) (hob:I64 E.obj) (hwho:I64 E.who) (hn:s.pt.length<100000) (hl:s.σ.log.length≤1000000):Does prog [ae A rs s,aO A.P e (aV E.st.bz e) (rV rs E.r) E] 200 #[ptr e,J now] (bI (uG s E now).c (uG s E now).d) [ae A rs (uG s E now).s,rW A.P rs e (uG s E now).E]:=Does.ax fun S w0 w h=>by
 obtain⟨B,W,HB,HW,Sa⟩:=bV h;clear h
 go_enter func200,ntmps200
 go_wp2_with fail
 rw[←HB.out, ←HW.out];have sd:=Sa.out.drew;have re:=sd.row (k:=e) 1 rfl;have pc:=sd.bT 0 rfl;have h0:At W.drew e 0 (ptr A.P)∧At W.drew A.P 2 (ptr A.tb)∧At W.drew e 1 (J E.who)∧At W.drew e 6 (J E.shard)∧At W.drew e 9 (J E.free)∧At W.drew e 3 (J E.c.flow)∧At W.drew e 11 (J E.obj):=⟨re.cell rfl,pc.tb,re.cell rfl,re.cell rfl,re.cell rfl,re.cell rfl,re.cell rfl⟩
 have Sd2:=zd sd;clear sd re pc Sa;refine aP (by kernel_rfl) ?_;generalize W.drew=V1 at Sd2 h0 ⊢
 refine aY [0,7,11,15,19,24] ?_
 repeat (refine ay _ rfl (by kernel_rfl) (fun _ _ _ h=>h) (fun w'=>by(try simp only[ag,ah,aj]);go_simp;try with_reducible rfl) ?_;try simp only[Act.put,ag,ah,aj,aF,aB,aC])
 refine aH ?_;refine bJ (fun w'=>At w' e 0 (ptr A.P)∧At w' A.P 2 (ptr A.tb)∧At w' e 1 (J E.who)∧At w' e 6 (J E.shard)∧At w' e 9 (J E.free)∧At w' e 3 (J E.c.flow)∧At w' e 11 (J E.obj)) [1,2,3,4,5,6,8,9,10,12,13,14,16,17,18,20,21,22,23,25,26,27] ?_
 repeat (refine aN _ rfl (by kernel_rfl) (fun _ _ _ h=>h) h0 (fun w' hS=>by(try dsimp only at hS);(try simp only[ag,ah,aj]);go_simp;try with_reducible rfl) ?_;try simp only[Act.put,ag,ah,aj,aF,aB,aC])
 refine bH (by kernel_rfl) ?_;refine af 28 (by kernel_rfl) rfl (by rfl) fun K hK=>?_
 go_simp;refine((Jj E.who E.shard E.free E.c.flow E.obj hsh hfr hob hl).at0 Sd2.out).mono ?_
 rintro er w3 ⟨rfl,s4⟩
 refine hK _ _ ?_;obtain⟨s5,Hs5,s4⟩:=az (s':=Pj s E) s4;have S6:Hid (Scope S w0 w3 [ae A rs s5,aO A.P e (aV E.st.bz e) (rV rs E.r) E,bK B 0]):=zd s4;clear s4 Sd2 hK K h0
 try simp only[Act.put,ag,ah,aj,aF,aB,aC]
 refine wpAny_done (by kernel_rfl) ?_ _
 go_wp2_with fail
 refine((kJ (s:=s5) (aV E.st.bz e) (rV rs E.r) now 0 hwho (by rw[Hs5.out];unfold Pj;exact hn)).iY S6.out).mono ?_
 rintro er w7 ⟨rfl,s8⟩
 obtain⟨s9,Hs9,s8⟩:=az (s':=(s5).note now E.who (bD 0)) s8;have S10:Hid (Scope S w0 w7 [ae A rs s9,aO A.P e (aV E.st.bz e) (rV rs E.r) { E with told:=0 },bK B 0]):=zd s8;clear s8 S6
 go_wp2_with fail
 refine((dK (P:=A.P) (nx:=(aV E.st.bz e)) (rv:=(rV rs E.r)) (E:={ E with told:=0 }) 172).fC S10.out).mono ?_
 rintro er w11 ⟨rfl,s12⟩
 have S13:Hid (Scope S w0 w11 [ae A rs s9,aO A.P e (aV 172 e) (rV rs E.r) { E with told:=0,st:=.out },bK B 0]):=zd s12;clear s12 S10;obtain⟨b0,b1,b2,b3,f0,f1,f2,f3,Q4⟩:=aI (c:=0) S13.out
 go_wp2
 refine aQ (d:=false) rfl Q4 (fun Vz z0 z1 z2 z3=>by simp[results,results200,go_sem,z0,z1,z2,z3]) rfl fun _ q5=>?_
 have hs9:=Hs9.out;subst hs9;have hs5:=Hs5.out;subst hs5
 exact q5
theorem OA (now:Int) (hsh:I64 E.shard) (hl:s.σ.log.length≤1000000):Does prog [ae A rs s,aO A.P e (aV E.st.bz e) (rV rs E.r) E] 172 #[ptr e,J now] (bI (uH s E).c (uH s E).d) [ae A rs (uH s E).s,rW A.P rs e (uH s E).E]:=Does.ax fun S w0 w h=>by
 obtain⟨B,W,HB,HW,Sa⟩:=bV h;clear h
 go_enter func172,ntmps172
 go_wp2_with fail
 rw[←HB.out, ←HW.out];have sd:=Sa.out.drew;have re:=sd.row (k:=e) 1 rfl;have pc:=sd.bT 0 rfl;have h0:At W.drew e 0 (ptr A.P)∧At W.drew A.P 2 (ptr A.tb)∧At W.drew e 1 (J E.who)∧At W.drew e 6 (J E.shard):=⟨re.cell rfl,pc.tb,re.cell rfl,re.cell rfl⟩
 have Sd2:=zd sd;clear sd re pc Sa;refine aP (by kernel_rfl) ?_;generalize W.drew=V1 at Sd2 h0 ⊢
 refine aY [0,7,11] ?_
 repeat (refine ay _ rfl (by kernel_rfl) (fun _ _ _ h=>h) (fun w'=>by(try simp only[ag,ah,aj]);go_simp;try with_reducible rfl) ?_;try simp only[Act.put,ag,ah,aj,aF,aB,aC])
 refine aH ?_;refine bJ (fun w'=>At w' e 0 (ptr A.P)∧At w' A.P 2 (ptr A.tb)∧At w' e 1 (J E.who)∧At w' e 6 (J E.shard)) [1,2,3,4,5,6,8,9,10,12,13,14] ?_
 repeat (refine aN _ rfl (by kernel_rfl) (fun _ _ _ h=>h) h0 (fun w' hS=>by(try dsimp only at hS);(try simp only[ag,ah,aj]);go_simp;try with_reducible rfl) ?_;try simp only[Act.put,ag,ah,aj,aF,aB,aC])
 refine bH (by kernel_rfl) ?_;refine af 15 (by kernel_rfl) rfl (by rfl) fun K hK=>?_
 go_simp;refine((sF E.who E.shard hsh hl).at0 Sd2.out).mono ?_
 rintro er w3 ⟨rfl,s4⟩
 refine hK _ _ ?_;obtain⟨s5,Hs5,s4⟩:=az (s':=TS s E) s4;have S6:Hid (Scope S w0 w3 [ae A rs s5,aO A.P e (aV E.st.bz e) (rV rs E.r) E,bK B 0]):=zd s4;clear s4 Sd2 hK K h0
 try simp only[Act.put,ag,ah,aj,aF,aB,aC]
 refine wpAny_done (by kernel_rfl) ?_ _;have c16:=(S6.out.row (k:=e) 1 rfl).cell (j:=16) rfl;obtain⟨b0,b1,b2,b3,f0,f1,f2,f3,Q4⟩:=aI (c:=E.told) S6.out
 go_wp2
 refine aQ (d:=true) rfl Q4 (fun Vz z0 z1 z2 z3=>by simp[results,results172,go_sem,z0,z1,z2,z3]) rfl fun _ q5=>?_
 have hs5:=Hs5.out;subst hs5
 exact q5
end
end Go.Proofs.YtjnbbmgbmiggbaaGreatDoor
