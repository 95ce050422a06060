/- Lemmas for TopTries' card: package reg, second part; package deq, first part. -/
import Derived.Test.YtjnbbmgbmiggbaaGreatDoorZ13
set_option linter.unusedSimpArgs false
set_option linter.unusedVariables false
set_option maxRecDepth 20000
set_option maxHeartbeats 4000000
namespace Go.Proofs.YtjnbbmgbmiggbaaGreatDoor
open Go Go.RowKit Go.Maps Go.Proofs.Tryz
@[reducible] def fE (s:PS) (E:jo):Int:=s.σ.num (slotL E.shard E.i)
def kC (s:PS) (E:jo):Bool:=jI (fE s E)&&(uO (fE s E)==E.c.flow)
def ig (s:PS) (E:jo):jo:={ E with free:=cond (!jI (fE s E)&&decide (E.free<0)) E.i E.free,at':=E.i,obj:=dL (fE s E),i:=E.i+1 }
def mP (s:PS) (E:jo):PS:={ s with σ:=s.σ.put E.who 1 (slotL E.shard E.i) }
section
variable {A:PA} {rs:List Nat} {s:PS} {e:Nat} {E:jo} {r:Nat} {x:mO}
theorem Ag (nx rv:Value) (hsh:I64 E.shard) (h0:0≤E.i) (h1:E.i<1000) (hu:dC (fE s E)) (hl:s.σ.log.length≤1000000):Does prog [ae A rs s,aO A.P e nx rv E] 170 #[ptr e] (.tuple #[.bool (kC s E),.bool (decide ((A.sl:Int)≤E.i+1))]) [ae A rs (mP s E),aO A.P e nx rv (ig s E)]:=Does.ax fun S w0 w h=>by
 have hi:I64 E.i:=by unfold I64;omega
 have hwr:IntKind.i64.wrap (E.i+1)=E.i+1:=by rw[IntKind.wrap_i64];omega
 clear h0 h1;have Sa:=zd h;clear h
 go_enter func170,ntmps170
 go_wp2_with fail
 have sd:=Sa.out.drew;have re:=sd.row (k:=e) 1 rfl;have pc:=sd.bT 0 rfl;have h0:At w.drew e 0 (ptr A.P)∧At w.drew A.P 2 (ptr A.tb)∧At w.drew e 1 (J E.who)∧At w.drew e 6 (J E.shard)∧At w.drew e 8 (J E.i):=⟨re.cell rfl,pc.tb,re.cell rfl,re.cell rfl,re.cell rfl⟩
 have Sd2:=zd sd;clear sd re pc Sa;refine aP (by kernel_rfl) ?_;generalize w.drew=V1 at Sd2 h0 ⊢
 refine aY [0,7,11,15] ?_
 repeat (refine ay _ rfl (by kernel_rfl) (fun _ _ _ h=>h) (fun w'=>by(try simp only[ag,ah,aj]);go_simp;try with_reducible rfl) ?_;try simp only[Act.put,ag,ah,aj,aF,aB,aC])
 refine aH ?_;refine bJ (fun w'=>At w' e 0 (ptr A.P)∧At w' A.P 2 (ptr A.tb)∧At w' e 1 (J E.who)∧At w' e 6 (J E.shard)∧At w' e 8 (J E.i)) [1,2,3,4,5,6,8,9,10,12,13,14,16,17,18] ?_
 repeat (refine aN _ rfl (by kernel_rfl) (fun _ _ _ h=>h) h0 (fun w' hS=>by(try dsimp only at hS);(try simp only[ag,ah,aj]);go_simp;try with_reducible rfl) ?_;try simp only[Act.put,ag,ah,aj,aF,aB,aC])
 refine bH (by kernel_rfl) ?_;refine af 19 (by kernel_rfl) rfl (by rfl) fun K hK=>?_
 go_simp;refine((wO E.who E.shard E.i hsh hi hl hu).at0 Sd2.out).mono ?_
 rintro er w3 ⟨rfl,s4⟩
 refine hK _ _ ?_;obtain⟨s5,Hs5,s4⟩:=az (s':=mP s E) s4;have S6:Hid (Scope S w0 w3 [ae A rs s5,aO A.P e nx rv E]):=zd s4;clear s4 Sd2 hK K h0;rw[show uM (s.σ.num (slotL E.shard E.i))=.tuple #[J (uO (fE s E)),J (dL (fE s E)),.bool (jI (fE s E))]from rfl]
 try simp only[Act.put,ag,ah,aj,aF,aB,aC]
 refine aY [20,21,22,23] ?_
 repeat (refine ay _ rfl (by kernel_rfl) (fun _ _ _ h=>h) (fun w'=>by(try simp only[ag,ah,aj]);go_simp;try with_reducible rfl) ?_;try simp only[Act.put,ag,ah,aj,aF,aB,aC])
 refine aH ?_;refine af 24 (by kernel_rfl) rfl (by rfl) fun K hK=>?_
 go_simp;refine hK _ _ ?_;clear hK K
 try simp only[Act.put,ag,ah,aj,aF,aB,aC]
 refine af 25 (by kernel_rfl) rfl (by rfl) fun K hK=>?_
 go_simp;refine hK _ _ ?_;clear hK K
 try simp only[Act.put,ag,ah,aj,aF,aB,aC]
 refine af 26 (by kernel_rfl) rfl (by rfl) fun K hK=>?_
 go_simp;refine hK _ _ ?_;clear hK K
 try simp only[Act.put,ag,ah,aj,aF,aB,aC]
 refine wpAny_done (by kernel_rfl) ?_ _;obtain⟨bb,hbb⟩:∃ bb,jI (fE s E)=bb:=⟨_,rfl⟩
 have Hbb:=zd hbb;clear hbb;rw[Hbb.out]
 cases bb
 ·obtain⟨fr,hfr⟩:∃ fr,decide (E.free<0)=fr:=⟨_,rfl⟩
  have Hfr:=zd hfr;clear hfr;have hfr:=Hfr.out
  cases fr
  ·have rr:=S6.out.row (k:=e) 1 rfl
   have c8:=rr.cell (j:=8) rfl;have c9:=rr.cell (j:=9) rfl;have c10:=rr.cell (j:=10) rfl;have c11:=rr.cell (j:=11) rfl;have f8:=rr.free 8;have f10:=rr.free 10;have f11:=rr.free 11;have q7:Scope S w0 w3 ([ae A rs s5]++([aO A.P e nx rv E]++[])):=S6.out;have q8:=Scope.au q7 10 (J E.i);have q9:=Scope.au q8 11 (J (dL (fE s E)));have q10:=Scope.au q9 8 (J (E.i+1));have Q11:=zd q10;clear rr q7 q8 q9 q10 S6
   go_wp2_with fail
   clear c8 c9 c10 c11 f8 f10 f11;obtain⟨V12,hV12⟩:∃ V12,V12=((w3.setCell ⟨e,10,none⟩ (J E.i)).setCell ⟨e,11,none⟩ (J (dL (fE s E)))).setCell ⟨e,8,none⟩ (J (E.i+1)):=⟨_,rfl⟩
   have q13:=Q11.out;rw[←hV12]at q13 ⊢
   have S14:Hid (Scope S w0 V12 [ae A rs s5,aO A.P e nx rv { E with at':=E.i,obj:=dL (fE s E),i:=E.i+1 }]):=zd q13;clear q13 hV12 Q11;have sd:=S14.out.drew;have re:=sd.row (k:=e) 1 rfl;have pc:=sd.bT 0 rfl;have h0:At V12.drew e 3 (J E.c.flow)∧At V12.drew e 8 (J (E.i+1))∧At V12.drew e 0 (ptr A.P)∧At V12.drew A.P 2 (ptr A.tb):=⟨re.cell rfl,re.cell rfl,re.cell rfl,pc.tb⟩
   have Sd16:=zd sd;clear sd re pc S14;refine aP (by kernel_rfl) ?_;generalize V12.drew=V15 at Sd16 h0 ⊢
   refine aY [0,14] ?_
   repeat (refine ay _ rfl (by kernel_rfl) (fun _ _ _ h=>h) (fun w'=>by(try simp only[ag,ah,aj]);go_simp;try with_reducible rfl) ?_;try simp only[Act.put,ag,ah,aj,aF,aB,aC])
   refine aH ?_;refine cu (fun w'=>At w' e 3 (J E.c.flow)∧At w' e 8 (J (E.i+1))∧At w' e 0 (ptr A.P)∧At w' A.P 2 (ptr A.tb)) [1,2,3,4,5,6,7,8,9,10,11,12,13,15,16,17,18,19,20,21,22,23] [1,2,3,4,5,6,7,8,9,10,11,12,13,15,16,17,18,19,20] ?_
   repeat ((first|(refine PO _ rfl (by kernel_rfl) (fun _ _ _ h=>h) h0 (by rfl) (fun w' hS=>by(try dsimp only at hS);(try simp only[ag,ah,aj]);go_simp;try with_reducible rfl) ?_)|refine Qh rfl (by kernel_rfl) (fun _ _ _ h=>h) h0 (by rfl) ?_);try simp only[Act.put,ag,ah,aj,aF,aB,aC])
   refine bM ?_;refine aK 21 (by kernel_rfl) rfl (by rfl) fun K hK=>?_
   go_simp;refine((jM (s:=s5)).at0 Sd16.out).mono ?_
   rintro er w17 ⟨rfl,s18⟩
   have re:=s18.row (k:=e) 1 rfl;have pc:=s18.bT 0 rfl;have h1:At w17 e 3 (J E.c.flow)∧At w17 e 8 (J (E.i+1))∧At w17 e 0 (ptr A.P)∧At w17 A.P 2 (ptr A.tb):=⟨re.cell rfl,re.cell rfl,re.cell rfl,pc.tb⟩
   refine hK _ _ ⟨fun _=>h1,?_⟩;clear re pc;have S19:Hid (Scope S w0 w17 [ae A rs s5,aO A.P e nx rv { E with at':=E.i,obj:=dL (fE s E),i:=E.i+1 }]):=zd s18;clear s18 Sd16 hK K h0
   try simp only[Act.put,ag,ah,aj,aF,aB,aC]
   refine dB [22,23] ?_
   repeat (refine aN _ rfl (by kernel_rfl) (fun _ _ _ h=>h) h1 (fun w' hS=>by(try simp only[ag,ah,aj]);go_simp;try with_reducible rfl) ?_;try simp only[Act.put,ag,ah,aj,aF,aB,aC])
   refine bM ?_;refine dB [] (bH (by kernel_rfl) ?_);clear h1;refine aY [24] ?_
   repeat (refine ay _ rfl (by kernel_rfl) (fun _ _ _ h=>h) (fun w'=>by(try simp only[ag,ah,aj]);go_simp;try with_reducible rfl) ?_;try simp only[Act.put,ag,ah,aj,aF,aB,aC])
   refine aH ?_;refine wpAny_done (by kernel_rfl) ?_ _;have hE:Hid (ig s E={ E with at':=E.i,obj:=dL (fE s E),i:=E.i+1 }):=zd (by unfold ig;rw[Hbb.out,Hfr.out];rfl);have hB:Hid (kC s E=false):=zd (by unfold kC;rw[Hbb.out];rfl);have hss5:=Hs5.out;subst hss5
   go_wp2
   refine bodyPost_ret (v:=.tuple #[.bool (false),.bool (decide ((A.sl:Int)≤E.i+1))]) (by simp[results,results170,go_sem]) rfl (Ends.mk' (by rw[hB.out]) [] ?_);rw[hE.out]
   exact S19.out
  ·have rr:=S6.out.row (k:=e) 1 rfl
   have c8:=rr.cell (j:=8) rfl;have c9:=rr.cell (j:=9) rfl;have c10:=rr.cell (j:=10) rfl;have c11:=rr.cell (j:=11) rfl;have f8:=rr.free 8;have f9:=rr.free 9;have f10:=rr.free 10;have f11:=rr.free 11;have q20:Scope S w0 w3 ([ae A rs s5]++([aO A.P e nx rv E]++[])):=S6.out;have q21:=Scope.au q20 9 (J E.i);have q22:=Scope.au q21 10 (J E.i);have q23:=Scope.au q22 11 (J (dL (fE s E)));have q24:=Scope.au q23 8 (J (E.i+1));have Q25:=zd q24;clear rr q20 q21 q22 q23 q24 S6
   go_wp2_with fail
   clear c8 c9 c10 c11 f8 f9 f10 f11;obtain⟨V26,hV26⟩:∃ V26,V26=(((w3.setCell ⟨e,9,none⟩ (J E.i)).setCell ⟨e,10,none⟩ (J E.i)).setCell ⟨e,11,none⟩ (J (dL (fE s E)))).setCell ⟨e,8,none⟩ (J (E.i+1)):=⟨_,rfl⟩
   have q27:=Q25.out;rw[←hV26]at q27 ⊢
   have S28:Hid (Scope S w0 V26 [ae A rs s5,aO A.P e nx rv { E with free:=E.i,at':=E.i,obj:=dL (fE s E),i:=E.i+1 }]):=zd q27;clear q27 hV26 Q25;have sd:=S28.out.drew;have re:=sd.row (k:=e) 1 rfl;have pc:=sd.bT 0 rfl;have h0:At V26.drew e 3 (J E.c.flow)∧At V26.drew e 8 (J (E.i+1))∧At V26.drew e 0 (ptr A.P)∧At V26.drew A.P 2 (ptr A.tb):=⟨re.cell rfl,re.cell rfl,re.cell rfl,pc.tb⟩
   have Sd30:=zd sd;clear sd re pc S28;refine aP (by kernel_rfl) ?_;generalize V26.drew=V29 at Sd30 h0 ⊢
   refine aY [0,14] ?_
   repeat (refine ay _ rfl (by kernel_rfl) (fun _ _ _ h=>h) (fun w'=>by(try simp only[ag,ah,aj]);go_simp;try with_reducible rfl) ?_;try simp only[Act.put,ag,ah,aj,aF,aB,aC])
   refine aH ?_;refine cu (fun w'=>At w' e 3 (J E.c.flow)∧At w' e 8 (J (E.i+1))∧At w' e 0 (ptr A.P)∧At w' A.P 2 (ptr A.tb)) [1,2,3,4,5,6,7,8,9,10,11,12,13,15,16,17,18,19,20,21,22,23] [1,2,3,4,5,6,7,8,9,10,11,12,13,15,16,17,18,19,20] ?_
   repeat ((first|(refine PO _ rfl (by kernel_rfl) (fun _ _ _ h=>h) h0 (by rfl) (fun w' hS=>by(try dsimp only at hS);(try simp only[ag,ah,aj]);go_simp;try with_reducible rfl) ?_)|refine Qh rfl (by kernel_rfl) (fun _ _ _ h=>h) h0 (by rfl) ?_);try simp only[Act.put,ag,ah,aj,aF,aB,aC])
   refine bM ?_;refine aK 21 (by kernel_rfl) rfl (by rfl) fun K hK=>?_
   go_simp;refine((jM (s:=s5)).at0 Sd30.out).mono ?_
   rintro er w31 ⟨rfl,s32⟩
   have re:=s32.row (k:=e) 1 rfl;have pc:=s32.bT 0 rfl;have h1:At w31 e 3 (J E.c.flow)∧At w31 e 8 (J (E.i+1))∧At w31 e 0 (ptr A.P)∧At w31 A.P 2 (ptr A.tb):=⟨re.cell rfl,re.cell rfl,re.cell rfl,pc.tb⟩
   refine hK _ _ ⟨fun _=>h1,?_⟩;clear re pc;have S33:Hid (Scope S w0 w31 [ae A rs s5,aO A.P e nx rv { E with free:=E.i,at':=E.i,obj:=dL (fE s E),i:=E.i+1 }]):=zd s32;clear s32 Sd30 hK K h0
   try simp only[Act.put,ag,ah,aj,aF,aB,aC]
   refine dB [22,23] ?_
   repeat (refine aN _ rfl (by kernel_rfl) (fun _ _ _ h=>h) h1 (fun w' hS=>by(try simp only[ag,ah,aj]);go_simp;try with_reducible rfl) ?_;try simp only[Act.put,ag,ah,aj,aF,aB,aC])
   refine bM ?_;refine dB [] (bH (by kernel_rfl) ?_);clear h1;refine aY [24] ?_
   repeat (refine ay _ rfl (by kernel_rfl) (fun _ _ _ h=>h) (fun w'=>by(try simp only[ag,ah,aj]);go_simp;try with_reducible rfl) ?_;try simp only[Act.put,ag,ah,aj,aF,aB,aC])
   refine aH ?_;refine wpAny_done (by kernel_rfl) ?_ _;have hE:Hid (ig s E={ E with free:=E.i,at':=E.i,obj:=dL (fE s E),i:=E.i+1 }):=zd (by unfold ig;rw[Hbb.out,Hfr.out];rfl);have hB:Hid (kC s E=false):=zd (by unfold kC;rw[Hbb.out];rfl);have hss5:=Hs5.out;subst hss5
   go_wp2
   refine bodyPost_ret (v:=.tuple #[.bool (false),.bool (decide ((A.sl:Int)≤E.i+1))]) (by simp[results,results170,go_sem]) rfl (Ends.mk' (by rw[hB.out]) [] ?_);rw[hE.out]
   exact S33.out
 ·have rr:=S6.out.row (k:=e) 1 rfl
  have c8:=rr.cell (j:=8) rfl;have c9:=rr.cell (j:=9) rfl;have c10:=rr.cell (j:=10) rfl;have c11:=rr.cell (j:=11) rfl;have f8:=rr.free 8;have f10:=rr.free 10;have f11:=rr.free 11;have q34:Scope S w0 w3 ([ae A rs s5]++([aO A.P e nx rv E]++[])):=S6.out;have q35:=Scope.au q34 10 (J E.i);have q36:=Scope.au q35 11 (J (dL (fE s E)));have q37:=Scope.au q36 8 (J (E.i+1));have Q38:=zd q37;clear rr q34 q35 q36 q37 S6
  go_wp2_with fail
  clear c8 c9 c10 c11 f8 f10 f11;obtain⟨V39,hV39⟩:∃ V39,V39=((w3.setCell ⟨e,10,none⟩ (J E.i)).setCell ⟨e,11,none⟩ (J (dL (fE s E)))).setCell ⟨e,8,none⟩ (J (E.i+1)):=⟨_,rfl⟩
  have q40:=Q38.out;rw[←hV39]at q40 ⊢
  have S41:Hid (Scope S w0 V39 [ae A rs s5,aO A.P e nx rv { E with at':=E.i,obj:=dL (fE s E),i:=E.i+1 }]):=zd q40;clear q40 hV39 Q38;have sd:=S41.out.drew;have re:=sd.row (k:=e) 1 rfl;have pc:=sd.bT 0 rfl;have h0:At V39.drew e 3 (J E.c.flow)∧At V39.drew e 8 (J (E.i+1))∧At V39.drew e 0 (ptr A.P)∧At V39.drew A.P 2 (ptr A.tb):=⟨re.cell rfl,re.cell rfl,re.cell rfl,pc.tb⟩
  have Sd43:=zd sd;clear sd re pc S41;refine aP (by kernel_rfl) ?_;generalize V39.drew=V42 at Sd43 h0 ⊢
  refine aY [0,14] ?_
  repeat (refine ay _ rfl (by kernel_rfl) (fun _ _ _ h=>h) (fun w'=>by(try simp only[ag,ah,aj]);go_simp;try with_reducible rfl) ?_;try simp only[Act.put,ag,ah,aj,aF,aB,aC])
  refine aH ?_;refine cu (fun w'=>At w' e 3 (J E.c.flow)∧At w' e 8 (J (E.i+1))∧At w' e 0 (ptr A.P)∧At w' A.P 2 (ptr A.tb)) [1,2,3,4,5,6,7,8,9,10,11,12,13,15,16,17,18,19,20,21,22,23] [1,2,3,4,5,6,7,8,9,10,11,12,13,15,16,17,18,19,20] ?_
  repeat (refine aN _ rfl (by kernel_rfl) (fun _ _ _ h=>h) h0 (fun w' hS=>by(try dsimp only at hS);(try simp only[ag,ah,aj]);go_simp;try with_reducible rfl) ?_;try simp only[Act.put,ag,ah,aj,aF,aB,aC])
  refine bM ?_;refine aK 21 (by kernel_rfl) rfl (by rfl) fun K hK=>?_
  go_simp;refine((jM (s:=s5)).at0 Sd43.out).mono ?_
  rintro er w44 ⟨rfl,s45⟩
  have re:=s45.row (k:=e) 1 rfl;have pc:=s45.bT 0 rfl;have h1:At w44 e 3 (J E.c.flow)∧At w44 e 8 (J (E.i+1))∧At w44 e 0 (ptr A.P)∧At w44 A.P 2 (ptr A.tb):=⟨re.cell rfl,re.cell rfl,re.cell rfl,pc.tb⟩
  refine hK _ _ ⟨fun _=>h1,?_⟩;clear re pc;have S46:Hid (Scope S w0 w44 [ae A rs s5,aO A.P e nx rv { E with at':=E.i,obj:=dL (fE s E),i:=E.i+1 }]):=zd s45;clear s45 Sd43 hK K h0
  try simp only[Act.put,ag,ah,aj,aF,aB,aC]
  refine dB [22,23] ?_
  repeat (refine aN _ rfl (by kernel_rfl) (fun _ _ _ h=>h) h1 (fun w' hS=>by(try simp only[ag,ah,aj]);go_simp;try with_reducible rfl) ?_;try simp only[Act.put,ag,ah,aj,aF,aB,aC])
  refine bM ?_;refine dB [] (bH (by kernel_rfl) ?_);clear h1;refine aY [24] ?_
  repeat (refine ay _ rfl (by kernel_rfl) (fun _ _ _ h=>h) (fun w'=>by(try simp only[ag,ah,aj]);go_simp;try with_reducible rfl) ?_;try simp only[Act.put,ag,ah,aj,aF,aB,aC])
  refine aH ?_;refine wpAny_done (by kernel_rfl) ?_ _;have hE:Hid (ig s E={ E with at':=E.i,obj:=dL (fE s E),i:=E.i+1 }):=zd (by unfold ig;rw[Hbb.out];rfl);have hB:Hid (kC s E=(uO (fE s E)==E.c.flow)):=zd (by unfold kC;rw[Hbb.out];rfl);have hss5:=Hs5.out;subst hss5
  go_wp2
  refine bodyPost_ret (v:=.tuple #[.bool ((uO (fE s E)==E.c.flow)),.bool (decide ((A.sl:Int)≤E.i+1))]) (by simp[results,results170,go_sem]) rfl (Ends.mk' (by rw[hB.out]) [] ?_);rw[hE.out]
  exact S46.out
end
def oM (E:jo) (sl:Nat):Bool:=decide ((sl:Int)≤E.i+1)
def IQ (s:PS) (E:jo) (now c:Int):RO:=⟨(mP s E).note now E.who (bD c),{ ig s E with told:=c,st:=.out },0,false⟩
def fD (s:PS) (E:jo) (sl:Nat) (now:Int):RO:=cond (kC s E) (IQ s E now 6) (cond (oM E sl) (cond (decide ((ig s E).free<0)) (IQ s E now 7) ⟨mP s E,{ ig s E with st:=.make },0,false⟩) ⟨mP s E,{ ig s E with st:=.search },0,false⟩)
def jD (s:PS) (E:jo) (sl:Nat) (now:Int):RO:=cond (kC s E) ⟨mP s E,{ ig s E with r:=some (dL (fE s E)).toNat,st:=.word },0,false⟩ (cond (oM E sl) (IQ s E now 5) ⟨mP s E,{ ig s E with st:=.find },0,false⟩)
section
variable {A:PA} {rs:List Nat} {s:PS} {e:Nat} {E:jo} {r:Nat} {x:mO}
theorem CX (now:Int) (hsh:I64 E.shard) (h0:0≤E.i) (h1:E.i<1000) (hu:dC (fE s E)) (hwho:I64 E.who) (hn:s.pt.length<100000) (hl:s.σ.log.length≤1000000):Does prog [ae A rs s,aO A.P e (aV E.st.bz e) (rV rs E.r) E] 140 #[ptr e,J now] (bI (fD s E A.sl now).c (fD s E A.sl now).d) [ae A rs (fD s E A.sl now).s,rW A.P rs e (fD s E A.sl now).E]:=Does.ax fun S w0 w h=>by
 obtain⟨B,W,HB,HW,Sa⟩:=bV h;clear h
 go_enter func140,ntmps140
 go_wp2_with fail
 rw[←HB.out, ←HW.out];refine((Ag (aV E.st.bz e) (rV rs E.r) hsh h0 h1 hu hl).iY Sa.out).mono ?_
 rintro er w1 ⟨rfl,s2⟩
 obtain⟨s3,Hs3,s2⟩:=az (s':=mP s E) s2;have S4:Hid (Scope S w0 w1 [ae A rs s3,aO A.P e (aV E.st.bz e) (rV rs E.r) (ig s E),bK B 0]):=zd s2;clear s2 Sa;obtain⟨fb,hfb⟩:∃ fb,kC s E=fb:=⟨_,rfl⟩
 rw[hfb];have Hfb:=zd hfb;clear hfb;obtain⟨last,hlast⟩:∃ last,decide ((A.sl:Int)≤E.i+1)=last:=⟨_,rfl⟩
 rw[hlast];have Hlast:=zd hlast;clear hlast;obtain⟨E1,hE1⟩:∃ E1,E1=ig s E:=⟨_,rfl⟩
 have S5x:=S4.out;rw[←hE1]at S5x;have S5:=zd S5x;have HE1:=zd hE1;clear hE1 S5x S4
 cases fb
 ·cases last
  ·have hO:fD s E A.sl now=⟨mP s E,{ ig s E with st:=.search },0,false⟩:=by unfold fD;rw[Hfb.out,show oM E A.sl=false from Hlast.out];rfl
   have HO:=zd hO;clear hO
   go_wp2_with fail
   refine((dK (P:=A.P) (nx:=(aV E.st.bz e)) (rv:=(rV rs E.r)) (E:=E1) 140).fC S5.out).mono ?_
   rintro er w6 ⟨rfl,s7⟩
   have S8:Hid (Scope S w0 w6 [ae A rs s3,aO A.P e (aV 140 e) (rV rs E.r) { E1 with st:=.search },bK B 0]):=zd s7;clear s7 S5;obtain⟨b0,b1,b2,b3,f0,f1,f2,f3,Q4⟩:=aI (c:=0) S8.out
   go_wp2
   refine aQ (d:=false) (by rw[HO.out]) Q4 (fun Vz z0 z1 z2 z3=>by simp[results,results140,go_sem,z0,z1,z2,z3]) rfl fun _ q5=>?_
   rw[HO.out];have hE1:=HE1.out;subst hE1;have hs3:=Hs3.out;subst hs3
   exact q5
  ·obtain⟨fr,hfr⟩:∃ fr,decide (E1.free<0)=fr:=⟨_,rfl⟩
   have Hfr:=zd hfr;clear hfr;have hfr:=Hfr.out;have hfr2:decide ((ig s E).free<0)=fr:=by rw[←HE1.out];exact hfr
   have Hfr2:=zd hfr2;clear hfr2
   cases fr
   ·have hO:fD s E A.sl now=⟨mP s E,{ ig s E with st:=.make },0,false⟩:=by unfold fD;rw[Hfb.out,show oM E A.sl=true from Hlast.out,Hfr2.out];rfl
    have HO:=zd hO;clear hO;have rr:=S5.out.row (k:=e) 1 rfl;have c9:=rr.cell (j:=9) rfl;clear rr
    go_wp2_with fail
    clear c9;refine((dK (P:=A.P) (nx:=(aV E.st.bz e)) (rv:=(rV rs E.r)) (E:=E1) 173).fC S5.out).mono ?_
    rintro er w9 ⟨rfl,s10⟩
    have S11:Hid (Scope S w0 w9 [ae A rs s3,aO A.P e (aV 173 e) (rV rs E.r) { E1 with st:=.make },bK B 0]):=zd s10;clear s10 S5;obtain⟨b0,b1,b2,b3,f0,f1,f2,f3,Q4⟩:=aI (c:=0) S11.out
    go_wp2
    refine aQ (d:=false) (by rw[HO.out]) Q4 (fun Vz z0 z1 z2 z3=>by simp[results,results140,go_sem,z0,z1,z2,z3]) rfl fun _ q5=>?_
    rw[HO.out];have hE1:=HE1.out;subst hE1;have hs3:=Hs3.out;subst hs3
    exact q5
   ·have hO:fD s E A.sl now=⟨(mP s E).note now E.who (bD 7),{ ig s E with told:=7,st:=.out },0,false⟩:=by unfold fD;rw[Hfb.out,show oM E A.sl=true from Hlast.out,Hfr2.out];rfl
    have HO:=zd hO;clear hO;have rr:=S5.out.row (k:=e) 1 rfl;have c9:=rr.cell (j:=9) rfl;clear rr
    go_wp2_with fail
    clear c9;refine((kJ (s:=s3) (E:=E1) (aV E.st.bz e) (rV rs E.r) now 7 (by rw[HE1.out];exact hwho) (by rw[Hs3.out];exact hn)).iY S5.out).mono ?_
    rintro er w12 ⟨rfl,s13⟩
    obtain⟨s14,Hs14,s13⟩:=az (s':=(s3).note now E1.who (bD 7)) s13;have S15:Hid (Scope S w0 w12 [ae A rs s14,aO A.P e (aV E.st.bz e) (rV rs E.r) { E1 with told:=7 },bK B 0]):=zd s13;clear s13 S5
    go_wp2_with fail
    refine((dK (P:=A.P) (nx:=(aV E.st.bz e)) (rv:=(rV rs E.r)) (E:={ E1 with told:=7 }) 172).fC S15.out).mono ?_
    rintro er w16 ⟨rfl,s17⟩
    have S18:Hid (Scope S w0 w16 [ae A rs s14,aO A.P e (aV 172 e) (rV rs E.r) { E1 with told:=7,st:=.out },bK B 0]):=zd s17;clear s17 S15;obtain⟨b0,b1,b2,b3,f0,f1,f2,f3,Q4⟩:=aI (c:=0) S18.out
    go_wp2
    refine aQ (d:=false) (by rw[HO.out]) Q4 (fun Vz z0 z1 z2 z3=>by simp[results,results140,go_sem,z0,z1,z2,z3]) rfl fun _ q5=>?_
    rw[HO.out];have hs14:=Hs14.out;subst hs14;have hE1:=HE1.out;subst hE1;have hs3:=Hs3.out;subst hs3
    exact q5
 ·have hO:fD s E A.sl now=⟨(mP s E).note now E.who (bD 6),{ ig s E with told:=6,st:=.out },0,false⟩:=by unfold fD;rw[Hfb.out];rfl
  have HO:=zd hO;clear hO;have rr:=S5.out.row (k:=e) 1 rfl;have c9:=rr.cell (j:=9) rfl;clear rr
  go_wp2_with fail
  clear c9;refine((kJ (s:=s3) (E:=E1) (aV E.st.bz e) (rV rs E.r) now 6 (by rw[HE1.out];exact hwho) (by rw[Hs3.out];exact hn)).iY S5.out).mono ?_
  rintro er w19 ⟨rfl,s20⟩
  obtain⟨s21,Hs21,s20⟩:=az (s':=(s3).note now E1.who (bD 6)) s20;have S22:Hid (Scope S w0 w19 [ae A rs s21,aO A.P e (aV E.st.bz e) (rV rs E.r) { E1 with told:=6 },bK B 0]):=zd s20;clear s20 S5
  go_wp2_with fail
  refine((dK (P:=A.P) (nx:=(aV E.st.bz e)) (rv:=(rV rs E.r)) (E:={ E1 with told:=6 }) 172).fC S22.out).mono ?_
  rintro er w23 ⟨rfl,s24⟩
  have S25:Hid (Scope S w0 w23 [ae A rs s21,aO A.P e (aV 172 e) (rV rs E.r) { E1 with told:=6,st:=.out },bK B 0]):=zd s24;clear s24 S22;obtain⟨b0,b1,b2,b3,f0,f1,f2,f3,Q4⟩:=aI (c:=0) S25.out
  go_wp2
  refine aQ (d:=false) (by rw[HO.out]) Q4 (fun Vz z0 z1 z2 z3=>by simp[results,results140,go_sem,z0,z1,z2,z3]) rfl fun _ q5=>?_
  rw[HO.out];have hs21:=Hs21.out;subst hs21;have hE1:=HE1.out;subst hE1;have hs3:=Hs3.out;subst hs3
  exact q5
theorem J7 (now:Int) (hsh:I64 E.shard) (h0:0≤E.i) (h1:E.i<1000) (hu:dC (fE s E)) (hv:kC s E=true→∃ (o:Nat) (r:Nat) (x:mO),dL (fE s E)=(o:Nat)∧rs[o]? =some r∧s.ob[o]? =some x) (hwho:I64 E.who) (hn:s.pt.length<100000) (hl:s.σ.log.length≤1000000):Does prog [ae A rs s,aO A.P e (aV E.st.bz e) (rV rs E.r) E] 139 #[ptr e,J now] (bI (jD s E A.sl now).c (jD s E A.sl now).d) [ae A rs (jD s E A.sl now).s,rW A.P rs e (jD s E A.sl now).E]:=Does.ax fun S w0 w h=>by
 obtain⟨B,W,HB,HW,Sa⟩:=bV h;clear h
 go_enter func139,ntmps139
 go_wp2_with fail
 rw[←HB.out, ←HW.out];refine((Ag (aV E.st.bz e) (rV rs E.r) hsh h0 h1 hu hl).iY Sa.out).mono ?_
 rintro er w1 ⟨rfl,s2⟩
 obtain⟨s3,Hs3,s2⟩:=az (s':=mP s E) s2;have S4:Hid (Scope S w0 w1 [ae A rs s3,aO A.P e (aV E.st.bz e) (rV rs E.r) (ig s E),bK B 0]):=zd s2;clear s2 Sa;obtain⟨fb,hfb⟩:∃ fb,kC s E=fb:=⟨_,rfl⟩
 rw[hfb];have Hfb:=zd hfb;clear hfb;obtain⟨last,hlast⟩:∃ last,decide ((A.sl:Int)≤E.i+1)=last:=⟨_,rfl⟩
 rw[hlast];have Hlast:=zd hlast;clear hlast;obtain⟨E1,hE1⟩:∃ E1,E1=ig s E:=⟨_,rfl⟩
 have S5x:=S4.out;rw[←hE1]at S5x;have S5:=zd S5x;have HE1:=zd hE1;clear hE1 S5x S4
 cases fb
 ·cases last
  ·have hO:jD s E A.sl now=⟨mP s E,{ ig s E with st:=.find },0,false⟩:=by unfold jD;rw[Hfb.out,show oM E A.sl=false from Hlast.out];rfl
   have HO:=zd hO;clear hO
   go_wp2_with fail
   refine((dK (P:=A.P) (nx:=(aV E.st.bz e)) (rv:=(rV rs E.r)) (E:=E1) 139).fC S5.out).mono ?_
   rintro er w6 ⟨rfl,s7⟩
   have S8:Hid (Scope S w0 w6 [ae A rs s3,aO A.P e (aV 139 e) (rV rs E.r) { E1 with st:=.find },bK B 0]):=zd s7;clear s7 S5;obtain⟨b0,b1,b2,b3,f0,f1,f2,f3,Q4⟩:=aI (c:=0) S8.out
   go_wp2
   refine aQ (d:=false) (by rw[HO.out]) Q4 (fun Vz z0 z1 z2 z3=>by simp[results,results139,go_sem,z0,z1,z2,z3]) rfl fun _ q5=>?_
   rw[HO.out];have hE1:=HE1.out;subst hE1;have hs3:=Hs3.out;subst hs3
   exact q5
  ·have hO:jD s E A.sl now=⟨(mP s E).note now E.who (bD 5),{ ig s E with told:=5,st:=.out },0,false⟩:=by unfold jD;rw[Hfb.out,show oM E A.sl=true from Hlast.out];rfl
   have HO:=zd hO;clear hO;have rr:=S5.out.row (k:=e) 1 rfl;have c9:=rr.cell (j:=9) rfl;clear rr
   go_wp2_with fail
   clear c9;refine((kJ (s:=s3) (E:=E1) (aV E.st.bz e) (rV rs E.r) now 5 (by rw[HE1.out];exact hwho) (by rw[Hs3.out];exact hn)).iY S5.out).mono ?_
   rintro er w9 ⟨rfl,s10⟩
   obtain⟨s11,Hs11,s10⟩:=az (s':=(s3).note now E1.who (bD 5)) s10;have S12:Hid (Scope S w0 w9 [ae A rs s11,aO A.P e (aV E.st.bz e) (rV rs E.r) { E1 with told:=5 },bK B 0]):=zd s10;clear s10 S5
   go_wp2_with fail
   refine((dK (P:=A.P) (nx:=(aV E.st.bz e)) (rv:=(rV rs E.r)) (E:={ E1 with told:=5 }) 172).fC S12.out).mono ?_
   rintro er w13 ⟨rfl,s14⟩
   have S15:Hid (Scope S w0 w13 [ae A rs s11,aO A.P e (aV 172 e) (rV rs E.r) { E1 with told:=5,st:=.out },bK B 0]):=zd s14;clear s14 S12;obtain⟨b0,b1,b2,b3,f0,f1,f2,f3,Q4⟩:=aI (c:=0) S15.out
   go_wp2
   refine aQ (d:=false) (by rw[HO.out]) Q4 (fun Vz z0 z1 z2 z3=>by simp[results,results139,go_sem,z0,z1,z2,z3]) rfl fun _ q5=>?_
   rw[HO.out];have hs11:=Hs11.out;subst hs11;have hE1:=HE1.out;subst hE1;have hs3:=Hs3.out;subst hs3
   exact q5
 ·obtain⟨o,r,x,ho1,hr,ho⟩:=hv Hfb.out
  have hO:jD s E A.sl now=⟨mP s E,{ ig s E with r:=some o,st:=.word },0,false⟩:=by unfold jD;rw[Hfb.out,ho1];rfl
  have HO:=zd hO;clear hO;have hob:E1.obj=(o:Nat):=by rw[HE1.out];exact ho1
  have Hob:=zd hob;have hrv:rV rs (some o)=ptr r:=by simp[rV,List.getD,hr]
  have Hrv:=zd hrv;clear hob hrv ho1 hv
  go_wp2_with fail
  have sd:=S5.out.drew;have re:=sd.row (k:=e) 1 rfl;have h0:At w1.drew e 0 (ptr A.P)∧At w1.drew e 11 (J E1.obj):=⟨re.cell rfl,re.cell rfl⟩
  have Sd17:=zd sd;clear sd re S5;refine aP (by kernel_rfl) ?_;generalize w1.drew=V16 at Sd17 h0 ⊢
  refine aY [0,1,5] ?_
  repeat (refine ay _ rfl (by kernel_rfl) (fun _ _ _ h=>h) (fun w'=>by(try simp only[ag,ah,aj]);go_simp;try with_reducible rfl) ?_;try simp only[Act.put,ag,ah,aj,aF,aB,aC])
  refine aH ?_;refine bJ (fun w'=>At w' e 0 (ptr A.P)∧At w' e 11 (J E1.obj)) [2,3,4,6,7,8] ?_
  repeat (refine aN _ rfl (by kernel_rfl) (fun _ _ _ h=>h) h0 (fun w' hS=>by(try dsimp only at hS);(try simp only[ag,ah,aj]);go_simp;try with_reducible rfl) ?_;try simp only[Act.put,ag,ah,aj,aF,aB,aC])
  refine bH (by kernel_rfl) ?_;refine af 9 (by kernel_rfl) rfl (by rfl) fun K hK=>?_
  go_simp;refine((by rw[Hob.out];exact sS hr (by rw[Hs3.out];exact ho):Does prog [ae A rs s3] 165 #[ptr A.P,J E1.obj] (ptr r) [ae A rs s3]).at0 Sd17.out).mono ?_
  rintro er w18 ⟨rfl,s19⟩
  refine hK _ _ ?_;have S20:Hid (Scope S w0 w18 [ae A rs s3,aO A.P e (aV E.st.bz e) (rV rs E.r) E1,bK B 0]):=zd s19;clear s19 Sd17 hK K h0
  try simp only[Act.put,ag,ah,aj,aF,aB,aC]
  have rr:=S20.out.row (k:=e) 1 rfl;have c12:=rr.cell (j:=12) rfl;have f12:=rr.free 12;have q21:Scope S w0 w18 ([ae A rs s3]++([aO A.P e (aV E.st.bz e) (rV rs E.r) E1]++[bK B 0])):=S20.out;have q22:=Scope.au q21 12 ((ptr r));have Q23:=zd q22;clear rr q21 q22 S20;refine aY [10,11] ?_
  repeat (refine ay _ rfl (by kernel_rfl) (fun _ _ _ h=>h) (fun w'=>by(try simp only[ag,ah,aj]);go_simp;try with_reducible rfl) ?_;try simp only[Act.put,ag,ah,aj,aF,aB,aC])
  refine aH ?_;refine af 12 (by kernel_rfl) rfl (by rfl) fun K hK=>?_
  go_simp;refine hK _ _ ?_;clear hK K
  try simp only[Act.put,ag,ah,aj,aF,aB,aC]
  refine wpAny_done (by kernel_rfl) ?_ _;clear c12 f12;obtain⟨V24,hV24⟩:∃ V24,V24=w18.setCell ⟨e,12,none⟩ ((ptr r)):=⟨_,rfl⟩
  have q25:=Q23.out;rw[←hV24]at q25 ⊢
  have S26:Hid (Scope S w0 V24 [ae A rs s3,aO A.P e (aV E.st.bz e) (ptr r) { E1 with r:=some o },bK B 0]):=zd q25;clear q25 hV24 Q23
  go_wp2_with fail
  refine((dK (P:=A.P) (nx:=(aV E.st.bz e)) (rv:=(ptr r)) (E:={ E1 with r:=some o }) 171).fC S26.out).mono ?_
  rintro er w27 ⟨rfl,s28⟩
  have S29:Hid (Scope S w0 w27 [ae A rs s3,aO A.P e (aV 171 e) (ptr r) { E1 with r:=some o,st:=.word },bK B 0]):=zd s28;clear s28 S26;obtain⟨b0,b1,b2,b3,f0,f1,f2,f3,Q4⟩:=aI (c:=0) S29.out
  go_wp2
  refine aQ (d:=false) (by rw[HO.out]) Q4 (fun Vz z0 z1 z2 z3=>by simp[results,results139,go_sem,z0,z1,z2,z3]) rfl fun _ q5=>?_
  rw[HO.out];have hE1:=HE1.out;subst hE1;have hs3:=Hs3.out;subst hs3;rw[←Hrv.out]at q5
  exact q5
end
def nP (s:PS) (A:PA) (E:jo):PS:=s.make E.who ⟨E.c.flow,E.c.b,Bg A.un E.c.a⟩
def kK (s:PS) (A:PA) (E:jo):RO:=⟨nP s A E,{ E with obj:=s.ob.length,st:=.put },0,false⟩
def KY (s:PS) (E:jo) (now c:Int):RO:=⟨s.note now E.who (bD c),{ E with told:=c },c,true⟩
def gK (s:PS) (E:jo) (now:Int):RO:=cond (decide (E.c.flow<0)||decide (1048576<E.c.flow)) (KY s E now 1) (cond (decide (E.c.a<1)||decide (65536<E.c.a)) (KY s E now 4) (cond (decide (E.c.b<1)||decide (8<E.c.b)) (KY s E now 1) (dI s E .search .enter)))
def iP (s:PS) (E:jo) (now:Int):RO:=cond (decide (E.c.flow<0)||decide (1048576<E.c.flow)) (KY s E now 5) (dI s E .find .lock)
section
variable {A:PA} {rs:List Nat} {s:PS} {e:Nat} {E:jo} {r:Nat} {x:mO}
theorem GI (now:Int) (hRn:E.r=none) (hu1:1≤A.un) (hu2:A.un≤4611686018427387904) (ha0:1≤E.c.a) (ha1:E.c.a≤65536) (hob:s.ob.length<100000) (hl:s.σ.log.length≤1000000):Does prog [ae A rs s,aO A.P e (aV E.st.bz e) (rV rs E.r) E] 173 #[ptr e,J now] (bI 0 false) [uk fun q=>aG [ae A (rs++[q]) (nP s A E),rW A.P (rs++[q]) e (kK s A E).E]]:=Does.ax fun S w0 w h=>by
 rw[show aO A.P e (aV E.st.bz e) (rV rs E.r) E=aO A.P e (aV E.st.bz e) (.pointer none) E from by rw[hRn];rfl]at h;have hrv:∀ L,rV L E.r=.pointer none:=fun L=>by rw[hRn];rfl
 have Hrv:=zd hrv;clear hrv hRn;obtain⟨B,W,HB,HW,Sa⟩:=bV h;clear h
 go_enter func173,ntmps173
 go_wp2_with fail
 rw[←HB.out, ←HW.out];have sd:=Sa.out.drew;have re:=sd.row (k:=e) 1 rfl;have pc:=sd.bT 0 rfl;have h0:At W.drew e 0 (ptr A.P)∧At W.drew A.P 9 (Ju A.un)∧At W.drew e 4 (J E.c.a):=⟨re.cell rfl,pc.un,re.cell rfl⟩
 have Sd2:=zd sd;clear sd re pc Sa;refine aP (by kernel_rfl) ?_;generalize W.drew=V1 at Sd2 h0 ⊢
 refine aY [0,8] ?_
 repeat (refine ay _ rfl (by kernel_rfl) (fun _ _ _ h=>h) (fun w'=>by(try simp only[ag,ah,aj]);go_simp;try with_reducible rfl) ?_;try simp only[Act.put,ag,ah,aj,aF,aB,aC])
 refine aH ?_;refine bJ (fun w'=>At w' e 0 (ptr A.P)∧At w' A.P 9 (Ju A.un)∧At w' e 4 (J E.c.a)) [1,2,3,4,5,6,7,9,10,11,12] ?_
 repeat (refine aN _ rfl (by kernel_rfl) (fun _ _ _ h=>h) h0 (fun w' hS=>by(try dsimp only at hS);(try simp only[ag,ah,aj]);go_simp;try with_reducible rfl) ?_;try simp only[Act.put,ag,ah,aj,aF,aB,aC])
 refine bH (by kernel_rfl) ?_;refine af 13 (by kernel_rfl) rfl (by rfl) fun K hK=>?_
 go_simp;refine((N8 A.un E.c.a hu1 hu2 ha0 ha1) _).mono ?_
 rintro er w3 ⟨rfl,hw⟩
 subst hw;refine hK _ _ ?_;clear hK K h0
 try simp only[Act.put,ag,ah,aj,aF,aB,aC]
 refine aY [14,15,16] ?_
 repeat (refine ay _ rfl (by kernel_rfl) (fun _ _ _ h=>h) (fun w'=>by(try simp only[ag,ah,aj]);go_simp;try with_reducible rfl) ?_;try simp only[Act.put,ag,ah,aj,aF,aB,aC])
 refine aH ?_;refine af 17 (by kernel_rfl) rfl (by rfl) fun K hK=>?_
 go_simp;refine hK _ _ ?_;clear hK K
 try simp only[Act.put,ag,ah,aj,aF,aB,aC]
 refine af 18 (by kernel_rfl) rfl (by rfl) fun K hK=>?_
 go_simp;refine hK _ _ ?_;clear hK K
 try simp only[Act.put,ag,ah,aj,aF,aB,aC]
 refine wpAny_done (by kernel_rfl) ?_ _
 go_wp2_with fail
 have sd:=Sd2.out.drew;have re:=sd.row (k:=e) 1 rfl;have h0:At V1.drew e 0 (ptr A.P)∧At V1.drew e 1 (J E.who)∧At V1.drew e 3 (J E.c.flow)∧At V1.drew e 5 (J E.c.b):=⟨re.cell rfl,re.cell rfl,re.cell rfl,re.cell rfl⟩
 have Sd5:=zd sd;clear sd re Sd2;refine aP (by kernel_rfl) ?_;generalize V1.drew=V4 at Sd5 h0 ⊢
 refine aY [0,1,5,9,14,19] ?_
 repeat (refine ay _ rfl (by kernel_rfl) (fun _ _ _ h=>h) (fun w'=>by(try simp only[ag,ah,aj]);go_simp;try with_reducible rfl) ?_;try simp only[Act.put,ag,ah,aj,aF,aB,aC])
 refine aH ?_;refine bJ (fun w'=>At w' e 0 (ptr A.P)∧At w' e 1 (J E.who)∧At w' e 3 (J E.c.flow)∧At w' e 5 (J E.c.b)) [2,3,4,6,7,8,10,11,12,13,15,16,17,18,20] ?_
 repeat (refine aN _ rfl (by kernel_rfl) (fun _ _ _ h=>h) h0 (fun w' hS=>by(try dsimp only at hS);(try simp only[ag,ah,aj]);go_simp;try with_reducible rfl) ?_;try simp only[Act.put,ag,ah,aj,aF,aB,aC])
 refine bH (by kernel_rfl) ?_;refine af 21 (by kernel_rfl) rfl (by rfl) fun K hK=>?_
 go_simp;refine(EY E.who ⟨E.c.flow,E.c.b,Bg A.un E.c.a⟩ hob hl Sd5.out).mono ?_
 rintro er w6 ⟨rfl,qn,s7⟩
 refine hK _ _ ?_;obtain⟨s8,Hs8,s7⟩:=az (s':=nP s A E) s7;have S9:Hid (Scope S w0 w6 [ae A (rs++[qn]) s8,aO A.P e (aV E.st.bz e) (.pointer none) E,bK B 0]):=zd s7;clear s7 Sd5 hK K h0
 try simp only[Act.put,ag,ah,aj,aF,aB,aC]
 have rr:=S9.out.row (k:=e) 1 rfl;have c11:=rr.cell (j:=11) rfl;have f11:=rr.free 11;have q10:Scope S w0 w6 ([ae A (rs++[qn]) s8]++([aO A.P e (aV E.st.bz e) (.pointer none) E]++[bK B 0])):=S9.out;have q11:=Scope.au q10 11 (J ((s.ob.length:Int)));have Q12:=zd q11;clear rr q10 q11 S9;refine aY [22,23] ?_
 repeat (refine ay _ rfl (by kernel_rfl) (fun _ _ _ h=>h) (fun w'=>by(try simp only[ag,ah,aj]);go_simp;try with_reducible rfl) ?_;try simp only[Act.put,ag,ah,aj,aF,aB,aC])
 refine aH ?_;refine af 24 (by kernel_rfl) rfl (by rfl) fun K hK=>?_
 go_simp;refine hK _ _ ?_;clear hK K
 try simp only[Act.put,ag,ah,aj,aF,aB,aC]
 refine wpAny_done (by kernel_rfl) ?_ _;clear c11 f11;obtain⟨V13,hV13⟩:∃ V13,V13=w6.setCell ⟨e,11,none⟩ (J ((s.ob.length:Int))):=⟨_,rfl⟩
 have q14:=Q12.out;rw[←hV13]at q14 ⊢
 have S15:Hid (Scope S w0 V13 [ae A (rs++[qn]) s8,aO A.P e (aV E.st.bz e) (.pointer none) { E with obj:=(s.ob.length:Int) },bK B 0]):=zd q14;clear q14 hV13 Q12
 go_wp2_with fail
 refine((dK (P:=A.P) (nx:=(aV E.st.bz e)) (rv:=(.pointer none)) (E:={ E with obj:=(s.ob.length:Int) }) 200).fC S15.out).mono ?_
 rintro er w16 ⟨rfl,s17⟩
 have S18:Hid (Scope S w0 w16 [ae A (rs++[qn]) s8,aO A.P e (aV 200 e) (.pointer none) { E with obj:=(s.ob.length:Int),st:=.put },bK B 0]):=zd s17;clear s17 S15;obtain⟨b0,b1,b2,b3,f0,f1,f2,f3,Q4⟩:=aI (c:=0) S18.out
 go_wp2
 refine aQ (d:=false) rfl Q4 (fun Vz z0 z1 z2 z3=>by simp[results,results173,go_sem,z0,z1,z2,z3]) rfl fun _ q5=>?_
 have hs8:=Hs8.out;subst hs8;rw[←Hrv.out (rs++[qn])]at q5
 exact Scope.tX (F:=fun q=>aG [ae A (rs++[q]) (nP s A E),rW A.P (rs++[q]) e (kK s A E).E]) qn (Scope.shut1 q5)
theorem G7 (now:Int) (hsh:I64 E.shard) (hwho:I64 E.who) (hn:s.pt.length<100000) (hl:s.σ.log.length≤1000000):Does prog [ae A rs s,aO A.P e (aV E.st.bz e) (rV rs E.r) E] 70 #[ptr e,J now] (bI (gK s E now).c (gK s E now).d) [ae A rs (gK s E now).s,rW A.P rs e (gK s E now).E]:=Does.ax fun S w0 w h=>by
 obtain⟨ba,hba⟩:∃ ba,decide (E.c.flow<0)=ba:=⟨_,rfl⟩
 obtain⟨bb,hbb⟩:∃ bb,decide (1048576<E.c.flow)=bb:=⟨_,rfl⟩
 obtain⟨bc,hbc⟩:∃ bc,decide (E.c.a<1)=bc:=⟨_,rfl⟩
 obtain⟨bd,hbd⟩:∃ bd,decide (65536<E.c.a)=bd:=⟨_,rfl⟩
 obtain⟨be,hbe⟩:∃ be,decide (E.c.b<1)=be:=⟨_,rfl⟩
 obtain⟨bf,hbf⟩:∃ bf,decide (8<E.c.b)=bf:=⟨_,rfl⟩
 obtain⟨B,W,HB,HW,Sa⟩:=bV h;clear h
 go_enter func70,ntmps70
 go_wp2_with fail
 rw[←HB.out, ←HW.out];refine((sQ (s:=s) (aV E.st.bz e) (rV rs E.r)).iY Sa.out).mono ?_
 rintro er w1 ⟨rfl,s2⟩
 have S3:Hid (Scope S w0 w1 [ae A rs s,aO A.P e (aV E.st.bz e) (rV rs E.r) E,bK B 0]):=zd s2;clear s2 Sa;simp only[hba,hbb]
 cases ba
 ·cases bb
  ·cases bc
   ·cases bd
    ·cases be
     ·cases bf
      ·have hO:gK s E now=⟨lS s E,{ E with st:=cond (decide (s.σ.num (ja E.shard)=0)) .search .enter },0,false⟩:=by unfold gK;rw[hba,hbb,hbc,hbd,hbe,hbf];rfl
       have HO:=zd hO;clear hO
       try simp only[Bool.true_or,Bool.false_or]
       have rr:=S3.out.row (k:=e) 1 rfl;have c4:=rr.cell (j:=4) rfl;have c5:=rr.cell (j:=5) rfl;clear rr
       go_wp2_with fail
       clear c4 c5;refine((by exact wB now hsh hl:Does prog [ae A rs s,rW A.P rs e E] 96 #[ptr e,J now] (bI 0 false) [ae A rs (lS s E),rW A.P rs e (dI s E .search .enter).E]).iY S3.out).mono ?_
       rintro er w4 ⟨rfl,s5⟩
       obtain⟨s6,Hs6,s5⟩:=az (s':=lS s E) s5;have S7:Hid (Scope S w0 w4 [ae A rs s6,rW A.P rs e (dI s E .search .enter).E,bK B 0]):=zd s5;clear s5 S3;obtain⟨b0,b1,b2,b3,f0,f1,f2,f3,Q4⟩:=aI (c:=0) S7.out
       go_wp2
       refine aQ (d:=false) (by rw[HO.out]) Q4 (fun Vz z0 z1 z2 z3=>by simp[results,results70,go_sem,z0,z1,z2,z3]) rfl fun _ q5=>?_
       rw[HO.out];have hs6:=Hs6.out;subst hs6
       exact q5
      ·have hO:gK s E now=⟨s.note now E.who (bD 1),{ E with told:=1 },1,true⟩:=by unfold gK;rw[hba,hbb,hbc,hbd,hbe,hbf];rfl
       have HO:=zd hO;clear hO
       try simp only[Bool.true_or,Bool.false_or]
       have rr:=S3.out.row (k:=e) 1 rfl;have c4:=rr.cell (j:=4) rfl;have c5:=rr.cell (j:=5) rfl;clear rr
       go_wp2_with fail
       clear c4 c5;refine((iT (s:=s) (aV E.st.bz e) (rV rs E.r) now 1 hwho hn).iY S3.out).mono ?_
       rintro er w8 ⟨rfl,s9⟩
       obtain⟨s10,Hs10,s9⟩:=az (s':=(s).note now E.who (bD 1)) s9;have S11:Hid (Scope S w0 w8 [ae A rs s10,aO A.P e (aV E.st.bz e) (rV rs E.r) { E with told:=1 },bK B 0]):=zd s9;clear s9 S3;obtain⟨b0,b1,b2,b3,f0,f1,f2,f3,Q4⟩:=aI (c:=1) S11.out
       go_wp2
       refine aQ (d:=true) (by rw[HO.out]) Q4 (fun Vz z0 z1 z2 z3=>by simp[results,results70,go_sem,z0,z1,z2,z3]) rfl fun _ q5=>?_
       rw[HO.out];have hs10:=Hs10.out;subst hs10
       exact q5
     ·have hO:gK s E now=⟨s.note now E.who (bD 1),{ E with told:=1 },1,true⟩:=by unfold gK;rw[hba,hbb,hbc,hbd,hbe];rfl
      have HO:=zd hO;clear hO
      try simp only[Bool.true_or,Bool.false_or]
      have rr:=S3.out.row (k:=e) 1 rfl;have c4:=rr.cell (j:=4) rfl;have c5:=rr.cell (j:=5) rfl;clear rr
      go_wp2_with fail
      clear c4 c5;refine((iT (s:=s) (aV E.st.bz e) (rV rs E.r) now 1 hwho hn).iY S3.out).mono ?_
      rintro er w12 ⟨rfl,s13⟩
      obtain⟨s14,Hs14,s13⟩:=az (s':=(s).note now E.who (bD 1)) s13;have S15:Hid (Scope S w0 w12 [ae A rs s14,aO A.P e (aV E.st.bz e) (rV rs E.r) { E with told:=1 },bK B 0]):=zd s13;clear s13 S3;obtain⟨b0,b1,b2,b3,f0,f1,f2,f3,Q4⟩:=aI (c:=1) S15.out
      go_wp2
      refine aQ (d:=true) (by rw[HO.out]) Q4 (fun Vz z0 z1 z2 z3=>by simp[results,results70,go_sem,z0,z1,z2,z3]) rfl fun _ q5=>?_
      rw[HO.out];have hs14:=Hs14.out;subst hs14
      exact q5
    ·have hO:gK s E now=⟨s.note now E.who (bD 4),{ E with told:=4 },4,true⟩:=by unfold gK;rw[hba,hbb,hbc,hbd];rfl
     have HO:=zd hO;clear hO
     try simp only[Bool.true_or,Bool.false_or]
     have rr:=S3.out.row (k:=e) 1 rfl;have c4:=rr.cell (j:=4) rfl;have c5:=rr.cell (j:=5) rfl;clear rr
     go_wp2_with fail
     clear c4 c5;refine((iT (s:=s) (aV E.st.bz e) (rV rs E.r) now 4 hwho hn).iY S3.out).mono ?_
     rintro er w16 ⟨rfl,s17⟩
     obtain⟨s18,Hs18,s17⟩:=az (s':=(s).note now E.who (bD 4)) s17;have S19:Hid (Scope S w0 w16 [ae A rs s18,aO A.P e (aV E.st.bz e) (rV rs E.r) { E with told:=4 },bK B 0]):=zd s17;clear s17 S3;obtain⟨b0,b1,b2,b3,f0,f1,f2,f3,Q4⟩:=aI (c:=4) S19.out
     go_wp2
     refine aQ (d:=true) (by rw[HO.out]) Q4 (fun Vz z0 z1 z2 z3=>by simp[results,results70,go_sem,z0,z1,z2,z3]) rfl fun _ q5=>?_
     rw[HO.out];have hs18:=Hs18.out;subst hs18
     exact q5
   ·have hO:gK s E now=⟨s.note now E.who (bD 4),{ E with told:=4 },4,true⟩:=by unfold gK;rw[hba,hbb,hbc];rfl
    have HO:=zd hO;clear hO
    try simp only[Bool.true_or,Bool.false_or]
    have rr:=S3.out.row (k:=e) 1 rfl;have c4:=rr.cell (j:=4) rfl;have c5:=rr.cell (j:=5) rfl;clear rr
    go_wp2_with fail
    clear c4 c5;refine((iT (s:=s) (aV E.st.bz e) (rV rs E.r) now 4 hwho hn).iY S3.out).mono ?_
    rintro er w20 ⟨rfl,s21⟩
    obtain⟨s22,Hs22,s21⟩:=az (s':=(s).note now E.who (bD 4)) s21;have S23:Hid (Scope S w0 w20 [ae A rs s22,aO A.P e (aV E.st.bz e) (rV rs E.r) { E with told:=4 },bK B 0]):=zd s21;clear s21 S3;obtain⟨b0,b1,b2,b3,f0,f1,f2,f3,Q4⟩:=aI (c:=4) S23.out
    go_wp2
    refine aQ (d:=true) (by rw[HO.out]) Q4 (fun Vz z0 z1 z2 z3=>by simp[results,results70,go_sem,z0,z1,z2,z3]) rfl fun _ q5=>?_
    rw[HO.out];have hs22:=Hs22.out;subst hs22
    exact q5
  ·have hO:gK s E now=⟨s.note now E.who (bD 1),{ E with told:=1 },1,true⟩:=by unfold gK;rw[hba,hbb];rfl
   have HO:=zd hO;clear hO
   try simp only[Bool.true_or,Bool.false_or]
   have rr:=S3.out.row (k:=e) 1 rfl;have c4:=rr.cell (j:=4) rfl;have c5:=rr.cell (j:=5) rfl;clear rr
   go_wp2_with fail
   clear c4 c5;refine((iT (s:=s) (aV E.st.bz e) (rV rs E.r) now 1 hwho hn).iY S3.out).mono ?_
   rintro er w24 ⟨rfl,s25⟩
   obtain⟨s26,Hs26,s25⟩:=az (s':=(s).note now E.who (bD 1)) s25;have S27:Hid (Scope S w0 w24 [ae A rs s26,aO A.P e (aV E.st.bz e) (rV rs E.r) { E with told:=1 },bK B 0]):=zd s25;clear s25 S3;obtain⟨b0,b1,b2,b3,f0,f1,f2,f3,Q4⟩:=aI (c:=1) S27.out
   go_wp2
   refine aQ (d:=true) (by rw[HO.out]) Q4 (fun Vz z0 z1 z2 z3=>by simp[results,results70,go_sem,z0,z1,z2,z3]) rfl fun _ q5=>?_
   rw[HO.out];have hs26:=Hs26.out;subst hs26
   exact q5
 ·have hO:gK s E now=⟨s.note now E.who (bD 1),{ E with told:=1 },1,true⟩:=by unfold gK;rw[hba];rfl
  have HO:=zd hO;clear hO
  try simp only[Bool.true_or,Bool.false_or]
  have rr:=S3.out.row (k:=e) 1 rfl;have c4:=rr.cell (j:=4) rfl;have c5:=rr.cell (j:=5) rfl;clear rr
  go_wp2_with fail
  clear c4 c5;refine((iT (s:=s) (aV E.st.bz e) (rV rs E.r) now 1 hwho hn).iY S3.out).mono ?_
  rintro er w28 ⟨rfl,s29⟩
  obtain⟨s30,Hs30,s29⟩:=az (s':=(s).note now E.who (bD 1)) s29;have S31:Hid (Scope S w0 w28 [ae A rs s30,aO A.P e (aV E.st.bz e) (rV rs E.r) { E with told:=1 },bK B 0]):=zd s29;clear s29 S3;obtain⟨b0,b1,b2,b3,f0,f1,f2,f3,Q4⟩:=aI (c:=1) S31.out
  go_wp2
  refine aQ (d:=true) (by rw[HO.out]) Q4 (fun Vz z0 z1 z2 z3=>by simp[results,results70,go_sem,z0,z1,z2,z3]) rfl fun _ q5=>?_
  rw[HO.out];have hs30:=Hs30.out;subst hs30
  exact q5
theorem EX (now:Int) (hsh:I64 E.shard) (hwho:I64 E.who) (hn:s.pt.length<100000) (hl:s.σ.log.length≤1000000):Does prog [ae A rs s,aO A.P e (aV E.st.bz e) (rV rs E.r) E] 69 #[ptr e,J now] (bI (iP s E now).c (iP s E now).d) [ae A rs (iP s E now).s,rW A.P rs e (iP s E now).E]:=Does.ax fun S w0 w h=>by
 obtain⟨ba,hba⟩:∃ ba,decide (E.c.flow<0)=ba:=⟨_,rfl⟩
 obtain⟨bb,hbb⟩:∃ bb,decide (1048576<E.c.flow)=bb:=⟨_,rfl⟩
 obtain⟨B,W,HB,HW,Sa⟩:=bV h;clear h
 go_enter func69,ntmps69
 go_wp2_with fail
 rw[←HB.out, ←HW.out];refine((sQ (s:=s) (aV E.st.bz e) (rV rs E.r)).iY Sa.out).mono ?_
 rintro er w1 ⟨rfl,s2⟩
 have S3:Hid (Scope S w0 w1 [ae A rs s,aO A.P e (aV E.st.bz e) (rV rs E.r) E,bK B 0]):=zd s2;clear s2 Sa;simp only[hba,hbb]
 cases ba
 ·cases bb
  ·have hO:iP s E now=⟨lS s E,{ E with st:=cond (decide (s.σ.num (ja E.shard)=0)) .find .lock },0,false⟩:=by unfold iP;rw[hba,hbb];rfl
   have HO:=zd hO;clear hO
   try simp only[Bool.true_or,Bool.false_or]
   have rr:=S3.out.row (k:=e) 1 rfl;have c4:=rr.cell (j:=4) rfl;have c5:=rr.cell (j:=5) rfl;clear rr
   go_wp2_with fail
   clear c4 c5;refine((by exact yO now hsh hl:Does prog [ae A rs s,rW A.P rs e E] 95 #[ptr e,J now] (bI 0 false) [ae A rs (lS s E),rW A.P rs e (dI s E .find .lock).E]).iY S3.out).mono ?_
   rintro er w4 ⟨rfl,s5⟩
   obtain⟨s6,Hs6,s5⟩:=az (s':=lS s E) s5;have S7:Hid (Scope S w0 w4 [ae A rs s6,rW A.P rs e (dI s E .find .lock).E,bK B 0]):=zd s5;clear s5 S3;obtain⟨b0,b1,b2,b3,f0,f1,f2,f3,Q4⟩:=aI (c:=0) S7.out
   go_wp2
   refine aQ (d:=false) (by rw[HO.out]) Q4 (fun Vz z0 z1 z2 z3=>by simp[results,results69,go_sem,z0,z1,z2,z3]) rfl fun _ q5=>?_
   rw[HO.out];have hs6:=Hs6.out;subst hs6
   exact q5
  ·have hO:iP s E now=⟨s.note now E.who (bD 5),{ E with told:=5 },5,true⟩:=by unfold iP;rw[hba,hbb];rfl
   have HO:=zd hO;clear hO
   try simp only[Bool.true_or,Bool.false_or]
   have rr:=S3.out.row (k:=e) 1 rfl;have c4:=rr.cell (j:=4) rfl;have c5:=rr.cell (j:=5) rfl;clear rr
   go_wp2_with fail
   clear c4 c5;refine((iT (s:=s) (aV E.st.bz e) (rV rs E.r) now 5 hwho hn).iY S3.out).mono ?_
   rintro er w8 ⟨rfl,s9⟩
   obtain⟨s10,Hs10,s9⟩:=az (s':=(s).note now E.who (bD 5)) s9;have S11:Hid (Scope S w0 w8 [ae A rs s10,aO A.P e (aV E.st.bz e) (rV rs E.r) { E with told:=5 },bK B 0]):=zd s9;clear s9 S3;obtain⟨b0,b1,b2,b3,f0,f1,f2,f3,Q4⟩:=aI (c:=5) S11.out
   go_wp2
   refine aQ (d:=true) (by rw[HO.out]) Q4 (fun Vz z0 z1 z2 z3=>by simp[results,results69,go_sem,z0,z1,z2,z3]) rfl fun _ q5=>?_
   rw[HO.out];have hs10:=Hs10.out;subst hs10
   exact q5
 ·have hO:iP s E now=⟨s.note now E.who (bD 5),{ E with told:=5 },5,true⟩:=by unfold iP;rw[hba];rfl
  have HO:=zd hO;clear hO
  try simp only[Bool.true_or,Bool.false_or]
  have rr:=S3.out.row (k:=e) 1 rfl;have c4:=rr.cell (j:=4) rfl;have c5:=rr.cell (j:=5) rfl;clear rr
  go_wp2_with fail
  clear c4 c5;refine((iT (s:=s) (aV E.st.bz e) (rV rs E.r) now 5 hwho hn).iY S3.out).mono ?_
  rintro er w12 ⟨rfl,s13⟩
  obtain⟨s14,Hs14,s13⟩:=az (s':=(s).note now E.who (bD 5)) s13;have S15:Hid (Scope S w0 w12 [ae A rs s14,aO A.P e (aV E.st.bz e) (rV rs E.r) { E with told:=5 },bK B 0]):=zd s13;clear s13 S3;obtain⟨b0,b1,b2,b3,f0,f1,f2,f3,Q4⟩:=aI (c:=5) S15.out
  go_wp2
  refine aQ (d:=true) (by rw[HO.out]) Q4 (fun Vz z0 z1 z2 z3=>by simp[results,results69,go_sem,z0,z1,z2,z3]) rfl fun _ q5=>?_
  rw[HO.out];have hs14:=Hs14.out;subst hs14
  exact q5
end
inductive MX where
 |write|send|try'|wait|result|state|arg|look|answer|ready|leave|turn|quiet|grab|behind|thing|same|pick|shown|get|free'|word|rest|keep|end'
 deriving DecidableEq
structure eQ where
 who:Int
 c:Cl
 st:MX
 j:Int
 ask:Cl
 left:Int
 told:Rt
 calm:Int
 shard:Int
 obj:Int
 link:Int
 woken:List (Int×Ob)
 now:Int
 r:Option Nat
 n:Int
 x:Pk
 w:Int
 more:Bool
def MX.bz:MX→FuncId
 |.write=>71|.send=>99|.try'=>144|.wait=>177|.result=>202|.state=>178|.arg=>204|.look=>222|.answer=>225|.ready=>245|.leave=>220|.turn=>226|.quiet=>247|.grab=>259|.behind=>267|.thing=>274|.same=>272|.pick=>277|.shown=>284|.get=>288|.free'=>290|.word=>292|.rest=>294|.keep=>293|.end'=>283
@[reducible] def aA (tv wv:Value) (P e:Nat) (nx rv:Value) (E:eQ):HA:=box e [ptr P,J E.who,J E.c.op,J E.c.flow,J E.c.a,J E.c.b,nx,J E.j,J E.ask.op,J E.ask.flow,J E.ask.a,J E.ask.b,J E.left,J E.told.e,tv,J E.told.n,Ju E.told.v,Ju E.calm,J E.shard,J E.obj,Ju E.link,wv,J E.now,rv,Ju E.n,J E.x.flow,J E.x.len,J E.x.mark,Ju E.w,.bool E.more] 175
@[reducible] def dA (tv wv:Value) (P:Nat) (rs:List Nat) (e:Nat) (E:eQ):HA:=aA tv wv P e (aV E.st.bz e) (rV rs E.r) E
structure DO where
 s:PS
 E:eQ
 d:Bool
def eQ.ri (E:eQ):Nat:=E.r.getD 0
section
variable {P e:Nat} {nx rv tv wv:Value} {E:eQ}
theorem bW (f:FuncId):Does prog [aA tv wv P e nx rv E] 98 #[ptr e,.func (.func f) #[ptr e] #[]] (bI 0 false) [aA tv wv P e (aV f e) rv E]:=Does.ax fun S w0 w h=>by
 obtain⟨B,hB⟩:∃ B,B=w.heap.size:=⟨_,rfl⟩
 have c6:=(h.row (k:=e) 0 rfl).cell (j:=6) rfl;have lp:=(h.row (k:=e) 0 rfl).lt;have f6:=(h.row (k:=e) 0 rfl).free 6;have t1:=Scope.au (As:=[]) (Bs:=[]) h 6 (.func (.func f) #[ptr e] #[]);have t2:=t1.box [J 0,nS,J 0,Ju 0] 60;rw[show(w.setCell ⟨e,6,none⟩ (.func (.func f) #[ptr e] #[])).heap.size=B by rw[hB];simp]at t2;have T2:=zd t2;have HB:=zd hB;clear h t1 t2 hB
 go_enter func98,ntmps98
 go_wp2
 have q3:=T2.out;obtain⟨V,hV⟩:∃ V,V=(w.setCell ⟨e,6,none⟩ (.func (.func f) #[ptr e] #[])).alloc (.cells #[J 0,nS,J 0,Ju 0] 60):=⟨_,rfl⟩
 rw[show(w.setCell ⟨e,6,none⟩ (.func (.func f) #[ptr e] #[])).alloc (.cells [J 0,nS,J 0,Ju 0].toArray 60)=V from hV.symm]at q3;rw[←hV, ←HB.out];have z0:At V B 0 (J 0):=(q3.row (k:=B) 1 rfl).cell rfl;have z1:At V B 1 (nS):=(q3.row (k:=B) 1 rfl).cell rfl;have z2:At V B 2 (J 0):=(q3.row (k:=B) 1 rfl).cell rfl;have z3:At V B 3 (Ju 0):=(q3.row (k:=B) 1 rfl).cell rfl
 exact bodyPost_ret (v:=bI 0 false) (by simp[results,results98,go_sem,z0,z1,z2,z3]) rfl (Ends.mk [box B [J 0,nS,J 0,Ju 0] 60] q3)
end
theorem MX.enters (t:MX) (args:Array Value) (w:World):Sem.run prog (callFunc t.bz args) w=.ok (.enter t.bz args) w:=by
 cases t<;>exact pJ _ (by kernel_rfl) _ _
def dN (s:PS) (who kind:Int) (l:Lc):PS:={ s with σ:=s.σ.put who kind l }
def uA (s:PS) (who kind:Int) (l:Lc) (v:Int):PS:={ s with σ:=(s.σ.put who kind l).set l v }
def xy (s:PS) (E:eQ):PS:={ s with σ:=s.σ.put E.who 6 (qo E.who),kc:=s.kc++[(E.who,E.c)] }
def lY (s:PS) (E:eQ):DO:=⟨xy s E,{ E with st:=.send },false⟩
def qE (s:PS) (E:eQ):DO:=⟨uA s E.who 2 (fP E.who) 1,{ E with st:=.try' },false⟩
def FW (s:PS) (E:eQ):PS:={ s with σ:=s.σ.swap E.who iG 0 1 }
def lZ (s:PS) (E:eQ):DO:=cond (decide (s.σ.num iG=0)) ⟨FW s E,{ E with j:=0,st:=.state },false⟩ ⟨FW s E,{ E with st:=.wait },false⟩
def lL (s:PS) (E:eQ):DO:=⟨dN s E.who 1 (fP E.who),{ E with st:=cond (s.σ.num (fP E.who)==2) .result .try' },false⟩
def fG (E:eQ) (wk:Nat):eQ:={ E with j:=E.j+1,st:=cond (decide ((wk:Int)≤E.j+1)) .leave .state }
def iM (s:PS) (E:eQ) (wk:Nat):DO:=⟨dN s E.who 1 (fP E.j),cond (s.σ.num (fP E.j)==1) { E with st:=.arg } (fG E wk),false⟩
def lW (s:PS) (E:eQ) (wk:Nat):DO:=⟨uA s E.who 2 (fP E.j) 2,fG E wk,false⟩
def oC (s:PS) (E:eQ):DO:=⟨uA s E.who 2 iG 0,{ E with st:=.wait },false⟩
def tK (s:PS) (E:eQ):PS:={ s with σ:=(s.σ.put E.who 3 gm).set gm (IntKind.u64.wrap (s.σ.num gm+1)) }
def qM (s:PS) (E:eQ):DO:=⟨tK s E,{ E with st:=.quiet },false⟩
section
variable {A:PA} {rs:List Nat} {s:PS} {e:Nat} {E:eQ} {r:Nat} {x:mO} {tv wv:Value}
theorem Ew (now:Int) (hwho:I64 E.who) (hl:s.σ.log.length≤1000000):Does prog [ae A rs s,aA tv wv A.P e (aV E.st.bz e) (rV rs E.r) E] 71 #[ptr e,J now] (bI 0 (lY s E).d) [ae A rs (lY s E).s,dA tv wv A.P rs e (lY s E).E]:=Does.ax fun S w0 w h=>by
 obtain⟨B,W,HB,HW,Sa⟩:=bV h;clear h
 go_enter func71,ntmps71
 go_wp2_with fail
 rw[←HB.out, ←HW.out];have sd:=Sa.out.drew;have re:=sd.row (k:=e) 1 rfl;have pc:=sd.bT 0 rfl;have h0:At W.drew e 0 (ptr A.P)∧At W.drew A.P 3 (ptr A.po)∧At W.drew e 1 (J E.who)∧At W.drew e 2 (J E.c.op)∧At W.drew e 3 (J E.c.flow)∧At W.drew e 4 (J E.c.a)∧At W.drew e 5 (J E.c.b):=⟨re.cell rfl,pc.po,re.cell rfl,re.cell rfl,re.cell rfl,re.cell rfl,re.cell rfl⟩
 have Sd2:=zd sd;clear sd re pc Sa;refine aP (by kernel_rfl) ?_;generalize W.drew=V1 at Sd2 h0 ⊢
 refine aY [0,7,11] ?_
 repeat (refine ay _ rfl (by kernel_rfl) (fun _ _ _ h=>h) (fun w'=>by(try simp only[ag,ah,aj]);go_simp;try with_reducible rfl) ?_;try simp only[Act.put,ag,ah,aj,aF,aB,aC])
 refine aH ?_;refine bJ (fun w'=>At w' e 0 (ptr A.P)∧At w' A.P 3 (ptr A.po)∧At w' e 1 (J E.who)∧At w' e 2 (J E.c.op)∧At w' e 3 (J E.c.flow)∧At w' e 4 (J E.c.a)∧At w' e 5 (J E.c.b)) [1,2,3,4,5,6,8,9,10,12,13,14] ?_
 repeat (refine aN _ rfl (by kernel_rfl) (fun _ _ _ h=>h) h0 (fun w' hS=>by(try dsimp only at hS);(try simp only[ag,ah,aj]);go_simp;try with_reducible rfl) ?_;try simp only[Act.put,ag,ah,aj,aF,aB,aC])
 refine bH (by kernel_rfl) ?_;refine af 15 (by kernel_rfl) rfl (by rfl) fun K hK=>?_
 go_simp;refine((Jv E.who E.c hwho hl).at0 Sd2.out).mono ?_
 rintro er w3 ⟨rfl,s4⟩
 refine hK _ _ ?_;obtain⟨s5,Hs5,s4⟩:=az (s':=xy s E) s4;have S6:Hid (Scope S w0 w3 [ae A rs s5,aA tv wv A.P e (aV E.st.bz e) (rV rs E.r) E,bK B 0]):=zd s4;clear s4 Sd2 hK K h0
 try simp only[Act.put,ag,ah,aj,aF,aB,aC]
 refine wpAny_done (by kernel_rfl) ?_ _
 go_wp2_with fail
 refine((bW (P:=A.P) (nx:=(aV E.st.bz e)) (rv:=(rV rs E.r)) (E:=E) 99).fC S6.out).mono ?_
 rintro er w7 ⟨rfl,s8⟩
 have S9:Hid (Scope S w0 w7 [ae A rs s5,aA tv wv A.P e (aV 99 e) (rV rs E.r) { E with st:=.send },bK B 0]):=zd s8;clear s8 S6;obtain⟨b0,b1,b2,b3,f0,f1,f2,f3,Q4⟩:=aI (c:=0) S9.out
 go_wp2
 refine aQ (d:=false) rfl Q4 (fun Vz z0 z1 z2 z3=>by simp[results,results71,go_sem,z0,z1,z2,z3]) rfl fun _ q5=>?_
 have hs5:=Hs5.out;subst hs5
 exact q5
theorem Iq (now:Int) (hwho:I64 E.who) (hl:s.σ.log.length≤1000000):Does prog [ae A rs s,aA tv wv A.P e (aV E.st.bz e) (rV rs E.r) E] 99 #[ptr e,J now] (bI 0 (qE s E).d) [ae A rs (qE s E).s,dA tv wv A.P rs e (qE s E).E]:=Does.ax fun S w0 w h=>by
 obtain⟨B,W,HB,HW,Sa⟩:=bV h;clear h
 go_enter func99,ntmps99
 go_wp2_with fail
 rw[←HB.out, ←HW.out];have sd:=Sa.out.drew;have re:=sd.row (k:=e) 1 rfl;have pc:=sd.bT 0 rfl;have h0:At W.drew e 0 (ptr A.P)∧At W.drew A.P 3 (ptr A.po)∧At W.drew e 1 (J E.who):=⟨re.cell rfl,pc.po,re.cell rfl⟩
 have Sd2:=zd sd;clear sd re pc Sa;refine aP (by kernel_rfl) ?_;generalize W.drew=V1 at Sd2 h0 ⊢
 refine aY [0,7] ?_
 repeat (refine ay _ rfl (by kernel_rfl) (fun _ _ _ h=>h) (fun w'=>by(try simp only[ag,ah,aj]);go_simp;try with_reducible rfl) ?_;try simp only[Act.put,ag,ah,aj,aF,aB,aC])
 refine aH ?_;refine bJ (fun w'=>At w' e 0 (ptr A.P)∧At w' A.P 3 (ptr A.po)∧At w' e 1 (J E.who)) [1,2,3,4,5,6,8,9,10] ?_
 repeat (refine aN _ rfl (by kernel_rfl) (fun _ _ _ h=>h) h0 (fun w' hS=>by(try dsimp only at hS);(try simp only[ag,ah,aj]);go_simp;try with_reducible rfl) ?_;try simp only[Act.put,ag,ah,aj,aF,aB,aC])
 refine bH (by kernel_rfl) ?_;refine af 11 (by kernel_rfl) rfl (by rfl) fun K hK=>?_
 go_simp;refine((Fg E.who hwho hl).at0 Sd2.out).mono ?_
 rintro er w3 ⟨rfl,s4⟩
 refine hK _ _ ?_;obtain⟨s5,Hs5,s4⟩:=az (s':=uA s E.who 2 (fP E.who) 1) s4;have S6:Hid (Scope S w0 w3 [ae A rs s5,aA tv wv A.P e (aV E.st.bz e) (rV rs E.r) E,bK B 0]):=zd s4;clear s4 Sd2 hK K h0
 try simp only[Act.put,ag,ah,aj,aF,aB,aC]
 refine wpAny_done (by kernel_rfl) ?_ _
 go_wp2_with fail
 refine((bW (P:=A.P) (nx:=(aV E.st.bz e)) (rv:=(rV rs E.r)) (E:=E) 144).fC S6.out).mono ?_
 rintro er w7 ⟨rfl,s8⟩
 have S9:Hid (Scope S w0 w7 [ae A rs s5,aA tv wv A.P e (aV 144 e) (rV rs E.r) { E with st:=.try' },bK B 0]):=zd s8;clear s8 S6;obtain⟨b0,b1,b2,b3,f0,f1,f2,f3,Q4⟩:=aI (c:=0) S9.out
 go_wp2
 refine aQ (d:=false) rfl Q4 (fun Vz z0 z1 z2 z3=>by simp[results,results99,go_sem,z0,z1,z2,z3]) rfl fun _ q5=>?_
 have hs5:=Hs5.out;subst hs5
 exact q5
theorem DN (now:Int) (hl:s.σ.log.length≤1000000):Does prog [ae A rs s,aA tv wv A.P e (aV E.st.bz e) (rV rs E.r) E] 220 #[ptr e,J now] (bI 0 (oC s E).d) [ae A rs (oC s E).s,dA tv wv A.P rs e (oC s E).E]:=Does.ax fun S w0 w h=>by
 obtain⟨B,W,HB,HW,Sa⟩:=bV h;clear h
 go_enter func220,ntmps220
 go_wp2_with fail
 rw[←HB.out, ←HW.out];have sd:=Sa.out.drew;have re:=sd.row (k:=e) 1 rfl;have pc:=sd.bT 0 rfl;have h0:At W.drew e 0 (ptr A.P)∧At W.drew A.P 3 (ptr A.po)∧At W.drew e 1 (J E.who):=⟨re.cell rfl,pc.po,re.cell rfl⟩
 have Sd2:=zd sd;clear sd re pc Sa;refine aP (by kernel_rfl) ?_;generalize W.drew=V1 at Sd2 h0 ⊢
 refine aY [0,7] ?_
 repeat (refine ay _ rfl (by kernel_rfl) (fun _ _ _ h=>h) (fun w'=>by(try simp only[ag,ah,aj]);go_simp;try with_reducible rfl) ?_;try simp only[Act.put,ag,ah,aj,aF,aB,aC])
 refine aH ?_;refine bJ (fun w'=>At w' e 0 (ptr A.P)∧At w' A.P 3 (ptr A.po)∧At w' e 1 (J E.who)) [1,2,3,4,5,6,8,9,10] ?_
 repeat (refine aN _ rfl (by kernel_rfl) (fun _ _ _ h=>h) h0 (fun w' hS=>by(try dsimp only at hS);(try simp only[ag,ah,aj]);go_simp;try with_reducible rfl) ?_;try simp only[Act.put,ag,ah,aj,aF,aB,aC])
 refine bH (by kernel_rfl) ?_;refine af 11 (by kernel_rfl) rfl (by rfl) fun K hK=>?_
 go_simp;refine((BJ E.who hl).at0 Sd2.out).mono ?_
 rintro er w3 ⟨rfl,s4⟩
 refine hK _ _ ?_;obtain⟨s5,Hs5,s4⟩:=az (s':=uA s E.who 2 iG 0) s4;have S6:Hid (Scope S w0 w3 [ae A rs s5,aA tv wv A.P e (aV E.st.bz e) (rV rs E.r) E,bK B 0]):=zd s4;clear s4 Sd2 hK K h0
 try simp only[Act.put,ag,ah,aj,aF,aB,aC]
 refine wpAny_done (by kernel_rfl) ?_ _
 go_wp2_with fail
 refine((bW (P:=A.P) (nx:=(aV E.st.bz e)) (rv:=(rV rs E.r)) (E:=E) 177).fC S6.out).mono ?_
 rintro er w7 ⟨rfl,s8⟩
 have S9:Hid (Scope S w0 w7 [ae A rs s5,aA tv wv A.P e (aV 177 e) (rV rs E.r) { E with st:=.wait },bK B 0]):=zd s8;clear s8 S6;obtain⟨b0,b1,b2,b3,f0,f1,f2,f3,Q4⟩:=aI (c:=0) S9.out
 go_wp2
 refine aQ (d:=false) rfl Q4 (fun Vz z0 z1 z2 z3=>by simp[results,results220,go_sem,z0,z1,z2,z3]) rfl fun _ q5=>?_
 have hs5:=Hs5.out;subst hs5
 exact q5
theorem JM (now:Int) (hl:s.σ.log.length≤1000000):Does prog [ae A rs s,aA tv wv A.P e (aV E.st.bz e) (rV rs E.r) E] 226 #[ptr e,J now] (bI 0 (qM s E).d) [ae A rs (qM s E).s,dA tv wv A.P rs e (qM s E).E]:=Does.ax fun S w0 w h=>by
 obtain⟨B,W,HB,HW,Sa⟩:=bV h;clear h
 go_enter func226,ntmps226
 go_wp2_with fail
 rw[←HB.out, ←HW.out];have sd:=Sa.out.drew;have re:=sd.row (k:=e) 1 rfl;have h0:At W.drew e 0 (ptr A.P)∧At W.drew e 1 (J E.who):=⟨re.cell rfl,re.cell rfl⟩
 have Sd2:=zd sd;clear sd re Sa;refine aP (by kernel_rfl) ?_;generalize W.drew=V1 at Sd2 h0 ⊢
 refine aY [0,4] ?_
 repeat (refine ay _ rfl (by kernel_rfl) (fun _ _ _ h=>h) (fun w'=>by(try simp only[ag,ah,aj]);go_simp;try with_reducible rfl) ?_;try simp only[Act.put,ag,ah,aj,aF,aB,aC])
 refine aH ?_;refine bJ (fun w'=>At w' e 0 (ptr A.P)∧At w' e 1 (J E.who)) [1,2,3,5,6,7] ?_
 repeat (refine aN _ rfl (by kernel_rfl) (fun _ _ _ h=>h) h0 (fun w' hS=>by(try dsimp only at hS);(try simp only[ag,ah,aj]);go_simp;try with_reducible rfl) ?_;try simp only[Act.put,ag,ah,aj,aF,aB,aC])
 refine bH (by kernel_rfl) ?_;refine af 8 (by kernel_rfl) rfl (by rfl) fun K hK=>?_
 go_simp;refine((yt hl E.who).at0 Sd2.out).mono ?_
 rintro er w3 ⟨rfl,s4⟩
 refine hK _ _ ?_;obtain⟨s5,Hs5,s4⟩:=az (s':=tK s E) s4;have S6:Hid (Scope S w0 w3 [ae A rs s5,aA tv wv A.P e (aV E.st.bz e) (rV rs E.r) E,bK B 0]):=zd s4;clear s4 Sd2 hK K h0
 try simp only[Act.put,ag,ah,aj,aF,aB,aC]
 refine wpAny_done (by kernel_rfl) ?_ _
 go_wp2_with fail
 refine((bW (P:=A.P) (nx:=(aV E.st.bz e)) (rv:=(rV rs E.r)) (E:=E) 247).fC S6.out).mono ?_
 rintro er w7 ⟨rfl,s8⟩
 have S9:Hid (Scope S w0 w7 [ae A rs s5,aA tv wv A.P e (aV 247 e) (rV rs E.r) { E with st:=.quiet },bK B 0]):=zd s8;clear s8 S6;obtain⟨b0,b1,b2,b3,f0,f1,f2,f3,Q4⟩:=aI (c:=0) S9.out
 go_wp2
 refine aQ (d:=false) rfl Q4 (fun Vz z0 z1 z2 z3=>by simp[results,results226,go_sem,z0,z1,z2,z3]) rfl fun _ q5=>?_
 have hs5:=Hs5.out;subst hs5
 exact q5
theorem NP (now:Int) (hl:s.σ.log.length≤1000000):Does prog [ae A rs s,aA tv wv A.P e (aV E.st.bz e) (rV rs E.r) E] 144 #[ptr e,J now] (bI 0 (lZ s E).d) [ae A rs (lZ s E).s,dA tv wv A.P rs e (lZ s E).E]:=Does.ax fun S w0 w h=>by
 obtain⟨B,W,HB,HW,Sa⟩:=bV h;clear h
 go_enter func144,ntmps144
 go_wp2_with fail
 rw[←HB.out, ←HW.out];have sd:=Sa.out.drew;have re:=sd.row (k:=e) 1 rfl;have pc:=sd.bT 0 rfl;have h0:At W.drew e 0 (ptr A.P)∧At W.drew A.P 3 (ptr A.po)∧At W.drew e 1 (J E.who):=⟨re.cell rfl,pc.po,re.cell rfl⟩
 have Sd2:=zd sd;clear sd re pc Sa;refine aP (by kernel_rfl) ?_;generalize W.drew=V1 at Sd2 h0 ⊢
 refine aY [0,7] ?_
 repeat (refine ay _ rfl (by kernel_rfl) (fun _ _ _ h=>h) (fun w'=>by(try simp only[ag,ah,aj]);go_simp;try with_reducible rfl) ?_;try simp only[Act.put,ag,ah,aj,aF,aB,aC])
 refine aH ?_;refine bJ (fun w'=>At w' e 0 (ptr A.P)∧At w' A.P 3 (ptr A.po)∧At w' e 1 (J E.who)) [1,2,3,4,5,6,8,9,10] ?_
 repeat (refine aN _ rfl (by kernel_rfl) (fun _ _ _ h=>h) h0 (fun w' hS=>by(try dsimp only at hS);(try simp only[ag,ah,aj]);go_simp;try with_reducible rfl) ?_;try simp only[Act.put,ag,ah,aj,aF,aB,aC])
 refine bH (by kernel_rfl) ?_;refine af 11 (by kernel_rfl) rfl (by rfl) fun K hK=>?_
 go_simp;refine((Gu E.who hl).at0 Sd2.out).mono ?_
 rintro er w3 ⟨rfl,s4⟩
 refine hK _ _ ?_;obtain⟨s5,Hs5,s4⟩:=az (s':=FW s E) s4;have S6:Hid (Scope S w0 w3 [ae A rs s5,aA tv wv A.P e (aV E.st.bz e) (rV rs E.r) E,bK B 0]):=zd s4;clear s4 Sd2 hK K h0;obtain⟨bb,hbb⟩:∃ bb,decide (s.σ.num iG=0)=bb:=⟨_,rfl⟩
 rw[hbb];have Hbb:=zd hbb;clear hbb
 try simp only[Act.put,ag,ah,aj,aF,aB,aC]
 refine aY [12] ?_
 repeat (refine ay _ rfl (by kernel_rfl) (fun _ _ _ h=>h) (fun w'=>by(try simp only[ag,ah,aj]);go_simp;try with_reducible rfl) ?_;try simp only[Act.put,ag,ah,aj,aF,aB,aC])
 refine aH ?_;refine wpAny_done (by kernel_rfl) ?_ _
 cases bb
 ·have hO:lZ s E=⟨FW s E,{ E with st:=.wait },false⟩:=by unfold lZ;rw[Hbb.out];rfl
  have HO:=zd hO;clear hO
  go_wp2_with fail
  refine((bW (P:=A.P) (nx:=(aV E.st.bz e)) (rv:=(rV rs E.r)) (E:=E) 177).fC S6.out).mono ?_
  rintro er w7 ⟨rfl,s8⟩
  have S9:Hid (Scope S w0 w7 [ae A rs s5,aA tv wv A.P e (aV 177 e) (rV rs E.r) { E with st:=.wait },bK B 0]):=zd s8;clear s8 S6;obtain⟨b0,b1,b2,b3,f0,f1,f2,f3,Q4⟩:=aI (c:=0) S9.out
  go_wp2
  refine aQ (d:=false) (by rw[HO.out]) Q4 (fun Vz z0 z1 z2 z3=>by simp[results,results144,go_sem,z0,z1,z2,z3]) rfl fun _ q5=>?_
  rw[HO.out];have hs5:=Hs5.out;subst hs5
  exact q5
 ·have hO:lZ s E=⟨FW s E,{ E with j:=0,st:=.state },false⟩:=by unfold lZ;rw[Hbb.out];rfl
  have HO:=zd hO;clear hO;have rr:=S6.out.row (k:=e) 1 rfl;have c7:=rr.cell (j:=7) rfl;have f7:=rr.free 7;have q10:Scope S w0 w3 ([ae A rs s5]++([aA tv wv A.P e (aV E.st.bz e) (rV rs E.r) E]++[bK B 0])):=S6.out;have q11:=Scope.au q10 7 (J 0);have Q12:=zd q11;clear rr q10 q11 S6
  go_wp2_with fail
  clear c7 f7;obtain⟨V13,hV13⟩:∃ V13,V13=w3.setCell ⟨e,7,none⟩ (J 0):=⟨_,rfl⟩
  have q14:=Q12.out;rw[←hV13]at q14 ⊢
  have S15:Hid (Scope S w0 V13 [ae A rs s5,aA tv wv A.P e (aV E.st.bz e) (rV rs E.r) { E with j:=0 },bK B 0]):=zd q14;clear q14 hV13 Q12;refine((bW (P:=A.P) (nx:=(aV E.st.bz e)) (rv:=(rV rs E.r)) (E:={ E with j:=0 }) 178).fC S15.out).mono ?_
  rintro er w16 ⟨rfl,s17⟩
  have S18:Hid (Scope S w0 w16 [ae A rs s5,aA tv wv A.P e (aV 178 e) (rV rs E.r) { E with j:=0,st:=.state },bK B 0]):=zd s17;clear s17 S15;obtain⟨b0,b1,b2,b3,f0,f1,f2,f3,Q4⟩:=aI (c:=0) S18.out
  go_wp2
  refine aQ (d:=false) (by rw[HO.out]) Q4 (fun Vz z0 z1 z2 z3=>by simp[results,results144,go_sem,z0,z1,z2,z3]) rfl fun _ q5=>?_
  rw[HO.out];have hs5:=Hs5.out;subst hs5
  exact q5
theorem Ji (now:Int) (hwho:I64 E.who) (hl:s.σ.log.length≤1000000):Does prog [ae A rs s,aA tv wv A.P e (aV E.st.bz e) (rV rs E.r) E] 177 #[ptr e,J now] (bI 0 (lL s E).d) [ae A rs (lL s E).s,dA tv wv A.P rs e (lL s E).E]:=Does.ax fun S w0 w h=>by
 obtain⟨B,W,HB,HW,Sa⟩:=bV h;clear h
 go_enter func177,ntmps177
 go_wp2_with fail
 rw[←HB.out, ←HW.out];have sd:=Sa.out.drew;have re:=sd.row (k:=e) 1 rfl;have pc:=sd.bT 0 rfl;have h0:At W.drew e 0 (ptr A.P)∧At W.drew A.P 3 (ptr A.po)∧At W.drew e 1 (J E.who):=⟨re.cell rfl,pc.po,re.cell rfl⟩
 have Sd2:=zd sd;clear sd re pc Sa;refine aP (by kernel_rfl) ?_;generalize W.drew=V1 at Sd2 h0 ⊢
 refine aY [0,7,11] ?_
 repeat (refine ay _ rfl (by kernel_rfl) (fun _ _ _ h=>h) (fun w'=>by(try simp only[ag,ah,aj]);go_simp;try with_reducible rfl) ?_;try simp only[Act.put,ag,ah,aj,aF,aB,aC])
 refine aH ?_;refine bJ (fun w'=>At w' e 0 (ptr A.P)∧At w' A.P 3 (ptr A.po)∧At w' e 1 (J E.who)) [1,2,3,4,5,6,8,9,10,12,13,14] ?_
 repeat (refine aN _ rfl (by kernel_rfl) (fun _ _ _ h=>h) h0 (fun w' hS=>by(try dsimp only at hS);(try simp only[ag,ah,aj]);go_simp;try with_reducible rfl) ?_;try simp only[Act.put,ag,ah,aj,aF,aB,aC])
 refine bH (by kernel_rfl) ?_;refine af 15 (by kernel_rfl) rfl (by rfl) fun K hK=>?_
 go_simp;refine((uY E.who E.who hwho hl).at0 Sd2.out).mono ?_
 rintro er w3 ⟨rfl,s4⟩
 refine hK _ _ ?_;obtain⟨s5,Hs5,s4⟩:=az (s':=dN s E.who 1 (fP E.who)) s4;have S6:Hid (Scope S w0 w3 [ae A rs s5,aA tv wv A.P e (aV E.st.bz e) (rV rs E.r) E,bK B 0]):=zd s4;clear s4 Sd2 hK K h0
 try simp only[Act.put,ag,ah,aj,aF,aB,aC]
 refine aY [16] ?_
 repeat (refine ay _ rfl (by kernel_rfl) (fun _ _ _ h=>h) (fun w'=>by(try simp only[ag,ah,aj]);go_simp;try with_reducible rfl) ?_;try simp only[Act.put,ag,ah,aj,aF,aB,aC])
 refine aH ?_;refine wpAny_done (by kernel_rfl) ?_ _;obtain⟨bb,hbb⟩:∃ bb,(s.σ.num (fP E.who)==2)=bb:=⟨_,rfl⟩
 cases bb
 ·have hO:lL s E=⟨dN s E.who 1 (fP E.who),{ E with st:=.try' },false⟩:=by unfold lL;rw[hbb];rfl
  have HO:=zd hO;clear hO
  go_wp2_with fail
  refine((bW (P:=A.P) (nx:=(aV E.st.bz e)) (rv:=(rV rs E.r)) (E:=E) 144).fC S6.out).mono ?_
  rintro er w7 ⟨rfl,s8⟩
  have S9:Hid (Scope S w0 w7 [ae A rs s5,aA tv wv A.P e (aV 144 e) (rV rs E.r) { E with st:=.try' },bK B 0]):=zd s8;clear s8 S6;obtain⟨b0,b1,b2,b3,f0,f1,f2,f3,Q4⟩:=aI (c:=0) S9.out
  go_wp2
  refine aQ (d:=false) (by rw[HO.out]) Q4 (fun Vz z0 z1 z2 z3=>by simp[results,results177,go_sem,z0,z1,z2,z3]) rfl fun _ q5=>?_
  rw[HO.out];have hs5:=Hs5.out;subst hs5
  exact q5
 ·have hO:lL s E=⟨dN s E.who 1 (fP E.who),{ E with st:=.result },false⟩:=by unfold lL;rw[hbb];rfl
  have HO:=zd hO;clear hO
  go_wp2_with fail
  refine((bW (P:=A.P) (nx:=(aV E.st.bz e)) (rv:=(rV rs E.r)) (E:=E) 202).fC S6.out).mono ?_
  rintro er w10 ⟨rfl,s11⟩
  have S12:Hid (Scope S w0 w10 [ae A rs s5,aA tv wv A.P e (aV 202 e) (rV rs E.r) { E with st:=.result },bK B 0]):=zd s11;clear s11 S6;obtain⟨b0,b1,b2,b3,f0,f1,f2,f3,Q4⟩:=aI (c:=0) S12.out
  go_wp2
  refine aQ (d:=false) (by rw[HO.out]) Q4 (fun Vz z0 z1 z2 z3=>by simp[results,results177,go_sem,z0,z1,z2,z3]) rfl fun _ q5=>?_
  rw[HO.out];have hs5:=Hs5.out;subst hs5
  exact q5
theorem sH (nx:Value) (h0:0≤E.j) (h1:E.j<1000):Does prog [ae A rs s,aA tv wv A.P e nx (rV rs E.r) E] 203 #[ptr e] (bI 0 false) [ae A rs s,aA tv wv A.P e (aV (fG E A.wk).st.bz e) (rV rs E.r) (fG E A.wk)]:=Does.ax fun S w0 w h=>by
 have hwr:IntKind.i64.wrap (E.j+1)=E.j+1:=by rw[IntKind.wrap_i64];omega
 clear h0 h1;have rr:=h.row (k:=e) 1 rfl;have c7:=rr.cell (j:=7) rfl;have f7:=rr.free 7;have lp:=rr.lt;have hx:Scope S w0 w ([ae A rs s]++([aA tv wv A.P e nx (rV rs E.r) E]++[])):=h
 replace h:Scope S w0 _ [ae A rs s,aA tv wv A.P e nx (rV rs E.r) { E with j:=E.j+1 }]:=Scope.au hx 7 (J (E.j+1))
 clear rr hx;obtain⟨B,W,HB,HW,Sa⟩:=bV h;rw[show(w.setCell ⟨e,7,none⟩ (J (E.j+1))).heap.size=w.heap.size by simp]at HB;clear h
 go_enter func203,ntmps203
 go_wp2_with fail
 rw[←HB.out, ←HW.out];clear c7 f7 lp;have sd:=Sa.out.drew;have re:=sd.row (k:=e) 1 rfl;have pc:=sd.bT 0 rfl;have h0:At W.drew e 7 (J (E.j+1))∧At W.drew e 0 (ptr A.P)∧At W.drew A.P 3 (ptr A.po):=⟨re.cell rfl,re.cell rfl,pc.po⟩
 have Sd2:=zd sd;clear sd re pc Sa;refine aP (by kernel_rfl) ?_;generalize W.drew=V1 at Sd2 h0 ⊢
 refine aY [0,4] ?_
 repeat (refine ay _ rfl (by kernel_rfl) (fun _ _ _ h=>h) (fun w'=>by(try simp only[ag,ah,aj]);go_simp;try with_reducible rfl) ?_;try simp only[Act.put,ag,ah,aj,aF,aB,aC])
 refine aH ?_;refine cu (fun w'=>At w' e 7 (J (E.j+1))∧At w' e 0 (ptr A.P)∧At w' A.P 3 (ptr A.po)) [1,2,3,5,6,7,8,9,10,11] [1,2,3,5,6,7,8,9,10] ?_
 repeat (refine aN _ rfl (by kernel_rfl) (fun _ _ _ h=>h) h0 (fun w' hS=>by(try dsimp only at hS);(try simp only[ag,ah,aj]);go_simp;try with_reducible rfl) ?_;try simp only[Act.put,ag,ah,aj,aF,aB,aC])
 refine bM ?_;refine aK 11 (by kernel_rfl) rfl (by rfl) fun K hK=>?_
 go_simp;refine((xY (s:=s)).at0 Sd2.out).mono ?_
 rintro er w3 ⟨rfl,s4⟩
 have re:=s4.row (k:=e) 1 rfl;have pc:=s4.bT 0 rfl;have h1:At w3 e 7 (J (E.j+1))∧At w3 e 0 (ptr A.P)∧At w3 A.P 3 (ptr A.po):=⟨re.cell rfl,re.cell rfl,pc.po⟩
 refine hK _ _ ⟨fun _=>h1,?_⟩;clear re pc;have S5:Hid (Scope S w0 w3 [ae A rs s,aA tv wv A.P e nx (rV rs E.r) { E with j:=E.j+1 },bK B 0]):=zd s4;clear s4 Sd2 hK K h0
 try simp only[Act.put,ag,ah,aj,aF,aB,aC]
 refine dB [] (bH (by kernel_rfl) ?_);clear h1;refine aY [12] ?_
 repeat (refine ay _ rfl (by kernel_rfl) (fun _ _ _ h=>h) (fun w'=>by(try simp only[ag,ah,aj]);go_simp;try with_reducible rfl) ?_;try simp only[Act.put,ag,ah,aj,aF,aB,aC])
 refine aH ?_;refine wpAny_done (by kernel_rfl) ?_ _;obtain⟨bb,hbb⟩:∃ bb,decide ((A.wk:Int)≤E.j+1)=bb:=⟨_,rfl⟩
 have Hbb:=zd hbb;clear hbb
 cases bb
 ·have hO:fG E A.wk={ E with j:=E.j+1,st:=.state }:=by unfold fG;rw[Hbb.out];rfl
  have HO:=zd hO;clear hO;have hp:=of_decide_eq_false Hbb.out
  go_wp2_with fail
  refine((bW (P:=A.P) (nx:=nx) (rv:=(rV rs E.r)) (E:={ E with j:=E.j+1 }) 178).fC S5.out).mono ?_
  rintro er w6 ⟨rfl,s7⟩
  have S8:Hid (Scope S w0 w6 [ae A rs s,aA tv wv A.P e (aV 178 e) (rV rs E.r) { E with j:=E.j+1,st:=.state },bK B 0]):=zd s7;clear s7 S5;obtain⟨b0,b1,b2,b3,f0,f1,f2,f3,Q4⟩:=aI (c:=0) S8.out
  go_wp2
  refine aQ (d:=false) rfl Q4 (fun Vz z0 z1 z2 z3=>by simp[results,results203,go_sem,z0,z1,z2,z3]) rfl fun _ q5=>?_
  rw[HO.out]
  exact q5
 ·have hO:fG E A.wk={ E with j:=E.j+1,st:=.leave }:=by unfold fG;rw[Hbb.out];rfl
  have HO:=zd hO;clear hO;have hp:=of_decide_eq_true Hbb.out
  go_wp2_with fail
  refine((bW (P:=A.P) (nx:=nx) (rv:=(rV rs E.r)) (E:={ E with j:=E.j+1 }) 220).fC S5.out).mono ?_
  rintro er w9 ⟨rfl,s10⟩
  have S11:Hid (Scope S w0 w9 [ae A rs s,aA tv wv A.P e (aV 220 e) (rV rs E.r) { E with j:=E.j+1,st:=.leave },bK B 0]):=zd s10;clear s10 S5;obtain⟨b0,b1,b2,b3,f0,f1,f2,f3,Q4⟩:=aI (c:=0) S11.out
  go_wp2
  refine aQ (d:=false) rfl Q4 (fun Vz z0 z1 z2 z3=>by simp[results,results203,go_sem,z0,z1,z2,z3]) rfl fun _ q5=>?_
  rw[HO.out]
  exact q5
end
end Go.Proofs.YtjnbbmgbmiggbaaGreatDoor
