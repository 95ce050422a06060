/- Lemmas for TopTries' card: package deq, fourth part; New and Step of the calls; plans' makers. -/
import Derived.Test.YtjnbbmgbmiggbaaGreatDoorZ16
set_option linter.unusedSimpArgs false
set_option linter.unusedVariables false
set_option maxRecDepth 20000
set_option maxHeartbeats 4000000
namespace Go.Proofs.YtjnbbmgbmiggbaaGreatDoor
open Go Go.RowKit Go.Maps Go.Proofs.Tryz
theorem Scope.QX {A:PA} {rs:List Nat} {s:PS} {S:List Nat} {w0 w:World} {e:Nat} {vs:List Value} {t:TypeId} {L:List HA} (h:Scope S w0 w (ae A rs s::Go.Proofs.YtjnbbmgbmiggbaaGreatDoor.box e vs t::L)):A.P≠e:=by
 obtain⟨c,hF,s1⟩:=h.dH
 exact Scope.bne (i:=1) (j:=(eX A rs s c).length+1) (vs:=[ptr A.m,ptr A.ib,ptr A.tb,ptr A.po,ptr A.co,J A.sh,J A.sl,J A.wk,J A.wd,Ju A.un,c.vo,.map (some A.mp),c.vp]) (us:=vs) (t:=76) (r:=t) s1 (by simp) rfl (by rw[List.getElem?_cons_succ,List.getElem?_append_right (by omega)];simp)
def wakes (wd:Nat) (k:Co) (L:List (Int×Ob)):Co:=L.foldl (fun k y=>k.wake wd y.1 y.2) k
theorem IZ (wd:Nat) (k:Co) (L:List (Int×Ob)) (y:Int×Ob):wakes wd k (L++[y])=(wakes wd k L).wake wd y.1 y.2:=by simp[wakes]
theorem Gt {wd:Nat} {k:Co} {L:List (Int×Ob)} {j:Nat} {y:Int×Ob} (h:L[j]? =some y):wakes wd k (L.take (j+1))=(wakes wd k (L.take j)).wake wd y.1 y.2:=by
 rw[List.take_add_one,h]
 exact IZ ..
def QA (L:List (Int×Ob)):Prop:=∀ y∈L,I64 y.1∧I64 y.2.flow∧y.2.r<18446744073709551616
theorem rY.wakes {wd:Nat}:∀ (L:List (Int×Ob)) {k:Co} {m:Nat},rY k m→QA L→rY (wakes wd k L) (m+L.length)
 | [],_,_,h,_=>h
 |y::L,k,m,h,ho=>by
  have h1:=ho y (by simp);have h2:=rY.wakes (wd:=wd) L (h.wake wd (obj:=y.1) (o:=y.2) h1.1 h1.2.1 h1.2.2) (fun z hz=>ho z (by simp[hz]));have e:m+1+L.length=m+(y::L).length:=by simp;omega
  rw[e]at h2
  exact h2
def jl (s:PS) (E:eQ) (wd:Nat):Co:=wakes wd s.k E.woken
def pI (s:PS) (E:eQ) (wd:Nat):PS:={ dN s E.who 6 nD with k:=((jl s E wd).pick wd).1 }
def dpickO (s:PS) (E:eQ) (wd:Nat):DO:=match ((jl s E wd).pick wd).2 with
 |none=>⟨(pI s E wd).note E.now E.j (bD 10),{ E with woken:=[],told:=⟨10,E.told.pk,E.told.n,E.told.v⟩,st:=.end' },false⟩
 |some y=>⟨pI s E wd,{ E with woken:=[],obj:=y.1,n:=(y.2:Int),r:=some y.1.toNat,st:=.shown },false⟩
section
variable {A:PA} {rs:List Nat} {s:PS} {e:Nat} {E:eQ} {r:Nat} {x:mO} {tv wv:Value}
theorem Ii (now:Int) {m:Nat} (hk:rY s.k m) (hm:m+E.woken.length<100000) (hwk:QA E.woken) (hwd:A.wd≤40) (hv:∀ y,((jl s E A.wd).pick A.wd).2=some y→∃ (o:Nat) (r:Nat) (x:mO),y.1=(o:Nat)∧rs[o]? =some r∧s.ob[o]? =some x) (hj:I64 E.j) (hn:s.pt.length<100000) (hl:s.σ.log.length≤1000000):Does prog [ae A rs s,aA tv wv A.P e (aV E.st.bz e) (rV rs E.r) E,bP,rO wv E.woken] 277 #[ptr e,J now] (bI 0 false) [ae A rs (dpickO s E A.wd).s,dA tv (nS) A.P rs e (dpickO s E A.wd).E,bP]:=Does.ax fun S w0 w h=>by
 obtain⟨oa,cp,hwv,hc1,hc2⟩:=(h.front 3 rfl).jh;subst hwv;obtain⟨n,hn0⟩:∃ n,n=E.woken.length:=⟨_,rfl⟩
 rw[show rO (.slice oa E.woken.length cp) E.woken=aU (.slice oa n cp) 293 4 n (recs uU E.woken) by rw[hn0],show(Value.slice oa E.woken.length cp)=.slice oa n cp by rw[hn0]]at h;rw[←hn0]at hm;have Hj:=zd hj;have Hn0:=zd hn0;have Hk:=zd hk;have Hm:=zd hm;have Hwk:=zd hwk;have Hv:=zd hv;clear hn0 hc1 hc2 hk hm hwk hv;obtain⟨B,W,HB,HW,Sa⟩:=lX h;clear h
 go_enter func277,ntmps277
 go_wp2_with fail
 rw[←HB.out, ←HW.out];have sd:=Sa.out.drew;have re:=sd.row (k:=e) 1 rfl;have h0:At W.drew e 0 (ptr A.P)∧At W.drew e 1 (J E.who):=⟨re.cell rfl,re.cell rfl⟩
 have Sd2:=zd sd;clear sd re Sa;refine aP (by kernel_rfl) ?_;generalize W.drew=V1 at Sd2 h0 ⊢
 refine aY [0,4] ?_
 repeat (refine ay _ rfl (by kernel_rfl) (fun _ _ _ h=>h) (fun w'=>by(try simp only[ag,ah,aj]);go_simp;try with_reducible rfl) ?_;try simp only[Act.put,ag,ah,aj,aF,aB,aC])
 refine aH ?_;refine bJ (fun w'=>At w' e 0 (ptr A.P)∧At w' e 1 (J E.who)) [1,2,3,5,6,7] ?_
 repeat (refine aN _ rfl (by kernel_rfl) (fun _ _ _ h=>h) h0 (fun w' hS=>by(try dsimp only at hS);(try simp only[ag,ah,aj]);go_simp;try with_reducible rfl) ?_;try simp only[Act.put,ag,ah,aj,aF,aB,aC])
 refine bH (by kernel_rfl) ?_;refine af 8 (by kernel_rfl) rfl (by rfl) fun K hK=>?_
 go_simp;refine((xZ hl E.who).at0 Sd2.out).mono ?_
 rintro er w3 ⟨rfl,s4⟩
 refine hK _ _ ?_;obtain⟨s5,Hs5,s4⟩:=az (s':=dN s E.who 6 nD) s4;have S6:Hid (Scope S w0 w3 [ae A rs s5,aA tv (.slice oa n cp) A.P e (aV E.st.bz e) (rV rs E.r) E,bP,aU (.slice oa n cp) 293 4 n (recs uU E.woken),bK B 0]):=zd s4;clear s4 Sd2 hK K h0
 try simp only[Act.put,ag,ah,aj,aF,aB,aC]
 refine wpAny_done (by kernel_rfl) ?_ _;have hsk:s5.k=s.k:=by rw[Hs5.out];rfl
 have Hsk:=zd hsk;clear hsk;have c21:=(S6.out.row (k:=e) 1 rfl).cell (j:=21) rfl
 go_wp2_with fail
 clear c21
 go_loopw [25] (fun a wr=>∃ (j:Nat) (k:Co),j≤n∧a=J j∧k=wakes A.wd s.k (E.woken.take j)∧Scope S w0 wr [ae A rs { s5 with k:=k },aA tv (.slice oa n cp) A.P e (aV E.st.bz e) (rV rs E.r) E,bP,aU (.slice oa n cp) 293 4 n (recs uU E.woken),bK B 0]) (fun a _=>n - (intOf a).toNat)
 case atStart=>exact⟨0,s.k,by omega,rfl,rfl,by rw[←Hsk.out];exact S6.out⟩
 case round=>
  obtain⟨j,k,hj,rfl,hkk,hx⟩:=hrel;clear S6
  by_cases hjn:j<n
  ·obtain⟨y,hy⟩:∃ y,E.woken[j]? =some y:=⟨E.woken[j]'(by rw[←Hn0.out];exact hjn),List.getElem?_eq_getElem _⟩
   obtain⟨g,cap,rest,hvs,hx2,hca,hcm,hrl,hxl⟩:=Scope.qj (hx.front 3 rfl) (by omega:0<n);have rg:=hx2.row (k:=g) 0 rfl;have e0:=rg.cell (eH (c:=uU) (n:=4) (fun _=>rfl) hy (j:=0) (by omega) rest);have e1:=rg.cell (eH (c:=uU) (n:=4) (fun _=>rfl) hy (j:=1) (by omega) rest);have e2:=rg.cell (eH (c:=uU) (n:=4) (fun _=>rfl) hy (j:=2) (by omega) rest);have e3:=rg.cell (eH (c:=uU) (n:=4) (fun _=>rfl) hy (j:=3) (by omega) rest);obtain⟨rfl,rfl⟩:oa=some ⟨g,0,none⟩∧cp=cap:=by cases hvs;exact⟨rfl,rfl⟩
   have lg:=rg.lt;have Hx:=zd hx;have Hy:=zd hy;have Hkk:=zd hkk;have Hjn:=zd hjn;have hn5:n<100000:=by have:=Hm.out;omega
   obtain⟨yo,y2⟩:=y;obtain⟨yf,ym,yr⟩:=y2;have e0:At wr g (j*4) (J yo):=e0;have e1:At wr g (j*4+1) (J yf):=e1;have e2:At wr g (j*4+2) (J ym):=e2;have e3:At wr g (j*4+3) (Ju yr):=e3;have s2:=Hx.out.box [J yo,J yf,J ym,Ju (yr:Nat)] 293;obtain⟨G,hG⟩:∃ G,G=wr.heap.size:=⟨_,rfl⟩
   obtain⟨W1,hW1⟩:∃ W1,W1=wr.alloc (.cells #[J yo,J yf,J ym,Ju (yr:Nat)] 293):=⟨_,rfl⟩
   rw[←hG,show wr.alloc (.cells [J yo,J yf,J ym,Ju (yr:Nat)].toArray 293)=W1 from hW1.symm]at s2;have S2:=zd s2.drew;have HG:=zd hG;have HW1:=zd hW1;clear hx hx2 hca hcm hrl hxl rg hvs hy hkk s2 hG hW1
   go_wp2_with fail
   rw[←HG.out, ←HW1.out];clear e0 e1 e2 e3 lg;refine aP (by kernel_rfl) ?_;have sd:=S2.out;generalize W1.drew=V5 at sd ⊢
   have sd:Scope S w0 V5 ([ae A rs { s5 with k:=k },aA tv (.slice (some ⟨g,0,none⟩) n cp) A.P e (aV E.st.bz e) (rV rs E.r) E,bP,aU (.slice (some ⟨g,0,none⟩) n cp) 293 4 n (recs uU E.woken),bK B 0]++[box G [J yo,J yf,J ym,Ju (yr:Nat)] 293]):=sd;have re:=sd.row (k:=e) 1 rfl;have pc:=sd.bT 0 rfl;have rG:=sd.row (k:=G) 5 rfl;have h0:At V5 e 0 (ptr A.P)∧At V5 A.P 4 (ptr A.co)∧At V5 G 0 (J yo)∧At V5 G 1 (J yf)∧At V5 G 2 (J ym)∧At V5 G 3 (Ju (yr:Nat)):=⟨re.cell rfl,pc.co,rG.cell rfl,rG.cell rfl,rG.cell rfl,rG.cell rfl⟩
   have Sd5:=zd sd;clear sd re pc rG S2 Hx;refine aY [0,7,9] ?_
   repeat (refine ay _ rfl (by kernel_rfl) (fun _ _ _ h=>h) (fun w'=>by(try simp only[ag,ah,aj]);go_simp;try with_reducible rfl) ?_;try simp only[Act.put,ag,ah,aj,aF,aB,aC])
   refine aH ?_;refine bJ (fun w'=>At w' e 0 (ptr A.P)∧At w' A.P 4 (ptr A.co)∧At w' G 0 (J yo)∧At w' G 1 (J yf)∧At w' G 2 (J ym)∧At w' G 3 (Ju (yr:Nat))) [1,2,3,4,5,6,8,10] ?_
   repeat (refine aN _ rfl (by kernel_rfl) (fun _ _ _ h=>h) h0 (fun w' hS=>by(try dsimp only at hS);(try simp only[ag,ah,aj]);go_simp;try with_reducible rfl) ?_;try simp only[Act.put,ag,ah,aj,aF,aB,aC])
   refine bH (by kernel_rfl) ?_;refine af 11 (by kernel_rfl) rfl (by rfl) fun K hK=>?_
   go_simp;have hyo:=Hwk.out _ (List.mem_of_getElem? Hy.out);have hjl:j≤E.woken.length:=by have:=Hjn.out;rw[←Hn0.out];omega
   have hkj:rY k (m+j):=by rw[Hkk.out];have h1:=Hk.out.wakes (wd:=A.wd) (E.woken.take j) (fun z hz=>Hwk.out z (List.mem_of_mem_take hz));rw[List.length_take,Nat.min_eq_left hjl]at h1;exact h1
   refine((Ep (s:={ s5 with k:=k }) yo ⟨yf,ym,yr⟩ hyo.1 hyo.2.1 hyo.2.2 hkj (by have:=Hm.out;have:=Hjn.out;omega) hwd).UF Sd5.out).mono ?_
   rintro er w6 ⟨rfl,s6⟩
   refine hK _ _ ?_;have S6:Hid (Scope S w0 w6 ([ae A rs { s5 with k:=k.wake A.wd yo ⟨yf,ym,yr⟩ },aA tv (.slice (some ⟨g,0,none⟩) n cp) A.P e (aV E.st.bz e) (rV rs E.r) E,bP,aU (.slice (some ⟨g,0,none⟩) n cp) 293 4 n (recs uU E.woken),bK B 0]++[box G [J yo,J yf,J ym,Ju (yr:Nat)] 293])):=zd s6;clear hK K h0 s6 Sd5 hyo hkj hjl
   try simp only[Act.put,ag,ah,aj,aF,aB,aC]
   refine wpAny_done (by kernel_rfl) ?_ _
   go_wp2
   go_roundw
   case rel=>exact⟨j+1,k.wake A.wd yo ⟨yf,ym,yr⟩,(by have:=Hjn.out;omega),by go_num,by rw[Gt Hy.out, ←Hkk.out],Scope.drop (Bs:=[box G [J yo,J yf,J ym,Ju (yr:Nat)] 293]) S6.out⟩
   case measure=>have:=Hjn.out;simp[intOf];omega
  ·obtain rfl:n=j:=by omega
   have hkf:k=jl s E A.wd:=by rw[hkk,Hn0.out,List.take_length];rfl
   have Hkf:=zd hkf;obtain⟨sk,hsk2⟩:∃ sk:PS,sk={ s5 with k:=k }:=⟨_,rfl⟩
   have hx:Scope S w0 wr [ae A rs { s5 with k:=k },aA tv (.slice oa n cp) A.P e (aV E.st.bz e) (rV rs E.r) E,bP,aU (.slice oa n cp) 293 4 n (recs uU E.woken),bK B 0]:=hx;rw[←hsk2]at hx;have Hsk2:=zd hsk2;have S7:=zd (Scope.drop (As:=[ae A rs sk,aA tv (.slice oa n cp) A.P e (aV E.st.bz e) (rV rs E.r) E,bP,bK B 0]) (Bs:=[aU (.slice oa n cp) 293 4 n (recs uU E.woken)]) (hx.perm (List.Perm.cons _ (List.Perm.cons _ (List.Perm.cons _ (List.Perm.swap _ _ _))))));clear hx hkk hjn hkf hsk2;have hne:=S7.out.QX;have cP:=(S7.out.bT 0 rfl).co;have rr:=S7.out.row (k:=e) 1 rfl;have c0:=rr.cell (j:=0) rfl;have c21:=rr.cell (j:=21) rfl;have f21:=rr.free 21;have q7:Scope S w0 wr ([ae A rs sk]++([aA tv (.slice oa n cp) A.P e (aV E.st.bz e) (rV rs E.r) E]++[bP,bK B 0])):=S7.out;have q8:=Scope.au q7 21 (nS);have Q9:=zd q8;clear rr q7 q8 S7
   go_wp2_with fail
   clear c0 c21 f21;obtain⟨V10,hV10⟩:∃ V10,V10=wr.setCell ⟨e,21,none⟩ (nS):=⟨_,rfl⟩
   have q11:=Q9.out;rw[←hV10]at q11 ⊢
   have S12:Hid (Scope S w0 V10 [ae A rs sk,aA tv (nS) A.P e (aV E.st.bz e) (rV rs E.r) E,bP,bK B 0]):=zd q11;clear q11 hV10 Q9;clear hne cP;have hkk2:sk.k=jl s E A.wd:=by rw[Hsk2.out];exact Hkf.out
   have hko:rY sk.k (m+n):=by rw[hkk2];have h1:=Hk.out.wakes (wd:=A.wd) E.woken Hwk.out;rw[←Hn0.out]at h1;exact h1
   have Hkk2:=zd hkk2;refine(((D6 (s:=sk) hko (by have:=Hm.out;omega) hwd).UF S12.out)).mono ?_
   rintro er w13 ⟨rfl,s14⟩
   obtain⟨s15,Hs15,s14⟩:=az (s':={ sk with k:=(sk.k.pick A.wd).1 }) s14;have S16:Hid (Scope S w0 w13 [ae A rs s15,aA tv (nS) A.P e (aV E.st.bz e) (rV rs E.r) E,bP,bK B 0]):=zd s14;clear s14 S12;obtain⟨pr,hpr⟩:∃ pr,(sk.k.pick A.wd).2=pr:=⟨_,rfl⟩
   rw[hpr];rw[Hkk2.out]at hpr;have Hpr:=zd hpr;clear hpr hko hkk2;have hsp:s15=pI s E A.wd:=by rw[Hs15.out,Hkk2.out,Hsk2.out,Hs5.out];rfl
   have Hsp:=zd hsp;clear hsp
   cases pr with
   |none=>
    have hO:dpickO s E A.wd=⟨(pI s E A.wd).note E.now E.j (bD 10),{ E with woken:=[],told:=⟨10,E.told.pk,E.told.n,E.told.v⟩,st:=.end' },false⟩:=by unfold dpickO;rw[Hpr.out]
    have HO:=zd hO;clear hO;rw[show KG none=.tuple #[J 0,Ju 0,.bool false]from rfl];have rr:=S16.out.row (k:=e) 1 rfl;have c13:=rr.cell (j:=13) rfl;have c22:=rr.cell (j:=22) rfl;have f13:=rr.free 13;have q17:Scope S w0 w13 ([ae A rs s15]++([aA tv (nS) A.P e (aV E.st.bz e) (rV rs E.r) E]++[bP,bK B 0])):=S16.out;have q18:=Scope.au q17 13 (J 10);have Q19:=zd q18;clear rr q17 q18 S16
    go_wp2_with fail
    clear c13 c22 f13;obtain⟨V20,hV20⟩:∃ V20,V20=w13.setCell ⟨e,13,none⟩ (J 10):=⟨_,rfl⟩
    have q21:=Q19.out;rw[←hV20]at q21 ⊢
    have S22:Hid (Scope S w0 V20 [ae A rs s15,aA tv (nS) A.P e (aV E.st.bz e) (rV rs E.r) { E with told.e:=10 },bP,bK B 0]):=zd q21;clear q21 hV20 Q19;refine(oz (s:=s15) (E:={ E with told.e:=10 }) E.now (bD 10) none 0 Hj.out (by rw[Hsp.out];exact hn) S22.out (fun _ _=>.inl ⟨rfl,rfl⟩) (by unfold lJ;simp)).mono ?_
    rintro er w23 ⟨rfl,s24⟩
    obtain⟨s25,Hs25,s24⟩:=az (s':=(s15).note E.now E.j (bD 10)) s24;have S26:Hid (Scope S w0 w23 [ae A rs s25,aA tv (nS) A.P e (aV E.st.bz e) (rV rs E.r) { E with told.e:=10 },bP,bK B 0]):=zd s24;clear s24 S22
    go_wp2_with fail
    refine((bW (P:=A.P) (nx:=(aV E.st.bz e)) (rv:=(rV rs E.r)) (E:={ E with told.e:=10 }) 283).fC S26.out).mono ?_
    rintro er w27 ⟨rfl,s28⟩
    have S29:Hid (Scope S w0 w27 [ae A rs s25,aA tv (nS) A.P e (aV 283 e) (rV rs E.r) { E with told.e:=10,st:=.end' },bP,bK B 0]):=zd s28;clear s28 S26;obtain⟨b0,b1,b2,b3,f0,f1,f2,f3,Q4⟩:=iK (Xs:=[ae A rs s25,aA tv (nS) A.P e (aV 283 e) (rV rs E.r) { E with told.e:=10,st:=.end' },bP]) (c:=0) (sv:=nS) (n:=0) (v:=0) S29.out
    go_wp2
    refine kz (Xs:=[ae A rs s25,aA tv (nS) A.P e (aV 283 e) (rV rs E.r) { E with told.e:=10,st:=.end' },bP]) (d:=false) rfl Q4 (fun Vz z0 z1 z2 z3=>by simp[results,results277,go_sem,z0,z1,z2,z3]) rfl fun _ q5=>?_
    rw[HO.out];have hs25:=Hs25.out;subst hs25;rw[Hsp.out]at q5
    exact q5
   |some y=>
    obtain⟨yo,yn⟩:=y;obtain⟨o,r,x,hyo,hr,ho⟩:=Hv.out _ Hpr.out;have hyo2:yo=((o:Nat):Int):=hyo;clear hyo;subst hyo2;have hO:dpickO s E A.wd=⟨pI s E A.wd,{ E with woken:=[],obj:=((o:Nat):Int),n:=(yn:Int),r:=some o,st:=.shown },false⟩:=by unfold dpickO;rw[Hpr.out];simp
    have HO:=zd hO;clear hO;have hrv:rV rs (some o)=ptr r:=by simp[rV,List.getD,hr]
    have Hrv:=zd hrv;clear hrv;rw[show KG (some (((o:Nat):Int),yn))=.tuple #[J ((o:Nat):Int),Ju (yn:Nat),.bool true]from rfl];have rr:=S16.out.row (k:=e) 1 rfl;have c0:=rr.cell (j:=0) rfl;clear rr
    go_wp2_with fail
    clear c0;refine((sS (s:=s15) hr (by rw[Hsp.out];exact ho)).at0 S16.out).mono ?_
    rintro er w30 ⟨rfl,s31⟩
    have S32:Hid (Scope S w0 w30 [ae A rs s15,aA tv (nS) A.P e (aV E.st.bz e) (rV rs E.r) E,bP,bK B 0]):=zd s31;clear s31 S16;have rr:=S32.out.row (k:=e) 1 rfl;have c19:=rr.cell (j:=19) rfl;have c23:=rr.cell (j:=23) rfl;have c24:=rr.cell (j:=24) rfl;have f19:=rr.free 19;have f23:=rr.free 23;have f24:=rr.free 24;have q33:Scope S w0 w30 ([ae A rs s15]++([aA tv (nS) A.P e (aV E.st.bz e) (rV rs E.r) E]++[bP,bK B 0])):=S32.out;have q34:=Scope.au q33 19 (J (((o:Nat):Int)));have q35:=Scope.au q34 24 (Ju ((yn:Int)));have q36:=Scope.au q35 23 ((ptr r));have Q37:=zd q36;clear rr q33 q34 q35 q36 S32
    go_wp2_with fail
    clear c19 c23 c24 f19 f23 f24;obtain⟨V38,hV38⟩:∃ V38,V38=((w30.setCell ⟨e,19,none⟩ (J (((o:Nat):Int)))).setCell ⟨e,24,none⟩ (Ju ((yn:Int)))).setCell ⟨e,23,none⟩ ((ptr r)):=⟨_,rfl⟩
    have q39:=Q37.out;rw[←hV38]at q39 ⊢
    have S40:Hid (Scope S w0 V38 [ae A rs s15,aA tv (nS) A.P e (aV E.st.bz e) (ptr r) { E with obj:=((o:Nat):Int),n:=(yn:Int),r:=some o },bP,bK B 0]):=zd q39;clear q39 hV38 Q37;refine((bW (P:=A.P) (nx:=(aV E.st.bz e)) (rv:=(ptr r)) (E:={ E with obj:=((o:Nat):Int),n:=(yn:Int),r:=some o }) 284).fC S40.out).mono ?_
    rintro er w41 ⟨rfl,s42⟩
    have S43:Hid (Scope S w0 w41 [ae A rs s15,aA tv (nS) A.P e (aV 284 e) (ptr r) { E with obj:=((o:Nat):Int),n:=(yn:Int),r:=some o,st:=.shown },bP,bK B 0]):=zd s42;clear s42 S40;obtain⟨b0,b1,b2,b3,f0,f1,f2,f3,Q4⟩:=iK (Xs:=[ae A rs s15,aA tv (nS) A.P e (aV 284 e) (ptr r) { E with obj:=((o:Nat):Int),n:=(yn:Int),r:=some o,st:=.shown },bP]) (c:=0) (sv:=nS) (n:=0) (v:=0) S43.out
    go_wp2
    refine kz (Xs:=[ae A rs s15,aA tv (nS) A.P e (aV 284 e) (ptr r) { E with obj:=((o:Nat):Int),n:=(yn:Int),r:=some o,st:=.shown },bP]) (d:=false) rfl Q4 (fun Vz z0 z1 z2 z3=>by simp[results,results277,go_sem,z0,z1,z2,z3]) rfl fun _ q5=>?_
    rw[HO.out];rw[Hsp.out]at q5;rw[←Hrv.out]at q5
    exact q5
end
def jQ.new (who:Int) (c:Cl) (sh:Int):jQ:=⟨who,c,sh,.first,0,0,false,none,0,0,0,0⟩
def jo.new (who:Int) (c:Cl) (sh:Int):jo:=⟨who,c,sh,cond (c.op==1) .come .leave,0, -1,0,0,none,0,0,0,0⟩
def eQ.new (who:Int) (c:Cl):eQ:=⟨who,c,.write,0,⟨0,0,0,0⟩,0,⟨0,[],0,0⟩,0,0,0,0,[],0,none,0,⟨0,0,0⟩,0,false⟩
theorem qZ {S:List Nat} {w0 w:World} {X Y Z:HA} {Bs:List HA} (h:Scope S w0 w ((X::(Bs++[Y]))++[Z])):Scope S w0 w (X::Z::Bs):=by
 refine Scope.drop (As:=X::Z::Bs) (Bs:=[Y]) (h.perm ?_)
 show(X::((Bs++[Y])++[Z])).Perm (X::Z::(Bs++[Y]))
 exact List.Perm.cons _ (List.perm_append_comm (l₂:=[Z]))
section
variable {A:PA} {rs:List Nat} {s:PS} {S:List Nat} {w0 w:World} {Bs:List HA} {c:Cl}
theorem MV (who:Int) (h1:1≤A.sh) (h4:A.sh≤4) (h:Scope S w0 w (ae A rs s::Bs)):Calls prog 49 #[ptr A.P,J who,c.val] w fun e' w'=>∃ e,e'=.returned (ptr e)∧Scope S w0 w' (ae A rs s::mg A.P rs e (jQ.new who c (c.flow % (A.sh:Int)))::Bs):=by
 obtain⟨B,hB⟩:∃ B,B=w.heap.size:=⟨_,rfl⟩
 obtain⟨W,hW⟩:∃ W,W=w.alloc (.cells #[J c.op,J c.flow,J c.a,J c.b] 49):=⟨_,rfl⟩
 have s1:Scope S w0 (w.alloc (.cells ([J c.op,J c.flow,J c.a,J c.b]:List Value).toArray 49)) (ae A rs s::(Bs++[box w.heap.size [J c.op,J c.flow,J c.a,J c.b] 49])):=h.box [J c.op,J c.flow,J c.a,J c.b] 49;rw[←hB,show w.alloc (.cells ([J c.op,J c.flow,J c.a,J c.b]:List Value).toArray 49)=W from hW.symm]at s1;have Sa:=zd s1;have HB:=zd hB;have HW:=zd hW;clear h s1 hB hW
 go_enter func49,ntmps49
 go_wp2_with fail
 rw[←HB.out, ←HW.out];refine aP (by kernel_rfl) ?_;have sd:Scope S w0 W.drew (ae A rs s::(Bs++[box B [J c.op,J c.flow,J c.a,J c.b] 49])):=Sa.out.drew;generalize W.drew=V at sd ⊢
 have facts:∀ w',Scope S w0 w' (ae A rs s::(Bs++[box B [J c.op,J c.flow,J c.a,J c.b] 49]))→At w' A.P 2 (ptr A.tb)∧At w' B 0 (J c.op)∧At w' B 1 (J c.flow)∧At w' B 2 (J c.a)∧At w' B 3 (J c.b):=fun w' sd=>by
  have pc:=sd.bT 0 rfl;have rb:=sd.row (k:=B) (vs:=[J c.op,J c.flow,J c.a,J c.b]) (t:=49) (Bs.length+1) (by simp)
  exact⟨pc.tb,rb.cell rfl,rb.cell rfl,rb.cell rfl,rb.cell rfl⟩
 have h0:=facts V sd;have Sd:=zd sd;have Facts:=zd facts;clear sd facts Sa;refine aY [0,1,3,7] ?_
 repeat (refine ay _ rfl (by kernel_rfl) (fun _ _ _ h=>h) (fun w'=>by(try simp only[ag,ah,aj]);go_simp;try with_reducible rfl) ?_;try simp only[Act.put,ag,ah,aj,aF,aB,aC])
 refine aH ?_;refine cu (fun w'=>At w' A.P 2 (ptr A.tb)∧At w' B 0 (J c.op)∧At w' B 1 (J c.flow)∧At w' B 2 (J c.a)∧At w' B 3 (J c.b)) [2,4,5,6,8,9] [2,4,5,6,8] ?_
 repeat (refine aN _ rfl (by kernel_rfl) (fun _ _ _ h=>h) h0 (fun w' hS=>by(try dsimp only at hS);(try simp only[ag,ah,aj]);go_simp;try with_reducible rfl) ?_;try simp only[Act.put,ag,ah,aj,aF,aB,aC])
 refine bM ?_;refine aK 9 (by kernel_rfl) rfl (by rfl) fun K hK=>?_
 go_simp;refine((uP c.flow h1 h4).at0 Sd.out).mono ?_
 rintro er w1 ⟨rfl,s2⟩
 have h5:=Facts.out w1 s2;refine hK _ _ ⟨fun _=>h5,?_⟩;obtain⟨q,hq⟩:∃ q,c.flow % (A.sh:Int)=q:=⟨_,rfl⟩
 rw[hq];have S2:=zd s2;have Hq:=zd hq;clear hK K h0 h5 s2 Sd Facts hq
 try simp only[Act.put,ag,ah,aj,aF,aB,aC]
 refine dB [] (bH (by kernel_rfl) ?_);refine aY [10] ?_
 repeat (refine ay _ rfl (by kernel_rfl) (fun _ _ _ h=>h) (fun w'=>by(try simp only[ag,ah,aj]);go_simp;try with_reducible rfl) ?_;try simp only[Act.put,ag,ah,aj,aF,aB,aC])
 refine aH ?_;refine af 11 (by kernel_rfl) rfl (by rfl) fun K hK=>?_
 go_simp;refine hK _ _ ?_;clear hK K
 try simp only[Act.put,ag,ah,aj,aF,aB,aC]
 refine aY [12] ?_
 repeat (refine ay _ rfl (by kernel_rfl) (fun _ _ _ h=>h) (fun w'=>by(try simp only[ag,ah,aj]);go_simp;try with_reducible rfl) ?_;try simp only[Act.put,ag,ah,aj,aF,aB,aC])
 refine aH ?_;refine wpAny_done (by kernel_rfl) ?_ _
 go_wp2
 go_ret
 have s3:=qZ (S2.out.box [ptr A.P,J who,J c.op,J c.flow,J c.a,J c.b,J q,.func (.func 68) #[ptr w1.heap.size] #[],J 0,J 0,.bool false,.pointer none,Ju 0,Ju 0,J 0,Ju 0] 168);refine⟨w1.heap.size,rfl,?_⟩;rw[Hq.out]
 exact s3
theorem AP (who:Int) (h1:1≤A.sh) (h4:A.sh≤4) (h:Scope S w0 w (ae A rs s::Bs)):Calls prog 51 #[ptr A.P,J who,c.val] w fun e' w'=>∃ e,e'=.returned (ptr e)∧Scope S w0 w' (ae A rs s::rW A.P rs e (jo.new who c (c.flow % (A.sh:Int)))::Bs):=by
 obtain⟨B,hB⟩:∃ B,B=w.heap.size:=⟨_,rfl⟩
 obtain⟨W,hW⟩:∃ W,W=w.alloc (.cells #[J c.op,J c.flow,J c.a,J c.b] 49):=⟨_,rfl⟩
 have s1:Scope S w0 (w.alloc (.cells ([J c.op,J c.flow,J c.a,J c.b]:List Value).toArray 49)) (ae A rs s::(Bs++[box w.heap.size [J c.op,J c.flow,J c.a,J c.b] 49])):=h.box [J c.op,J c.flow,J c.a,J c.b] 49;rw[←hB,show w.alloc (.cells ([J c.op,J c.flow,J c.a,J c.b]:List Value).toArray 49)=W from hW.symm]at s1;have Sa:=zd s1;have HB:=zd hB;have HW:=zd hW;clear h s1 hB hW
 go_enter func51,ntmps51
 go_wp2_with fail
 rw[←HB.out, ←HW.out];refine aP (by kernel_rfl) ?_;have sd:Scope S w0 W.drew (ae A rs s::(Bs++[box B [J c.op,J c.flow,J c.a,J c.b] 49])):=Sa.out.drew;generalize W.drew=V at sd ⊢
 have facts:∀ w',Scope S w0 w' (ae A rs s::(Bs++[box B [J c.op,J c.flow,J c.a,J c.b] 49]))→At w' A.P 2 (ptr A.tb)∧At w' B 0 (J c.op)∧At w' B 1 (J c.flow)∧At w' B 2 (J c.a)∧At w' B 3 (J c.b):=fun w' sd=>by
  have pc:=sd.bT 0 rfl;have rb:=sd.row (k:=B) (vs:=[J c.op,J c.flow,J c.a,J c.b]) (t:=49) (Bs.length+1) (by simp)
  exact⟨pc.tb,rb.cell rfl,rb.cell rfl,rb.cell rfl,rb.cell rfl⟩
 have h0:=facts V sd;have Sd:=zd sd;have Facts:=zd facts;clear sd facts Sa;refine aY [0,1,3,7] ?_
 repeat (refine ay _ rfl (by kernel_rfl) (fun _ _ _ h=>h) (fun w'=>by(try simp only[ag,ah,aj]);go_simp;try with_reducible rfl) ?_;try simp only[Act.put,ag,ah,aj,aF,aB,aC])
 refine aH ?_;refine cu (fun w'=>At w' A.P 2 (ptr A.tb)∧At w' B 0 (J c.op)∧At w' B 1 (J c.flow)∧At w' B 2 (J c.a)∧At w' B 3 (J c.b)) [2,4,5,6,8,9] [2,4,5,6,8] ?_
 repeat (refine aN _ rfl (by kernel_rfl) (fun _ _ _ h=>h) h0 (fun w' hS=>by(try dsimp only at hS);(try simp only[ag,ah,aj]);go_simp;try with_reducible rfl) ?_;try simp only[Act.put,ag,ah,aj,aF,aB,aC])
 refine bM ?_;refine aK 9 (by kernel_rfl) rfl (by rfl) fun K hK=>?_
 go_simp;refine((uP c.flow h1 h4).at0 Sd.out).mono ?_
 rintro er w1 ⟨rfl,s2⟩
 have h5:=Facts.out w1 s2;refine hK _ _ ⟨fun _=>h5,?_⟩;obtain⟨q,hq⟩:∃ q,c.flow % (A.sh:Int)=q:=⟨_,rfl⟩
 rw[hq];have S2:=zd s2;have Hq:=zd hq;clear hK K h0 h5 s2 Sd Facts hq
 try simp only[Act.put,ag,ah,aj,aF,aB,aC]
 refine dB [] (bH (by kernel_rfl) ?_);refine aY [10] ?_
 repeat (refine ay _ rfl (by kernel_rfl) (fun _ _ _ h=>h) (fun w'=>by(try simp only[ag,ah,aj]);go_simp;try with_reducible rfl) ?_;try simp only[Act.put,ag,ah,aj,aF,aB,aC])
 refine aH ?_;refine af 11 (by kernel_rfl) rfl (by rfl) fun K hK=>?_
 go_simp;refine hK _ _ ?_;clear hK K
 try simp only[Act.put,ag,ah,aj,aF,aB,aC]
 refine aY [12] ?_
 repeat (refine ay _ rfl (by kernel_rfl) (fun _ _ _ h=>h) (fun w'=>by(try simp only[ag,ah,aj]);go_simp;try with_reducible rfl) ?_;try simp only[Act.put,ag,ah,aj,aF,aB,aC])
 refine aH ?_;refine wpAny_done (by kernel_rfl) ?_ _;have rb:=S2.out.row (k:=B) (vs:=[J c.op,J c.flow,J c.a,J c.b]) (t:=49) (Bs.length+1) (by simp);have k0:=rb.cell (j:=0) rfl;have lb:=rb.lt;clear rb;obtain⟨b1,hb1⟩:∃ b1,(c.op==1)=b1:=⟨_,rfl⟩
 have Hb1:=zd hb1
 cases b1
 ·go_wp2
  go_ret
  have s3:=qZ (S2.out.box [ptr A.P,J who,J c.op,J c.flow,J c.a,J c.b,J q,.func (.func 69) #[ptr w1.heap.size] #[],J 0,J (-1),J 0,J 0,.pointer none,Ju 0,Ju 0,J 0,J 0] 171);refine⟨w1.heap.size,rfl,?_⟩;rw[Hq.out,show jo.new who c q=⟨who,c,q,.leave,0, -1,0,0,none,0,0,0,0⟩ by unfold jo.new;rw[Hb1.out];rfl]
  exact s3
 ·go_wp2
  go_ret
  have s3:=qZ (S2.out.box [ptr A.P,J who,J c.op,J c.flow,J c.a,J c.b,J q,.func (.func 70) #[ptr w1.heap.size] #[],J 0,J (-1),J 0,J 0,.pointer none,Ju 0,Ju 0,J 0,J 0] 171);refine⟨w1.heap.size,rfl,?_⟩;rw[Hq.out,show jo.new who c q=⟨who,c,q,.come,0, -1,0,0,none,0,0,0,0⟩ by unfold jo.new;rw[Hb1.out];rfl]
  exact s3
theorem LM (who:Int) (h:Scope S w0 w (ae A rs s::Bs)):Calls prog 53 #[ptr A.P,J who,c.val] w fun e' w'=>∃ e,e'=.returned (ptr e)∧Scope S w0 w' (ae A rs s::dA (nS) (nS) A.P rs e (eQ.new who c)::Bs):=by
 obtain⟨B,hB⟩:∃ B,B=w.heap.size:=⟨_,rfl⟩
 obtain⟨W,hW⟩:∃ W,W=w.alloc (.cells #[J c.op,J c.flow,J c.a,J c.b] 49):=⟨_,rfl⟩
 have s1:Scope S w0 (w.alloc (.cells ([J c.op,J c.flow,J c.a,J c.b]:List Value).toArray 49)) (ae A rs s::(Bs++[box w.heap.size [J c.op,J c.flow,J c.a,J c.b] 49])):=h.box [J c.op,J c.flow,J c.a,J c.b] 49;rw[←hB,show w.alloc (.cells ([J c.op,J c.flow,J c.a,J c.b]:List Value).toArray 49)=W from hW.symm]at s1;have Sa:=zd s1;have HB:=zd hB;have HW:=zd hW;have rb:=s1.row (k:=B) (vs:=[J c.op,J c.flow,J c.a,J c.b]) (t:=49) (Bs.length+1) (by simp);obtain⟨k0,k1,k2,k3⟩:=rb.c4;clear h s1 hB hW rb;have S2:=Sa
 go_enter func53,ntmps53
 go_wp2
 go_ret
 have s3:=qZ (S2.out.box [ptr A.P,J who,J c.op,J c.flow,J c.a,J c.b,.func (.func 71) #[ptr (w.heap.size+1)] #[],J 0,J 0,J 0,J 0,J 0,J 0,J 0,nS,J 0,Ju 0,Ju 0,J 0,J 0,Ju 0,nS,J 0,.pointer none,Ju 0,J 0,J 0,J 0,Ju 0,.bool false] 175);rw[HW.out,show(w.alloc (.cells #[J c.op,J c.flow,J c.a,J c.b] 49)).heap.size=w.heap.size+1 by simp]at s3;refine⟨w.heap.size+1,rfl,?_⟩
 exact s3
end
section
variable {A:PA} {rs:List Nat} {s:PS} {e:Nat} {tv wv:Value} {Ds As':List HA}
theorem G5 {E:jQ} (now:Int) {c:Int} {dd:Bool} (d:Does prog (ae A rs s::mg A.P rs e E::Ds) E.st.bz #[ptr e,J now] (bI c dd) As'):Does prog (ae A rs s::mg A.P rs e E::Ds) 50 #[ptr e,J now] (bI c dd) As':=Does.ax fun S w0 w h=>by
 obtain⟨B,W,HB,HW,Sa⟩:=lX h;have c7:At w e 7 (.func (.func E.st.bz) #[ptr e] #[]):=(h.row (k:=e) 1 rfl).cell (j:=7) rfl;have lp:=(h.row (k:=e) 1 rfl).lt;have hf:=E.st.enters;clear h
 go_enter func50,ntmps50
 go_wp2_with fail
 rw[←HB.out, ←HW.out];clear lp c7;refine(d.call (Bs:=[bK B 0]) Sa.out).mono ?_
 rintro er w1 ⟨rfl,s2⟩
 obtain⟨b0,b1,b2,b3,f0,f1,f2,f3,Q4⟩:=iK (Xs:=As') (c:=c) (sv:=nS) (n:=0) (v:=0) s2;clear s2
 go_wp2
 exact kz (Xs:=As') (d:=dd) rfl Q4 (fun Vz z0 z1 z2 z3=>by simp[results,results50,go_sem,z0,z1,z2,z3]) rfl fun _ q5=>q5
theorem zo {E:jo} (now:Int) {c:Int} {dd:Bool} (d:Does prog (ae A rs s::rW A.P rs e E::Ds) E.st.bz #[ptr e,J now] (bI c dd) As'):Does prog (ae A rs s::rW A.P rs e E::Ds) 52 #[ptr e,J now] (bI c dd) As':=Does.ax fun S w0 w h=>by
 obtain⟨B,W,HB,HW,Sa⟩:=lX h;have c7:At w e 7 (.func (.func E.st.bz) #[ptr e] #[]):=(h.row (k:=e) 1 rfl).cell (j:=7) rfl;have lp:=(h.row (k:=e) 1 rfl).lt;have hf:=E.st.enters;clear h
 go_enter func52,ntmps52
 go_wp2_with fail
 rw[←HB.out, ←HW.out];clear lp c7;refine(d.call (Bs:=[bK B 0]) Sa.out).mono ?_
 rintro er w1 ⟨rfl,s2⟩
 obtain⟨b0,b1,b2,b3,f0,f1,f2,f3,Q4⟩:=iK (Xs:=As') (c:=c) (sv:=nS) (n:=0) (v:=0) s2;clear s2
 go_wp2
 exact kz (Xs:=As') (d:=dd) rfl Q4 (fun Vz z0 z1 z2 z3=>by simp[results,results52,go_sem,z0,z1,z2,z3]) rfl fun _ q5=>q5
theorem Bl {E:eQ} (hst:E.st=.result) (now:Int) (hwho:I64 E.who) (hl:s.σ.log.length≤1000000) {S:List Nat} {w0 w:World} {Bs:List HA} (h:Scope S w0 w (ae A rs s::dA tv wv A.P rs e E::Bs)):
  Calls prog 54 #[ptr e,J now] w fun e' w'=>∃ oa c,e'=.returned (.tuple #[(kF s E).val (.slice oa (kF s E).pk.length c),.bool true])∧Scope S w0 w' (ae A rs (qY s E)::fO (.slice oa (kF s E).pk.length c) (kF s E).pk::dA tv wv A.P rs e E::Bs):=by
 obtain⟨B,W,HB,HW,Sa⟩:=lX h;have c7:At w e 6 (.func (.func E.st.bz) #[ptr e] #[]):=(h.row (k:=e) 1 rfl).cell (j:=6) rfl;have lp:=(h.row (k:=e) 1 rfl).lt;have hf:=E.st.enters;rw[hst]at c7 hf;have c7:At w e 6 (.func (.func 202) #[ptr e] #[]):=c7;have hf:∀ args w,Sem.run prog (callFunc 202 args) w=.ok (.enter 202 args) w:=hf;clear h
 go_enter func54,ntmps54
 go_wp2_with fail
 rw[←HB.out, ←HW.out];clear lp c7;refine(zV (E:=E) now hwho hl (Bs:=Bs++[bK B 0]) Sa.out).mono ?_
 rintro er w1 ⟨oa,c,rfl,s2⟩
 obtain⟨R,hR⟩:∃ R,kF s E=R:=⟨_,rfl⟩
 rw[hR]at s2 ⊢
 have HR:=zd hR;obtain⟨n,hn⟩:∃ n,R.pk.length=n:=⟨_,rfl⟩
 have Hn:=zd hn;rw[show(R.val (.slice oa R.pk.length c))=.agg #[J R.e,.slice oa n c,J R.n,Ju R.v] by rw[hn]];clear hn hR;obtain⟨b0,b1,b2,b3,f0,f1,f2,f3,Q4⟩:=iK (Xs:=ae A rs (qY s E)::fO (.slice oa R.pk.length c) R.pk::dA tv wv A.P rs e E::Bs) (c:=R.e) (sv:=.slice oa n c) (n:=R.n) (v:=R.v) s2;clear s2
 go_wp2
 obtain⟨V4,hV4⟩:∃ V4,V4=(((w1.setCell ⟨B,0,none⟩ (J R.e)).setCell ⟨B,1,none⟩ (.slice oa n c)).setCell ⟨B,2,none⟩ (J R.n)).setCell ⟨B,3,none⟩ (Ju R.v):=⟨_,rfl⟩
 have q4:=Q4.out;rw[←hV4]at q4 ⊢
 have rb:=q4.row (k:=B) (vs:=[J R.e,.slice oa n c,J R.n,Ju R.v]) (t:=60) (Bs.length+3) (by simp);obtain⟨z0,z1,z2,z3⟩:=rb.c4;refine bodyPost_ret (v:=.tuple #[.agg #[J R.e,.slice oa n c,J R.n,Ju R.v],.bool true]) (by simp[results,results54,go_sem,z0,z1,z2,z3]) rfl ⟨oa,c,by rw[HR.out,Hn.out],?_⟩;rw[HR.out]
 exact Scope.drop (As:=ae A rs (qY s E)::fO (.slice oa R.pk.length c) R.pk::dA tv wv A.P rs e E::Bs) q4
end
structure Aq (A:PA):Prop where
 sh1:1≤A.sh
 sh4:A.sh≤4
 sl1:1≤A.sl
 sl4:A.sl≤4
 wk1:1≤A.wk
 wk6:A.wk≤6
 wd:A.wd≤40
 un1:1≤A.un
 un2:A.un≤4611686018427387904
def sU (s:PS) (o:Int):Prop:=0≤o∧o<s.ob.length
structure jd (s:PS) (N:Nat):Prop where
 u:∀ l,dC (s.σ.num l)
 log:s.σ.log.length≤4*N
 pt:s.pt.length≤2*N
 ob:s.ob.length≤N
 cs:∀ x∈s.ob,0<x.cs.length∧x.cs.length≤8∧I64 x.o.flow∧x.o.r<18446744073709551616∧∀ k∈x.cs,I64 k.len
 slot:∀ k i,jI (s.σ.num (slotL k i))=true→sU s (dL (s.σ.num (slotL k i)))
 inb:∀ k,s.σ.num (fB k)≤s.ob.length
 nx:∀ o,0≤s.nx o∧s.nx o≤s.ob.length
theorem jd.l {s:PS} {N:Nat} (h:jd s N) (hN:N≤20000):s.σ.log.length≤1000000:=by have:=h.log;omega
theorem jd.p {s:PS} {N:Nat} (h:jd s N) (hN:N≤20000):s.pt.length<100000:=by have:=h.pt;omega
theorem jd.o {s:PS} {N:Nat} (h:jd s N) (hN:N≤20000):s.ob.length<100000:=by have:=h.ob;omega
theorem sU.get {s:PS} {rs:List Nat} (hrs:rs.length=s.ob.length) {o:Int} (h:sU s o):∃ (r:Nat) (x:mO),o=(o.toNat:Nat)∧rs[o.toNat]? =some r∧s.ob[o.toNat]? =some x∧x∈s.ob:=by
 have h1:o=(o.toNat:Nat):=(Int.toNat_of_nonneg h.1).symm;have h2:o.toNat<s.ob.length:=by have:=h.2;omega
 exact⟨rs[o.toNat]'(by omega),s.ob[o.toNat],h1,List.getElem?_eq_getElem _,List.getElem?_eq_getElem _,List.getElem_mem _⟩
theorem Ug (w:Int):dC (iD w):=by have:=oV w;unfold dC iD;split<;>omega
theorem je {n:Int} (h0: -10≤n) (h1:n≤1000000):I64 n:=by unfold I64;omega
def PS.uC (s:PS) (i:Nat):mO:=s.ob.getD i ⟨.zero,[]⟩
theorem PS.Iy {s:PS} {i:Nat} {x:mO} (h:s.ob[i]? =some x):s.uC i=x:=by unfold PS.uC;simp[List.getD,h]
def Tz.ring:Tz→Bool
 |.first|.scan|.lock|.search|.unlock|.look=>false
 |_=>true
structure zK (A:PA) (s:PS) (E:jQ):Prop where
 who:0≤E.who∧E.who<6
 sh:0≤E.shard∧E.shard<4
 i:0≤E.i∧E.i≤4
 scan:E.st=.first∨E.st=.scan∨E.st=.search→E.i<A.sl
 w:dC E.w
 top:0≤E.top∧E.top≤s.ob.length
 found:E.found=true→sU s E.obj
 look:E.st=.look→E.found=true
 obj:E.st.ring=true→sU s E.obj
 rg:E.st.ring=true→∃ i,E.r=some i
 r:∀ i,E.r=some i→i<s.ob.length
 len:I64 E.c.a
def aW (s:PS) (E:jQ) (sl:Nat) (now:Int):EO:=match E.st with
 |.first=>gB s E sl now
 |.scan=>ed s E sl
 |.lock=>⟨{ s with σ:=s.σ.swap E.who (ja E.shard) 0 1 },kY s E,0,false⟩
 |.search=>fZ s E sl now
 |.unlock=>iL s E
 |.look=>oG s E E.obj.toNat
 |.word=>fJ s E .head
 |.head=>jZ s E
 |.claim=>dO s E now .put .word
 |.put=>⟨fQ s E (s.uC E.ri).cs.length (s.uC E.ri),{ E with st:=.show' },0,false⟩
 |.show'=>⟨jq s E (s.uC E.ri).cs.length,E,0,true⟩
 |.begin=>⟨{ s with σ:=(s.σ.put E.who 3 df).set df (IntKind.u64.wrap (s.σ.num df+4294967296)) },{ E with st:=.wake },0,false⟩
 |.wake=>dO s E now .down .back
 |.down=>⟨fQ s E (s.uC E.ri).cs.length (s.uC E.ri),{ E with st:=.shown },0,false⟩
 |.seq=>nX s E
 |.wordAgain=>fJ s E .headAgain
 |.headAgain=>dZ s E now
 |.seqAgain=>fF s E
 |.back=>⟨{ s with σ:=(s.σ.put E.who 3 df).set df (IntKind.u64.wrap (s.σ.num df+1)) },{ E with st:=.word },0,false⟩
 |.shown=>⟨jq s E (s.uC E.ri).cs.length,{ E with st:=.topmost },0,false⟩
 |.topmost=>⟨{ s with σ:=s.σ.put E.who 1 (fB E.shard) },{ E with top:=s.σ.num (fB E.shard),st:=.link },0,false⟩
 |.link=>⟨{ s with σ:=s.σ.put E.who 6 (tN E.obj),nx:=nG s.nx E.obj E.top },{ E with st:=.push },0,false⟩
 |.push=>kW s E
 |.end'=>⟨{ s with σ:=(s.σ.put E.who 3 df).set df (IntKind.u64.wrap (s.σ.num df+1)) },E,0,true⟩
section
variable {A:PA} {rs:List Nat} {s:PS} {e N:Nat} {E:jQ}
theorem Gq (now:Int) (hA:Aq A) (hrs:rs.length=s.ob.length) (hN:N≤20000) (hP:jd s N) (hE:zK A s E):Does prog [ae A rs s,mg A.P rs e E] E.st.bz #[ptr e,J now] (bI (aW s E A.sl now).c (aW s E A.sl now).d) [ae A rs (aW s E A.sl now).s,mg A.P rs e (aW s E A.sl now).E]:=by
 have hl:=hP.l hN;have hn:=hP.p hN;have hwho:I64 E.who:=je (by have:=hE.who;omega) (by have:=hE.who;omega);have hsh:I64 E.shard:=je (by have:=hE.sh;omega) (by have:=hE.sh;omega);have h0:=hE.i.1;have h1:E.i<1000:=by have:=hE.i;omega
 have hu:=hP.u;have hcu:=Ug E.w;have ring:E.st.ring=true→∃ (r:Nat) (x:mO),E.r=some E.ri∧rs[E.ri]? =some r∧s.ob[E.ri]? =some x∧E.ri<1000000∧0<x.cs.length∧x.cs.length≤1000∧s.uC E.ri=x:=fun hr=>by
  obtain⟨i,hi⟩:=hE.rg hr;have hlt:=hE.r i hi;have hri:E.ri=i:=by unfold jQ.ri;rw[hi];rfl
  rw[hri];have hx:s.ob[i]? =some s.ob[i]:=List.getElem?_eq_getElem _;have hc:=hP.cs _ (List.getElem_mem hlt)
  exact⟨rs[i]'(by omega),s.ob[i],hi,List.getElem?_eq_getElem _,hx,by have:=hP.o hN;omega,hc.1,by omega,PS.Iy hx⟩
 have hobj:E.st.ring=true→I64 E.obj:=fun hr=>by have h:=hE.obj hr;have:=hP.o hN;exact je (by have:=h.1;omega) (by have:=h.2;omega)
 cases hst:E.st with
 |first=>
  rw[show aW s E A.sl now=gB s E A.sl now by unfold aW;rw[hst]];have d:=Fv (A:=A) (rs:=rs) (s:=s) (e:=e) (E:=E) now hwho hn hsh h0 h1 (hu _) hl
  exact d
 |scan=>
  rw[show aW s E A.sl now=ed s E A.sl by unfold aW;rw[hst]];have d:=yT (A:=A) (rs:=rs) (s:=s) (e:=e) (E:=E) now hsh h0 h1 (hu _) hl
  exact d
 |lock=>
  rw[show aW s E A.sl now=⟨{ s with σ:=s.σ.swap E.who (ja E.shard) 0 1 },kY s E,0,false⟩ by unfold aW;rw[hst]];have d:=Ir (A:=A) (rs:=rs) (s:=s) (e:=e) (E:=E) now hsh hl
  exact d
 |search=>
  rw[show aW s E A.sl now=fZ s E A.sl now by unfold aW;rw[hst]];have d:=CG (A:=A) (rs:=rs) (s:=s) (e:=e) (E:=E) now hsh h0 h1 (hu _) hwho hn hl
  exact d
 |unlock=>
  rw[show aW s E A.sl now=iL s E by unfold aW;rw[hst]];have d:=BC (A:=A) (rs:=rs) (s:=s) (e:=e) (E:=E) now hsh hl
  exact d
 |look=>
  rw[show aW s E A.sl now=oG s E E.obj.toNat by unfold aW;rw[hst]];obtain⟨r,x,hob,hr,ho,_⟩:=(hE.found (hE.look hst)).get hrs;have d:=JX (A:=A) (rs:=rs) (s:=s) (e:=e) (E:=E) now hob hr ho hl
  exact d
 |word=>
  rw[show aW s E A.sl now=fJ s E .head by unfold aW;rw[hst]];obtain⟨r,x,hR,hr,ho,hi,c0,c8,hx⟩:=ring (by rw[hst];rfl);have d:=II (A:=A) (rs:=rs) (s:=s) (e:=e) (E:=E) now hR hr ho hi (hu _) hl
  exact d
 |head=>
  rw[show aW s E A.sl now=jZ s E by unfold aW;rw[hst]];obtain⟨r,x,hR,hr,ho,hi,c0,c8,hx⟩:=ring (by rw[hst];rfl);have d:=KD (A:=A) (rs:=rs) (s:=s) (e:=e) (E:=E) now hR hr ho hi c8 hE.w (hu _) hl
  exact d
 |claim=>
  rw[show aW s E A.sl now=dO s E now .put .word by unfold aW;rw[hst]];obtain⟨r,x,hR,hr,ho,hi,c0,c8,hx⟩:=ring (by rw[hst];rfl);have d:=F7 (A:=A) (rs:=rs) (s:=s) (e:=e) (E:=E) now hR hr ho hi hE.w hwho hn hl
  exact d
 |put=>
  rw[show aW s E A.sl now=⟨fQ s E (s.uC E.ri).cs.length (s.uC E.ri),{ E with st:=.show' },0,false⟩ by unfold aW;rw[hst]];obtain⟨r,x,hR,hr,ho,hi,c0,c8,hx⟩:=ring (by rw[hst];rfl);rw[hx];have d:=MZ (A:=A) (rs:=rs) (s:=s) (e:=e) (E:=E) now hR hr ho hi hE.w hcu c0 c8 hl
  exact d
 |show'=>
  rw[show aW s E A.sl now=⟨jq s E (s.uC E.ri).cs.length,E,0,true⟩ by unfold aW;rw[hst]];obtain⟨r,x,hR,hr,ho,hi,c0,c8,hx⟩:=ring (by rw[hst];rfl);rw[hx];have d:=Kz (A:=A) (rs:=rs) (s:=s) (e:=e) (E:=E) now hR hr ho hi hE.w hcu c0 c8 hl
  exact d
 |begin=>
  unfold aW;rw[hst];have d:=FC (A:=A) (rs:=rs) (s:=s) (e:=e) (E:=E) now hl
  exact d
 |wake=>
  rw[show aW s E A.sl now=dO s E now .down .back by unfold aW;rw[hst]];obtain⟨r,x,hR,hr,ho,hi,c0,c8,hx⟩:=ring (by rw[hst];rfl);have d:=IX (A:=A) (rs:=rs) (s:=s) (e:=e) (E:=E) now hR hr ho hi hE.w hwho hn hl
  exact d
 |down=>
  rw[show aW s E A.sl now=⟨fQ s E (s.uC E.ri).cs.length (s.uC E.ri),{ E with st:=.shown },0,false⟩ by unfold aW;rw[hst]];obtain⟨r,x,hR,hr,ho,hi,c0,c8,hx⟩:=ring (by rw[hst];rfl);rw[hx];have d:=Kt (A:=A) (rs:=rs) (s:=s) (e:=e) (E:=E) now hR hr ho hi hE.w hcu c0 c8 hl
  exact d
 |seq=>
  rw[show aW s E A.sl now=nX s E by unfold aW;rw[hst]];have d:=MG (A:=A) (rs:=rs) (s:=s) (e:=e) (E:=E) now (hu _) hl
  exact d
 |wordAgain=>
  rw[show aW s E A.sl now=fJ s E .headAgain by unfold aW;rw[hst]];obtain⟨r,x,hR,hr,ho,hi,c0,c8,hx⟩:=ring (by rw[hst];rfl);have d:=xg (A:=A) (rs:=rs) (s:=s) (e:=e) (E:=E) now hR hr ho hi (hu _) hl
  exact d
 |headAgain=>
  rw[show aW s E A.sl now=dZ s E now by unfold aW;rw[hst]];obtain⟨r,x,hR,hr,ho,hi,c0,c8,hx⟩:=ring (by rw[hst];rfl);have d:=xm (A:=A) (rs:=rs) (s:=s) (e:=e) (E:=E) now hR hr ho hi c8 hE.w (hu _) hl
  exact d
 |seqAgain=>
  rw[show aW s E A.sl now=fF s E by unfold aW;rw[hst]];have d:=y9 (A:=A) (rs:=rs) (s:=s) (e:=e) (E:=E) now hwho hn hl
  exact d
 |back=>
  unfold aW;rw[hst];have d:=JG (A:=A) (rs:=rs) (s:=s) (e:=e) (E:=E) now hl
  exact d
 |shown=>
  rw[show aW s E A.sl now=⟨jq s E (s.uC E.ri).cs.length,{ E with st:=.topmost },0,false⟩ by unfold aW;rw[hst]];obtain⟨r,x,hR,hr,ho,hi,c0,c8,hx⟩:=ring (by rw[hst];rfl);rw[hx];have d:=EZ (A:=A) (rs:=rs) (s:=s) (e:=e) (E:=E) now hR hr ho hi hE.w hcu c0 c8 hl
  exact d
 |topmost=>
  unfold aW;rw[hst];have d:=zW (A:=A) (rs:=rs) (s:=s) (e:=e) (E:=E) now hsh hl
  exact d
 |link=>
  unfold aW;rw[hst];have d:=Ib (A:=A) (rs:=rs) (s:=s) (e:=e) (E:=E) now (hobj (by rw[hst];rfl)) hl
  exact d
 |push=>
  rw[show aW s E A.sl now=kW s E by unfold aW;rw[hst]];have d:=GH (A:=A) (rs:=rs) (s:=s) (e:=e) (E:=E) now hsh hl
  exact d
 |end'=>
  unfold aW;rw[hst];have d:=Ot (A:=A) (rs:=rs) (s:=s) (e:=e) (E:=E) now hl
  exact d
end
def EL.rg:EL→Bool
 |.word|.seq|.wordAgain|.seqAgain|.shut=>true
 |_=>false
def EL.coming:EL→Bool
 |.come|.enter|.search|.make=>true
 |_=>false
structure RInv (A:PA) (s:PS) (E:jo):Prop where
 who:0≤E.who∧E.who<6
 sh:0≤E.shard∧E.shard<4
 i:0≤E.i∧E.i≤4
 scan:E.st=.come∨E.st=.enter∨E.st=.search∨E.st=.leave∨E.st=.lock∨E.st=.find→E.i<A.sl
 free: -1≤E.free∧E.free≤4
 at':0≤E.at'∧E.at'≤4
 w:dC E.w
 obj:0≤E.obj∧E.obj<4294967296
 put:E.st=.put→sU s E.obj
 a:E.st=.enter∨E.st=.search∨E.st=.make→1≤E.c.a∧E.c.a≤65536
 none:E.st.coming=true→E.r=none
 rg:E.st.rg=true→∃ i,E.r=some i
 r:∀ i,E.r=some i→i<s.ob.length
 flow:I64 E.c.flow
def bC (A:PA) (s:PS) (E:jo) (now:Int):RO:=match E.st with
 |.come=>gK s E now
 |.enter=>dI s E .search .enter
 |.search=>fD s E A.sl now
 |.make=>kK s A E
 |.put=>uG s E now
 |.out=>uH s E
 |.leave=>iP s E now
 |.lock=>dI s E .find .lock
 |.find=>jD s E A.sl now
 |.word=>kV s E
 |.seq=>og s E
 |.wordAgain=>dU s E now
 |.seqAgain=>eG s E
 |.shut=>kM s E now
 |.clear=>mW s E
section
variable {A:PA} {rs:List Nat} {s:PS} {e N:Nat} {E:jo}
theorem KE (now:Int) (hm:E.st≠ .make) (hA:Aq A) (hrs:rs.length=s.ob.length) (hN:N≤20000) (hP:jd s N) (hE:RInv A s E):Does prog [ae A rs s,rW A.P rs e E] E.st.bz #[ptr e,J now] (bI (bC A s E now).c (bC A s E now).d) [ae A rs (bC A s E now).s,rW A.P rs e (bC A s E now).E]:=by
 have hl:=hP.l hN;have hn:=hP.p hN;have hwho:I64 E.who:=je (by have:=hE.who;omega) (by have:=hE.who;omega);have hsh:I64 E.shard:=je (by have:=hE.sh;omega) (by have:=hE.sh;omega);have hfr:I64 E.free:=je (by have:=hE.free;omega) (by have:=hE.free;omega);have hat:I64 E.at':=je (by have:=hE.at';omega) (by have:=hE.at';omega);have hobj:I64 E.obj:=by have:=hE.obj;unfold I64;omega
 have h0:=hE.i.1;have h1:E.i<1000:=by have:=hE.i;omega
 have hu:=hP.u;have hv:kC s E=true→∃ (o:Nat) (r:Nat) (x:mO),dL (fE s E)=(o:Nat)∧rs[o]? =some r∧s.ob[o]? =some x:=fun hb=>by
  have hs:jI (fE s E)=true:=by unfold kC at hb;simp only[Bool.and_eq_true]at hb;exact hb.1
  obtain⟨r,x,h1,h2,h3,_⟩:=(hP.slot _ _ hs).get hrs
  exact⟨_,r,x,h1,h2,h3⟩
 have ring:E.st.rg=true→∃ (r:Nat) (x:mO),E.r=some E.ri∧rs[E.ri]? =some r∧s.ob[E.ri]? =some x∧E.ri<1000000:=fun hr=>by
  obtain⟨i,hi⟩:=hE.rg hr;have hlt:=hE.r i hi;have hri:E.ri=i:=by unfold jo.ri;rw[hi];rfl
  rw[hri]
  exact⟨rs[i]'(by omega),s.ob[i],hi,List.getElem?_eq_getElem _,List.getElem?_eq_getElem _,by have:=hP.o hN;omega⟩
 cases hst:E.st with
 |come=>
  rw[show bC A s E now=gK s E now by unfold bC;rw[hst]];have d:=G7 (A:=A) (rs:=rs) (s:=s) (e:=e) (E:=E) now hsh hwho hn hl
  exact d
 |enter=>
  rw[show bC A s E now=dI s E .search .enter by unfold bC;rw[hst]];have d:=wB (A:=A) (rs:=rs) (s:=s) (e:=e) (E:=E) now hsh hl
  exact d
 |search=>
  rw[show bC A s E now=fD s E A.sl now by unfold bC;rw[hst]];have d:=CX (A:=A) (rs:=rs) (s:=s) (e:=e) (E:=E) now hsh h0 h1 (hu _) hwho hn hl
  exact d
 |make=>
  exact absurd hst hm
 |put=>
  rw[show bC A s E now=uG s E now by unfold bC;rw[hst]];have d:=N7 (A:=A) (rs:=rs) (s:=s) (e:=e) (E:=E) now hsh hfr hobj hwho hn hl
  exact d
 |out=>
  rw[show bC A s E now=uH s E by unfold bC;rw[hst]];have d:=OA (A:=A) (rs:=rs) (s:=s) (e:=e) (E:=E) now hsh hl
  exact d
 |leave=>
  rw[show bC A s E now=iP s E now by unfold bC;rw[hst]];have d:=EX (A:=A) (rs:=rs) (s:=s) (e:=e) (E:=E) now hsh hwho hn hl
  exact d
 |lock=>
  rw[show bC A s E now=dI s E .find .lock by unfold bC;rw[hst]];have d:=yO (A:=A) (rs:=rs) (s:=s) (e:=e) (E:=E) now hsh hl
  exact d
 |find=>
  rw[show bC A s E now=jD s E A.sl now by unfold bC;rw[hst]];have d:=J7 (A:=A) (rs:=rs) (s:=s) (e:=e) (E:=E) now hsh h0 h1 (hu _) hv hwho hn hl
  exact d
 |word=>
  rw[show bC A s E now=kV s E by unfold bC;rw[hst]];obtain⟨r,x,hR,hr,ho,hi⟩:=ring (by rw[hst];rfl);have d:=I4 (A:=A) (rs:=rs) (s:=s) (e:=e) (E:=E) now hR hr ho hi (hu _) hl
  exact d
 |seq=>
  rw[show bC A s E now=og s E by unfold bC;rw[hst]];have d:=MN (A:=A) (rs:=rs) (s:=s) (e:=e) (E:=E) now (hu _) hl
  exact d
 |wordAgain=>
  rw[show bC A s E now=dU s E now by unfold bC;rw[hst]];obtain⟨r,x,hR,hr,ho,hi⟩:=ring (by rw[hst];rfl);have d:=wZ (A:=A) (rs:=rs) (s:=s) (e:=e) (E:=E) now hR hr ho hi (hu _) hl
  exact d
 |seqAgain=>
  rw[show bC A s E now=eG s E by unfold bC;rw[hst]];have d:=yh (A:=A) (rs:=rs) (s:=s) (e:=e) (E:=E) now hwho hn hl
  exact d
 |shut=>
  rw[show bC A s E now=kM s E now by unfold bC;rw[hst]];obtain⟨r,x,hR,hr,ho,hi⟩:=ring (by rw[hst];rfl);have d:=Il (A:=A) (rs:=rs) (s:=s) (e:=e) (E:=E) now hR hr ho hi hE.w hwho hn hl
  exact d
 |clear=>
  rw[show bC A s E now=mW s E by unfold bC;rw[hst]];have d:=Dz (A:=A) (rs:=rs) (s:=s) (e:=e) (E:=E) now hsh hat hl
  exact d
theorem GL (now:Int) (hst:E.st=.make) (hA:Aq A) (hN:N≤20000) (hP:jd s N) (hE:RInv A s E):Does prog [ae A rs s,rW A.P rs e E] E.st.bz #[ptr e,J now] (bI 0 false) [uk fun q=>aG [ae A (rs++[q]) (nP s A E),rW A.P (rs++[q]) e (kK s A E).E]]:=by
 have ha:=hE.a (.inr (.inr hst));have d:=GI (A:=A) (rs:=rs) (s:=s) (e:=e) (E:=E) now (hE.none (by rw[hst];rfl)) hA.un1 hA.un2 ha.1 ha.2 (hP.o hN) (hP.l hN);rw[show E.st.bz=173 by rw[hst];rfl]
 exact d
end
def uV (c:Cl):Prop:=I64 c.op∧I64 c.flow∧I64 c.a∧I64 c.b
section
def Rl (e:Ending):Prop:=∃ sh sl wk wd un:Nat,TL sh sl wk wd un∧e=.returned (O8 sh sl wk wd un)
theorem Rl.mk {a b c d u:Int} (ha:0≤a∧a<4) (hb:0≤b∧b<4) (hc:0≤c∧c<6) (hd:0≤d∧d<12) (hu:1≤u∧u≤4611686018427387904):Rl (.returned (.agg #[J (1+a),J (1+b),J (1+c),J d,Ju u])):=by
 refine⟨(1+a).toNat,(1+b).toNat,(1+c).toNat,d.toNat,u.toNat,⟨by omega,by omega,by omega,by omega,by omega,by omega,by omega,by omega,by omega⟩,?_⟩;have e1:((1+a).toNat:Int)=1+a:=by omega
 have e2:((1+b).toNat:Int)=1+b:=by omega
 have e3:((1+c).toNat:Int)=1+c:=by omega
 have e4:(d.toNat:Int)=d:=by omega
 have e5:(u.toNat:Int)=u:=by omega
 unfold O8;rw[e1,e2,e3,e4,e5]
theorem F8 {a b c d u:Int} (hu:dC u) (w:World):Calls prog 12 #[.agg #[J a,J b,J c,J d,Ju u]] w fun e w'=>Rl e∧dE [] w w':=by
 obtain⟨hu0,hu1⟩:=hu;have ma:=mod_lt a (n:=4) (by omega);have mb:=mod_lt b (n:=4) (by omega);have mc:=mod_lt c (n:=6) (by omega);have md:=mod_lt d (n:=12) (by omega);have wa:IntKind.i64.wrap (1+mod a 4)=1+mod a 4:=by rw[IntKind.wrap_i64];omega
 have wb:IntKind.i64.wrap (1+mod b 4)=1+mod b 4:=by rw[IntKind.wrap_i64];omega
 have wc:IntKind.i64.wrap (1+mod c 6)=1+mod c 6:=by rw[IntKind.wrap_i64];omega
 have r0:=Row.new w [J a,J b,J c,J d,Ju u] 24;have c4:=r0.cell (j:=4) rfl;have s1:=((Scope.empty w).box [J a,J b,J c,J d,Ju u] 24).box [J 0,J 0,J 0,J 0,Ju 0] 24;have s2:Scope [] w ((w.alloc (.cells #[J a,J b,J c,J d,Ju u] 24)).alloc (.cells #[J 0,J 0,J 0,J 0,Ju 0] 24)) ([box w.heap.size [J a,J b,J c,J d,Ju u] 24]++([box (w.heap.size+1) [J 0,J 0,J 0,J 0,Ju 0] 24]++[])):=by simpa using s1
 have S2:=zd s2;have Ma:=zd ma;have Mb:=zd mb;have Mc:=zd mc;have Md:=zd md;clear s1 s2 r0 ma mb mc md;obtain⟨q,hq⟩:∃ q,q=if u % 4=3 then 1+u % 4611686018427387904 else 1+u % 5000:=⟨_,rfl⟩
 have hq0:1≤q∧q≤4611686018427387904:=by rw[hq];split<;>omega
 have Hq:=zd hq;have Hq0:=zd hq0;clear hq hq0
 by_cases h3:u % 4=3
 all_goals go_enter func12,ntmps12
 all_goals go_wp2_with fail
 all_goals (
  have hq:=Hq.out
  first|rw[if_pos h3]at hq|rw[if_neg h3]at hq
  rw[←hq];clear hq Hq h3;have sd:=S2.out;generalize ((w.alloc _).alloc _)=W at sd ⊢
  obtain⟨B,hB⟩:∃ B,B=w.heap.size:=⟨_,rfl⟩
  rw[←hB]at sd ⊢
  clear hB c4 S2;refine aP (by kernel_rfl) ?_;have sd:=sd.drew;generalize W.drew=V at sd ⊢
  have rb:=sd.row (k:=B) 0 rfl;have h0:At V B 0 (J a)∧At V B 1 (J b)∧At V B 2 (J c)∧At V B 3 (J d):=⟨rb.cell rfl,rb.cell rfl,rb.cell rfl,rb.cell rfl⟩
  have Sd:=zd sd;clear sd rb;refine aY [0,4,8,12,15] ?_
  repeat (refine ay _ rfl (by kernel_rfl) (fun _ _ _ h=>h) (fun w'=>by(try simp only[ag,ah,aj]);go_simp;try with_reducible rfl) ?_;try simp only[Act.put,ag,ah,aj,aF,aB,aC])
  refine aH ?_;refine cu (fun w'=>At w' B 0 (J a)∧At w' B 1 (J b)∧At w' B 2 (J c)∧At w' B 3 (J d)) [1,5,9,13,2,3,6,7,10,11,14] [1,5,9,13] ?_
  repeat (refine aN _ rfl (by kernel_rfl) (fun _ _ _ h=>h) h0 (fun w' hS=>by(try dsimp only at hS);(try simp only[ag,ah,aj]);go_simp;try with_reducible rfl) ?_;try simp only[Act.put,ag,ah,aj,aF,aB,aC])
  refine bM ?_;refine aK 2 (by kernel_rfl) rfl (by rfl) fun K hK=>?_
  go_simp;refine(gW (v:=a) (n:=4) (by omega) (by omega) _).mono ?_
  rintro e w1 ⟨rfl,rfl⟩
  refine hK _ _ ⟨fun _=>h0,?_⟩;clear hK K
  try simp only[Act.put,ag,ah,aj,aF,aB,aC]
  refine dB [3] ?_
  repeat (refine aN _ rfl (by kernel_rfl) (fun _ _ _ h=>h) h0 (fun w' hS=>by(try simp only[ag,ah,aj]);go_simp;try with_reducible rfl) ?_;try simp only[Act.put,ag,ah,aj,aF,aB,aC])
  refine bM ?_;refine aK 6 (by kernel_rfl) rfl (by rfl) fun K hK=>?_
  go_simp;refine(gW (v:=b) (n:=4) (by omega) (by omega) _).mono ?_
  rintro e w1 ⟨rfl,rfl⟩
  refine hK _ _ ⟨fun _=>h0,?_⟩;clear hK K
  try simp only[Act.put,ag,ah,aj,aF,aB,aC]
  refine dB [7] ?_
  repeat (refine aN _ rfl (by kernel_rfl) (fun _ _ _ h=>h) h0 (fun w' hS=>by(try simp only[ag,ah,aj]);go_simp;try with_reducible rfl) ?_;try simp only[Act.put,ag,ah,aj,aF,aB,aC])
  refine bM ?_;refine aK 10 (by kernel_rfl) rfl (by rfl) fun K hK=>?_
  go_simp;refine(gW (v:=c) (n:=6) (by omega) (by omega) _).mono ?_
  rintro e w1 ⟨rfl,rfl⟩
  refine hK _ _ ⟨fun _=>h0,?_⟩;clear hK K
  try simp only[Act.put,ag,ah,aj,aF,aB,aC]
  refine dB [11] ?_
  repeat (refine aN _ rfl (by kernel_rfl) (fun _ _ _ h=>h) h0 (fun w' hS=>by(try simp only[ag,ah,aj]);go_simp;try with_reducible rfl) ?_;try simp only[Act.put,ag,ah,aj,aF,aB,aC])
  refine bM ?_;refine aK 14 (by kernel_rfl) rfl (by rfl) fun K hK=>?_
  go_simp;refine(gW (v:=d) (n:=12) (by omega) (by omega) _).mono ?_
  rintro e w1 ⟨rfl,rfl⟩
  refine hK _ _ ⟨fun _=>h0,?_⟩;clear hK K h0
  try simp only[Act.put,ag,ah,aj,aF,aB,aC]
  refine dB [] (bH (by kernel_rfl) ?_);refine aY [16] ?_
  repeat (refine ay _ rfl (by kernel_rfl) (fun _ _ _ h=>h) (fun w'=>by(try simp only[ag,ah,aj]);go_simp;try with_reducible rfl) ?_;try simp only[Act.put,ag,ah,aj,aF,aB,aC])
  refine aH ?_;have rz:=Sd.out.row (k:=B+1) 1 rfl;obtain⟨g0,g1,g2,g3,g4⟩:=rz.c5;have k0:=rz.free 0;have k1:=rz.free 1;have k2:=rz.free 2;have k3:=rz.free 3;have k4:=rz.free 4;refine af 17 (by kernel_rfl) rfl (by rfl) fun K hK=>?_
  go_simp;refine hK _ _ ?_;clear hK K
  try simp only[Act.put,ag,ah,aj,aF,aB,aC]
  refine wpAny_done (by kernel_rfl) ?_ _
  go_wp2
  have qs:=Scope.au (Scope.au (Scope.au (Scope.au (Scope.au Sd.out 0 (J (1+mod a 4))) 1 (J (1+mod b 4))) 2 (J (1+mod c 6))) 3 (J (mod d 12))) 4 (Ju q);have rq:=qs.row (k:=B+1) 1 rfl;refine bodyPost_ret (results_cell_row rfl _ _ (B+1) 24 #[J (1+mod a 4),J (1+mod b 4),J (1+mod c 6),J (mod d 12),Ju q] (0,0) _ rfl rq underlying24 rfl (by kernel_rfl)) rfl ?_
  exact⟨.mk Ma.out Mb.out Mc.out Md.out Hq0.out,qs.1⟩)
end
section
def VA (e:Ending):Prop:=∃ c:Cl,uV c∧e=.returned c.val
theorem uV.of {o f a b:Int} (h0: -100000≤o∧o≤100000) (h1: -100000≤f∧f≤100000) (h2: -100000≤a∧a≤100000) (h3: -100000≤b∧b≤100000):uV ⟨o,f,a,b⟩:=
 ⟨⟨by dsimp only;omega,by dsimp only;omega⟩,⟨by dsimp only;omega,by dsimp only;omega⟩,⟨by dsimp only;omega,by dsimp only;omega⟩,⟨by dsimp only;omega,by dsimp only;omega⟩⟩
theorem FI {w W:World} {B:Nat} {c0 c1 c2 c3 z0 z1 z2 z3:Value} {t:TypeId} {As:List HA} (x0 x1 x2 x3:Value) (h:Scope [] w W (As++([box B [z0,z1,z2,z3] t]++[box (B+1) [c0,c1,c2,c3] t]))):
  Scope [] w ((((W.setCell ⟨B,0,none⟩ x0).setCell ⟨B,1,none⟩ x1).setCell ⟨B,2,none⟩ x2).setCell ⟨B,3,none⟩ x3) (As++([box B [x0,x1,x2,x3] t]++[box (B+1) [c0,c1,c2,c3] t])):=
 Scope.au (Scope.au (Scope.au (Scope.au h 0 x0) 1 x1) 2 x2) 3 x3
theorem Oi {o f a b:Int} (hc:uV ⟨o,f,a,b⟩) (w:World):Calls prog 14 #[(Cl.mk o f a b).val] w fun e w'=>VA e∧dE [] w w':=by
 have hf:=mod_lt f (n:=5) (by omega);have ho:=mod_lt o (n:=10) (by omega);have r0:=Row.new w [J o,J f,J a,J b] 49;obtain⟨c0,c1,c2,c3⟩:=r0.c4;have s1:=((Scope.empty w).box [J o,J f,J a,J b] 49).box [J 0,J 0,J 0,J 0] 49;have s2:Scope [] w ((w.alloc (.cells #[J o,J f,J a,J b] 49)).alloc (.cells #[J 0,J 0,J 0,J 0] 49)) ([box w.heap.size [J o,J f,J a,J b] 49]++([box (w.heap.size+1) [J 0,J 0,J 0,J 0] 49]++[])):=by simpa using s1
 have S2:=zd s2;have Hf:=zd hf;have Ho:=zd ho;have Hc:=zd hc;clear s1 s2 r0 hf ho hc;obtain⟨mf,hmf⟩:∃ x,x=mod f 23:=⟨_,rfl⟩
 have Hmf:=zd hmf;clear hmf
 go_enter func14,ntmps14
 go_wp2_with fail
 refine(gW (v:=f) (n:=23) (by omega) (by omega) _).mono ?_
 rintro e w1 ⟨rfl,rfl⟩
 rw[←Hmf.out]
 by_cases h22:mf=22
 ·go_wp2
  have rq:Row ((w.alloc (.cells #[J o,J f,J a,J b] 49)).alloc (.cells #[J o,J f,J a,J b] 49)) (w.heap.size+1) [J o,J f,J a,J b] 49:=by
   have:=Row.new (w.alloc (.cells #[J o,J f,J a,J b] 49)) [J o,J f,J a,J b] 49
   simpa using this
  refine bodyPost_ret (results_cell_row rfl _ _ (w.heap.size+1) 49 #[J o,J f,J a,J b] (0,0) _ rfl rq underlying49 rfl (by kernel_rfl)) rfl ?_
  exact⟨⟨_,Hc.out,rfl⟩,((dE.refl _ _).alloc _).alloc _⟩
 ·go_wp2_with fail
  refine(gW (v:=f) (n:=5) (by omega) (by omega) _).mono ?_
  rintro e w1 ⟨rfl,rfl⟩
  go_wp2_with fail
  have s3:=S2.out.box [J 0,J (mod f 5),J 0,J 0] 49;have s3:Scope [] w (((w.alloc (.cells #[J o,J f,J a,J b] 49)).alloc (.cells #[J 0,J 0,J 0,J 0] 49)).alloc (.cells #[J 0,J (mod f 5),J 0,J 0] 49)) ([box w.heap.size [J o,J f,J a,J b] 49,box (w.heap.size+1) [J 0,J 0,J 0,J 0] 49]++([box (w.heap.size+2) [J 0,J (mod f 5),J 0,J 0] 49]++[])):=by simpa using s3
  refine(gW (v:=o) (n:=10) (by omega) (by omega) _).mono ?_
  rintro e w1 ⟨rfl,rfl⟩
  obtain⟨k,hk⟩:∃ k,mod o 10=k:=⟨_,rfl⟩
  have Ho':=Ho.out;rw[hk]at Ho' ⊢
  clear hk c0 c1 c2 c3;generalize (((w.alloc _).alloc _).alloc _)=W at s3 ⊢
  obtain⟨B,hB⟩:∃ B,B=w.heap.size:=⟨_,rfl⟩
  rw[←hB]at s3 ⊢
  rw[show B+1+1=B+2 from rfl];obtain⟨g,hg⟩:∃ g,g=mod f 5:=⟨_,rfl⟩
  have Hf':=Hf.out;rw[←hg]at s3 Hf' ⊢
  have S3:=zd s3;have HF:=zd Hf';clear s3 hB hg Hf';have r0:=S3.out.row (k:=B) 0 rfl;have r1:=S3.out.row (k:=B+1) 1 rfl;have r2:=S3.out.row (k:=B+2) 2 rfl;obtain⟨c0,c1,c2,c3⟩:=r0.c4;obtain⟨z0,z1,z2,z3⟩:=r1.c4;have k0:=r1.free 0;have k1:=r1.free 1;have k2:=r1.free 2;have k3:=r1.free 3;obtain⟨x0,x1,x2,x3⟩:=r2.c4;have y0:=r2.free 0;have y1:=r2.free 1;have y2:=r2.free 2;have y3:=r2.free 3;clear r0 r1 r2;have K0:=zd Ho';clear Ho'
  by_cases e1:k=1
  ·subst e1
   go_wp2
   have s4:=Scope.au S3.out 0 (J 2);have qs:=FI (B:=B+1) (J 2) (J g) (J 0) (J 0) (As:=[box B [J o,J f,J a,J b] 49]) s4;have rq:=qs.row (k:=B+1) 1 rfl;refine bodyPost_ret (results_cell_row rfl _ _ (B+1) 49 #[J (2),J (g),J (0),J (0)] (0,0) _ rfl rq underlying49 rfl (by kernel_rfl)) rfl ?_
   exact⟨⟨⟨2,g,0,0⟩,.of (by omega) (by have:=HF.out;omega) (by omega) (by omega),rfl⟩,qs.1⟩
  by_cases e6:k=6
  ·subst e6
   go_wp2
   have s4:=Scope.au (Scope.au (Scope.au (Scope.au S3.out 0 (J 4)) 1 (J 0)) 2 (J 0)) 3 (J 0);have qs:=FI (B:=B+1) (J 4) (J 0) (J 0) (J 0) (As:=[box B [J o,J f,J a,J b] 49]) s4;have rq:=qs.row (k:=B+1) 1 rfl;refine bodyPost_ret (results_cell_row rfl _ _ (B+1) 49 #[J (4),J (0),J (0),J (0)] (0,0) _ rfl rq underlying49 rfl (by kernel_rfl)) rfl ?_
   exact⟨⟨⟨4,0,0,0⟩,.of (by omega) (by omega) (by omega) (by omega),rfl⟩,qs.1⟩
  by_cases e7:k=7
  ·subst e7
   go_wp2
   have s4:=Scope.au (Scope.au (Scope.au (Scope.au S3.out 0 (J 4)) 1 (J 0)) 2 (J 0)) 3 (J 0);have qs:=FI (B:=B+1) (J 4) (J 0) (J 0) (J 0) (As:=[box B [J o,J f,J a,J b] 49]) s4;have rq:=qs.row (k:=B+1) 1 rfl;refine bodyPost_ret (results_cell_row rfl _ _ (B+1) 49 #[J (4),J (0),J (0),J (0)] (0,0) _ rfl rq underlying49 rfl (by kernel_rfl)) rfl ?_
   exact⟨⟨⟨4,0,0,0⟩,.of (by omega) (by omega) (by omega) (by omega),rfl⟩,qs.1⟩
  by_cases e9:k=9
  ·subst e9
   go_wp2
   have s4:=Scope.au (Scope.au (Scope.au (Scope.au S3.out 0 (J 6)) 1 (J 0)) 2 (J 0)) 3 (J 0);have qs:=FI (B:=B+1) (J 6) (J 0) (J 0) (J 0) (As:=[box B [J o,J f,J a,J b] 49]) s4;have rq:=qs.row (k:=B+1) 1 rfl;refine bodyPost_ret (results_cell_row rfl _ _ (B+1) 49 #[J (6),J (0),J (0),J (0)] (0,0) _ rfl rq underlying49 rfl (by kernel_rfl)) rfl ?_
   exact⟨⟨⟨6,0,0,0⟩,.of (by omega) (by omega) (by omega) (by omega),rfl⟩,qs.1⟩
  by_cases e8:k=8
  ·subst e8
   go_wp2_with fail
   have ma:=mod_lt a (n:=6) (by omega);refine(gW (v:=a) (n:=6) (by omega) (by omega) _).mono ?_
   rintro e w1 ⟨rfl,rfl⟩
   obtain⟨y,hy⟩:∃ y,mod a 6=y:=⟨_,rfl⟩
   rw[hy]at ma ⊢
   have MA:=zd ma;clear hy ma
   go_wp2
   have s4:=Scope.au (Scope.au (Scope.au (Scope.au S3.out 0 (J 5)) 1 (J 0)) 2 (J y)) 3 (J 0);have qs:=FI (B:=B+1) (J 5) (J 0) (J y) (J 0) (As:=[box B [J o,J f,J a,J b] 49]) s4;have rq:=qs.row (k:=B+1) 1 rfl;refine bodyPost_ret (results_cell_row rfl _ _ (B+1) 49 #[J (5),J (0),J (y),J (0)] (0,0) _ rfl rq underlying49 rfl (by kernel_rfl)) rfl ?_
   exact⟨⟨⟨5,0,y,0⟩,.of (by omega) (by omega) (by have:=MA.out;omega) (by omega),rfl⟩,qs.1⟩
  by_cases e0:k=0
  ·subst e0
   have ma:=mod_lt a (n:=5) (by omega);have mb:=mod_lt b (n:=3) (by omega);obtain⟨y,hy⟩:∃ y,mod a 5=y:=⟨_,rfl⟩
   obtain⟨v,hv⟩:∃ v,mod b 3=v:=⟨_,rfl⟩
   rw[hy]at ma;rw[hv]at mb;have wy:IntKind.i64.wrap (1+y)=1+y:=by rw[IntKind.wrap_i64];omega
   have wv:IntKind.i64.wrap (1+v)=1+v:=by rw[IntKind.wrap_i64];omega
   have MA:=zd ma;have MB:=zd mb;have HY:=zd hy;have HV:=zd hv;clear ma mb hy hv
   go_wp2_with fail
   clear c0 c1 c2 c3 z0 z1 z2 z3 k0 k1 k2 k3 x0 x1 x2 x3 y0 y1 y2 y3;refine aP (by kernel_rfl) ?_;have sd:=S3.out.drew;generalize W.drew=V at sd ⊢
   have rb:=sd.row (k:=B) 0 rfl;have h0:At V B 2 (J a)∧At V B 3 (J b):=⟨rb.cell rfl,rb.cell rfl⟩
   have Sd:=zd sd;clear sd rb;refine aY [0,4,8] ?_
   repeat (refine ay _ rfl (by kernel_rfl) (fun _ _ _ h=>h) (fun w'=>by(try simp only[ag,ah,aj]);go_simp;try with_reducible rfl) ?_;try simp only[Act.put,ag,ah,aj,aF,aB,aC])
   refine aH ?_;refine cu (fun w'=>At w' B 2 (J a)∧At w' B 3 (J b)) [1,5,2,3,6,7,9,10,11,12,13] [1,5] ?_
   repeat (refine aN _ rfl (by kernel_rfl) (fun _ _ _ h=>h) h0 (fun w' hS=>by(try dsimp only at hS);(try simp only[ag,ah,aj]);go_simp;try with_reducible rfl) ?_;try simp only[Act.put,ag,ah,aj,aF,aB,aC])
   refine bM ?_;refine aK 2 (by kernel_rfl) rfl (by rfl) fun K hK=>?_
   go_simp;refine(gW (v:=a) (n:=5) (by omega) (by omega) _).mono ?_
   rintro e w1 ⟨rfl,rfl⟩
   refine hK _ _ ⟨fun _=>h0,?_⟩;clear hK K
   try simp only[Act.put,ag,ah,aj,aF,aB,aC]
   rw[HY.out];refine dB [3] ?_
   repeat (refine aN _ rfl (by kernel_rfl) (fun _ _ _ h=>h) h0 (fun w' hS=>by(try simp only[ag,ah,aj]);go_simp;try with_reducible rfl) ?_;try simp only[Act.put,ag,ah,aj,aF,aB,aC])
   refine bM ?_;refine aK 6 (by kernel_rfl) rfl (by rfl) fun K hK=>?_
   go_simp;refine(gW (v:=b) (n:=3) (by omega) (by omega) _).mono ?_
   rintro e w1 ⟨rfl,rfl⟩
   refine hK _ _ ⟨fun _=>h0,?_⟩;clear hK K
   try simp only[Act.put,ag,ah,aj,aF,aB,aC]
   rw[HV.out];refine dB [7] ?_
   repeat (refine aN _ rfl (by kernel_rfl) (fun _ _ _ h=>h) h0 (fun w' hS=>by(try simp only[ag,ah,aj]);go_simp;try with_reducible rfl) ?_;try simp only[Act.put,ag,ah,aj,aF,aB,aC])
   refine bM ?_;have r1:=Sd.out.row (k:=B+1) 1 rfl;have r2:=Sd.out.row (k:=B+2) 2 rfl;obtain⟨z0,z1,z2,z3⟩:=r1.c4;have k0:=r1.free 0;have k1:=r1.free 1;have k2:=r1.free 2;have k3:=r1.free 3;obtain⟨x0,x1,x2,x3⟩:=r2.c4;have y0:=r2.free 0;have y1:=r2.free 1;have y2:=r2.free 2;have y3:=r2.free 3;clear r1 r2;refine aK 9 (by kernel_rfl) rfl (by rfl) fun K hK=>?_
   go_simp;have s4:=Scope.au Sd.out 0 (J 1);have rb:=s4.row (k:=B) 0 rfl;refine hK _ _ ⟨fun _=>⟨rb.cell rfl,rb.cell rfl⟩,?_⟩;clear hK K h0;have h0:=And.intro (rb.cell (j:=2) rfl) (rb.cell (j:=3) rfl)
   try simp only[Act.put,ag,ah,aj,aF,aB,aC]
   refine dB [10] ?_
   repeat (refine aN _ rfl (by kernel_rfl) (fun _ _ _ h=>h) h0 (fun w' hS=>by(try simp only[ag,ah,aj]);go_simp;try with_reducible rfl) ?_;try simp only[Act.put,ag,ah,aj,aF,aB,aC])
   refine bM ?_;refine aK 11 (by kernel_rfl) rfl (by rfl) fun K hK=>?_
   go_simp;have s5:=Scope.au s4 2 (J (1+y));have rb:=s5.row (k:=B) 0 rfl;refine hK _ _ ⟨fun _=>⟨rb.cell rfl,rb.cell rfl⟩,?_⟩;clear hK K h0;have h0:=And.intro (rb.cell (j:=2) rfl) (rb.cell (j:=3) rfl)
   try simp only[Act.put,ag,ah,aj,aF,aB,aC]
   refine dB [12] ?_
   repeat (refine aN _ rfl (by kernel_rfl) (fun _ _ _ h=>h) h0 (fun w' hS=>by(try simp only[ag,ah,aj]);go_simp;try with_reducible rfl) ?_;try simp only[Act.put,ag,ah,aj,aF,aB,aC])
   refine bM ?_;refine aK 13 (by kernel_rfl) rfl (by rfl) fun K hK=>?_
   go_simp;have s6:=Scope.au s5 3 (J (1+v));have rb:=s6.row (k:=B) 0 rfl;refine hK _ _ ⟨fun _=>⟨rb.cell rfl,rb.cell rfl⟩,?_⟩;clear hK K h0;have h0:=And.intro (rb.cell (j:=2) rfl) (rb.cell (j:=3) rfl)
   try simp only[Act.put,ag,ah,aj,aF,aB,aC]
   refine dB [] (bH (by kernel_rfl) ?_);refine wpAny_done (by kernel_rfl) ?_ _;clear h0 rb
   go_wp2
   have qs:=FI (B:=B+1) (J (1)) (J (g)) (J (1+y)) (J (1+v)) (As:=[box B [J o,J f,J a,J b] 49]) s6;have rq:=qs.row (k:=B+1) 1 rfl;refine bodyPost_ret (results_cell_row rfl _ _ (B+1) 49 #[J (1),J (g),J (1+y),J (1+v)] (0,0) _ rfl rq underlying49 rfl (by kernel_rfl)) rfl ?_
   exact⟨⟨⟨1,g,1+y,1+v⟩,.of (by omega) (by have:=HF.out;omega) (by have:=MA.out;omega) (by have:=MB.out;omega),rfl⟩,qs.1⟩
  ·have e2:2≤k∧k≤5:=by have:=K0.out;omega
   have ma:=mod_lt a (n:=9) (by omega);have mb:=mod_lt b (n:=1000) (by omega);obtain⟨y,hy⟩:∃ y,mod a 9=y:=⟨_,rfl⟩
   obtain⟨v,hv⟩:∃ v,mod b 1000=v:=⟨_,rfl⟩
   rw[hy]at ma;rw[hv]at mb;have wy:IntKind.i64.wrap (1+y)=1+y:=by rw[IntKind.wrap_i64];omega
   have MA:=zd ma;have MB:=zd mb;have HY:=zd hy;have HV:=zd hv;clear ma mb hy hv
   go_wp2_with fail
   clear c0 c1 c2 c3 z0 z1 z2 z3 k0 k1 k2 k3 x0 x1 x2 x3 y0 y1 y2 y3;refine aP (by kernel_rfl) ?_;have sd:=S3.out.drew;generalize W.drew=V at sd ⊢
   have rb:=sd.row (k:=B) 0 rfl;have h0:At V B 2 (J a)∧At V B 3 (J b):=⟨rb.cell rfl,rb.cell rfl⟩
   have Sd:=zd sd;clear sd rb;refine aY [0,4,7] ?_
   repeat (refine ay _ rfl (by kernel_rfl) (fun _ _ _ h=>h) (fun w'=>by(try simp only[ag,ah,aj]);go_simp;try with_reducible rfl) ?_;try simp only[Act.put,ag,ah,aj,aF,aB,aC])
   refine aH ?_;refine cu (fun w'=>At w' B 2 (J a)∧At w' B 3 (J b)) [1,5,2,3,6,8,9,10,11,12] [1,5] ?_
   repeat (refine aN _ rfl (by kernel_rfl) (fun _ _ _ h=>h) h0 (fun w' hS=>by(try dsimp only at hS);(try simp only[ag,ah,aj]);go_simp;try with_reducible rfl) ?_;try simp only[Act.put,ag,ah,aj,aF,aB,aC])
   refine bM ?_;refine aK 2 (by kernel_rfl) rfl (by rfl) fun K hK=>?_
   go_simp;refine(gW (v:=a) (n:=9) (by omega) (by omega) _).mono ?_
   rintro e w1 ⟨rfl,rfl⟩
   refine hK _ _ ⟨fun _=>h0,?_⟩;clear hK K
   try simp only[Act.put,ag,ah,aj,aF,aB,aC]
   rw[HY.out];refine dB [3] ?_
   repeat (refine aN _ rfl (by kernel_rfl) (fun _ _ _ h=>h) h0 (fun w' hS=>by(try simp only[ag,ah,aj]);go_simp;try with_reducible rfl) ?_;try simp only[Act.put,ag,ah,aj,aF,aB,aC])
   refine bM ?_;refine aK 6 (by kernel_rfl) rfl (by rfl) fun K hK=>?_
   go_simp;refine(gW (v:=b) (n:=1000) (by omega) (by omega) _).mono ?_
   rintro e w1 ⟨rfl,rfl⟩
   refine hK _ _ ⟨fun _=>h0,?_⟩;clear hK K
   try simp only[Act.put,ag,ah,aj,aF,aB,aC]
   rw[HV.out];have r1:=Sd.out.row (k:=B+1) 1 rfl;have r2:=Sd.out.row (k:=B+2) 2 rfl;obtain⟨z0,z1,z2,z3⟩:=r1.c4;have k0:=r1.free 0;have k1:=r1.free 1;have k2:=r1.free 2;have k3:=r1.free 3;obtain⟨x0,x1,x2,x3⟩:=r2.c4;have y0:=r2.free 0;have y1:=r2.free 1;have y2:=r2.free 2;have y3:=r2.free 3;clear r1 r2;refine aK 8 (by kernel_rfl) rfl (by rfl) fun K hK=>?_
   go_simp;have s4:=Scope.au Sd.out 0 (J 3);have rb:=s4.row (k:=B) 0 rfl;refine hK _ _ ⟨fun _=>⟨rb.cell rfl,rb.cell rfl⟩,?_⟩;clear hK K h0;have h0:=And.intro (rb.cell (j:=2) rfl) (rb.cell (j:=3) rfl)
   try simp only[Act.put,ag,ah,aj,aF,aB,aC]
   refine dB [9] ?_
   repeat (refine aN _ rfl (by kernel_rfl) (fun _ _ _ h=>h) h0 (fun w' hS=>by(try simp only[ag,ah,aj]);go_simp;try with_reducible rfl) ?_;try simp only[Act.put,ag,ah,aj,aF,aB,aC])
   refine bM ?_;refine aK 10 (by kernel_rfl) rfl (by rfl) fun K hK=>?_
   go_simp;have s5:=Scope.au s4 2 (J (1+y));have rb:=s5.row (k:=B) 0 rfl;refine hK _ _ ⟨fun _=>⟨rb.cell rfl,rb.cell rfl⟩,?_⟩;clear hK K h0;have h0:=And.intro (rb.cell (j:=2) rfl) (rb.cell (j:=3) rfl)
   try simp only[Act.put,ag,ah,aj,aF,aB,aC]
   refine dB [11] ?_
   repeat (refine aN _ rfl (by kernel_rfl) (fun _ _ _ h=>h) h0 (fun w' hS=>by(try simp only[ag,ah,aj]);go_simp;try with_reducible rfl) ?_;try simp only[Act.put,ag,ah,aj,aF,aB,aC])
   refine bM ?_;refine aK 12 (by kernel_rfl) rfl (by rfl) fun K hK=>?_
   go_simp;have s6:=Scope.au s5 3 (J v);have rb:=s6.row (k:=B) 0 rfl;refine hK _ _ ⟨fun _=>⟨rb.cell rfl,rb.cell rfl⟩,?_⟩;clear hK K h0;have h0:=And.intro (rb.cell (j:=2) rfl) (rb.cell (j:=3) rfl)
   try simp only[Act.put,ag,ah,aj,aF,aB,aC]
   refine dB [] (bH (by kernel_rfl) ?_);refine wpAny_done (by kernel_rfl) ?_ _;clear h0 rb s4 s5;have s4:Scope [] w _ ([box B [J o,J f,J a,J b] 49,box (B+1) [J 0,J 0,J 0,J 0] 49]++([box (B+2) [J 3,J g,J (1+y),J v] 49]++[])):=s6;clear z0 z1 z2 z3 k0 k1 k2 k3 x0 x1 x2 x3 y0 y1 y2 y3;clear s6;generalize World.setCell (World.setCell (World.setCell _ _ _) _ _) _ _=X at s4 ⊢
   have r0:=s4.row (k:=B) 0 rfl;have r1:=s4.row (k:=B+1) 1 rfl;have r2:=s4.row (k:=B+2) 2 rfl;have c2:=r0.cell (j:=2) rfl;obtain⟨z0,z1,z2,z3⟩:=r1.c4;have k0:=r1.free 0;have k1:=r1.free 1;have k2:=r1.free 2;have k3:=r1.free 3;obtain⟨x0,x1,x2,x3⟩:=r2.c4;have y0:=r2.free 0;have y1:=r2.free 1;have y2:=r2.free 2;have y3:=r2.free 3;have S4:=zd s4;clear r0 r1 r2
   go_wp2_with fail
   refine(gW (v:=a) (n:=13) (by omega) (by omega) _).mono ?_
   rintro e w1 ⟨rfl,rfl⟩
   obtain⟨m,hm⟩:∃ m,mod a 13=m:=⟨_,rfl⟩
   rw[hm];clear hm
   by_cases e12:m=12
   ·subst e12
    have mw:=mod_lt a (n:=65536) (by omega);obtain⟨n,hn⟩:∃ n,mod a 65536=n:=⟨_,rfl⟩
    rw[hn]at mw;have wn:IntKind.i64.wrap (1+n)=1+n:=by rw[IntKind.wrap_i64];omega
    have MW:=zd mw;have HN:=zd hn;clear mw hn
    go_wp2_with fail
    refine(gW (v:=a) (n:=65536) (by omega) (by omega) _).mono ?_
    rintro e w1 ⟨rfl,rfl⟩
    rw[HN.out]
    go_wp2
    have s5:=Scope.au S4.out 2 (J (1+n));have qs:=FI (B:=B+1) (J (3)) (J (g)) (J (1+n)) (J (v)) (As:=[box B [J o,J f,J a,J b] 49]) s5;have rq:=qs.row (k:=B+1) 1 rfl;refine bodyPost_ret (results_cell_row rfl _ _ (B+1) 49 #[J (3),J (g),J (1+n),J (v)] (0,0) _ rfl rq underlying49 rfl (by kernel_rfl)) rfl ?_
    exact⟨⟨⟨3,g,1+n,v⟩,.of (by omega) (by have:=HF.out;omega) (by have:=MW.out;omega) (by have:=MB.out;omega),rfl⟩,qs.1⟩
   ·go_wp2
    have qs:=FI (B:=B+1) (J (3)) (J (g)) (J (1+y)) (J (v)) (As:=[box B [J o,J f,J a,J b] 49]) S4.out;have rq:=qs.row (k:=B+1) 1 rfl;refine bodyPost_ret (results_cell_row rfl _ _ (B+1) 49 #[J (3),J (g),J (1+y),J (v)] (0,0) _ rfl rq underlying49 rfl (by kernel_rfl)) rfl ?_
    exact⟨⟨⟨3,g,1+y,v⟩,.of (by omega) (by have:=HF.out;omega) (by have:=MA.out;omega) (by have:=MB.out;omega),rfl⟩,qs.1⟩
end
end Go.Proofs.YtjnbbmgbmiggbaaGreatDoor
