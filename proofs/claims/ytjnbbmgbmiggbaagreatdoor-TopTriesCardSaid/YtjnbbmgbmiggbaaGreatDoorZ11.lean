/- Lemmas for TopTries' card: package parts; package enq, first part. -/
import Derived.Test.YtjnbbmgbmiggbaaGreatDoorZ10
set_option linter.unusedSimpArgs false
set_option linter.unusedVariables false
set_option maxRecDepth 20000
set_option maxHeartbeats 4000000
namespace Go.Proofs.YtjnbbmgbmiggbaaGreatDoor
open Go Go.RowKit Go.Maps Go.Proofs.Tryz
theorem Scope.sV {S:List Nat} {w0 w:World} {L:List HA} {X:HA} {Bs:List HA} (h:Scope S w0 w (aG L::X::Bs)):Scope S w0 w (aG (L++[X])::Bs):=by
 have h1:Scope S w0 w (L++(X::Bs)):=Scope.gU h
 exact Scope.shut1 (As:=L++[X]) (by simpa using h1)
theorem lG {α β γ:Type} (f:α→β→γ):∀ (l:List α) (l':List β) (a:α) (b:β),l.length=l'.length→List.zipWith f (l++[a]) (l'++[b])=List.zipWith f l l'++[f a b]
 | [],[],_,_,_=>rfl
 | [],_::_,_,_,h=>by simp at h
 |_::_,[],_,_,h=>by simp at h
 |x::l,y::l',a,b,h=>by simp only[List.cons_append,List.zipWith_cons_cons];rw[lG f l l' a b (by simpa using h)]
theorem Scope.IV {S:List Nat} {w0 w:World} {V N M P I T O K W B:HA} {L:List HA} {R Bs Ls:List HA} (h:Scope S w0 w (V::N::M::P::I::T::O::K::W::B::aG L::(R++(Bs++Ls)))):
  Scope S w0 w (M::P::I::T::O::K::W::B::V::aG (L++[N])::(R++Bs)):=by
 have h1:Scope S w0 w (aG L::N::V::M::P::I::T::O::K::W::B::(R++(Bs++Ls))):=((h.front 1 rfl).front 10 rfl)
 have h2:=h1.sV;have h3:Scope S w0 w (([V,aG (L++[N])]++[M,P,I,T,O,K,W,B])++(R++(Bs++Ls))):=h2.perm (List.Perm.swap _ _ _);have h4:Scope S w0 w (([M,P,I,T,O,K,W,B]++[V,aG (L++[N])])++(R++(Bs++Ls))):=h3.perm ((List.perm_append_comm (l₁:=[V,aG (L++[N])])).append_right _);rw[←List.append_assoc R Bs Ls]at h4;have h5:Scope S w0 w ((M::P::I::T::O::K::W::B::V::aG (L++[N])::(R++Bs))++Ls):=h4
 exact h5.drop
def PS.note (s:PS) (step who:Int) (r:Rt):PS:={ s with pt:=s.pt++[⟨step,who,s.pl who,r⟩] }
theorem Scope.NK {A:PA} {rs:List Nat} {s:PS} {S:List Nat} {w0 w:World} {Bs Ls:List HA} {c:Gh} (hF:Uj rs s c) {vp nv:Value} {n:Nat} (hn:n=s.pt.length) {step who pl:Int} {r:Rt} (hpl:pl=s.pl who)
  (h:Scope S w0 w (aU vp 114 7 (n+1) (recs gG (List.zip s.pt c.sv)++[J step,J who,J pl,J r.e,nv,J r.n,Ju r.v])::aU nv 64 3 r.pk.length (iU r.pk)::bF A.m s.σ::
   rZ A ⟨c.vo,vp,c.sv++[nv]⟩::OI A s.nx::LP A::LD A s.kc s.jr::eP A.co A.wd s.k::jT A.mp s.pl::vM c rs s.ob::aG (jW s.pt c.sv)::(rings A.m rs s.ob++(Bs++Ls)))):
  Scope S w0 w (ae A rs (s.note step who r)::Bs):=by
 have h1:=h.IV;obtain⟨x,hx⟩:∃ x:Pt,x=⟨step,who,s.pl who,r⟩:=⟨_,rfl⟩
 have e1:jW s.pt c.sv++[aU nv 64 3 r.pk.length (iU r.pk)]=jW (s.pt++[x]) (c.sv++[nv]):=by
  unfold jW;rw[lG _ _ _ _ _ hF.sv.symm,hx]
 have e2:recs gG (List.zip s.pt c.sv)++[J step,J who,J pl,J r.e,nv,J r.n,Ju r.v]=recs gG (List.zip (s.pt++[x]) (c.sv++[nv])):=by
  unfold List.zip;rw[lG _ _ _ _ _ hF.sv.symm,l7,hx,hpl]
  rfl
 have e3:n+1=(s.pt++[x]).length:=by rw[hn];simp
 rw[e1,e2,e3]at h1;have en:s.note step who r={ s with pt:=s.pt++[x] }:=by unfold PS.note;rw[hx]
 rw[en]
 exact Scope.gJ (rs:=rs) (s:={ s with pt:=s.pt++[x] }) (c:=⟨c.vo,vp,c.sv++[nv]⟩) ⟨hF.rs,by simp[hF.sv]⟩ h1
theorem at_end (X:HA) (M:HA) (T Bs Cs:List HA):(M::(T++(Bs++(X::Cs))))[T.length+Bs.length+1]? =some X:=by
 rw[List.getElem?_cons_succ,List.getElem?_append_right (by omega),List.getElem?_append_right (by omega)]
 simp
section
variable {A:PA} {rs:List Nat} {s:PS} {S:List Nat} {w0 w:World} {Bs:List HA}
theorem qR (step who:Int) (r:Rt) (sv:Value) (hw:I64 who) (hn:s.pt.length<100000) (h:Scope S w0 w (ae A rs s::Bs)) (hsafe:∀ w',Scope S w0 w' Bs→vk w' sv r.pk) (hf:lJ r.pk):
  Calls prog 161 #[ptr A.P,J step,J who,r.val sv] w fun e w'=>e=.returned (.tuple #[])∧Scope S w0 w' (ae A rs (s.note step who r)::Bs):=by
 obtain⟨c,hF,s1⟩:=h.dH;obtain⟨i1,hi1⟩:=Option.isSome_iff_exists.1 (show(prog.info? 114).isSome=true by kernel_rfl);obtain⟨hx0,hx1,hx2⟩:=lF 114 hi1 (z:=.agg #[J 0,J 0,J 0,J 0,nS,J 0,Ju 0]) (s:=7) (b:=72) (by kernel_rfl) (by kernel_rfl) (by kernel_rfl);have hpv:∃ oa cap,c.vp=.slice oa s.pt.length cap:=by
  have h1:Scope S w0 w (yG c s.pt::_):=s1.front 8 rfl;obtain⟨oa,cap,hv,_⟩:=h1.jh
  exact⟨oa,cap,hv⟩
 obtain⟨oa,cap,hvp⟩:=hpv;obtain⟨n,hnn⟩:∃ n,n=s.pt.length:=⟨_,rfl⟩
 rw[←hnn]at hvp hn;obtain⟨osv,csv,hsv⟩:=(hsafe w (s1.drop_left (As:=bF A.m s.σ::eX A rs s c))).form;obtain⟨np,hnp⟩:∃ np,np=r.pk.length:=⟨_,rfl⟩
 rw[←hnp]at hsv;obtain⟨B,hB⟩:∃ B,B=w.heap.size:=⟨_,rfl⟩
 obtain⟨W,hW⟩:∃ W,W=w.alloc (.cells #[J r.e,sv,J r.n,Ju r.v] 60):=⟨_,rfl⟩
 have s2:=s1.box [J r.e,sv,J r.n,Ju r.v] 60;rw[←hB,show w.alloc (.cells [J r.e,sv,J r.n,Ju r.v].toArray 60)=W from hW.symm]at s2;have s3:Scope S w0 W (bF A.m s.σ::(eX A rs s c++(Bs++[box B [J r.e,sv,J r.n,Ju r.v] 60]))):=by simpa using s2
 obtain⟨kx,hkx⟩:=qy hw;have hzI:∀ w,(zeroValue 3).run prog w=.ok (J 0) w:=fun _=>by kernel_rfl
 obtain⟨pl,hpl⟩:∃ pl,pl=s.pl who:=⟨_,rfl⟩
 have run:∀ (w':World) (As:List HA) (i:Nat),Scope S w0 w' As→As[i]? =some (jT A.mp s.pl)→(Instr.lookup 73 (.map (some A.mp)) (J who) false).run prog w'=.ok (J pl) w':=fun w' As i s h1=>by
  obtain⟨fo,⟨⟨f,hmf,hof⟩,_⟩,_⟩:=s.get i h1;have hrun:=hmf.lookup (t:=73) nV underlying73 (hzI w') hkx;rw[hof who, ←hpl]at hrun
  exact hrun
 have S3:=zd s3.drew;have HF:=zd hF;have HB:=zd hB;have HW:=zd hW;have Hvp:=zd hvp;have Hsafe:=zd hsafe;have Hnn:=zd hnn;have Hnp:=zd hnp;have Hpl:=zd hpl;have Run:=zd run;clear h s1 s2 s3 hF hB hW hsafe run hkx hzI hpl hnn hnp;subst hsv
 go_enter func161,ntmps161
 go_wp2_with fail
 rw[←HB.out,show w.alloc (.cells #[J r.e,.slice osv np csv,J r.n,Ju r.v] 60)=W from HW.out.symm];refine aP (by kernel_rfl) ?_;have sd:=S3.out;generalize W.drew=V at sd ⊢
 have facts:∀ (w':World) (Cs:List HA),Scope S w0 w' (bF A.m s.σ::(eX A rs s c++(Bs++(box B [J r.e,.slice osv np csv,J r.n,Ju r.v] 60::Cs))))→
   At w' A.P 12 (.slice oa n cap)∧At w' A.P 11 (.map (some A.mp))∧(Instr.lookup 73 (.map (some A.mp)) (J who) false).run prog w'=.ok (J pl) w'∧At w' B 0 (J r.e)∧At w' B 1 (.slice osv np csv)∧At w' B 2 (J r.n)∧At w' B 3 (Ju r.v):=fun w' Cs s1=>by
  have rB:=s1.row (k:=B) _ (at_end _ _ _ _ _);have rP:=s1.row (k:=A.P) 1 rfl
  exact⟨by rw[←Hvp.out];exact rP.cell rfl,rP.cell rfl,Run.out w' _ 6 s1 rfl,rB.cell rfl,rB.cell rfl,rB.cell rfl,rB.cell rfl⟩
 have h0:=facts V [] sd;have Facts:=zd facts;have Sd:=zd sd;clear facts sd S3;refine aY [0,1,5,6,7,11] ?_
 repeat (refine ay _ rfl (by kernel_rfl) (fun _ _ _ h=>h) (fun w'=>by(try simp only[ag,ah,aj]);go_simp;try with_reducible rfl) ?_;try simp only[Act.put,ag,ah,aj,aF,aB,aC])
 refine aH ?_;refine bu (S:=fun w'=>At w' A.P 12 (.slice oa n cap)∧At w' A.P 11 (.map (some A.mp))∧(Instr.lookup 73 (.map (some A.mp)) (J who) false).run prog w'=.ok (J pl) w'∧At w' B 0 (J r.e)∧At w' B 1 (.slice osv np csv)∧At w' B 2 (J r.n)∧At w' B 3 (Ju r.v)) (U:=[2,3,4,8,9,10,12,13,14,15,16]) _ _ _ _ ?_;refine dB [2,3,4,8,9,10,12,13] ?_
 repeat (refine aN _ rfl (by kernel_rfl) (fun _ _ _ h=>h) h0 (fun w' hS=>by(try dsimp only at hS);(try simp only[ag,ah,aj]);go_simp;try with_reducible rfl) ?_;try simp only[Act.put,ag,ah,aj,aF,aB,aC])
 refine bM ?_;refine aK 14 (by kernel_rfl) rfl (by rfl) fun K hK=>?_
 go_simp;have hpk:vk V (.slice osv np csv) r.pk:=Hsafe.out V ((Sd.out.drop_left (As:=bF A.m s.σ::eX A rs s c)).drop);refine(zx Sd.out hpk hf).mono ?_
 rintro e w1 ⟨ob,cq,rfl,s5⟩
 have h1:=Facts.out w1 [] (s5.drop_left (As:=[aU (.slice ob r.pk.length cq) 64 3 r.pk.length (iU r.pk)]));refine hK _ _ ⟨fun _=>h1,?_⟩;have s6:Scope S w0 (w1.alloc (.cells ([J step,J who,J pl,J r.e,(.slice ob r.pk.length cq),J r.n,Ju r.v]:List Value).toArray 114)) (aU (.slice ob r.pk.length cq) 64 3 r.pk.length (iU r.pk)::bF A.m s.σ::(eX A rs s c++(Bs++[box B [J r.e,.slice osv np csv,J r.n,Ju r.v] 60,box w1.heap.size [J step,J who,J pl,J r.e,(.slice ob r.pk.length cq),J r.n,Ju r.v] 114]))):=by simpa using s5.box [J step,J who,J pl,J r.e,(.slice ob r.pk.length cq),J r.n,Ju r.v] 114
 have h2:=Facts.out (w1.alloc (.cells #[J step,J who,J pl,J r.e,(.slice ob r.pk.length cq),J r.n,Ju r.v] 114)) [box w1.heap.size [J step,J who,J pl,J r.e,(.slice ob r.pk.length cq),J r.n,Ju r.v] 114] (s6.drop_left (As:=[aU (.slice ob r.pk.length cq) 64 3 r.pk.length (iU r.pk)]));have S6:=zd (s6.front 9 rfl);clear hK K h0 s5 s6 hpk Sd Facts
 try simp only[Act.put,ag,ah,aj,aF,aB,aC]
 refine aK 15 (by kernel_rfl) rfl (by rfl) fun K hK=>?_
 go_simp;refine hK _ _ ⟨fun _=>h1,?_⟩;clear hK K
 try simp only[Act.put,ag,ah,aj,aF,aB,aC]
 refine aK 16 (by kernel_rfl) rfl (by rfl) fun K hK=>?_
 go_simp;refine hK _ _ ⟨fun _=>h2,?_⟩;clear hK K h1 h2
 try simp only[Act.put,ag,ah,aj,aF,aB,aC]
 refine aX _ _ _ _ (fun j hj=>?_) ?_
 ·simp at hj;rcases hj with rfl|rfl|rfl|rfl|rfl|rfl|rfl|rfl|rfl|rfl|rfl<;>rfl
 refine af 17 (by kernel_rfl) rfl (by rfl) fun K hK=>?_
 refine wp_append_lies _ _ _ _ rfl 0 114 i1 _ 7 72 underlying74 hi1 hx0 hx1 hx2 rfl (by omega) (.slice oa n cap) n (recs gG (List.zip s.pt c.sv)) (by rfl) (by have:=S6.out.owns 0 rfl;rw[Hvp.out, ←Hnn.out]at this;exact this) ⟨w1.heap.size,0,none⟩ 1 1 [J step,J who,J pl,J r.e,(.slice ob r.pk.length cq),J r.n,Ju r.v] (by rfl) (by rfl) (World.news_of_block (cs:=#[J step,J who,J pl,J r.e,(.slice ob r.pk.length cq),J r.n,Ju r.v]) (t:=114) (fr:=(0,0)) (heap_alloc_new w1 _)) (by simp[Value.oneCell'])
    (by omega) (by unfold maxLen;omega) (by omega) (by omega) (w1.heap.size+1) (by simp) ?_
 intro gg cap' w4 own gro hat hlt
 refine hK _ _ ?_;have s7:=Scope.appends (by have:=S6.out;rw[show yG c s.pt=aU (.slice oa n cap) 114 7 n (recs gG (List.zip s.pt c.sv)) by show aU c.vp _ _ _ _=_;rw[Hvp.out,Hnn.out]]at this;exact this) own gro (hat.imp id (fun h=>h.trans (by simp)));have s7:Scope S w0 w4 ([aU (.slice (some ⟨gg,0,none⟩) (n+1) cap') 114 7 (n+1) (recs gG (List.zip s.pt c.sv)++[J step,J who,J pl,J r.e,(.slice ob r.pk.length cq),J r.n,Ju r.v]),aU (.slice ob r.pk.length cq) 64 3 r.pk.length (iU r.pk),bF A.m s.σ]++([rZ A c]++([OI A s.nx,LP A,LD A s.kc s.jr,eP A.co A.wd s.k,jT A.mp s.pl,vM c rs s.ob,aG (jW s.pt c.sv)]++(rings A.m rs s.ob++(Bs++[box B [J r.e,.slice osv np csv,J r.n,Ju r.v] 60,box w1.heap.size [J step,J who,J pl,J r.e,(.slice ob r.pk.length cq),J r.n,Ju r.v] 114]))))):=s7;have rP:=s7.row (k:=A.P) 3 rfl;have e12:=rP.cell (j:=12) rfl;have f12:=rP.free 12;have S7:=zd s7;clear hK K own gro hat hlt S6 s7 rP
 try simp only[Act.put,ag,ah,aj,aF,aB,aC]
 refine aY [18,19] ?_
 repeat (refine ay _ rfl (by kernel_rfl) (fun _ _ _ h=>h) (fun w'=>by(try simp only[ag,ah,aj]);go_simp;try with_reducible rfl) ?_;try simp only[Act.put,ag,ah,aj,aF,aB,aC])
 refine aH ?_;refine af 20 (by kernel_rfl) rfl (by rfl) fun K hK=>?_
 go_simp;refine hK _ _ ?_;clear hK K
 try simp only[Act.put,ag,ah,aj,aF,aB,aC]
 refine wpAny_done (by kernel_rfl) ?_ _;clear e12 f12;have t7:=Scope.au S7.out 12 (.slice (some ⟨gg,0,none⟩) (n+1) cap');have T14:=zd (Scope.NK HF.out (step:=step) (who:=who) (r:=r) Hnn.out Hpl.out t7);clear t7 S7
 go_wp2
 go_end0
 exact⟨rfl,T14.out⟩
end
theorem Scope.GZ {S:List Nat} {w0 w:World} {V M P I T O K W Y Z b1 r1 g1 b2:HA} {R Bs:List HA} (h:Scope S w0 w (V::M::P::I::T::O::K::W::Y::Z::(R++(Bs++[b1,r1,g1,b2])))):
  Scope S w0 w (aG [r1,g1]::V::M::P::I::T::O::K::W::Y::Z::(R++Bs)):=by
 rw[←List.append_assoc R Bs _]at h;have h0:Scope S w0 w ((V::M::P::I::T::O::K::W::Y::Z::(R++Bs))++[b1,r1,g1,b2]):=h;have h1:Scope S w0 w ([b1,r1,g1,b2]++(V::M::P::I::T::O::K::W::Y::Z::(R++Bs))):=h0.perm List.perm_append_comm;have h2:Scope S w0 w ([r1,g1]++([b1,b2]++(V::M::P::I::T::O::K::W::Y::Z::(R++Bs)))):=(h1.front 2 rfl).front 2 rfl;have h3:=Scope.shut1 (As:=[r1,g1]) h2;have h4:Scope S w0 w ([b1,b2]++(aG [r1,g1]::V::M::P::I::T::O::K::W::Y::Z::(R++Bs))):=(h3.front 2 rfl).front 2 rfl
 exact h4.drop_left
theorem Scope.DF {S:List Nat} {w0 w:World} {X V M P I T O K W Y Z:HA} {R Bs:List HA} (h:Scope S w0 w (X::V::M::P::I::T::O::K::W::Y::Z::(R++Bs))):
  Scope S w0 w (M::P::I::T::O::K::W::V::Y::Z::((R++[X])++Bs)):=by
 have h1:Scope S w0 w (([V,M,P,I,T,O,K,W,Y,Z]++R)++(X::Bs)):=Scope.perm (As:=X::(([V,M,P,I,T,O,K,W,Y,Z]++R)++Bs)) h List.perm_middle.symm;have h2:Scope S w0 w (([V]++[M,P,I,T,O,K,W])++(Y::Z::(R++(X::Bs)))):=by simpa using h1
 have h3:Scope S w0 w (([M,P,I,T,O,K,W]++[V])++(Y::Z::(R++(X::Bs)))):=h2.perm (List.perm_append_comm.append_right _)
 simpa using h3
def PS.make (s:PS) (who:Int) (o:Ob):PS:={ s with σ:=s.σ.put who 6 (o8 s.ob.length),ob:=s.ob++[⟨o,zeros (vZ o.most)⟩] }
theorem Gz (m:Nat) {rs:List Nat} {ob:List mO} (h:rs.length=ob.length) (q:Nat) (x:mO):rings m (rs++[q]) (ob++[x])=rings m rs ob++[uy q m (ob.length:Nat) x.cs]:=by
 unfold rings;rw[List.zipIdx_append];simp only[List.zipIdx_cons,List.zipIdx_nil,Nat.zero_add];rw[lG _ _ _ _ _ (by simpa using h),h]
theorem Scope.OE {A:PA} {rs:List Nat} {s:PS} {S:List Nat} {w0 w:World} {Bs:List HA} {c:Gh} (hF:Uj rs s c) {vo:Value} {who:Int} {o:Ob} {q g:Nat} {b1 b2:HA}
  (h:Scope S w0 w (aU vo 261 4 (s.ob.length+1) (recs ql (List.zip s.ob rs)++[J o.flow,J o.most,Ju o.r,ptr q])::bF A.m (s.σ.put who 6 (o8 s.ob.length))::
   rZ A ⟨vo,c.vp,c.sv⟩::OI A s.nx::LP A::LD A s.kc s.jr::eP A.co A.wd s.k::jT A.mp s.pl::yG c s.pt::aG (jW s.pt c.sv)::(rings A.m rs s.ob++(Bs++[b1,rb q A.m (s.ob.length:Nat) g (vZ o.most),gb g (zeros (vZ o.most)),b2])))):
  Scope S w0 w (ae A (rs++[q]) (s.make who o)::Bs):=by
 have h1:=h.GZ;obtain⟨x,hx⟩:∃ x:mO,x=⟨o,zeros (vZ o.most)⟩:=⟨_,rfl⟩
 have hz:(zeros (vZ o.most)).length=vZ o.most:=by simp[zeros]
 have h2:Scope S w0 w (uy q A.m (s.ob.length:Nat) x.cs::_):=Scope.tX (F:=fun g=>aG [rb q A.m (s.ob.length:Nat) g x.cs.length,gb g x.cs]) g (by rw[hx];simp only;rw[hz];exact h1);have h3:=h2.DF;have e2:recs ql (List.zip s.ob rs)++[J o.flow,J o.most,Ju o.r,ptr q]=recs ql (List.zip (s.ob++[x]) (rs++[q])):=by
  unfold List.zip;rw[lG _ _ _ _ _ hF.rs.symm,l7,hx]
  rfl
 have e3:s.ob.length+1=(s.ob++[x]).length:=by simp
 rw[e2,e3, ←Gz A.m hF.rs]at h3;have en:s.make who o={ s with σ:=s.σ.put who 6 (o8 s.ob.length),ob:=s.ob++[x] }:=by unfold PS.make;rw[hx]
 rw[en]
 exact Scope.gJ (rs:=rs++[q]) (s:={ s with σ:=s.σ.put who 6 (o8 s.ob.length),ob:=s.ob++[x] }) (c:=⟨vo,c.vp,c.sv⟩) ⟨by simp[hF.rs],hF.sv⟩ h3
section
variable {A:PA} {rs:List Nat} {s:PS} {S:List Nat} {w0 w:World} {Bs:List HA}
theorem EY (who:Int) (o:Ob) (hn:s.ob.length<100000) (hl:s.σ.log.length≤1000000) (h:Scope S w0 w (ae A rs s::Bs)):
  Calls prog 199 #[ptr A.P,J who,TR o] w fun e w'=>e=.returned (J s.ob.length)∧∃ q,Scope S w0 w' (ae A (rs++[q]) (s.make who o)::Bs):=by
 obtain⟨i1,hi1⟩:=Option.isSome_iff_exists.1 (show(prog.info? 261).isSome=true by kernel_rfl);obtain⟨hx0,hx1,hx2⟩:=lF 261 hi1 (z:=.agg #[J 0,J 0,Ju 0,.pointer none]) (s:=4) (b:=32) (by kernel_rfl) (by kernel_rfl) (by kernel_rfl);obtain⟨of,om,ou⟩:=o;obtain⟨B,hB⟩:∃ B,B=w.heap.size:=⟨_,rfl⟩
 obtain⟨n,hnn⟩:∃ n,n=s.ob.length:=⟨_,rfl⟩
 obtain⟨c0,hF0,s1⟩:=h.dH;obtain⟨oa0,cap0,_,k10⟩:=s1.UE;have k0:=(h.bT 0 rfl).m;have lp:=(h.bT 0 rfl).lt;rw[←hnn]at k10 hn;have s2:=h.box [J of,J om,Ju ou] 246;rw[←hB]at s2;rw[←hnn];have H:=zd s2;have HB:=zd hB;have Hnn:=zd hnn;clear h s1 s2 hB hnn hF0
 go_enter func199,ntmps199
 go_wp2_with fail
 rw[←HB.out];refine((wX hl who (o8 (n:Nat))).at0 H.out).mono ?_
 rintro e w1 ⟨rfl,s3⟩
 clear k0 k10 lp H;obtain⟨c,hF,s4⟩:=Scope.dH s3;obtain⟨oa,cap,hvo,k10⟩:=s4.UE;rw[show({ s with σ:=s.σ.put who 6 (o8 (n:Nat)) }:PS).ob.length=n from Hnn.out.symm]at hvo k10;have s5:Scope S w0 w1 (bF A.m (s.σ.put who 6 (o8 (n:Nat)))::(eX A rs s c++(Bs++[box B [J of,J om,Ju ou] 246]))):=s4;have facts:∀ (w':World) (Cs:List HA),Scope S w0 w' (bF A.m (s.σ.put who 6 (o8 (n:Nat)))::(eX A rs s c++(Bs++(box B [J of,J om,Ju ou] 246::Cs))))→
   At w' A.P 10 (.slice oa n cap)∧At w' A.P 0 (ptr A.m)∧At w' B 0 (J of)∧At w' B 1 (J om)∧At w' B 2 (Ju ou):=fun w' Cs s1=>by
  have rB:=s1.row (k:=B) _ (at_end _ _ _ _ _);have rP:=s1.row (k:=A.P) 1 rfl
  exact⟨by rw[←hvo];exact rP.cell rfl,rP.cell rfl,rB.cell rfl,rB.cell rfl,rB.cell rfl⟩
 have Facts:=zd facts;have S5:=zd s5.drew;have HF:=zd hF;have Hvo:=zd hvo;clear facts s3 s4 s5 hF hvo k10
 go_wp2_with fail
 refine aP (by kernel_rfl) ?_;have sd:=S5.out;generalize w1.drew=V at sd ⊢
 have h0:=Facts.out V [] sd;have Sd:=zd sd;clear sd S5;refine aY [0,1,6,10,11] ?_
 repeat (refine ay _ rfl (by kernel_rfl) (fun _ _ _ h=>h) (fun w'=>by(try simp only[ag,ah,aj]);go_simp;try with_reducible rfl) ?_;try simp only[Act.put,ag,ah,aj,aF,aB,aC])
 refine aH ?_;refine bu (S:=fun w'=>At w' A.P 10 (.slice oa n cap)∧At w' A.P 0 (ptr A.m)∧At w' B 0 (J of)∧At w' B 1 (J om)∧At w' B 2 (Ju ou)) (U:=[2,3,4,5,7,8,9,12,13,14,15]) _ _ _ _ ?_;refine dB [2,3,4,5,7,8,9,12] ?_
 repeat (refine aN _ rfl (by kernel_rfl) (fun _ _ _ h=>h) h0 (fun w' hS=>by(try dsimp only at hS);(try simp only[ag,ah,aj]);go_simp;try with_reducible rfl) ?_;try simp only[Act.put,ag,ah,aj,aF,aB,aC])
 refine bM ?_;refine aK 13 (by kernel_rfl) rfl (by rfl) fun K hK=>?_
 go_simp;refine(G8 Sd.out A.m (n:Nat) om).mono ?_
 rintro e w2 ⟨q,g,rfl,s6⟩
 have s6:Scope S w0 w2 (bF A.m (s.σ.put who 6 (o8 (n:Nat)))::(eX A rs s c++(Bs++[box B [J of,J om,Ju ou] 246,rb q A.m (n:Nat) g (vZ om),gb g (zeros (vZ om))]))):=by simpa using s6
 have h1:=Facts.out w2 _ s6;refine hK _ _ ⟨fun _=>h1,?_⟩;have s7:Scope S w0 (w2.alloc (.cells ([J of,J om,Ju ou,ptr q]:List Value).toArray 261)) (bF A.m (s.σ.put who 6 (o8 (n:Nat)))::(eX A rs s c++(Bs++[box B [J of,J om,Ju ou] 246,rb q A.m (n:Nat) g (vZ om),gb g (zeros (vZ om)),box w2.heap.size [J of,J om,Ju ou,ptr q] 261]))):=by simpa using s6.box [J of,J om,Ju ou,ptr q] 261
 have h2:=Facts.out _ _ s7;have S7:=zd (s7.front 7 rfl);clear hK K h0 s6 s7 Sd Facts
 try simp only[Act.put,ag,ah,aj,aF,aB,aC]
 refine aK 14 (by kernel_rfl) rfl (by rfl) fun K hK=>?_
 go_simp;refine hK _ _ ⟨fun _=>h1,?_⟩;clear hK K
 try simp only[Act.put,ag,ah,aj,aF,aB,aC]
 refine aK 15 (by kernel_rfl) rfl (by rfl) fun K hK=>?_
 go_simp;refine hK _ _ ⟨fun _=>h2,?_⟩;clear hK K h1 h2
 try simp only[Act.put,ag,ah,aj,aF,aB,aC]
 refine aX _ _ _ _ (fun j hj=>?_) ?_
 ·simp at hj;rcases hj with rfl|rfl|rfl|rfl|rfl|rfl|rfl|rfl|rfl|rfl|rfl<;>rfl
 refine af 16 (by kernel_rfl) rfl (by rfl) fun K hK=>?_
 refine wp_append_lies _ _ _ _ rfl 0 261 i1 _ 4 32 underlying72 hi1 hx0 hx1 hx2 rfl (by omega) (.slice oa n cap) n (recs ql (List.zip s.ob rs)) (by rfl) (by have:=S7.out.owns 0 rfl;rw[Hvo.out, ←Hnn.out]at this;exact this) ⟨w2.heap.size,0,none⟩ 1 1 [J of,J om,Ju ou,ptr q] (by rfl) (by rfl) (World.news_of_block (cs:=#[J of,J om,Ju ou,ptr q]) (t:=261) (fr:=(0,0)) (heap_alloc_new w2 _)) (by simp[Value.oneCell'])
    (by omega) (by unfold maxLen;omega) (by omega) (by omega) (w2.heap.size+1) (by simp) ?_
 intro gg cap' w4 own gro hat hlt
 refine hK _ _ ?_;have s8:=Scope.appends (by have:=S7.out;rw[show vM c rs s.ob=aU (.slice oa n cap) 261 4 n (recs ql (List.zip s.ob rs)) by show aU c.vo _ _ _ _=_;rw[Hvo.out,Hnn.out]]at this;exact this) own gro (hat.imp id (fun h=>h.trans (by simp)));have s8:Scope S w0 w4 ([aU (.slice (some ⟨gg,0,none⟩) (n+1) cap') 261 4 (n+1) (recs ql (List.zip s.ob rs)++[J of,J om,Ju ou,ptr q]),bF A.m (s.σ.put who 6 (o8 (n:Nat)))]++([rZ A c]++([OI A s.nx,LP A,LD A s.kc s.jr,eP A.co A.wd s.k,jT A.mp s.pl,yG c s.pt,aG (jW s.pt c.sv)]++(rings A.m rs s.ob++(Bs++[box B [J of,J om,Ju ou] 246,rb q A.m (n:Nat) g (vZ om),gb g (zeros (vZ om)),box w2.heap.size [J of,J om,Ju ou,ptr q] 261]))))):=s8;have rP:=s8.row (k:=A.P) 2 rfl;have e10:=rP.cell (j:=10) rfl;have f10:=rP.free 10;have S8:=zd s8;clear hK K own gro hat hlt S7 s8 rP
 try simp only[Act.put,ag,ah,aj,aF,aB,aC]
 refine aY [17,18] ?_
 repeat (refine ay _ rfl (by kernel_rfl) (fun _ _ _ h=>h) (fun w'=>by(try simp only[ag,ah,aj]);go_simp;try with_reducible rfl) ?_;try simp only[Act.put,ag,ah,aj,aF,aB,aC])
 refine aH ?_;refine af 19 (by kernel_rfl) rfl (by rfl) fun K hK=>?_
 go_simp;refine hK _ _ ?_;clear hK K
 try simp only[Act.put,ag,ah,aj,aF,aB,aC]
 refine wpAny_done (by kernel_rfl) ?_ _;clear e10 f10;have t7:=Scope.au S8.out 10 (.slice (some ⟨gg,0,none⟩) (n+1) cap');have nn:=Hnn.out;subst nn;have T14:=zd (Scope.OE (s:=s) ⟨HF.out.rs,HF.out.sv⟩ (who:=who) (o:=⟨of,om,ou⟩) t7);clear t7 S8
 go_wp2
 go_ret
 exact⟨rfl,q,T14.out⟩
end
section
variable {A:PA} {rs:List Nat} {s:PS} {S:List Nat} {w0 w:World} {L Bs:List HA} {σ:MS} {kc:List (Int×Cl)} {jr:List (Int×Rt)}
theorem Scope.Lp (h:Scope S w0 w (bF A.m σ::LD A kc jr::L)):Scope S w0 w (jS A.po A.m A.ba A.br A.wk σ kc jr::L):=by
 obtain⟨F,h1⟩:=Scope.xq (F:=fun F=>aG [Go.Proofs.YtjnbbmgbmiggbaaGreatDoor.box A.po [ptr A.m,J A.wk,.map (some A.ba),.map (some A.br)] 130,iE A.ba kc,ik A.br F jr]) (h.front 1 rfl);have h2:Scope S w0 w ([Go.Proofs.YtjnbbmgbmiggbaaGreatDoor.box A.po [ptr A.m,J A.wk,.map (some A.ba),.map (some A.br)] 130,iE A.ba kc,ik A.br F jr]++(bF A.m σ::L)):=Scope.gU h1;have h3:Scope S w0 w (fA A.po A.m A.ba A.br A.wk σ kc jr F++L):=h2.front 3 rfl
 exact Scope.tX (F:=fun F=>aG (fA A.po A.m A.ba A.br A.wk σ kc jr F)) F (Scope.shut1 h3)
theorem Scope.DY (h:Scope S w0 w (jS A.po A.m A.ba A.br A.wk σ kc jr::L)):Scope S w0 w (bF A.m σ::LD A kc jr::L):=by
 obtain⟨F,h1⟩:=Scope.xq (F:=fun F=>aG (fA A.po A.m A.ba A.br A.wk σ kc jr F)) h;have h2:Scope S w0 w (fA A.po A.m A.ba A.br A.wk σ kc jr F++L):=Scope.gU h1;have h3:Scope S w0 w ([Go.Proofs.YtjnbbmgbmiggbaaGreatDoor.box A.po [ptr A.m,J A.wk,.map (some A.ba),.map (some A.br)] 130,iE A.ba kc,ik A.br F jr]++(bF A.m σ::L)):=h2.perm ((List.perm_append_comm (l₁:=[bF A.m σ])).append_right L);have h4:=Scope.tX (F:=fun F=>aG [Go.Proofs.YtjnbbmgbmiggbaaGreatDoor.box A.po [ptr A.m,J A.wk,.map (some A.ba),.map (some A.br)] 130,iE A.ba kc,ik A.br F jr]) F (Scope.shut1 h3)
 exact h4.front 1 rfl
theorem y8 (who j:Int) (r:Rt) (sv:Value) (h:Scope S w0 w (ae A rs s::Bs)) (hj:I64 j) (hsafe:∀ w',Scope S w0 w' Bs→vk w' sv r.pk) (hf:lJ r.pk) (hl:s.σ.log.length≤1000000):
  Calls prog 244 #[ptr A.po,J who,J j,r.val sv] w fun e w'=>e=.returned (.tuple #[])∧Scope S w0 w' (ae A rs { s with σ:=s.σ.put who 6 (oH j),jr:=s.jr++[(j,r)] }::Bs):=by
 obtain⟨c,hF,s1⟩:=h.dH;have s2:Scope S w0 w (bF A.m s.σ::LD A s.kc s.jr::([rZ A c,OI A s.nx,LP A,eP A.co A.wd s.k,jT A.mp s.pl,vM c rs s.ob,yG c s.pt,aG (jW s.pt c.sv)]++(rings A.m rs s.ob++Bs))):=(s1.front 4 rfl).front 1 rfl;refine(zQ who j r sv s2.Lp hj (fun X w' hX=>hsafe w' ?_) hf hl).mono ?_
 ·exact(Scope.drop_left (As:=X::[rZ A c,OI A s.nx,LP A,eP A.co A.wd s.k,jT A.mp s.pl,vM c rs s.ob,yG c s.pt,aG (jW s.pt c.sv)]) hX).drop_left
 ·rintro e w' ⟨rfl,s3⟩
  have s4:=s3.DY;refine⟨rfl,Scope.gJ (rs:=rs) (s:={ s with σ:=s.σ.put who 6 (oH j),jr:=s.jr++[(j,r)] }) (c:=c) ⟨hF.rs,hF.sv⟩ ?_⟩
  exact s4.perm (List.Perm.cons _ ((List.perm_append_comm (l₁:=[LD A s.kc (s.jr++[(j,r)])]) (l₂:=[rZ A c,OI A s.nx,LP A])).append_right _))
end
theorem MF (a b:Int):a.tmod b % b=a % b:=by
 rw[Int.tmod_def,Int.sub_emod,Int.mul_emod_right,Int.sub_zero,Int.emod_emod]
theorem Uu (a:Int) {b:Int} (hb:0<b): -b<a.tmod b∧a.tmod b<b:=by
 refine⟨?_,Int.tmod_lt_of_pos a hb⟩
 by_cases h:a<0
 ·have h1:=Int.tmod_lt_of_pos (-a) hb
  rw[Int.neg_tmod]at h1
  omega
 ·have:=Int.tmod_nonneg b (Int.not_lt.1 h)
  omega
theorem Ru (a:Int) {b:Int} (hb:0<b):(a.tmod b+b) % b=a % b:=by
 rw[Int.add_emod_right,MF]
section
variable {p q m x n:Nat} {sh sl:Int} {σ:MS}
set_option maxHeartbeats 1000000 in
theorem Em (f:Int) (h1:1≤sh) (h4:sh≤4):Does prog [Dj p m sh sl σ] 67 #[ptr p,J f] (J (f % sh)) [Dj p m sh sl σ]:=Does.pack fun S w0 w h=>by
 have c1:At w p 1 (J sh):=(h.row 1 rfl).cell rfl;have H0:=zd h;obtain⟨b0,b1⟩:=Uu f (b:=sh) (by omega);have e:=Ru f (b:=sh) (by omega);have Ee:=zd e;clear h e
 go_enter func67,ntmps67
 go_wp2
 go_quiet (fail)
 go_wp2
 go_ret
 refine Ends.mk' (by rw[←Ee.out];rfl) [] ?_
 simpa using H0.out.quiet ((dE.refl _ _).drewN nq)
theorem FV:Does prog [Dj p m sh sl σ] 163 #[ptr p] (J sl) [Dj p m sh sl σ]:=Does.pack fun S w0 w h=>by
 have c1:At w p 2 (J sl):=(h.row 1 rfl).cell rfl;have H0:=zd h;clear h
 go_enter func163,ntmps163
 go_wp2
 go_ret
 exact Ends.mk [] (by simpa using H0.out)
end
section
variable {A:PA} {rs:List Nat} {s:PS} {S:List Nat} {w0 w:World} {Bs:List HA}
theorem uP (f:Int) (h1:1≤A.sh) (h4:A.sh≤4):Does prog [ae A rs s] 67 #[ptr A.tb,J f] (J (f % (A.sh:Int))) [ae A rs s]:=
 Does.lift (s':=s) 2 (fun _=>rfl) (fun _=>rfl) rfl rfl (Em (p:=A.tb) (m:=A.m) (sh:=A.sh) (sl:=A.sl) (σ:=s.σ) f (by omega) (by omega)).split
theorem jM:Does prog [ae A rs s] 163 #[ptr A.tb] (J A.sl) [ae A rs s]:=
 Does.lift (s':=s) 2 (fun _=>rfl) (fun _=>rfl) rfl rfl (FV (p:=A.tb) (m:=A.m) (sh:=A.sh) (sl:=A.sl) (σ:=s.σ)).split
theorem Ep (obj:Int) (o:Ob) (ho:I64 obj) (hf:I64 o.flow) (hr:o.r<18446744073709551616) {m:Nat} (hk:rY s.k m) (hm:m+1<100000) (hwd:A.wd≤40):Does prog [ae A rs s,bP] 281 #[ptr A.co,J obj,TR o] (.bool (s.k.q.push A.wd ⟨max s.k.v (s.k.th obj).finish,o.flow⟩).2) [ae A rs { s with k:=s.k.wake A.wd obj o },bP]:=
 Does.Qo (Ie obj o ho hf hr hk hm hwd)
theorem D6 {m:Nat} (hk:rY s.k m) (hm:m<100000) (hwd:A.wd≤40):Does prog [ae A rs s,bP] 282 #[ptr A.co] (KG (s.k.pick A.wd).2) [ae A rs { s with k:=(s.k.pick A.wd).1 },bP]:=
 Does.Qo (Jy hk hm hwd)
theorem EJ (size:Int) (hsz:I64 size) (more:Bool) {m:Nat} (hk:rY s.k m) (hm:m+1<100000) (hwd:A.wd≤40):Does prog [ae A rs s,bP] 295 #[ptr A.co,J size,.bool more] (.bool s.k.last.1) [ae A rs { s with k:=s.k.done A.wd size more },bP]:=
 Does.Qo (Jr size hsz more hk hm hwd)
theorem O5:Does prog [ae A rs s] 241 #[ptr A.co] (Ju s.k.v) [ae A rs s]:=Does.TT Td
theorem zJ:Does prog [ae A rs s] 240 #[ptr A.co] (J s.k.served) [ae A rs s]:=Does.TT BD
def Vj (S:List Nat) (w0:World) (r:Rt) (X:HA) (Bs:List HA) (e:Ending) (w':World):Prop:=∃ c oa,e=.returned (r.val (.slice oa r.pk.length c))∧Scope S w0 w' (X::aU (.slice oa r.pk.length c) 64 3 r.pk.length (iU r.pk)::Bs)
theorem yQ (who:Int) (h:Scope S w0 w (ae A rs s::Bs)) (hw:I64 who) (hl:s.σ.log.length≤1000000):
  Calls prog 218 #[ptr A.po,J who] w (Vj S w0 (lastOf Rt.zero s.jr who) (ae A rs { s with σ:=s.σ.put who 5 (oH who) }) Bs):=by
 obtain⟨c,hF,s1⟩:=h.dH;have s2:Scope S w0 w (bF A.m s.σ::LD A s.kc s.jr::([rZ A c,OI A s.nx,LP A,eP A.co A.wd s.k,jT A.mp s.pl,vM c rs s.ob,yG c s.pt,aG (jW s.pt c.sv)]++(rings A.m rs s.ob++Bs))):=(s1.front 4 rfl).front 1 rfl;refine(zU who s2.Lp hw hl).mono ?_
 rintro e w' ⟨cq,oa,rfl,s3⟩
 refine⟨cq,oa,rfl,Scope.gJ (rs:=rs) (s:={ s with σ:=s.σ.put who 5 (oH who) }) (c:=c) ⟨hF.rs,hF.sv⟩ ?_⟩;have s4:=s3.DY;obtain⟨N,hN⟩:∃ N,N=aU (.slice oa (lastOf Rt.zero s.jr who).pk.length cq) 64 3 (lastOf Rt.zero s.jr who).pk.length (iU (lastOf Rt.zero s.jr who).pk):=⟨_,rfl⟩
 rw[←hN]at s4 ⊢
 have s5:Scope S w0 w' (N::bF A.m (s.σ.put who 5 (oH who))::LD A s.kc s.jr::([rZ A c,OI A s.nx,LP A]++([eP A.co A.wd s.k,jT A.mp s.pl,vM c rs s.ob,yG c s.pt,aG (jW s.pt c.sv)]++(rings A.m rs s.ob++Bs)))):=s4.front 2 rfl;have s6:=s5.perm (List.Perm.cons _ (List.Perm.cons _ ((List.perm_append_comm (l₁:=[LD A s.kc s.jr]) (l₂:=[rZ A c,OI A s.nx,LP A])).append_right _)));have s7:Scope S w0 w' (N::((bF A.m (s.σ.put who 5 (oH who))::eX A rs s c)++Bs)):=s6
 exact s7.perm (List.perm_middle (a:=N) (l₁:=bF A.m (s.σ.put who 5 (oH who))::eX A rs s c) (l₂:=Bs)).symm
end
@[go_sem] theorem run_store_func (P:Program) (w:World) (a:Addr) (m:Mode) (f:Fn) (x y:Array Value):(store a (.func f x y) m).run P w=stored P w a (.func f x y) m:=run_store P w a _ m rfl
inductive Tz where
 |first|scan|lock|search|unlock|look|word|head|claim|put|show'|begin|wake|down|seq|wordAgain|headAgain|seqAgain|back|shown|topmost|link|push|end'
 deriving DecidableEq
structure jQ where
 who:Int
 c:Cl
 shard:Int
 st:Tz
 i:Int
 obj:Int
 found:Bool
 r:Option Nat
 w:Int
 q:Int
 now:Int
 top:Int
def Tz.bz:Tz→FuncId
 |.first=>68|.scan=>92|.lock=>135|.search=>167|.unlock=>191|.look=>134|.word=>166|.head=>190|.claim=>210|.put=>230|.show'=>251|.begin=>211|.wake=>232|.down=>254|.seq=>209|.wordAgain=>228|.headAgain=>248|.seqAgain=>260|.back=>253|.shown=>264|.topmost=>269|.link=>276|.push=>279|.end'=>286
def rV (rs:List Nat):Option Nat→Value
 |none=>.pointer none
 |some i=>ptr (rs.getD i 0)
@[reducible] def aV (f:FuncId) (e:Nat):Value:=.func (.func f) #[ptr e] #[]
@[reducible] def aS (P e:Nat) (nx rv:Value) (E:jQ):HA:=box e [ptr P,J E.who,J E.c.op,J E.c.flow,J E.c.a,J E.c.b,J E.shard,nx,J E.i,J E.obj,.bool E.found,rv,Ju E.w,Ju E.q,J E.now,Ju E.top] 168
@[reducible] def mg (P:Nat) (rs:List Nat) (e:Nat) (E:jQ):HA:=aS P e (aV E.st.bz e) (rV rs E.r) E
@[reducible] def Vm (c:Int):Value:=.agg #[J c,nS,J 0,Ju 0]
@[reducible] def bI (c:Int) (ends:Bool):Value:=.tuple #[Vm c,.bool ends]
section
variable {P e:Nat} {nx rv:Value} {E:jQ}
theorem cZ (f:FuncId):Does prog [aS P e nx rv E] 133 #[ptr e,.func (.func f) #[ptr e] #[]] (bI 0 false) [aS P e (aV f e) rv E]:=Does.ax fun S w0 w h=>by
 obtain⟨B,hB⟩:∃ B,B=w.heap.size:=⟨_,rfl⟩
 have c7:=(h.row (k:=e) 0 rfl).cell (j:=7) rfl;have lp:=(h.row (k:=e) 0 rfl).lt;have f7:=(h.row (k:=e) 0 rfl).free 7;have t1:=Scope.au (As:=[]) (Bs:=[]) h 7 (.func (.func f) #[ptr e] #[]);have t2:=t1.box [J 0,nS,J 0,Ju 0] 60;rw[show(w.setCell ⟨e,7,none⟩ (.func (.func f) #[ptr e] #[])).heap.size=B by rw[hB];simp]at t2;have T2:=zd t2;have HB:=zd hB;clear h t1 t2 hB
 go_enter func133,ntmps133
 go_wp2
 have q3:=T2.out;obtain⟨V,hV⟩:∃ V,V=(w.setCell ⟨e,7,none⟩ (.func (.func f) #[ptr e] #[])).alloc (.cells #[J 0,nS,J 0,Ju 0] 60):=⟨_,rfl⟩
 rw[show(w.setCell ⟨e,7,none⟩ (.func (.func f) #[ptr e] #[])).alloc (.cells [J 0,nS,J 0,Ju 0].toArray 60)=V from hV.symm]at q3;rw[←hV, ←HB.out];have z0:At V B 0 (J 0):=(q3.row (k:=B) 1 rfl).cell rfl;have z1:At V B 1 (nS):=(q3.row (k:=B) 1 rfl).cell rfl;have z2:At V B 2 (J 0):=(q3.row (k:=B) 1 rfl).cell rfl;have z3:At V B 3 (Ju 0):=(q3.row (k:=B) 1 rfl).cell rfl
 exact bodyPost_ret (v:=bI 0 false) (by simp[results,results133,go_sem,z0,z1,z2,z3]) rfl (Ends.mk [box B [J 0,nS,J 0,Ju 0] 60] q3)
theorem rF (p:Nat) (c:Int) (w:World):Calls prog 131 #[ptr p,J c] w fun e w'=>e=.returned (bI c true)∧dE [] w w':=by
 go_enter func131,ntmps131
 go_wp2
 have hr:=Row.new w [J c,nS,J 0,Ju 0] 60;obtain⟨B,hB⟩:∃ B,B=w.heap.size:=⟨_,rfl⟩
 obtain⟨V,hV⟩:∃ V,V=w.alloc (.cells #[J c,nS,J 0,Ju 0] 60):=⟨_,rfl⟩
 rw[←hB,show w.alloc (.cells [J c,nS,J 0,Ju 0].toArray 60)=V from hV.symm]at hr;have hc:dE [] w V:=by rw[hV];exact(dE.refl _ _).alloc _
 rw[←hV, ←hB];obtain⟨z0,z1,z2,z3⟩:=hr.c4;clear hV hB
 exact bodyPost_ret (v:=bI c true) (by simp[results,results131,go_sem,z0,z1,z2,z3]) rfl ⟨rfl,hc⟩
end
@[reducible] def bD (c:Int):Rt:=⟨c,[],0,0⟩
section
variable {A:PA} {rs:List Nat} {s:PS} {e:Nat} {nx rv:Value} {E:jQ}
theorem pW (now c:Int) (hw:I64 E.who) (hn:s.pt.length<100000):Does prog [ae A rs s,aS A.P e nx rv E] 130 #[ptr e,J now,J c] (.tuple #[]) [ae A rs (s.note now E.who (bD c)),aS A.P e nx rv E]:=Does.ax fun S w0 w h=>by
 have sd:=h.drew;have h0:At w.drew e 0 (ptr A.P)∧At w.drew e 1 (J E.who):=⟨(sd.row (k:=e) 1 rfl).cell rfl,(sd.row (k:=e) 1 rfl).cell rfl⟩
 have Sd:=zd sd;clear h sd
 go_enter func130,ntmps130
 go_wp2_with fail
 refine aP (by kernel_rfl) ?_;generalize w.drew=V at Sd h0 ⊢
 refine aY [0,4,5,9] ?_
 repeat (refine ay _ rfl (by kernel_rfl) (fun _ _ _ h=>h) (fun w'=>by(try simp only[ag,ah,aj]);go_simp;try with_reducible rfl) ?_;try simp only[Act.put,ag,ah,aj,aF,aB,aC])
 refine aH ?_;refine bu (S:=fun w'=>At w' e 0 (ptr A.P)∧At w' e 1 (J E.who)) (U:=[1,2,3,6,7,8,10]) _ _ _ _ ?_;refine dB [1,2,3,6,7,8,10] ?_
 repeat (refine aN _ rfl (by kernel_rfl) (fun _ _ _ h=>h) h0 (fun w' hS=>by(try dsimp only at hS);(try simp only[ag,ah,aj]);go_simp;try with_reducible rfl) ?_;try simp only[Act.put,ag,ah,aj,aF,aB,aC])
 refine bM ?_;refine aX _ _ _ _ (fun j hj=>?_) ?_
 ·simp at hj;rcases hj with rfl|rfl|rfl|rfl|rfl|rfl|rfl<;>rfl
 refine af 11 (by kernel_rfl) rfl (by rfl) fun K hK=>?_
 go_simp;refine(qR now E.who (bD c) (nS) hw hn Sd.out (fun _ _=>.inl ⟨rfl,rfl⟩) (by unfold lJ;simp)).mono ?_
 rintro er w1 ⟨rfl,s1⟩
 refine hK _ _ ?_;have S1:=zd s1;clear hK K h0 s1 Sd
 try simp only[Act.put,ag,ah,aj,aF,aB,aC]
 refine wpAny_done (by kernel_rfl) ?_ _
 go_wp2
 go_end0
 exact Ends.mk [] S1.out
end
def kY (s:PS) (E:jQ):jQ:=if s.σ.num (ja E.shard)=0 then { E with i:=0,st:=.search } else { E with st:=.lock }
section
variable {A:PA} {rs:List Nat} {s:PS} {e:Nat} {E:jQ}
theorem Ir (now:Int) (hsh:I64 E.shard) (hl:s.σ.log.length≤1000000):Does prog [ae A rs s,mg A.P rs e E] 135 #[ptr e,J now] (bI 0 false)
  [ae A rs { s with σ:=s.σ.swap E.who (ja E.shard) 0 1 },mg A.P rs e (kY s E)]:=Does.ax fun S w0 w h=>by
 obtain⟨B,hB⟩:∃ B,B=w.heap.size:=⟨_,rfl⟩
 obtain⟨W,hW⟩:∃ W,W=w.alloc (.cells #[J 0,nS,J 0,Ju 0] 60):=⟨_,rfl⟩
 have s1:=h.box [J 0,nS,J 0,Ju 0] 60;rw[←hB,show w.alloc (.cells [J 0,nS,J 0,Ju 0].toArray 60)=W from hW.symm]at s1;have sd:=s1.drew;have pc:=sd.bT 0 rfl;have re:=sd.row (k:=e) 1 rfl;have h0:At W.drew e 0 (ptr A.P)∧At W.drew e 1 (J E.who)∧At W.drew e 6 (J E.shard)∧At W.drew A.P 2 (ptr A.tb):=⟨re.cell rfl,re.cell rfl,re.cell rfl,pc.tb⟩
 have Sd:=zd sd;have HB:=zd hB;have HW:=zd hW;clear h s1 sd pc re hB hW
 go_enter func135,ntmps135
 go_wp2_with fail
 rw[←HB.out,show w.alloc (.cells #[J 0,nS,J 0,Ju 0] 60)=W from HW.out.symm];refine aP (by kernel_rfl) ?_;generalize W.drew=V at Sd h0 ⊢
 refine aY [0,7,11] ?_
 repeat (refine ay _ rfl (by kernel_rfl) (fun _ _ _ h=>h) (fun w'=>by(try simp only[ag,ah,aj]);go_simp;try with_reducible rfl) ?_;try simp only[Act.put,ag,ah,aj,aF,aB,aC])
 refine aH ?_;refine bu (S:=fun w'=>At w' e 0 (ptr A.P)∧At w' e 1 (J E.who)∧At w' e 6 (J E.shard)∧At w' A.P 2 (ptr A.tb)) (U:=[1,2,3,4,5,6,8,9,10,12,13,14]) _ _ _ _ ?_;refine dB [1,2,3,4,5,6,8,9,10,12,13,14] ?_
 repeat (refine aN _ rfl (by kernel_rfl) (fun _ _ _ h=>h) h0 (fun w' hS=>by(try dsimp only at hS);(try simp only[ag,ah,aj]);go_simp;try with_reducible rfl) ?_;try simp only[Act.put,ag,ah,aj,aF,aB,aC])
 refine bM ?_;refine aX _ _ _ _ (fun j hj=>?_) ?_
 ·simp at hj;rcases hj with rfl|rfl|rfl|rfl|rfl|rfl|rfl|rfl|rfl|rfl|rfl|rfl<;>rfl
 refine af 15 (by kernel_rfl) rfl (by rfl) fun K hK=>?_
 go_simp;refine((qQ E.who E.shard hsh hl).at0 Sd.out).mono ?_
 rintro er w1 ⟨rfl,s2⟩
 refine hK _ _ ?_;obtain⟨s',hs'⟩:∃ s',s'={ s with σ:=s.σ.swap E.who (ja E.shard) 0 1 }:=⟨_,rfl⟩
 rw[←hs']at s2;have S2:Hid (Scope S w0 w1 [ae A rs s',mg A.P rs e E,box B [J 0,nS,J 0,Ju 0] 60]):=zd s2;have Hs':=zd hs';obtain⟨bb,hbb⟩:∃ bb,decide (s.σ.num (ja E.shard)=0)=bb:=⟨_,rfl⟩
 rw[hbb];have Hbb:=zd hbb;clear hK K h0 s2 Sd hs' hbb
 try simp only[Act.put,ag,ah,aj,aF,aB,aC]
 refine aY [16] ?_
 repeat (refine ay _ rfl (by kernel_rfl) (fun _ _ _ h=>h) (fun w'=>by(try simp only[ag,ah,aj]);go_simp;try with_reducible rfl) ?_;try simp only[Act.put,ag,ah,aj,aF,aB,aC])
 refine aH ?_;refine wpAny_done (by kernel_rfl) ?_ _
 cases bb
 ·have hE:kY s E={ E with st:=.lock }:=by unfold kY;rw[if_neg (of_decide_eq_false Hbb.out)]
  have HE:=zd hE;clear hE
  go_wp2_with fail
  refine((cZ (P:=A.P) (nx:=aV E.st.bz e) (rv:=rV rs E.r) (E:=E) 135).fC S2.out).mono ?_
  rintro er w2 ⟨rfl,s3⟩
  have s4:Scope S w0 w2 ([ae A rs s',mg A.P rs e { E with st:=.lock }]++([box B [J 0,nS,J 0,Ju 0] 60]++[])):=s3;have rb:=s4.row (k:=B) 2 rfl;obtain⟨b0,b1,b2,b3⟩:=rb.c4;have f0:=rb.free 0;have f1:=rb.free 1;have f2:=rb.free 2;have f3:=rb.free 3;have q1:=Scope.au s4 0 (J 0);have q2:=Scope.au q1 1 (nS);have q3:=Scope.au q2 2 (J 0);have q4:=Scope.au q3 3 (Ju 0);have Q4:=zd q4;clear s3 s4 rb q1 q2 q3 q4
  go_wp2
  have q5:=Q4.out;obtain⟨V2,hV2⟩:∃ V2,V2=(((w2.setCell ⟨B,0,none⟩ (J 0)).setCell ⟨B,1,none⟩ (nS)).setCell ⟨B,2,none⟩ (J 0)).setCell ⟨B,3,none⟩ (Ju 0):=⟨_,rfl⟩
  rw[←hV2]at q5 ⊢
  have z0:At V2 B 0 (J 0):=(q5.row (k:=B) 2 rfl).cell rfl;have z1:At V2 B 1 (nS):=(q5.row (k:=B) 2 rfl).cell rfl;have z2:At V2 B 2 (J 0):=(q5.row (k:=B) 2 rfl).cell rfl;have z3:At V2 B 3 (Ju 0):=(q5.row (k:=B) 2 rfl).cell rfl;refine bodyPost_ret (v:=bI 0 false) (by simp[results,results135,go_sem,z0,z1,z2,z3]) rfl (Ends.mk [box B [J 0,nS,J 0,Ju 0] 60] ?_);rw[←Hs'.out,HE.out]
  exact q5
 ·have hE:kY s E={ E with i:=0,st:=.search }:=by unfold kY;rw[if_pos (of_decide_eq_true Hbb.out)]
  have HE:=zd hE;have s5:Scope S w0 w1 ([ae A rs s']++([mg A.P rs e E]++[box B [J 0,nS,J 0,Ju 0] 60])):=S2.out;have r5:=s5.row (k:=e) 1 rfl;have c8:=r5.cell (j:=8) rfl;have f8:=r5.free 8;have q0:=Scope.au s5 8 (J 0);have Q0:=zd q0;clear hE s5 r5 q0 S2
  go_wp2_with fail
  clear c8 f8;obtain⟨V1,hV1⟩:∃ V1,V1=w1.setCell ⟨e,8,none⟩ (J 0):=⟨_,rfl⟩
  have q0:=Q0.out;rw[←hV1]at q0 ⊢
  have S6:Hid (Scope S w0 V1 [ae A rs s',aS A.P e (aV E.st.bz e) (rV rs E.r) { E with i:=0 },box B [J 0,nS,J 0,Ju 0] 60]):=zd q0;clear q0 hV1 Q0;refine((cZ (P:=A.P) (nx:=aV E.st.bz e) (rv:=rV rs E.r) (E:={ E with i:=0 }) 167).fC S6.out).mono ?_
  rintro er w2 ⟨rfl,s3⟩
  have s4:Scope S w0 w2 ([ae A rs s',mg A.P rs e { E with i:=0,st:=.search }]++([box B [J 0,nS,J 0,Ju 0] 60]++[])):=s3;have rb:=s4.row (k:=B) 2 rfl;obtain⟨b0,b1,b2,b3⟩:=rb.c4;have f0:=rb.free 0;have f1:=rb.free 1;have f2:=rb.free 2;have f3:=rb.free 3;have q1:=Scope.au s4 0 (J 0);have q2:=Scope.au q1 1 (nS);have q3:=Scope.au q2 2 (J 0);have q4:=Scope.au q3 3 (Ju 0);have Q4:=zd q4;clear s3 s4 rb q1 q2 q3 q4
  go_wp2
  have q5:=Q4.out;obtain⟨V2,hV2⟩:∃ V2,V2=(((w2.setCell ⟨B,0,none⟩ (J 0)).setCell ⟨B,1,none⟩ (nS)).setCell ⟨B,2,none⟩ (J 0)).setCell ⟨B,3,none⟩ (Ju 0):=⟨_,rfl⟩
  rw[←hV2]at q5 ⊢
  have z0:At V2 B 0 (J 0):=(q5.row (k:=B) 2 rfl).cell rfl;have z1:At V2 B 1 (nS):=(q5.row (k:=B) 2 rfl).cell rfl;have z2:At V2 B 2 (J 0):=(q5.row (k:=B) 2 rfl).cell rfl;have z3:At V2 B 3 (Ju 0):=(q5.row (k:=B) 2 rfl).cell rfl;refine bodyPost_ret (v:=bI 0 false) (by simp[results,results135,go_sem,z0,z1,z2,z3]) rfl (Ends.mk [box B [J 0,nS,J 0,Ju 0] 60] ?_);rw[←Hs'.out,HE.out]
  exact q5
end
section
variable {A:PA} {rs:List Nat} {s:PS} {e:Nat} {E:jQ}
theorem FC (now:Int) (hl:s.σ.log.length≤1000000):Does prog [ae A rs s,mg A.P rs e E] 211 #[ptr e,J now] (bI 0 false) [ae A rs { s with σ:=(s.σ.put E.who 3 df).set df (IntKind.u64.wrap (s.σ.num df+4294967296)) },mg A.P rs e { E with st:=.wake }]:=Does.ax fun S w0 w h=>by
 obtain⟨B,hB⟩:∃ B,B=w.heap.size:=⟨_,rfl⟩
 obtain⟨W,hW⟩:∃ W,W=w.alloc (.cells #[J 0,nS,J 0,Ju 0] 60):=⟨_,rfl⟩
 have s1:=h.box [J 0,nS,J 0,Ju 0] 60;rw[←hB,show w.alloc (.cells [J 0,nS,J 0,Ju 0].toArray 60)=W from hW.symm]at s1;have sd:=s1.drew;have pc:=sd.bT 0 rfl;have re:=sd.row (k:=e) 1 rfl;have h0:At W.drew e 0 (ptr A.P)∧At W.drew e 1 (J E.who)∧At W.drew A.P 1 (ptr A.ib):=⟨re.cell rfl,re.cell rfl,pc.ib⟩
 have Sd:=zd sd;have HB:=zd hB;have HW:=zd hW;clear h s1 sd pc re hB hW
 go_enter func211,ntmps211
 go_wp2_with fail
 rw[←HB.out,show w.alloc (.cells #[J 0,nS,J 0,Ju 0] 60)=W from HW.out.symm];refine aP (by kernel_rfl) ?_;generalize W.drew=V at Sd h0 ⊢
 refine aY [0,7] ?_
 repeat (refine ay _ rfl (by kernel_rfl) (fun _ _ _ h=>h) (fun w'=>by(try simp only[ag,ah,aj]);go_simp;try with_reducible rfl) ?_;try simp only[Act.put,ag,ah,aj,aF,aB,aC])
 refine aH ?_;refine bu (S:=fun w'=>At w' e 0 (ptr A.P)∧At w' e 1 (J E.who)∧At w' A.P 1 (ptr A.ib)) (U:=[1,2,3,4,5,6,8,9,10]) _ _ _ _ ?_;refine dB [1,2,3,4,5,6,8,9,10] ?_
 repeat (refine aN _ rfl (by kernel_rfl) (fun _ _ _ h=>h) h0 (fun w' hS=>by(try dsimp only at hS);(try simp only[ag,ah,aj]);go_simp;try with_reducible rfl) ?_;try simp only[Act.put,ag,ah,aj,aF,aB,aC])
 refine bM ?_;refine aX _ _ _ _ (fun j hj=>?_) ?_
 ·simp at hj;rcases hj with rfl|rfl|rfl|rfl|rfl|rfl|rfl|rfl|rfl<;>rfl
 refine af 11 (by kernel_rfl) rfl (by rfl) fun K hK=>?_
 go_simp;refine((BO E.who hl).at0 Sd.out).mono ?_
 rintro er w1 ⟨rfl,s2⟩
 refine hK _ _ ?_;obtain⟨s',hs'⟩:∃ s',s'={ s with σ:=(s.σ.put E.who 3 df).set df (IntKind.u64.wrap (s.σ.num df+4294967296)) }:=⟨_,rfl⟩
 have S2:Hid (Scope S w0 w1 [ae A rs s',mg A.P rs e E,box B [J 0,nS,J 0,Ju 0] 60]):=zd (by rw[hs'];exact s2);have Hs':=zd hs';clear hK K h0 s2 Sd hs'
 try simp only[Act.put,ag,ah,aj,aF,aB,aC]
 refine wpAny_done (by kernel_rfl) ?_ _
 go_wp2_with fail
 refine((cZ (P:=A.P) (nx:=aV E.st.bz e) (rv:=rV rs E.r) (E:=E) 232).fC S2.out).mono ?_
 rintro er w2 ⟨rfl,s3⟩
 have s4:Scope S w0 w2 ([ae A rs s',mg A.P rs e { E with st:=.wake }]++([box B [J 0,nS,J 0,Ju 0] 60]++[])):=s3;clear s3 S2;have rb:=s4.row (k:=B) 2 rfl;obtain⟨b0,b1,b2,b3⟩:=rb.c4;have f0:=rb.free 0;have f1:=rb.free 1;have f2:=rb.free 2;have f3:=rb.free 3;have q1:=Scope.au s4 0 (J 0);have q2:=Scope.au q1 1 (nS);have q3:=Scope.au q2 2 (J 0);have q4:=Scope.au q3 3 (Ju 0);have Q4:=zd q4;clear s4 rb q1 q2 q3 q4
 go_wp2
 have q5:=Q4.out;obtain⟨V2,hV2⟩:∃ V2,V2=(((w2.setCell ⟨B,0,none⟩ (J 0)).setCell ⟨B,1,none⟩ (nS)).setCell ⟨B,2,none⟩ (J 0)).setCell ⟨B,3,none⟩ (Ju 0):=⟨_,rfl⟩
 rw[←hV2]at q5 ⊢
 have z0:At V2 B 0 (J 0):=(q5.row (k:=B) 2 rfl).cell rfl;have z1:At V2 B 1 (nS):=(q5.row (k:=B) 2 rfl).cell rfl;have z2:At V2 B 2 (J 0):=(q5.row (k:=B) 2 rfl).cell rfl;have z3:At V2 B 3 (Ju 0):=(q5.row (k:=B) 2 rfl).cell rfl;refine bodyPost_ret (v:=bI 0 false) (by simp[results,results211,go_sem,z0,z1,z2,z3]) rfl (Ends.mk [box B [J 0,nS,J 0,Ju 0] 60] ?_);rw[←Hs'.out]
 exact q5
theorem JG (now:Int) (hl:s.σ.log.length≤1000000):Does prog [ae A rs s,mg A.P rs e E] 253 #[ptr e,J now] (bI 0 false) [ae A rs { s with σ:=(s.σ.put E.who 3 df).set df (IntKind.u64.wrap (s.σ.num df+1)) },mg A.P rs e { E with st:=.word }]:=Does.ax fun S w0 w h=>by
 obtain⟨B,hB⟩:∃ B,B=w.heap.size:=⟨_,rfl⟩
 obtain⟨W,hW⟩:∃ W,W=w.alloc (.cells #[J 0,nS,J 0,Ju 0] 60):=⟨_,rfl⟩
 have s1:=h.box [J 0,nS,J 0,Ju 0] 60;rw[←hB,show w.alloc (.cells [J 0,nS,J 0,Ju 0].toArray 60)=W from hW.symm]at s1;have sd:=s1.drew;have pc:=sd.bT 0 rfl;have re:=sd.row (k:=e) 1 rfl;have h0:At W.drew e 0 (ptr A.P)∧At W.drew e 1 (J E.who)∧At W.drew A.P 1 (ptr A.ib):=⟨re.cell rfl,re.cell rfl,pc.ib⟩
 have Sd:=zd sd;have HB:=zd hB;have HW:=zd hW;clear h s1 sd pc re hB hW
 go_enter func253,ntmps253
 go_wp2_with fail
 rw[←HB.out,show w.alloc (.cells #[J 0,nS,J 0,Ju 0] 60)=W from HW.out.symm];refine aP (by kernel_rfl) ?_;generalize W.drew=V at Sd h0 ⊢
 refine aY [0,7] ?_
 repeat (refine ay _ rfl (by kernel_rfl) (fun _ _ _ h=>h) (fun w'=>by(try simp only[ag,ah,aj]);go_simp;try with_reducible rfl) ?_;try simp only[Act.put,ag,ah,aj,aF,aB,aC])
 refine aH ?_;refine bu (S:=fun w'=>At w' e 0 (ptr A.P)∧At w' e 1 (J E.who)∧At w' A.P 1 (ptr A.ib)) (U:=[1,2,3,4,5,6,8,9,10]) _ _ _ _ ?_;refine dB [1,2,3,4,5,6,8,9,10] ?_
 repeat (refine aN _ rfl (by kernel_rfl) (fun _ _ _ h=>h) h0 (fun w' hS=>by(try dsimp only at hS);(try simp only[ag,ah,aj]);go_simp;try with_reducible rfl) ?_;try simp only[Act.put,ag,ah,aj,aF,aB,aC])
 refine bM ?_;refine aX _ _ _ _ (fun j hj=>?_) ?_
 ·simp at hj;rcases hj with rfl|rfl|rfl|rfl|rfl|rfl|rfl|rfl|rfl<;>rfl
 refine af 11 (by kernel_rfl) rfl (by rfl) fun K hK=>?_
 go_simp;refine((zg E.who hl).at0 Sd.out).mono ?_
 rintro er w1 ⟨rfl,s2⟩
 refine hK _ _ ?_;obtain⟨s',hs'⟩:∃ s',s'={ s with σ:=(s.σ.put E.who 3 df).set df (IntKind.u64.wrap (s.σ.num df+1)) }:=⟨_,rfl⟩
 have S2:Hid (Scope S w0 w1 [ae A rs s',mg A.P rs e E,box B [J 0,nS,J 0,Ju 0] 60]):=zd (by rw[hs'];exact s2);have Hs':=zd hs';clear hK K h0 s2 Sd hs'
 try simp only[Act.put,ag,ah,aj,aF,aB,aC]
 refine wpAny_done (by kernel_rfl) ?_ _
 go_wp2_with fail
 refine((cZ (P:=A.P) (nx:=aV E.st.bz e) (rv:=rV rs E.r) (E:=E) 166).fC S2.out).mono ?_
 rintro er w2 ⟨rfl,s3⟩
 have s4:Scope S w0 w2 ([ae A rs s',mg A.P rs e { E with st:=.word }]++([box B [J 0,nS,J 0,Ju 0] 60]++[])):=s3;clear s3 S2;have rb:=s4.row (k:=B) 2 rfl;obtain⟨b0,b1,b2,b3⟩:=rb.c4;have f0:=rb.free 0;have f1:=rb.free 1;have f2:=rb.free 2;have f3:=rb.free 3;have q1:=Scope.au s4 0 (J 0);have q2:=Scope.au q1 1 (nS);have q3:=Scope.au q2 2 (J 0);have q4:=Scope.au q3 3 (Ju 0);have Q4:=zd q4;clear s4 rb q1 q2 q3 q4
 go_wp2
 have q5:=Q4.out;obtain⟨V2,hV2⟩:∃ V2,V2=(((w2.setCell ⟨B,0,none⟩ (J 0)).setCell ⟨B,1,none⟩ (nS)).setCell ⟨B,2,none⟩ (J 0)).setCell ⟨B,3,none⟩ (Ju 0):=⟨_,rfl⟩
 rw[←hV2]at q5 ⊢
 have z0:At V2 B 0 (J 0):=(q5.row (k:=B) 2 rfl).cell rfl;have z1:At V2 B 1 (nS):=(q5.row (k:=B) 2 rfl).cell rfl;have z2:At V2 B 2 (J 0):=(q5.row (k:=B) 2 rfl).cell rfl;have z3:At V2 B 3 (Ju 0):=(q5.row (k:=B) 2 rfl).cell rfl;refine bodyPost_ret (v:=bI 0 false) (by simp[results,results253,go_sem,z0,z1,z2,z3]) rfl (Ends.mk [box B [J 0,nS,J 0,Ju 0] 60] ?_);rw[←Hs'.out]
 exact q5
theorem Ot (now:Int) (hl:s.σ.log.length≤1000000):Does prog [ae A rs s,mg A.P rs e E] 286 #[ptr e,J now] (bI 0 true) [ae A rs { s with σ:=(s.σ.put E.who 3 df).set df (IntKind.u64.wrap (s.σ.num df+1)) },mg A.P rs e E]:=Does.ax fun S w0 w h=>by
 obtain⟨B,hB⟩:∃ B,B=w.heap.size:=⟨_,rfl⟩
 obtain⟨W,hW⟩:∃ W,W=w.alloc (.cells #[J 0,nS,J 0,Ju 0] 60):=⟨_,rfl⟩
 have s1:=h.box [J 0,nS,J 0,Ju 0] 60;rw[←hB,show w.alloc (.cells [J 0,nS,J 0,Ju 0].toArray 60)=W from hW.symm]at s1;have sd:=s1.drew;have pc:=sd.bT 0 rfl;have re:=sd.row (k:=e) 1 rfl;have h0:At W.drew e 0 (ptr A.P)∧At W.drew e 1 (J E.who)∧At W.drew A.P 1 (ptr A.ib):=⟨re.cell rfl,re.cell rfl,pc.ib⟩
 have Sd:=zd sd;have HB:=zd hB;have HW:=zd hW;clear h s1 sd pc re hB hW
 go_enter func286,ntmps286
 go_wp2_with fail
 rw[←HB.out,show w.alloc (.cells #[J 0,nS,J 0,Ju 0] 60)=W from HW.out.symm];refine aP (by kernel_rfl) ?_;generalize W.drew=V at Sd h0 ⊢
 refine aY [0,7] ?_
 repeat (refine ay _ rfl (by kernel_rfl) (fun _ _ _ h=>h) (fun w'=>by(try simp only[ag,ah,aj]);go_simp;try with_reducible rfl) ?_;try simp only[Act.put,ag,ah,aj,aF,aB,aC])
 refine aH ?_;refine bu (S:=fun w'=>At w' e 0 (ptr A.P)∧At w' e 1 (J E.who)∧At w' A.P 1 (ptr A.ib)) (U:=[1,2,3,4,5,6,8,9,10]) _ _ _ _ ?_;refine dB [1,2,3,4,5,6,8,9,10] ?_
 repeat (refine aN _ rfl (by kernel_rfl) (fun _ _ _ h=>h) h0 (fun w' hS=>by(try dsimp only at hS);(try simp only[ag,ah,aj]);go_simp;try with_reducible rfl) ?_;try simp only[Act.put,ag,ah,aj,aF,aB,aC])
 refine bM ?_;refine aX _ _ _ _ (fun j hj=>?_) ?_
 ·simp at hj;rcases hj with rfl|rfl|rfl|rfl|rfl|rfl|rfl|rfl|rfl<;>rfl
 refine af 11 (by kernel_rfl) rfl (by rfl) fun K hK=>?_
 go_simp;refine((zg E.who hl).at0 Sd.out).mono ?_
 rintro er w1 ⟨rfl,s2⟩
 refine hK _ _ ?_;obtain⟨s',hs'⟩:∃ s',s'={ s with σ:=(s.σ.put E.who 3 df).set df (IntKind.u64.wrap (s.σ.num df+1)) }:=⟨_,rfl⟩
 have S2:Hid (Scope S w0 w1 [ae A rs s',mg A.P rs e E,box B [J 0,nS,J 0,Ju 0] 60]):=zd (by rw[hs'];exact s2);have Hs':=zd hs';clear hK K h0 s2 Sd hs'
 try simp only[Act.put,ag,ah,aj,aF,aB,aC]
 refine wpAny_done (by kernel_rfl) ?_ _
 go_wp2_with fail
 refine(rF e 0 w1).mono ?_
 rintro er w2 ⟨rfl,c2⟩
 have s4:Scope S w0 w2 ([ae A rs s',mg A.P rs e E]++([box B [J 0,nS,J 0,Ju 0] 60]++[])):=S2.out.quiet c2;clear c2 S2;have rb:=s4.row (k:=B) 2 rfl;obtain⟨b0,b1,b2,b3⟩:=rb.c4;have f0:=rb.free 0;have f1:=rb.free 1;have f2:=rb.free 2;have f3:=rb.free 3;have q1:=Scope.au s4 0 (J 0);have q2:=Scope.au q1 1 (nS);have q3:=Scope.au q2 2 (J 0);have q4:=Scope.au q3 3 (Ju 0);have Q4:=zd q4;clear s4 rb q1 q2 q3 q4
 go_wp2
 have q5:=Q4.out;obtain⟨V2,hV2⟩:∃ V2,V2=(((w2.setCell ⟨B,0,none⟩ (J 0)).setCell ⟨B,1,none⟩ (nS)).setCell ⟨B,2,none⟩ (J 0)).setCell ⟨B,3,none⟩ (Ju 0):=⟨_,rfl⟩
 rw[←hV2]at q5 ⊢
 have z0:At V2 B 0 (J 0):=(q5.row (k:=B) 2 rfl).cell rfl;have z1:At V2 B 1 (nS):=(q5.row (k:=B) 2 rfl).cell rfl;have z2:At V2 B 2 (J 0):=(q5.row (k:=B) 2 rfl).cell rfl;have z3:At V2 B 3 (Ju 0):=(q5.row (k:=B) 2 rfl).cell rfl;refine bodyPost_ret (v:=bI 0 true) (by simp[results,results286,go_sem,z0,z1,z2,z3]) rfl (Ends.mk [box B [J 0,nS,J 0,Ju 0] 60] ?_);rw[←Hs'.out]
 exact q5
theorem Ib (now:Int) (ho:I64 E.obj) (hl:s.σ.log.length≤1000000):Does prog [ae A rs s,mg A.P rs e E] 276 #[ptr e,J now] (bI 0 false) [ae A rs { s with σ:=s.σ.put E.who 6 (tN E.obj),nx:=nG s.nx E.obj E.top },mg A.P rs e { E with st:=.push }]:=Does.ax fun S w0 w h=>by
 obtain⟨B,hB⟩:∃ B,B=w.heap.size:=⟨_,rfl⟩
 obtain⟨W,hW⟩:∃ W,W=w.alloc (.cells #[J 0,nS,J 0,Ju 0] 60):=⟨_,rfl⟩
 have s1:=h.box [J 0,nS,J 0,Ju 0] 60;rw[←hB,show w.alloc (.cells [J 0,nS,J 0,Ju 0].toArray 60)=W from hW.symm]at s1;have sd:=s1.drew;have pc:=sd.bT 0 rfl;have re:=sd.row (k:=e) 1 rfl;have h0:At W.drew e 0 (ptr A.P)∧At W.drew e 1 (J E.who)∧At W.drew e 9 (J E.obj)∧At W.drew e 15 (Ju E.top)∧At W.drew A.P 1 (ptr A.ib):=⟨re.cell rfl,re.cell rfl,re.cell rfl,re.cell rfl,pc.ib⟩
 have Sd:=zd sd;have HB:=zd hB;have HW:=zd hW;clear h s1 sd pc re hB hW
 go_enter func276,ntmps276
 go_wp2_with fail
 rw[←HB.out,show w.alloc (.cells #[J 0,nS,J 0,Ju 0] 60)=W from HW.out.symm];refine aP (by kernel_rfl) ?_;generalize W.drew=V at Sd h0 ⊢
 refine aY [0,7,11,15] ?_
 repeat (refine ay _ rfl (by kernel_rfl) (fun _ _ _ h=>h) (fun w'=>by(try simp only[ag,ah,aj]);go_simp;try with_reducible rfl) ?_;try simp only[Act.put,ag,ah,aj,aF,aB,aC])
 refine aH ?_;refine bu (S:=fun w'=>At w' e 0 (ptr A.P)∧At w' e 1 (J E.who)∧At w' e 9 (J E.obj)∧At w' e 15 (Ju E.top)∧At w' A.P 1 (ptr A.ib)) (U:=[1,2,3,4,5,6,8,9,10,12,13,14,16,17,18]) _ _ _ _ ?_;refine dB [1,2,3,4,5,6,8,9,10,12,13,14,16,17,18] ?_
 repeat (refine aN _ rfl (by kernel_rfl) (fun _ _ _ h=>h) h0 (fun w' hS=>by(try dsimp only at hS);(try simp only[ag,ah,aj]);go_simp;try with_reducible rfl) ?_;try simp only[Act.put,ag,ah,aj,aF,aB,aC])
 refine bM ?_;refine aX _ _ _ _ (fun j hj=>?_) ?_
 ·simp at hj;rcases hj with rfl|rfl|rfl|rfl|rfl|rfl|rfl|rfl|rfl|rfl|rfl|rfl|rfl|rfl|rfl<;>rfl
 refine af 19 (by kernel_rfl) rfl (by rfl) fun K hK=>?_
 go_simp;refine((DL E.who E.obj E.top ho hl).at0 Sd.out).mono ?_
 rintro er w1 ⟨rfl,s2⟩
 refine hK _ _ ?_;obtain⟨s',hs'⟩:∃ s',s'={ s with σ:=s.σ.put E.who 6 (tN E.obj),nx:=nG s.nx E.obj E.top }:=⟨_,rfl⟩
 have S2:Hid (Scope S w0 w1 [ae A rs s',mg A.P rs e E,box B [J 0,nS,J 0,Ju 0] 60]):=zd (by rw[hs'];exact s2);have Hs':=zd hs';clear hK K h0 s2 Sd hs'
 try simp only[Act.put,ag,ah,aj,aF,aB,aC]
 refine wpAny_done (by kernel_rfl) ?_ _
 go_wp2_with fail
 refine((cZ (P:=A.P) (nx:=aV E.st.bz e) (rv:=rV rs E.r) (E:=E) 279).fC S2.out).mono ?_
 rintro er w2 ⟨rfl,s3⟩
 have s4:Scope S w0 w2 ([ae A rs s',mg A.P rs e { E with st:=.push }]++([box B [J 0,nS,J 0,Ju 0] 60]++[])):=s3;clear s3 S2;have rb:=s4.row (k:=B) 2 rfl;obtain⟨b0,b1,b2,b3⟩:=rb.c4;have f0:=rb.free 0;have f1:=rb.free 1;have f2:=rb.free 2;have f3:=rb.free 3;have q1:=Scope.au s4 0 (J 0);have q2:=Scope.au q1 1 (nS);have q3:=Scope.au q2 2 (J 0);have q4:=Scope.au q3 3 (Ju 0);have Q4:=zd q4;clear s4 rb q1 q2 q3 q4
 go_wp2
 have q5:=Q4.out;obtain⟨V2,hV2⟩:∃ V2,V2=(((w2.setCell ⟨B,0,none⟩ (J 0)).setCell ⟨B,1,none⟩ (nS)).setCell ⟨B,2,none⟩ (J 0)).setCell ⟨B,3,none⟩ (Ju 0):=⟨_,rfl⟩
 rw[←hV2]at q5 ⊢
 have z0:At V2 B 0 (J 0):=(q5.row (k:=B) 2 rfl).cell rfl;have z1:At V2 B 1 (nS):=(q5.row (k:=B) 2 rfl).cell rfl;have z2:At V2 B 2 (J 0):=(q5.row (k:=B) 2 rfl).cell rfl;have z3:At V2 B 3 (Ju 0):=(q5.row (k:=B) 2 rfl).cell rfl;refine bodyPost_ret (v:=bI 0 false) (by simp[results,results276,go_sem,z0,z1,z2,z3]) rfl (Ends.mk [box B [J 0,nS,J 0,Ju 0] 60] ?_);rw[←Hs'.out]
 exact q5
theorem zW (now:Int) (hsh:I64 E.shard) (hl:s.σ.log.length≤1000000):Does prog [ae A rs s,mg A.P rs e E] 269 #[ptr e,J now] (bI 0 false) [ae A rs { s with σ:=s.σ.put E.who 1 (fB E.shard) },mg A.P rs e { E with top:=s.σ.num (fB E.shard),st:=.link }]:=Does.ax fun S w0 w h=>by
 obtain⟨B,hB⟩:∃ B,B=w.heap.size:=⟨_,rfl⟩
 obtain⟨W,hW⟩:∃ W,W=w.alloc (.cells #[J 0,nS,J 0,Ju 0] 60):=⟨_,rfl⟩
 have s1:=h.box [J 0,nS,J 0,Ju 0] 60;rw[←hB,show w.alloc (.cells [J 0,nS,J 0,Ju 0].toArray 60)=W from hW.symm]at s1;have sd:=s1.drew;have pc:=sd.bT 0 rfl;have re:=sd.row (k:=e) 1 rfl;have h0:At W.drew e 0 (ptr A.P)∧At W.drew e 1 (J E.who)∧At W.drew e 6 (J E.shard)∧At W.drew A.P 1 (ptr A.ib):=⟨re.cell rfl,re.cell rfl,re.cell rfl,pc.ib⟩
 have Sd:=zd sd;have HB:=zd hB;have HW:=zd hW;clear h s1 sd pc re hB hW
 go_enter func269,ntmps269
 go_wp2_with fail
 rw[←HB.out,show w.alloc (.cells #[J 0,nS,J 0,Ju 0] 60)=W from HW.out.symm];refine aP (by kernel_rfl) ?_;generalize W.drew=V at Sd h0 ⊢
 refine aY [0,1,8,12] ?_
 repeat (refine ay _ rfl (by kernel_rfl) (fun _ _ _ h=>h) (fun w'=>by(try simp only[ag,ah,aj]);go_simp;try with_reducible rfl) ?_;try simp only[Act.put,ag,ah,aj,aF,aB,aC])
 refine aH ?_;refine bu (S:=fun w'=>At w' e 0 (ptr A.P)∧At w' e 1 (J E.who)∧At w' e 6 (J E.shard)∧At w' A.P 1 (ptr A.ib)) (U:=[2,3,4,5,6,7,9,10,11,13,14,15]) _ _ _ _ ?_;refine dB [2,3,4,5,6,7,9,10,11,13,14,15] ?_
 repeat (refine aN _ rfl (by kernel_rfl) (fun _ _ _ h=>h) h0 (fun w' hS=>by(try dsimp only at hS);(try simp only[ag,ah,aj]);go_simp;try with_reducible rfl) ?_;try simp only[Act.put,ag,ah,aj,aF,aB,aC])
 refine bM ?_;refine aX _ _ _ _ (fun j hj=>?_) ?_
 ·simp at hj;rcases hj with rfl|rfl|rfl|rfl|rfl|rfl|rfl|rfl|rfl|rfl|rfl|rfl<;>rfl
 refine af 16 (by kernel_rfl) rfl (by rfl) fun K hK=>?_
 go_simp;refine((JY E.who E.shard hsh hl).at0 Sd.out).mono ?_
 rintro er w1 ⟨rfl,s2⟩
 refine hK _ _ ?_;obtain⟨s',hs'⟩:∃ s',s'={ s with σ:=s.σ.put E.who 1 (fB E.shard) }:=⟨_,rfl⟩
 have s5:Scope S w0 w1 ([ae A rs s']++([mg A.P rs e E]++[box B [J 0,nS,J 0,Ju 0] 60])):=by rw[hs'];exact s2
 have Hs':=zd hs';have r5:=s5.row (k:=e) 1 rfl;have ck:=r5.cell (j:=15) rfl;have fk:=r5.free 15;have q0:=Scope.au s5 15 (Ju (s.σ.num (fB E.shard)));have Q0:=zd q0;clear hK K h0 s2 Sd hs' s5 r5 q0
 try simp only[Act.put,ag,ah,aj,aF,aB,aC]
 refine aY [17,18] ?_
 repeat (refine ay _ rfl (by kernel_rfl) (fun _ _ _ h=>h) (fun w'=>by(try simp only[ag,ah,aj]);go_simp;try with_reducible rfl) ?_;try simp only[Act.put,ag,ah,aj,aF,aB,aC])
 refine aH ?_;refine af 19 (by kernel_rfl) rfl (by rfl) fun K hK=>?_
 go_simp;refine hK _ _ ?_;clear hK K
 try simp only[Act.put,ag,ah,aj,aF,aB,aC]
 refine wpAny_done (by kernel_rfl) ?_ _;clear ck fk;obtain⟨V1,hV1⟩:∃ V1,V1=w1.setCell ⟨e,15,none⟩ (Ju (s.σ.num (fB E.shard))):=⟨_,rfl⟩
 have q0:=Q0.out;rw[←hV1]at q0 ⊢
 have S6:Hid (Scope S w0 V1 [ae A rs s',aS A.P e (aV E.st.bz e) (rV rs E.r) { E with top:=s.σ.num (fB E.shard) },box B [J 0,nS,J 0,Ju 0] 60]):=zd q0;clear q0 hV1 Q0
 go_wp2_with fail
 refine((cZ (P:=A.P) (nx:=aV E.st.bz e) (rv:=rV rs E.r) (E:={ E with top:=s.σ.num (fB E.shard) }) 276).fC S6.out).mono ?_
 rintro er w2 ⟨rfl,s3⟩
 have s4:Scope S w0 w2 ([ae A rs s',mg A.P rs e { E with top:=s.σ.num (fB E.shard),st:=.link }]++([box B [J 0,nS,J 0,Ju 0] 60]++[])):=s3;clear s3 S6;have rb:=s4.row (k:=B) 2 rfl;obtain⟨b0,b1,b2,b3⟩:=rb.c4;have f0:=rb.free 0;have f1:=rb.free 1;have f2:=rb.free 2;have f3:=rb.free 3;have q1:=Scope.au s4 0 (J 0);have q2:=Scope.au q1 1 (nS);have q3:=Scope.au q2 2 (J 0);have q4:=Scope.au q3 3 (Ju 0);have Q4:=zd q4;clear s4 rb q1 q2 q3 q4
 go_wp2
 have q5:=Q4.out;obtain⟨V2,hV2⟩:∃ V2,V2=(((w2.setCell ⟨B,0,none⟩ (J 0)).setCell ⟨B,1,none⟩ (nS)).setCell ⟨B,2,none⟩ (J 0)).setCell ⟨B,3,none⟩ (Ju 0):=⟨_,rfl⟩
 rw[←hV2]at q5 ⊢
 have z0:At V2 B 0 (J 0):=(q5.row (k:=B) 2 rfl).cell rfl;have z1:At V2 B 1 (nS):=(q5.row (k:=B) 2 rfl).cell rfl;have z2:At V2 B 2 (J 0):=(q5.row (k:=B) 2 rfl).cell rfl;have z3:At V2 B 3 (Ju 0):=(q5.row (k:=B) 2 rfl).cell rfl;refine bodyPost_ret (v:=bI 0 false) (by simp[results,results269,go_sem,z0,z1,z2,z3]) rfl (Ends.mk [box B [J 0,nS,J 0,Ju 0] 60] ?_);rw[←Hs'.out]
 exact q5
end
@[reducible] def bK (B:Nat) (c:Int):HA:=box B [J c,nS,J 0,Ju 0] 60
section
variable {S:List Nat} {w0 w:World} {X Y:HA} {B:Nat} {A:PA} {rs:List Nat} {L:List HA}
theorem bV (h:Scope S w0 w [X,Y]):∃ (B:Nat) (W:World),Hid (B=w.heap.size)∧Hid (W=w.alloc (.cells #[J 0,nS,J 0,Ju 0] 60))∧Hid (Scope S w0 W [X,Y,bK B 0]):=
 ⟨_,_,zd rfl,zd rfl,zd (h.box [J 0,nS,J 0,Ju 0] 60)⟩
theorem aI {c:Int} (h:Scope S w0 w [X,Y,bK B 0]):w.cell? ⟨B,0,none⟩=some (J 0)∧w.cell? ⟨B,1,none⟩=some (nS)∧w.cell? ⟨B,2,none⟩=some (J 0)∧w.cell? ⟨B,3,none⟩=some (Ju 0)∧
  w.frozen? ⟨B,0,none⟩=false∧w.frozen? ⟨B,1,none⟩=false∧w.frozen? ⟨B,2,none⟩=false∧w.frozen? ⟨B,3,none⟩=false∧
  Hid (Scope S w0 ((((w.setCell ⟨B,0,none⟩ (J c)).setCell ⟨B,1,none⟩ (nS)).setCell ⟨B,2,none⟩ (J 0)).setCell ⟨B,3,none⟩ (Ju 0)) [X,Y,bK B c]):=by
 have s4:Scope S w0 w ([X,Y]++([bK B 0]++[])):=h;have rb:=s4.row (k:=B) 2 rfl;have q4:=Scope.au (Scope.au (Scope.au (Scope.au s4 0 (J c)) 1 (nS)) 2 (J 0)) 3 (Ju 0)
 exact⟨rb.cell rfl,rb.cell rfl,rb.cell rfl,rb.cell rfl,rb.free 0,rb.free 1,rb.free 2,rb.free 3,zd q4⟩
theorem aQ {fn:Func} {a:Act} {r:Value} {As':List HA} {c:Int} {d:Bool} (he:bI c d=r) (Q4:Hid (Scope S w0 w [X,Y,bK B c]))
  (hres:∀ V:World,At V B 0 (J c)→At V B 1 (nS)→At V B 2 (J 0)→At V B 3 (Ju 0)→(results fn a.tmps).run prog V=.ok (bI c d) V)
  (hd:a.defers=[]) (hE:∀ V,Scope S w0 V ([X,Y]++[bK B c])→Scope S w0 V (As'++[bK B c])):bodyPost prog fn (Ends S w0 r As') .ret a w:=by
 have rb:=Q4.out.row (k:=B) 2 rfl
 exact bodyPost_ret (hres w (rb.cell rfl) (rb.cell rfl) (rb.cell rfl) (rb.cell rfl)) hd (Ends.mk' he [bK B c] (hE w Q4.out))
theorem Does.iY {f:FuncId} {args:Array Value} {r:Value} {X' Y':HA} (d:Does prog [X,Y] f args r [X',Y']) (h:Scope S w0 w (X::Y::L)):Calls prog f args w fun e w'=>e=.returned r∧Scope S w0 w' (X'::Y'::L):=d.call (As:=[X,Y]) (As':=[X',Y']) (Bs:=L) h
theorem az {s':PS} (h:Scope S w0 w (ae A rs s'::L)):∃ x,Hid (x=s')∧Scope S w0 w (ae A rs x::L):=⟨_,zd rfl,h⟩
end
end Go.Proofs.YtjnbbmgbmiggbaaGreatDoor
