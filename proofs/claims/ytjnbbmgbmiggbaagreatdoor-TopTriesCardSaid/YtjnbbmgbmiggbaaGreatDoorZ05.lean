/- Lemmas for TopTries' card: the methods of package heap. -/
import Derived.Deep.AppendLies
import Derived.Deep.RegionLaw
import Derived.Test.YtjnbbmgbmiggbaaGreatDoorZ04
set_option linter.unusedSimpArgs false
set_option linter.unusedVariables false
set_option maxRecDepth 20000
set_option maxHeartbeats 4000000
namespace Go.Proofs.YtjnbbmgbmiggbaaGreatDoor
open Go Go.RowKit Go.Maps Go.Proofs.Tryz
theorem nV:Keyed prog 3:=int_keyed underlying3
theorem qy {n:Int} (h:I64 n):∃ l,keyOf prog 3 (J n)=some l:=⟨_,keyOf_int_mk underlying3 (BB h)⟩
theorem xA (w:World):(zeroValue 3).run prog w=.ok (J 0) w:=by kernel_rfl
def mi (l:List It) (f:Value→Option Value):Prop:=
 (∀ id v,f (J id)=some v→∃ (i:Nat) (x:It),v=J i∧l[i]? =some x∧x.id=id)∧∀ (i:Nat) (x:It),l[i]? =some x→f (J x.id)=some (J i)
def oQ (b:Nat) (l:List It):HA where
 holds w fp:=(∃ f,fM prog 3 w b f∧mi l f)∧fp=[b]
 lt:=by rintro w fp ⟨⟨f,h,_⟩,rfl⟩ k hk;simp at hk;subst hk;exact h.lt
 iZ:=by rintro w w' S fp ⟨⟨f,h,h2⟩,rfl⟩ c hn;exact⟨⟨f,h.iZ c (hn _ (by simp)),h2⟩,rfl⟩
@[reducible] def hbox (p:Nat) (c:Value×Nat):HA:=box p [c.1,.map (some c.2)] 205
@[reducible] def dV (p:Nat) (l:List It) (c:Value×Nat):List HA:=[hbox p c,aU c.1 156 2 l.length (its l),oQ c.2 l]
@[reducible] def dY (p:Nat) (l:List It):HA:=uk fun c=>aG (dV p l c)
theorem mi.nodup {l:List It} {f:Value→Option Value} (h:mi l f) {i j:Nat} {x y:It} (hi:l[i]? =some x) (hj:l[j]? =some y) (he:x.id=y.id):i=j:=by
 have h1:=h.2 i x hi;have h2:=h.2 j y hj;rw[he,h2]at h1
 have:=Option.some.inj h1
 simp at this
 omega
theorem lT (l:List It) (i j k:Nat) (hi:i<l.length) (hj:j<l.length):(gq l i j)[k]? =if k=j then l[i]? else if k=i then l[j]? else l[k]?:=by
 unfold gq;rw[List.getElem?_set,List.getElem?_set];have e1:l.getD i .zero=l[i]:=by rw[List.getD_eq_getElem?_getD,List.getElem?_eq_getElem hi];rfl
 have e2:l.getD j .zero=l[j]:=by rw[List.getD_eq_getElem?_getD,List.getElem?_eq_getElem hj];rfl
 by_cases a:k=j
 ·subst a
  rw[if_pos rfl,if_pos rfl,if_pos (by simpa using hj),e1,List.getElem?_eq_getElem hi]
 ·rw[if_neg (Ne.symm a),if_neg a]
  by_cases b:k=i
  ·subst b
   rw[if_pos rfl,if_pos rfl,if_pos hi,e2,List.getElem?_eq_getElem hj]
  ·rw[if_neg (Ne.symm b),if_neg b]
theorem mi.swap {l:List It} {f:Value→Option Value} (h:mi l f) {i j:Nat} {x y:It} (hi:l[i]? =some x) (hj:l[j]? =some y):
  mi (gq l i j) (lI (lI f (J y.id) (some (J i))) (J x.id) (some (J j))):=by
 have hil:=(List.getElem?_eq_some_iff.1 hi).1;have hjl:=(List.getElem?_eq_some_iff.1 hj).1;have key:∀ a b:Int,(J a=J b)↔a=b:=fun a b=>by simp
 constructor
 ·intro id v hv
  by_cases e:id=x.id
  ·subst e
   rw[dM]at hv
   exact⟨j,x,(Option.some.inj hv).symm,by rw[lT l i j j hil hjl,if_pos rfl,hi],rfl⟩
  ·rw[eU _ _ (fun q=>e ((key _ _).1 q))]at hv
   by_cases e2:id=y.id
   ·subst e2
    rw[dM]at hv;have hij:i≠j:=fun q=>by subst q;rw[hi]at hj;cases hj;exact e rfl
    exact⟨i,y,(Option.some.inj hv).symm,by rw[lT l i j i hil hjl,if_neg hij,if_pos rfl,hj],rfl⟩
   ·rw[eU _ _ (fun q=>e2 ((key _ _).1 q))]at hv
    obtain⟨k,z,h1,h2,h3⟩:=h.1 id v hv;refine⟨k,z,h1,?_,h3⟩;rw[lT l i j k hil hjl,if_neg,if_neg,h2]
    ·intro q;subst q;rw[hi]at h2;cases h2;exact e h3.symm
    ·intro q;subst q;rw[hj]at h2;cases h2;exact e2 h3.symm
 ·intro k z hz
  rw[lT l i j k hil hjl]at hz
  by_cases a:k=j
  ·subst a
   rw[if_pos rfl,hi]at hz
   cases hz
   exact dM _ _ _
  ·rw[if_neg a]at hz
   by_cases b:k=i
   ·subst b
    rw[if_pos rfl,hj]at hz
    cases hz
    have hne:y.id≠x.id:=fun q=>a (h.nodup hi hj q.symm)
    rw[eU _ _ (fun q=>hne ((key _ _).1 q)),dM]
   ·rw[if_neg b]at hz
    have h1:z.id≠x.id:=fun q=>b (h.nodup hz hi q)
    have h2:z.id≠y.id:=fun q=>a (h.nodup hz hj q)
    rw[eU _ _ (fun q=>h1 ((key _ _).1 q)),eU _ _ (fun q=>h2 ((key _ _).1 q))]
    exact h.2 k z hz
section
variable {p:Nat} {l:List It} {c:Value×Nat}
theorem Ld {f:Value→Option Value} (h:mi l f) (id:Int):(f (J id)).isSome=hhas l id:=by
 unfold hhas;rw[Bool.eq_iff_iff,List.any_eq_true,Option.isSome_iff_exists]
 constructor
 ·rintro⟨v,hv⟩
  obtain⟨i,x,_,h2,h3⟩:=h.1 id v hv
  exact⟨x,List.mem_of_getElem? h2,by simpa using h3⟩
 ·rintro⟨x,hx,he⟩
  obtain⟨i,hi⟩:=List.mem_iff_getElem?.1 hx
  have:=h.2 i x hi
  simp at he
  rw[he]at this
  exact⟨_,this⟩
theorem rM (id:Int) (hid:I64 id):Does prog [dY p l] 104 #[ptr p,J id] (.bool (hhas l id)) [dY p l]:=
 Does.ex (F:=fun c=>aG (dV p l c)) (G:=fun c=>aG (dV p l c)) fun c=>Does.pack fun S w0 w h=>by
 have c0:At w p 1 (.map (some c.2)):=(h.row 0 rfl).cell rfl;obtain⟨fp,⟨⟨f,h1,h2⟩,_⟩,_⟩:=h.get 2 rfl;obtain⟨x,hx⟩:=qy hid;have hrun:=h1.look_ok (t:=73) nV underlying73 (xA w) hx;rw[Ld h2]at hrun;have H0:=zd h;clear h h1 h2 hx
 go_enter func104,ntmps104
 go_wp2
 go_ret
 exact Ends.mk [] (by simpa using H0.out)
theorem oN:Does prog [dY p l] 110 #[ptr p] (.tuple #[(l.headD .zero).val,.bool (decide (0<l.length))]) [dY p l]:=
 Does.ex (F:=fun c=>aG (dV p l c)) (G:=fun c=>aG (dV p l c)) fun c=>Does.pack fun S w0 w h=>by
 have c0:At w p 0 c.1:=(h.row 0 rfl).cell rfl;have lp:=(h.row 0 rfl).lt;obtain⟨n,hn⟩:∃ n,n=l.length:=⟨_,rfl⟩
 obtain⟨oa,cap,hv,hc1,hc2⟩:=(h.front 1 rfl).jh;rw[←hn]at hv hc1;have H0:=zd h;have Hn:=zd hn
 by_cases h0:n=0
 ·subst h0
  rw[hv]at c0;have hl:l=[]:=List.eq_nil_of_length_eq_zero hn.symm;clear h hv hn
  go_enter func110,ntmps110
  go_wp2
  exact bodyPost_ret (v:=.tuple #[.agg #[Ju 0,J 0],.bool false]) (by simp[results,results110,go_sem]) rfl (Ends.mk' (by rw[hl];rfl) [] (by simpa using H0.out.alloc _))
 ·rw[hv]at c0
  rcases(h.front 1 rfl).ny with⟨hv',hz⟩|⟨g,cap',hv',lg,_,_⟩
  ·omega
  obtain⟨x,hx⟩:∃ x,l[0]? =some x:=⟨_,List.getElem?_eq_getElem (by omega)⟩
  have hl:l.headD .zero=x:=by cases l with|nil=>simp at hx|cons y l=>simpa using hx
  have hv2:=hv.symm.trans hv';obtain⟨rfl,_⟩:oa=some ⟨g,0,none⟩∧True:=by simp at hv2;exact⟨hv2.1,trivial⟩
  obtain⟨f,⟨hr,_⟩,_⟩:=h.get 1 rfl;obtain⟨e0,e1⟩:=vg l 0 x hx;have d0:At w g 0 (Ju x.key):=dw hr (by rw[hv'];rfl) e0;have d1:At w g 1 (J x.id):=dw hr (by rw[hv'];rfl) e1;have q:((n:Int)==0)=false:=beq_eq_false_iff_ne.2 (by omega);have q1:(0:Int)<(n:Int):=by omega
  have hd:decide (0<l.length)=true:=decide_eq_true (by omega);clear h hv hv' hv2 hn hx e0 e1 hr h0
  go_enter func110,ntmps110
  go_wp2
  exact bodyPost_ret (v:=.tuple #[.agg #[Ju x.key,J x.id],.bool true]) (by simp[results,results110,go_sem]) rfl (Ends.mk' (by rw[hl,hd]) [] (by simpa using(H0.out.alloc _)))
theorem sZ {i j:Nat} {v:Value} {mb:Nat} (hil:i<l.length) (hjl:j<l.length) (hl:l.length≤100000) (ho:fH l):Does prog (dV p l (v,mb)) 146 #[ptr p,J i,J j] (.tuple #[]) (dV p (gq l i j) (v,mb)):=Does.ax fun S w0 w h=>by
 obtain⟨x,hx⟩:∃ x,l[i]? =some x:=⟨_,List.getElem?_eq_getElem hil⟩
 obtain⟨y,hy⟩:∃ y,l[j]? =some y:=⟨_,List.getElem?_eq_getElem hjl⟩
 have h1:=h.front 1 rfl;obtain⟨g,cap,rest,rfl,h2,k1,k2,k3,k4⟩:=h1.qj (by omega);have h3:Scope S w0 w ([hbox p (.slice (some ⟨g,0,none⟩) l.length cap,mb)]++([box g (its l++rest) 156]++[oQ mb l])):=h2.swap2;clear h h1 h2;obtain⟨n,hn⟩:∃ n,n=l.length:=⟨_,rfl⟩
 rw[←hn]at h3 k1 k4 hil hjl hl ⊢
 have rg:=h3.row (k:=g) (vs:=its l++rest) (t:=156) 1 rfl;have c0:At w p 0 (.slice (some ⟨g,0,none⟩) n cap):=(h3.row 0 rfl).cell rfl;obtain⟨ex0,ex1⟩:=gX hx rest;obtain⟨ey0,ey1⟩:=gX hy rest;have x0:=rg.cell ex0;have x1:=rg.cell ex1;have y0:=rg.cell ey0;have y1:=rg.cell ey1;have f0:=rg.free (i*2);have f1:=rg.free (i*2+1);have g0:=rg.free (j*2);have g1:=rg.free (j*2+1);have hpg:p≠g:=h3.bne (i:=0) (j:=1) (by omega) rfl rfl;have i0:(0:Int)≤(i:Int):=by omega
 have i1:(i:Int)<(n:Int):=by omega
 have j0:(0:Int)≤(j:Int):=by omega
 have j1:(j:Int)<(n:Int):=by omega
 have H3:=zd h3;have Hn:=zd hn;have Hx:=zd hx;have Hy:=zd hy;have Hpg:=zd hpg;clear h3 hn hx hy rg ex0 ex1 ey0 ey1 hpg
 go_enter func146,ntmps146
 go_wp2_with fail
 refine aP (by kernel_rfl) ?_;refine aY [9] ?_
 repeat (refine ay _ rfl (by kernel_rfl) (fun _ _ _ h=>h) (fun w'=>by(try simp only[ag,ah,aj]);go_simp;try with_reducible rfl) ?_;try simp only[Act.put,ag,ah,aj,aF,aB,aC])
 refine aH ?_;have h0:At w.drew p 0 (.slice (some ⟨g,0,none⟩) n cap)∧At w.drew g (i*2) (Ju x.key)∧At w.drew g (i*2+1) (J x.id)∧At w.drew g (j*2) (Ju y.key)∧At w.drew g (j*2+1) (J y.id):=⟨c0,x0,x1,y0,y1⟩
 refine bu (S:=fun w'=>At w' p 0 (.slice (some ⟨g,0,none⟩) n cap)∧At w' g (i*2) (Ju x.key)∧At w' g (i*2+1) (J x.id)∧At w' g (j*2) (Ju y.key)∧At w' g (j*2+1) (J y.id)) (U:=[0,1,2,3,4,5,6,7,8,10,11,12,13,14,15,16,17,18,19,20,21,22,23]) _ _ _ _ ?_;refine dB [0,1,2,3,4,5,6,7,8,10,11,12,13,14,15,16,17,18,19,20,21,22,23] ?_
 repeat (refine aN _ rfl (by kernel_rfl) (fun _ _ _ h=>h) h0 (fun w' hS=>by(try dsimp only at hS);(try simp only[ag,ah,aj]);go_simp;try with_reducible rfl) ?_;try simp only[Act.put,ag,ah,aj,aF,aB,aC])
 refine bM ?_;refine aX _ _ _ _ (fun j hj=>?_) ?_
 ·simp at hj;rcases hj with rfl|rfl|rfl|rfl|rfl|rfl|rfl|rfl|rfl|rfl|rfl|rfl|rfl|rfl|rfl|rfl|rfl|rfl|rfl|rfl|rfl|rfl|rfl<;>rfl
 refine aY [24] ?_
 repeat (refine ay _ rfl (by kernel_rfl) (fun _ _ _ h=>h) (fun w'=>by(try simp only[ag,ah,aj]);go_simp;try with_reducible rfl) ?_;try simp only[Act.put,ag,ah,aj,aF,aB,aC])
 refine aH ?_;clear h0;refine af 25 (by kernel_rfl) rfl (by rfl) fun K hK=>?_
 go_simp;refine hK _ _ ?_;clear hK K
 try simp only[Act.put,ag,ah,aj,aF,aB,aC]
 have q0:=Scope.au (As:=[hbox p (.slice (some ⟨g,0,none⟩) n cap,mb)]) (Bs:=[oQ mb l]) H3.out (i*2) (Ju y.key);have q1:=Scope.au (As:=[hbox p (.slice (some ⟨g,0,none⟩) n cap,mb)]) (Bs:=[oQ mb l]) q0 (i*2+1) (J y.id);rw[pV l i y (by rw[←Hn.out];exact hil)]at q1;obtain⟨W,hW⟩:∃ W,W=(w.setCell ⟨g,i*2,none⟩ (Ju y.key)).setCell ⟨g,i*2+1,none⟩ (J y.id):=⟨_,rfl⟩
 rw[←hW]at q1 ⊢
 clear hW q0 x0 x1 y0 y1 f0 f1 g0 g1 c0;obtain⟨z,hz⟩:∃ z,(l.set i y)[j]? =some z:=⟨_,List.getElem?_eq_getElem (by simp;rw[←Hn.out];exact hjl)⟩
 obtain⟨ez0,ez1⟩:=gX hz rest;have rg:=q1.row (k:=g) (vs:=its (l.set i y)++rest) (t:=156) 1 rfl;have z0:=rg.cell ez0;have z1:=rg.cell ez1;have g0:=rg.free (j*2);have g1:=rg.free (j*2+1);have Q1:=zd q1;clear rg ez0 ez1 hz q1;refine aY [26] ?_
 repeat (refine ay _ rfl (by kernel_rfl) (fun _ _ _ h=>h) (fun w'=>by(try simp only[ag,ah,aj]);go_simp;try with_reducible rfl) ?_;try simp only[Act.put,ag,ah,aj,aF,aB,aC])
 refine aH ?_;refine af 27 (by kernel_rfl) rfl (by rfl) fun K hK=>?_
 go_simp;refine hK _ _ ?_;clear hK K
 try simp only[Act.put,ag,ah,aj,aF,aB,aC]
 refine wpAny_done (by kernel_rfl) ?_ _;have q2:=Scope.au (As:=[hbox p (.slice (some ⟨g,0,none⟩) n cap,mb)]) (Bs:=[oQ mb l]) Q1.out (j*2) (Ju x.key);have q3:=Scope.au (As:=[hbox p (.slice (some ⟨g,0,none⟩) n cap,mb)]) (Bs:=[oQ mb l]) q2 (j*2+1) (J x.id);rw[pV (l.set i y) j x (by simp;rw[←Hn.out];exact hjl)]at q3;have esw:(l.set i y).set j x=gq l i j:=by
  unfold gq;rw[List.getD_eq_getElem?_getD,List.getD_eq_getElem?_getD,Hx.out,Hy.out];rfl
 rw[esw]at q3;obtain⟨V,hV⟩:∃ V,V=(W.setCell ⟨g,j*2,none⟩ (Ju x.key)).setCell ⟨g,j*2+1,none⟩ (J x.id):=⟨_,rfl⟩
 rw[←hV]at q3 ⊢
 clear hV q2 Q1 z0 z1 g0 g1 esw W;have hij:=lT l i j i (by rw[←Hn.out];exact hil) (by rw[←Hn.out];exact hjl);have hjj:=lT l i j j (by rw[←Hn.out];exact hil) (by rw[←Hn.out];exact hjl);rw[if_pos rfl,Hx.out]at hjj;have hii:(gq l i j)[i]? =some y:=by
  rw[hij]
  by_cases e:i=j
  ·subst e;rw[if_pos rfl,Hx.out];have:=Hx.out.symm.trans Hy.out;exact this
  ·rw[if_neg e,if_pos rfl,Hy.out]
 obtain⟨f,⟨⟨f,hm,hf⟩,_⟩,_⟩:=q3.get 2 rfl;have rg:=q3.row (k:=g) (vs:=its (gq l i j)++rest) (t:=156) 1 rfl;have c0:At V.drew.drew p 0 (.slice (some ⟨g,0,none⟩) n cap):=(q3.row 0 rfl).cell rfl;have c1:At V.drew.drew p 1 (.map (some mb)):=(q3.row 0 rfl).cell rfl;have y1:At V.drew.drew g (i*2+1) (J y.id):=rg.cell (gX hii rest).2;have x1:At V.drew.drew g (j*2+1) (J x.id):=rg.cell (gX hjj rest).2;have Q3:=zd q3;have Hm:=zd (show fM prog 3 V.drew.drew mb f from hm.kept rfl);have Hf:=zd hf;have Hii:=zd hii;have Hjj:=zd hjj;clear q3 hm hf hii hjj hij rg
 go_wp2_with fail
 refine aP (by kernel_rfl) ?_;refine aY [24,25] ?_
 repeat (refine ay _ rfl (by kernel_rfl) (fun _ _ _ h=>h) (fun w'=>by(try simp only[ag,ah,aj]);go_simp;try with_reducible rfl) ?_;try simp only[Act.put,ag,ah,aj,aF,aB,aC])
 refine aH ?_;have h0:At V.drew.drew p 0 (.slice (some ⟨g,0,none⟩) n cap)∧At V.drew.drew p 1 (.map (some mb))∧At V.drew.drew g (i*2+1) (J y.id)∧At V.drew.drew g (j*2+1) (J x.id):=⟨c0,c1,y1,x1⟩
 refine bu (S:=fun w'=>At w' p 0 (.slice (some ⟨g,0,none⟩) n cap)∧At w' p 1 (.map (some mb))∧At w' g (i*2+1) (J y.id)∧At w' g (j*2+1) (J x.id)) (U:=[0,1,2,3,4,5,6,7,8,9,10,11,12,13,14,15,16,17,18,19,20,21,22,23]) _ _ _ _ ?_;refine dB [0,1,2,3,4,5,6,7,8,9,10,11,12,13,14,15,16,17,18,19,20,21,22,23] ?_
 repeat (refine aN _ rfl (by kernel_rfl) (fun _ _ _ h=>h) h0 (fun w' hS=>by(try dsimp only at hS);(try simp only[ag,ah,aj]);go_simp;try with_reducible rfl) ?_;try simp only[Act.put,ag,ah,aj,aF,aB,aC])
 refine bM ?_;refine aX _ _ _ _ (fun j hj=>?_) ?_
 ·simp at hj;rcases hj with rfl|rfl|rfl|rfl|rfl|rfl|rfl|rfl|rfl|rfl|rfl|rfl|rfl|rfl|rfl|rfl|rfl|rfl|rfl|rfl|rfl|rfl|rfl|rfl<;>rfl
 obtain⟨ky,hky⟩:=qy (ho y (List.mem_of_getElem? Hy.out)).1;obtain⟨kx,hkx⟩:=qy (ho x (List.mem_of_getElem? Hx.out)).1;obtain⟨b1,r1,B1⟩:=Hm.out.entry (t:=73) nV underlying73 hky (Hf.out.2 j y Hy.out);have R1:(Instr.mapEntry 73 (.map (some mb)) (J y.id)).run prog V.drew.drew=.ok (.tuple #[J j,J b1]) V.drew.drew:=r1;have HB1:=zd B1;clear r1 B1 h0 c0 c1 y1 x1;refine af 26 (by kernel_rfl) rfl (by rfl) fun K hK=>?_
 go_simp;refine hK _ _ ?_;clear hK K
 try simp only[Act.put,ag,ah,aj,aF,aB,aC]
 refine aY [27] ?_
 repeat (refine ay _ rfl (by kernel_rfl) (fun _ _ _ h=>h) (fun w'=>by(try simp only[ag,ah,aj]);go_simp;try with_reducible rfl) ?_;try simp only[Act.put,ag,ah,aj,aF,aB,aC])
 refine aH ?_;clear R1;obtain⟨V1,r2,m1,d1,B2⟩:=Hm.out.stamp (t:=73) HB1.out (J i);have M1:=zd m1;have D1:=zd d1;clear m1 d1 B2;refine af 28 (by kernel_rfl) rfl (by rfl) fun K hK=>?_
 go_simp;refine hK _ _ ?_;clear hK K
 try simp only[Act.put,ag,ah,aj,aF,aB,aC]
 clear r2;have e1:lI f (J y.id) (some (J i)) (J x.id)=some (J i):=by
  by_cases e:(J x.id)=J y.id
  ·rw[e,dM]
  ·rw[eU _ _ e,Hf.out.2 i x Hx.out]
 obtain⟨b2,r3,B3⟩:=M1.out.entry (t:=73) nV underlying73 hkx e1;have HB3:=zd B3;clear e1 B3;refine af 29 (by kernel_rfl) rfl (by rfl) fun K hK=>?_
 go_simp;refine hK _ _ ?_;clear hK K
 try simp only[Act.put,ag,ah,aj,aF,aB,aC]
 refine aY [30] ?_
 repeat (refine ay _ rfl (by kernel_rfl) (fun _ _ _ h=>h) (fun w'=>by(try simp only[ag,ah,aj]);go_simp;try with_reducible rfl) ?_;try simp only[Act.put,ag,ah,aj,aF,aB,aC])
 refine aH ?_;clear r3;obtain⟨V2,r4,m2,d2,B4⟩:=M1.out.stamp (t:=73) HB3.out (J j);have M2:=zd m2;have D2:=zd d2;clear m2 d2 B4;refine af 31 (by kernel_rfl) rfl (by rfl) fun K hK=>?_
 go_simp;refine hK _ _ ?_;clear hK K
 try simp only[Act.put,ag,ah,aj,aF,aB,aC]
 clear r4;refine wpAny_done (by kernel_rfl) ?_ _
 go_wp2
 go_end0
 have s1:=(Q3.out.drew.drew).front 2 rfl;obtain⟨fp,⟨_,rfl⟩,s2⟩:=s1.turned;have s3:=s2 (oQ mb (gq l i j)) V2 [mb] ⟨⟨_,M2.out,Hf.out.swap Hx.out Hy.out⟩,rfl⟩ (D1.out.same D2.out) (Own.refl _ _);have hl':=ji l i j;have s4:=(s3.front 2 rfl).own (size:=2) (n:=n) (cap:=cap) k1 k2 (by have:=jf (gq l i j);have:=jf l;simp at k3 ⊢;omega) (by rw[jf,hl', ←Hn.out]);refine Ends.mk' rfl [] ?_;have s5:Scope S w0 V2 (dV p (gq l i j) (.slice (some ⟨g,0,none⟩) n cap,mb)):=by
  have:=s4.front 2 rfl
  unfold dV;rw[hl', ←Hn.out]
  exact this
 simpa using s5
end
theorem Pure.at' {P:Program} {f:FuncId} {args:Array Value} {r:Value} {S:List Nat} {w0 w:World} {As:List HA} (d:Pure P f args r) (h:Scope S w0 w As):Calls P f args w fun e w'=>e=.returned r∧dE [] w w'∧Scope S w0 w' As:=(d w).mono fun _ _ ⟨he,hc⟩=>⟨he,hc,h.quiet hc⟩
theorem Scope.drewN {S:List Nat} {w0 w:World} {As:List HA} (h:Scope S w0 w As) (n:Nat):Scope S w0 (w.drewN n) As:=h.quiet ((dE.refl _ _).drewN n)
theorem Scope.item {S:List Nat} {w0 w:World} {As:List HA} {l:List It} {g cap n:Nat} (h:Scope S w0 w As) {i:Nat} (hi:As[i]? =some (aU (.slice (some ⟨g,0,none⟩) n cap) 156 2 n (its l))) {k:Nat} {x:It} (hx:l[k]? =some x):
  At w g (k*2) (Ju x.key)∧At w g (k*2+1) (J x.id):=by
 obtain⟨f,⟨hr,_⟩,_⟩:=h.get i hi;obtain⟨e0,e1⟩:=vg l k x hx
 exact⟨dw hr rfl e0,dw hr rfl e1⟩
section
variable {p:Nat} {l:List It} {v:Value} {mb:Nat}
theorem SL (hl:0<l.length):Does prog (dV p l (v,mb)) 106 #[ptr p,J 0] (.tuple #[J 0,.bool false]) (dV p l (v,mb)):=Does.ax fun S w0 w h=>by
 have H0:=zd h;clear h
 go_enter func106,ntmps106
 go_wp2_with fail
 go_quiet (fail)
 go_wp2
 go_ret2
 exact Ends.mk [] (by simpa using H0.out.drewN _)
theorem OV {i q:Nat} (hq:q=(i - 1) / 2) (hi0:0<i) (hil:i<l.length) (hll:l.length≤100000) (ho:fH l) (b:Bool) (hb:ahead (l.getD i .zero) (l.getD q .zero)=b):
  Does prog (dV p l (v,mb)) 106 #[ptr p,J i] (.tuple #[J (if b=true then q else i:Nat),.bool b]) (dV p (if b=true then gq l i q else l) (v,mb)):=Does.ax fun S w0 w h=>by
 have hql:q<l.length:=by omega
 obtain⟨x,hx⟩:∃ x,l[i]? =some x:=⟨_,List.getElem?_eq_getElem hil⟩
 obtain⟨y,hy⟩:∃ y,l[q]? =some y:=⟨_,List.getElem?_eq_getElem hql⟩
 have hb':ahead x y=b:=by rw[←hb,List.getD_eq_getElem?_getD,List.getD_eq_getElem?_getD,hx,hy];rfl
 obtain⟨n,hn⟩:∃ n,n=l.length:=⟨_,rfl⟩
 rcases(h.front 1 rfl).ny with⟨_,hz⟩|⟨g,cap,rfl,lg,k1,k2⟩
 ·omega
 have c0:w.cell? ⟨p,0,none⟩=some (.slice (some ⟨g,0,none⟩) l.length cap):=(h.row 0 rfl).cell rfl;obtain⟨x0,x1⟩:=h.item (i:=1) rfl hx;obtain⟨y0,y1⟩:=h.item (i:=1) rfl hy;rw[←hn]at c0 hil hql hll;have e1:((i:Int) - 1).tdiv 2=(q:Int):=by rw[Int.tdiv_eq_ediv_of_nonneg (by omega)];omega
 have e2:((i:Int) - 1) / 2=(q:Int):=by omega
 have e3:IntKind.i64.wrap ((q:Int))=q:=by rw[IntKind.wrap_i64];omega
 have n0:((i:Int)==0)=false:=beq_eq_false_iff_ne.2 (by omega);have i0:(0:Int)≤(i:Int):=by omega
 have i1:(i:Int)<(n:Int):=by omega
 have j0:(0:Int)≤(q:Int):=by omega
 have j1:(q:Int)<(n:Int):=by omega
 have H0:=zd h;have Hn:=zd hn;have Hb:=zd hb';clear h hn hb hb' hx hy hq
 cases b
 all_goals
  simp only[if_true,if_false,Bool.false_eq_true]
  go_enter func106,ntmps106
  go_wp2_with fail
  go_region_held3 (fun w'=>w'.cell? ⟨p,0,none⟩=some (.slice (some ⟨g,0,none⟩) n cap)∧w'.cell? ⟨g,i*2,none⟩=some (Ju x.key)∧w'.cell? ⟨g,i*2+1,none⟩=some (J x.id)∧w'.cell? ⟨g,q*2,none⟩=some (Ju y.key)∧w'.cell? ⟨g,q*2+1,none⟩=some (J y.id)) (go_keep)
   (first
    |(go_at_call 66
      refine((l9 x y).at' H0.out.drew).mono ?_
      rintro e wq ⟨he,hc,sq⟩
      rw[Hb.out]at he;subst he;have z0:wq.cell? ⟨p,0,none⟩=some (.slice (some ⟨g,0,none⟩) n cap):=hc.cell c0 (by simp);have z1:wq.cell? ⟨g,i*2,none⟩=some (Ju x.key):=hc.cell x0 (by simp);have z2:wq.cell? ⟨g,i*2+1,none⟩=some (J x.id):=hc.cell x1 (by simp);have z3:wq.cell? ⟨g,q*2,none⟩=some (Ju y.key):=hc.cell y0 (by simp);have z4:wq.cell? ⟨g,q*2+1,none⟩=some (J y.id):=hc.cell y1 (by simp);have Hq:=zd sq
      clear sq hc))
 ·go_wp2
  go_ret2
  exact Ends.mk [] (by simpa using Hq.out)
 ·go_wp2_with fail
  refine((sZ (p:=p) (by rw[←Hn.out];exact hil) (by rw[←Hn.out];exact hql) (by rw[←Hn.out];exact hll) ho).call (Bs:=[]) (by simpa using Hq.out)).mono ?_
  rintro e wr ⟨rfl,sr⟩
  have Hr:=zd sr;clear sr
  go_wp2
  go_ret2
  exact Ends.mk [] (by simpa using Hr.out)
end
def hls (l:List It) (i:Nat):Nat→Nat
 |0=>i
 |1=>hl1 l i
 |_=>jc l i
theorem QZ {l:List It} {i t:Nat} (ht:t<2) (hk:2*i+1+t<l.length):hls l i (t+1)=if ahead (l.getD (2*i+1+t) .zero) (l.getD (hls l i t) .zero)=true then 2*i+1+t else hls l i t:=by
 rcases(show t=0∨t=1 by omega)with rfl|rfl
 ·show hl1 l i=if ahead (l.getD (2*i+1) .zero) (l.getD i .zero)=true then 2*i+1 else i
  unfold hl1
  by_cases c:ahead (l.getD (2*i+1) .zero) (l.getD i .zero)=true
  ·rw[if_pos ⟨hk,c⟩,if_pos c]
  ·rw[if_neg (fun q=>c q.2),if_neg c]
 ·show jc l i=if ahead (l.getD (2*i+2) .zero) (l.getD (hl1 l i) .zero)=true then 2*i+2 else hl1 l i
  unfold jc
  by_cases c:ahead (l.getD (2*i+2) .zero) (l.getD (hl1 l i) .zero)=true
  ·rw[if_pos ⟨hk,c⟩,if_pos c]
  ·rw[if_neg (fun q=>c q.2),if_neg c]
theorem Qs {l:List It} {i t:Nat} (ht:t≤2) (hk:t=2∨l.length≤2*i+1+t):jc l i=hls l i t:=by
 rcases(show t=0∨t=1∨t=2 by omega)with rfl|rfl|rfl
 ·show jc l i=i
  unfold jc;rw[if_neg (by omega)];unfold hl1;rw[if_neg (by omega)]
 ·show jc l i=hl1 l i
  unfold jc;rw[if_neg (by omega)]
 ·rfl
theorem QU {l:List It} {i:Nat} (hi:i<l.length):hl1 l i<l.length∧i≤hl1 l i:=by unfold hl1;split<;>omega
theorem ru {l:List It} {i:Nat} (hi:i<l.length):jc l i<l.length∧i≤jc l i:=by
 have:=QU hi
 unfold jc;split<;>omega
theorem Uy {l:List It} {i t:Nat} (hi:i<l.length):hls l i t<l.length∧i≤hls l i t:=by
 match t with
 |0=>exact⟨hi,Nat.le_refl _⟩
 |1=>exact QU hi
 |_+2=>exact ru hi
section
variable {p:Nat} {l:List It} {v:Value} {mb:Nat}
theorem Ik {i:Nat} (hil:i<l.length) (hll:l.length≤100000) (ho:fH l) {q:Nat} {b:Bool} {l':List It} (hq:q=jc l i) (hb:b=decide (q≠i)) (hl':l'=if q=i then l else gq l i q):
  Does prog (dV p l (v,mb)) 151 #[ptr p,J i] (.tuple #[J (q:Nat),.bool b]) (dV p l' (v,mb)):=Does.ax fun S w0 w h=>by
 obtain⟨n,hn⟩:∃ n,n=l.length:=⟨_,rfl⟩
 rcases(h.front 1 rfl).ny with⟨_,hz⟩|⟨g,cap,rfl,lg,k1,k2⟩
 ·omega
 have H0:=zd h;have Hn:=zd hn;have Hb:=zd hb;have Hl:=zd hl';have Hq:=zd hq;have hil':=hil;have hll':=hll;rw[←hn]at hil' hll';have Hil:=zd hil;clear h hn hb hil hll lg k1 k2 hl' hq
 go_enter func151,ntmps151
 go_wp2_with fail
 go_loopw [6,7] (fun a b wr=>∃ t:Nat,t≤2∧a=J (hls l i t:Nat)∧b=J (2*i+1+t:Nat)∧Scope S w0 wr (dV p l (.slice (some ⟨g,0,none⟩) l.length cap,mb))) (fun _ b _=>2*i+3 - (intOf b).toNat)
 case atStart=>exact⟨0,by omega,rfl,by go_num,H0.out⟩
 case round=>
  obtain⟨t,ht,rfl,rfl,hs⟩:=hrel;have c0:wr.cell? ⟨p,0,none⟩=some (.slice (some ⟨g,0,none⟩) l.length cap):=(hs.row 0 rfl).cell rfl;rw[←Hn.out]at c0
  by_cases hlt:t<2∧2*i+1+t<n
  ·obtain⟨ht2,hk⟩:=hlt
   obtain⟨x,hx⟩:∃ x,l[2*i+1+t]? =some x:=⟨_,List.getElem?_eq_getElem (by rw[←Hn.out];exact hk)⟩
   have hm:=(Uy (t:=t) Hil.out).1;obtain⟨y,hy⟩:∃ y,l[hls l i t]? =some y:=⟨_,List.getElem?_eq_getElem hm⟩
   have hstep:=QZ ht2 (by rw[←Hn.out];exact hk);have hb':ahead (l.getD (2*i+1+t) .zero) (l.getD (hls l i t) .zero)=ahead x y:=by rw[List.getD_eq_getElem?_getD,List.getD_eq_getElem?_getD,hx,hy];rfl
   rw[hb']at hstep;obtain⟨x0,x1⟩:=hs.item (i:=1) rfl hx;obtain⟨y0,y1⟩:=hs.item (i:=1) rfl hy;rw[←Hn.out]at hm;generalize hkk:2*i+1+t=k at *;generalize hmm:hls l i t=m at *;generalize hbb:ahead x y=bb at *;have i0:(0:Int)≤(k:Int):=by omega
   have i1:(k:Int)<(n:Int):=by omega
   have j0:(0:Int)≤(m:Int):=by omega
   have j1:(m:Int)<(n:Int):=by omega
   have dk:decide ((k:Int)≤2*(i:Int)+2)=true:=by simp;omega
   have Hs:=zd hs;have Hk:=zd hkk;have Hm:=zd hmm;have Hbb:=zd hbb;have Hst:=zd hstep;have Hx:=zd hx;have Hy:=zd hy;clear hs hkk hmm hbb hstep hx hy hb'
   cases bb
   all_goals
    go_wp2_with fail
    go_region_held3 (fun w'=>w'.cell? ⟨p,0,none⟩=some (.slice (some ⟨g,0,none⟩) n cap)∧w'.cell? ⟨g,k*2,none⟩=some (Ju x.key)∧w'.cell? ⟨g,k*2+1,none⟩=some (J x.id)∧w'.cell? ⟨g,m*2,none⟩=some (Ju y.key)∧w'.cell? ⟨g,m*2+1,none⟩=some (J y.id)) (go_keep)
     (first
      |(go_at_call 66
        refine((l9 x y).at' Hs.out.drew).mono ?_
        rintro e wq ⟨he,hc,sq⟩
        rw[Hbb.out]at he;subst he;have z0:wq.cell? ⟨p,0,none⟩=some (.slice (some ⟨g,0,none⟩) n cap):=hc.cell c0 (by simp);have z1:wq.cell? ⟨g,k*2,none⟩=some (Ju x.key):=hc.cell x0 (by simp);have z2:wq.cell? ⟨g,k*2+1,none⟩=some (J x.id):=hc.cell x1 (by simp);have z3:wq.cell? ⟨g,m*2,none⟩=some (Ju y.key):=hc.cell y0 (by simp);have z4:wq.cell? ⟨g,m*2+1,none⟩=some (J y.id):=hc.cell y1 (by simp);have Hsq:=zd sq
        clear sq hc))
    go_wp2
    go_roundw
   case rel=>exact⟨t+1,by omega,by rw[Hst.out];rfl,by rw[show 2*i+1+(t+1)=k+1 by have:=Hk.out;omega];go_num,Hsq.out⟩
   case measure=>have:=Hk.out;simp[intOf];omega
   case rel=>exact⟨t+1,by omega,by rw[Hst.out];rfl,by rw[show 2*i+1+(t+1)=k+1 by have:=Hk.out;omega];go_num,Hsq.out⟩
   case measure=>have:=Hk.out;simp[intOf];omega
  ·have hex:=Qs (l:=l) (i:=i) ht (by rw[←Hn.out];omega)
   rw[←Hq.out]at hex;have Hex:=zd hex;have Hs:=zd hs;generalize hmm:hls l i t=m at *;obtain rfl:m=q:=hex.symm;clear hs hex;generalize hkk:2*i+1+t=k at *;have Hk:=zd hkk;have Hmm:=zd hmm;have hcase:(decide ((k:Int)≤2*(i:Int)+2)=false)∨(decide ((k:Int)≤2*(i:Int)+2)=true∧decide (k<n)=false):=by
    by_cases ht2:t=2
    ·left;simp;omega
    ·right;exact⟨by simp;omega,by simp;omega⟩
   clear hkk hmm hlt
   by_cases hqi:m=i
   ·obtain rfl:b=false:=by rw[Hb.out];simp[hqi]
    obtain rfl:l'=l:=by rw[Hl.out,if_pos hqi]
    subst hqi
    rcases hcase with dk|⟨dk1,dk2⟩
    all_goals
     go_wp2
     go_ret2
     exact Ends.mk [] (by simpa using Hs.out)
   ·obtain rfl:b=true:=by rw[Hb.out];simp[hqi]
    have hl2:l'=gq l i m:=by rw[Hl.out,if_neg hqi]
    subst hl2;have nq:((m:Int)==(i:Int))=false:=beq_eq_false_iff_ne.2 (by omega);have hml:m<l.length:=by rw[Hq.out];exact(ru Hil.out).1
    have Hml:=zd hml;clear hml
    rcases hcase with dk|⟨dk1,dk2⟩
    all_goals
     go_wp2_with fail
     refine((sZ (p:=p) Hil.out Hml.out (by rw[←Hn.out];exact hll') ho).call (Bs:=[]) (by simpa using Hs.out)).mono ?_
     rintro e wr ⟨rfl,sr⟩
     have Hr:=zd sr;clear sr
     go_wp2
     go_ret2
     exact Ends.mk [] (by simpa using Hr.out)
end
def boolN:Value→Nat
 |.bool true=>1
 |_=>0
theorem Du (f:Nat) (l:List It) (i:Nat):hup (f+1) l i=if i=0∨ahead (l.getD i .zero) (l.getD ((i - 1) / 2) .zero)=false then l else hup f (gq l i ((i - 1) / 2)) ((i - 1) / 2):=rfl
theorem G9 (f:Nat) (l:List It) (i:Nat):hdown (f+1) l i=if jc l i=i then l else hdown f (gq l i (jc l i)) (jc l i):=rfl
def DI (R:List It) (n k:Nat) (more:Bool) (l2:List It):Prop:=k<n∧l2.length=n∧fH l2∧if more=true then ∃ f,k<f∧hup f l2 k=R else l2=R
def yz (R:List It) (n k:Nat) (more:Bool) (l2:List It):Prop:=k<n∧l2.length=n∧fH l2∧if more=true then ∃ f,n≤k+f∧hdown f l2 k=R else l2=R
theorem DI.top {R l2:List It} {n:Nat} (h:DI R n 0 true l2):DI R n 0 false l2:=by
 obtain⟨h1,h2,h3,f,h4,h5⟩:=h;refine⟨h1,h2,h3,?_⟩
 cases f with
 |zero=>omega
 |succ f=>rw[Du,if_pos (Or.inl rfl)]at h5;exact h5
theorem DI.step {R l2:List It} {n k q:Nat} {b:Bool} (h:DI R n k true l2) (hk:0<k) (hq:q=(k - 1) / 2) (hb:ahead (l2.getD k .zero) (l2.getD q .zero)=b):DI R n (if b=true then q else k) b (if b=true then gq l2 k q else l2):=by
 obtain⟨h1,h2,h3,f,h4,h5⟩:=h;subst hq
 cases f with
 |zero=>omega
 |succ f=>
  rw[Du]at h5
  cases b with
  |false=>
   rw[if_pos (Or.inr hb)]at h5
   exact⟨h1,h2,h3,h5⟩
  |true=>
   rw[if_neg (by rw[hb];simp;omega)]at h5
   exact⟨by simp;omega,by simp[ji,h2],h3.swap _ _,f,by simp;omega,h5⟩
theorem yz.step {R l2:List It} {n k q:Nat} {b:Bool} {l3:List It} (h:yz R n k true l2) (hq:q=jc l2 k) (hb:b=decide (q≠k)) (hl:l3=if q=k then l2 else gq l2 k q):yz R n q b l3:=by
 obtain⟨h1,h2,h3,f,h4,h5⟩:=h;have hlt:=ru (l:=l2) (i:=k) (by omega);rw[←hq]at hlt
 cases f with
 |zero=>omega
 |succ f=>
  rw[G9, ←hq]at h5
  by_cases e:q=k
  ·rw[if_pos e]at h5 hl
   subst hb;rw[hl]
   exact⟨by omega,h2,h3,by simp[e];exact h5⟩
  ·rw[if_neg e]at h5 hl
   subst hb;rw[hl]
   exact⟨by omega,by simp[ji,h2],h3.swap _ _,by simp[e];exact⟨f,by omega,h5⟩⟩
section
variable {p:Nat} {l:List It} {v:Value} {mb:Nat}
theorem KX {i:Nat} (hil:i<l.length) (hll:l.length≤100000) (ho:fH l):
  Does prog (dV p l (v,mb)) 105 #[J i,.func (.func 106) #[ptr p] #[]] (.tuple #[]) (dV p (hup (i+1) l i) (v,mb)):=Does.ax fun S w0 w h=>by
 obtain⟨R,hR⟩:∃ R,R=hup (i+1) l i:=⟨_,rfl⟩
 obtain⟨n,hn⟩:∃ n,n=l.length:=⟨_,rfl⟩
 have hU:DI R n i true l:=⟨by omega,hn.symm,ho,i+1,by omega,hR.symm⟩
 rw[←hR];have H0:=zd h;have HU:=zd hU;rw[←hn]at hll;clear h hn hR hU hil ho
 go_enter func105,ntmps105
 go_wp2_with fail
 go_loopw [0,4] (fun a b wr=>∃ (k:Nat) (more:Bool) (l2:List It),a=J k∧b=.bool more∧DI R n k more l2∧Scope S w0 wr (dV p l2 (v,mb))) (fun a b _=>2*(intOf a).toNat+boolN b)
 case atStart=>exact⟨i,true,l,rfl,rfl,HU.out,H0.out⟩
 case round=>
  obtain⟨k,more,l2,rfl,rfl,hu,hs⟩:=hrel;have Hu:=zd hu;have Hs:=zd hs;clear hu hs
  cases more
  ·go_wp2
   go_end0
   have:=Hu.out.2.2.2
   simp at this
   subst this
   exact Ends.mk [] (by simpa using Hs.out)
  ·by_cases hk:k=0
   ·subst hk
    go_wp2_with fail
    refine((SL (p:=p) (l:=l2) (by have:=Hu.out.2.1;have:=Hu.out.1;omega)).call (Bs:=[]) (by simpa using Hs.out)).mono ?_
    rintro e wq ⟨rfl,sq⟩
    have Hq:=zd sq;clear sq
    go_wp2
    go_roundw
    case rel=>exact⟨0,false,l2,rfl,rfl,Hu.out.top,by simpa using Hq.out⟩
    case measure=>simp[intOf,boolN]
   ·obtain⟨q,hq⟩:∃ q,q=(k - 1) / 2:=⟨_,rfl⟩
    obtain⟨b,hb⟩:∃ b,ahead (l2.getD k .zero) (l2.getD q .zero)=b:=⟨_,rfl⟩
    obtain⟨k2,hk2⟩:∃ k2,k2=if b=true then q else k:=⟨_,rfl⟩
    obtain⟨l3,hl3⟩:∃ l3,l3=if b=true then gq l2 k q else l2:=⟨_,rfl⟩
    have hst:=Hu.out.step (by omega) hq hb;have hm:2*k2+boolN (.bool b)<2*k+1:=by
     rw[hk2]
     cases b
     ·show 2*k+0<2*k+1;omega
     ·show 2*q+1<2*k+1;omega
    have d:=OV (p:=p) (v:=v) (mb:=mb) hq (by omega) (by have:=Hu.out.2.1;have:=Hu.out.1;omega) (by have:=Hu.out.2.1;omega) Hu.out.2.2.1 b hb;rw[←hk2, ←hl3]at hst d;have Hst:=zd hst;have Hd:=zd d;clear hst d hk2 hl3 hb hq
    go_wp2_with fail
    refine(Hd.out.call (Bs:=[]) (by simpa using Hs.out)).mono ?_
    rintro e wq ⟨rfl,sq⟩
    have Hq:=zd sq;clear sq
    go_wp2
    go_roundw
    case rel=>exact⟨k2,b,l3,rfl,rfl,Hst.out,by simpa using Hq.out⟩
    case measure=>simp[intOf,boolN]at hm ⊢;omega
theorem NZ {i:Nat} (hil:i<l.length) (hll:l.length≤100000) (ho:fH l):
  Does prog (dV p l (v,mb)) 105 #[J i,.func (.func 151) #[ptr p] #[]] (.tuple #[]) (dV p (hdown l.length l i) (v,mb)):=Does.ax fun S w0 w h=>by
 obtain⟨n,hn⟩:∃ n,n=l.length:=⟨_,rfl⟩
 rw[←hn];obtain⟨R,hR⟩:∃ R,R=hdown n l i:=⟨_,rfl⟩
 have hU:yz R n i true l:=⟨by omega,hn.symm,ho,n,by omega,hR.symm⟩
 rw[←hR];have H0:=zd h;have HU:=zd hU;rw[←hn]at hll;clear h hn hR hU hil ho
 go_enter func105,ntmps105
 go_wp2_with fail
 go_loopw [0,4] (fun a b wr=>∃ (k:Nat) (more:Bool) (l2:List It),a=J k∧b=.bool more∧yz R n k more l2∧Scope S w0 wr (dV p l2 (v,mb))) (fun a b _=>2*(n - (intOf a).toNat)+boolN b)
 case atStart=>exact⟨i,true,l,rfl,rfl,HU.out,H0.out⟩
 case round=>
  obtain⟨k,more,l2,rfl,rfl,hu,hs⟩:=hrel;have Hu:=zd hu;have Hs:=zd hs;clear hu hs
  cases more
  ·go_wp2
   go_end0
   have:=Hu.out.2.2.2
   simp at this
   subst this
   exact Ends.mk [] (by simpa using Hs.out)
  ·obtain⟨q,hq⟩:∃ q,q=jc l2 k:=⟨_,rfl⟩
   obtain⟨b,hb⟩:∃ b,b=decide (q≠k):=⟨_,rfl⟩
   obtain⟨l3,hl3⟩:∃ l3,l3=if q=k then l2 else gq l2 k q:=⟨_,rfl⟩
   have hst:=Hu.out.step hq hb hl3;have hm:2*(n - q)+boolN (.bool b)<2*(n - k)+1:=by
    have h1:=hst.1;have h2:=(ru (l:=l2) (i:=k) (by have:=Hu.out.2.1;have:=Hu.out.1;omega)).2;rw[←hq]at h2;rw[hb]
    by_cases e:q=k
    ·simp[e,boolN]
    ·simp[e,boolN];omega
   have d:=Ik (p:=p) (v:=v) (mb:=mb) (by have:=Hu.out.2.1;have:=Hu.out.1;omega) (by have:=Hu.out.2.1;omega) Hu.out.2.2.1 hq hb hl3;have Hst:=zd hst;have Hd:=zd d;clear hst d hl3 hb hq
   go_wp2_with fail
   refine(Hd.out.call (Bs:=[]) (by simpa using Hs.out)).mono ?_
   rintro e wq ⟨rfl,sq⟩
   have Hq:=zd sq;clear sq
   go_wp2
   go_roundw
   case rel=>exact⟨q,b,l3,rfl,rfl,Hst.out,by simpa using Hq.out⟩
   case measure=>simp[intOf,boolN]at hm ⊢;omega
end
theorem Scope.grew {S:List Nat} {w0 w w1:World} {v v':Value} {t:TypeId} {size n n':Nat} {xs xs':List Value} {Bs:List HA} (h:Scope S w0 w (aU v t size n xs::Bs)) (hg:w.grownBy w1 v.ownBlock) (ho:w1.ownsRow 0 t size v' n' xs')
  (hat:∀ k,v'.ownBlock=some k→v.ownBlock=some k∨w.heap.size≤k):Scope S w0 w1 (aU v' t size n' xs'::Bs):=by
 obtain⟨f,⟨_,rfl⟩,hd⟩:=h.turned
 exact hd (aU v' t size n' xs') w1 v'.ownBlock.toList ⟨ho,rfl⟩ ((dE.refl _ w).grown hg (fun k hk=>.inl (by simp[hk]))) (fun k hk=>(hat k (by simpa using hk)).imp (fun h=>by simp[h]) id)
theorem Scope.owns {S:List Nat} {w0 w:World} {v:Value} {t:TypeId} {size n:Nat} {xs:List Value} {As:List HA} (h:Scope S w0 w As) (i:Nat) (hi:As[i]? =some (aU v t size n xs)):w.ownsRow 0 t size v n xs:=by
 obtain⟨f,⟨hr,_⟩,_⟩:=h.get i hi
 exact hr
theorem mi.snoc {l:List It} {f:Value→Option Value} (h:mi l f) {x:It} (hn:hhas l x.id=false):mi (l++[x]) (lI f (J x.id) (some (J l.length))):=by
 have key:∀ a b:Int,(J a=J b)↔a=b:=fun a b=>by simp
 have hne:∀ (i:Nat) (y:It),l[i]? =some y→y.id≠x.id:=fun i y hi e=>by
  have:hhas l x.id=true:=List.any_eq_true.2 ⟨y,List.mem_of_getElem? hi,by simpa using e⟩
  rw[hn]at this
  cases this
 constructor
 ·intro id v hv
  by_cases e:id=x.id
  ·subst e
   rw[dM]at hv
   exact⟨l.length,x,(Option.some.inj hv).symm,by simp,rfl⟩
  ·rw[eU _ _ (fun q=>e ((key _ _).1 q))]at hv
   obtain⟨k,z,h1,h2,h3⟩:=h.1 id v hv
   exact⟨k,z,h1,by rw[List.getElem?_append_left (List.getElem?_eq_some_iff.1 h2).1];exact h2,h3⟩
 ·intro k z hz
  by_cases a:k<l.length
  ·rw[List.getElem?_append_left a]at hz
   rw[eU _ _ (fun q=>hne k z hz ((key _ _).1 q))]
   exact h.2 k z hz
  ·have hk:=(List.getElem?_eq_some_iff.1 hz).1
   simp at hk
   obtain rfl:k=l.length:=by omega
   simp at hz
   subst hz
   exact dM _ _ _
section
variable {p:Nat} {l:List It}
def Tu (S:List Nat) (w0:World) (As:List HA) (e:Ending) (w':World):Prop:=∃ p,e=.returned (ptr p)∧Scope S w0 w' (dY p []::As)
theorem Jc {S:List Nat} {w0 w:World} {As:List HA} (h:Scope S w0 w As):Calls prog 76 #[] w (Tu S w0 As):=by
 have hmm:= @run_makeMap prog;have H:=zd h;clear h
 go_enter func76,ntmps76
 go_wp2
 go_ret
 have s1:Scope S w0 (w.alloc (.map #[] 0)) ([oQ w.heap.size []]++As):=H.out.joinL (g:=[w.heap.size]) (dh (A:=oQ w.heap.size []) ⟨⟨_,fM.made _ _ w,by unfold mi;simp⟩,rfl⟩) ((dE.refl _ _).alloc _) (by simp);have s2:=s1.box [nS,.map (some w.heap.size)] 205;rw[show(w.alloc (.map #[] 0)).heap.size=w.heap.size+1 by simp]at s2;refine⟨w.heap.size+1,rfl,?_⟩;have s3:Scope S w0 ((w.alloc (.map #[] 0)).alloc (.cells #[nS,.map (some w.heap.size)] 205)) ([hbox (w.heap.size+1) (nS,w.heap.size)]++([oQ w.heap.size []]++As)):=by
  exact s2.perm (List.perm_append_comm (l₁:=[oQ w.heap.size []]++As) (l₂:=[hbox (w.heap.size+1) (nS,w.heap.size)]))
 have s4:Scope S w0 ((w.alloc (.map #[] 0)).alloc (.cells #[nS,.map (some w.heap.size)] 205)) (aU (nS) 156 2 0 []::(hbox (w.heap.size+1) (nS,w.heap.size)::oQ w.heap.size []::As)):=by
  obtain⟨c,fp,k1,k2⟩:=s3
  exact⟨c,fp,⟨[],fp,⟨World.ownsRow_nil _ _ _ _,rfl⟩,k1,(fun _ h=>by cases h),rfl⟩,k2⟩
 exact Scope.tX (F:=fun c=>aG (dV (w.heap.size+1) [] c)) (nS,w.heap.size) (Scope.shut1 (As:=dV (w.heap.size+1) [] (nS,w.heap.size)) (Bs:=As) s4.swap2)
theorem Rh (x:It) (hx:okI x) (hh:hhas l x.id=true):Does prog [dY p l] 80 #[ptr p,x.val] (.bool false) [dY p l]:=Does.ax fun S w0 w h=>by
 have s1:=zd (h.box x.cells 156);have Hh:=zd hh;clear h hh;obtain⟨xk,xi⟩:=x;unfold It.val
 go_enter func80,ntmps80
 go_wp2_with fail
 refine((rM xi hx.1).at0 s1.out).mono ?_
 rintro e wq ⟨he,sq⟩
 rw[show hhas l xi=true from Hh.out]at he;subst he;have Hq:=zd sq;clear sq
 go_wp2
 go_ret
 exact Ends.mk [box w.heap.size (It.cells ⟨xk,xi⟩) 156] (by simpa using Hq.out)
theorem Oy (x:It) (hx:okI x) (hh:hhas l x.id=false) (hll:l.length<100000) (ho:fH l):Does prog [dY p l] 80 #[ptr p,x.val] (.bool true) [dY p (hup (l.length+1) (l++[x]) l.length)]:=Does.ax fun S w0 w h=>by
 have s1:=zd (h.box x.cells 156);have Hh:=zd hh;have Ho:=zd (ho.snoc hx);obtain⟨B,hB⟩:∃ B,B=w.heap.size:=⟨_,rfl⟩
 have hx1:=hx.1;have Hx:=zd hx;clear h hh ho hx;obtain⟨n,hn⟩:∃ n,n=l.length:=⟨_,rfl⟩
 rw[←hn]at hll ⊢
 have Hn:=zd hn;clear hn;obtain⟨xk,xi⟩:=x;unfold It.val
 go_enter func80,ntmps80
 go_wp2_with fail
 rw[←hB];refine((rM xi hx1).at0 s1.out).mono ?_
 rintro e wq ⟨he,sq⟩
 rw[show hhas l xi=false from Hh.out]at he;subst he;obtain⟨⟨v,mb⟩,sq1⟩:=Scope.xq (F:=fun c=>aG (dV p l c)) sq;have sq2:Scope S w0 wq (dV p l (v,mb)++[box B [Ju xk,J xi] 156]):=by rw[hB];exact Scope.gU sq1
 clear sq sq1 hB;obtain⟨oa,cap,hv,_,_⟩:=(sq2.front 1 rfl).jh;rw[←Hn.out]at hv;have c0:wq.drew.cell? ⟨p,0,none⟩=some (.slice oa n cap):=by rw[←hv];exact(sq2.row (k:=p) 0 rfl).cell rfl
 have c1:At wq.drew p 1 (.map (some mb)):=(sq2.row (k:=p) 0 rfl).cell rfl;have x1:At wq.drew B 1 (J xi):=(sq2.row (k:=B) 3 rfl).cell rfl;obtain⟨fi,⟨⟨f,hm,hf⟩,_⟩,_⟩:=sq2.get 2 rfl;have Hq:=zd sq2;have Hf:=zd hf;have Hv:=zd hv;clear sq2 hf hv
 go_wp2_with fail
 refine aP (by kernel_rfl) ?_;have h0:At wq.drew p 0 (.slice oa n cap)∧At wq.drew p 1 (.map (some mb))∧At wq.drew B 1 (J xi):=⟨c0,c1,x1⟩
 refine bu (S:=fun w'=>At w' p 0 (.slice oa n cap)∧At w' p 1 (.map (some mb))∧At w' B 1 (J xi)) (U:=[0,1,2,3,4,5,6,7,8,9,10]) _ _ _ _ ?_;refine dB [0,1,2,3,4,5,6,7,8,9,10] ?_
 repeat (refine aN _ rfl (by kernel_rfl) (fun _ _ _ h=>h) h0 (fun w' hS=>by(try dsimp only at hS);(try simp only[ag,ah,aj]);go_simp;try with_reducible rfl) ?_;try simp only[Act.put,ag,ah,aj,aF,aB,aC])
 refine bM ?_;refine aX _ _ _ _ (fun j hj=>?_) ?_
 ·simp at hj;rcases hj with rfl|rfl|rfl|rfl|rfl|rfl|rfl|rfl|rfl|rfl|rfl<;>rfl
 obtain⟨kx,hkx⟩:=qy hx1;obtain⟨w3,r3,m3,d3⟩:=(hm.kept rfl:fM prog 3 wq.drew mb f).update (t:=73) nV underlying73 (J n) hkx;have M3:=zd m3;have D3:=zd d3;clear m3 d3 h0 c0 c1 x1 hm;refine af 11 (by kernel_rfl) rfl (by rfl) fun K hK=>?_
 go_simp;refine hK _ _ ?_;clear hK K
 try simp only[Act.put,ag,ah,aj,aF,aB,aC]
 clear r3;refine wpAny_done (by kernel_rfl) ?_ _;have s3:=(Hq.out.drew.front 2 rfl)
 obtain⟨fp,⟨_,rfl⟩,s4⟩:=s3.turned;have s5:=s4 (oQ mb (l++[(⟨xk,xi⟩:It)])) w3 [mb] ⟨⟨_,M3.out,by rw[Hn.out];exact Hf.out.snoc Hh.out⟩,rfl⟩ D3.out (Own.refl _ _);have s6:Scope S w0 w3 [aU v 156 2 l.length (its l),oQ mb (l++[(⟨xk,xi⟩:It)]),hbox p (v,mb),box B [Ju xk,J xi] 156]:=s5.front 2 rfl;clear s3 s4 s5;obtain⟨i0,hi,hz0,hz1,hz2⟩:=info_parts D7;have c0:At w3.drew p 0 v:=(s6.row (k:=p) 2 rfl).cell rfl;have x0:At w3.drew B 0 (Ju xk):=(s6.row (k:=B) 3 rfl).cell rfl;have x1:At w3.drew B 1 (J xi):=(s6.row (k:=B) 3 rfl).cell rfl;have S6:=zd s6;clear s6
 go_wp2_with fail
 refine aP (by kernel_rfl) ?_;refine aY [0] ?_
 repeat (refine ay _ rfl (by kernel_rfl) (fun _ _ _ h=>h) (fun w'=>by(try simp only[ag,ah,aj]);go_simp;try with_reducible rfl) ?_;try simp only[Act.put,ag,ah,aj,aF,aB,aC])
 refine aH ?_;have h0:At w3.drew p 0 v∧At w3.drew B 0 (Ju xk)∧At w3.drew B 1 (J xi):=⟨c0,x0,x1⟩
 refine bu (S:=fun w'=>At w' p 0 v∧At w' B 0 (Ju xk)∧At w' B 1 (J xi)) (U:=[1,2,3,4,5,6]) _ _ _ _ ?_;refine dB [1,2,3,4,5] ?_
 repeat (refine aN _ rfl (by kernel_rfl) (fun _ _ _ h=>h) h0 (fun w' hS=>by(try dsimp only at hS);(try simp only[ag,ah,aj]);go_simp;try with_reducible rfl) ?_;try simp only[Act.put,ag,ah,aj,aF,aB,aC])
 refine bM ?_;have s7:Scope S w0 (w3.alloc (.cells #[Ju xk,J xi] 156)).drew [aU v 156 2 l.length (its l),oQ mb (l++[(⟨xk,xi⟩:It)]),hbox p (v,mb),box B [Ju xk,J xi] 156,box w3.heap.size [Ju xk,J xi] 156]:=(S6.out.box [Ju xk,J xi] 156).drew;have h1:(w3.alloc (.cells #[Ju xk,J xi] 156)).drew.cell? ⟨p,0,none⟩=some v∧(w3.alloc (.cells #[Ju xk,J xi] 156)).drew.cell? ⟨B,0,none⟩=some (Ju xk)∧(w3.alloc (.cells #[Ju xk,J xi] 156)).drew.cell? ⟨B,1,none⟩=some (J xi):=⟨(s7.row (k:=p) 2 rfl).cell rfl,(s7.row (k:=B) 3 rfl).cell rfl,(s7.row (k:=B) 3 rfl).cell rfl⟩
 have S7:=zd s7;clear s7 h0 c0 x0 x1;refine aK 6 (by kernel_rfl) rfl (by rfl) fun K hK=>?_
 go_simp;refine hK _ _ ⟨fun _=>h1,?_⟩;clear hK K h1
 try simp only[Act.put,ag,ah,aj,aF,aB,aC]
 refine aX _ _ _ _ (fun j hj=>?_) ?_
 ·simp at hj;rcases hj with rfl|rfl|rfl|rfl|rfl|rfl<;>rfl
 refine af 7 (by kernel_rfl) rfl (by rfl) fun K hK=>?_
 refine wp_append_lies _ _ _ _ rfl 0 156 i0 _ 2 16 underlying161 hi hz0 hz1 hz2 rfl (by omega) v l.length (its l) (by rfl) (S7.out.owns 0 rfl) ⟨w3.heap.size,0,none⟩ 1 1 [Ju xk,J xi] (by rfl) (by rfl) (World.news_of_block (cs:=#[Ju xk,J xi]) (t:=156) (fr:=(0,0)) (S7.out.row (k:=w3.heap.size) 4 rfl)) (by simp[Value.oneCell'])
    (by omega) (by rw[←Hn.out];unfold maxLen;omega) (by rw[←Hn.out];omega) (by omega) (w3.heap.size+1) (by simp) ?_
 intro gg cap' w4 hown hgrow hat hlt
 refine hK _ _ ?_;clear hK K
 try simp only[Act.put,ag,ah,aj,aF,aB,aC]
 have hown':w4.ownsRow 0 156 2 (.slice (some ⟨gg,0,none⟩) (l++[(⟨xk,xi⟩:It)]).length cap') (l++[(⟨xk,xi⟩:It)]).length (its (l++[(⟨xk,xi⟩:It)])):=by
  rw[x8,List.length_append];exact hown
 have s8:=S7.out.grew hgrow hown' (fun k hk=>by
  simp[Value.ownBlock]at hk
  subst hk
  rcases hat with h|h
  ·exact .inl h
  ·right;rw[h];simp)
 have rp:=s8.row (k:=p) 2 rfl;have y0:=rp.cell (j:=0) rfl;have yf:=rp.free 0;have S8:=zd s8;clear s8 rp hown hown' hgrow hat;refine aY [8,9] ?_
 repeat (refine ay _ rfl (by kernel_rfl) (fun _ _ _ h=>h) (fun w'=>by(try simp only[ag,ah,aj]);go_simp;try with_reducible rfl) ?_;try simp only[Act.put,ag,ah,aj,aF,aB,aC])
 refine aH ?_;refine af 10 (by kernel_rfl) rfl (by rfl) fun K hK=>?_
 go_simp;refine hK _ _ ?_;clear hK K
 try simp only[Act.put,ag,ah,aj,aF,aB,aC]
 refine wpAny_done (by kernel_rfl) ?_ _;clear y0 yf;have hln:(l++[(⟨xk,xi⟩:It)]).length=n+1:=by rw[List.length_append,Hn.out];rfl
 have s9:Scope S w0 (w4.setCell ⟨p,0,none⟩ (.slice (some ⟨gg,0,none⟩) (n+1) cap')) (dV p (l++[(⟨xk,xi⟩:It)]) (.slice (some ⟨gg,0,none⟩) (l++[(⟨xk,xi⟩:It)]).length cap',mb)++[box B [Ju xk,J xi] 156,box w3.heap.size [Ju xk,J xi] 156]):=by
  have:=Scope.au (As:=[aU (.slice (some ⟨gg,0,none⟩) (l++[(⟨xk,xi⟩:It)]).length cap') 156 2 (l++[(⟨xk,xi⟩:It)]).length (its (l++[(⟨xk,xi⟩:It)])),oQ mb (l++[(⟨xk,xi⟩:It)])]) (Bs:=[box B [Ju xk,J xi] 156,box w3.heap.size [Ju xk,J xi] 156]) S8.out 0 (.slice (some ⟨gg,0,none⟩) (l++[(⟨xk,xi⟩:It)]).length cap')
  rw[←hln]
  exact this.front 2 rfl
 rw[show l.length+1=n+1 by rw[Hn.out]];obtain⟨w5,hw5⟩:∃ w5,w5=w4.setCell ⟨p,0,none⟩ (.slice (some ⟨gg,0,none⟩) (n+1) cap'):=⟨_,rfl⟩
 rw[←hw5]at s9 ⊢
 have c0:w5.cell? ⟨p,0,none⟩=some (.slice (some ⟨gg,0,none⟩) (n+1) cap'):=by
  have:=(s9.row (k:=p) 0 rfl).cell (j:=0) rfl
  rw[hln]at this
  exact this
 have S9:=zd s9;have Hln:=zd hln;clear s9 hln hw5 S8 S7 S6 hi hz0 hz1 hz2
 go_wp2_with fail
 refine((KX (p:=p) (l:=l++[(⟨xk,xi⟩:It)]) (i:=n) (by rw[Hln.out];omega) (by rw[Hln.out];omega) Ho.out).call S9.out).mono ?_
 rintro e w6 ⟨rfl,s10⟩
 have S10:=zd s10;clear s10 c0
 go_wp2
 go_ret
 refine Ends.mk [box B [Ju xk,J xi] 156,box w3.heap.size [Ju xk,J xi] 156] ?_
 exact Scope.tX (F:=fun c=>aG (dV p (hup (n+1) (l++[(⟨xk,xi⟩:It)]) n) c)) (_,mb) (Scope.shut1 S10.out)
end
theorem Scope.appends {S:List Nat} {w0 w:World} {Bs:List HA} {v:Value} {t:TypeId} {size n:Nat} {xs cs:List Value} (h:Scope S w0 w (aU v t size n xs::Bs)) {w1:World} {gg cap:Nat} (own:w1.ownsRow 0 t size (.slice (some ⟨gg,0,none⟩) (n+1) cap) (n+1) (xs++cs))
  (gro:w.grownBy w1 v.ownBlock) (hat:v.ownBlock=some gg∨gg=w.heap.size):Scope S w0 w1 (aU (.slice (some ⟨gg,0,none⟩) (n+1) cap) t size (n+1) (xs++cs)::Bs):=
 h.grew gro own (fun k hk=>by
  simp[Value.ownBlock]at hk
  subst hk
  rcases hat with h|h
  ·exact .inl h
  ·right;omega)
theorem lF (t:TypeId) {i:TypeInfo} (h:prog.info? t=some i) {z:Value} {s b:Nat} (h0:(prog.info? t).bind (·.zero)=some z) (h1:(prog.info? t).map (·.size)=some s) (h2:(prog.info? t).map (·.bytes)=some b):i.zero=some z∧i.size=s∧i.bytes=b:=by
 rw[h]at h0 h1 h2
 exact⟨h0,by simpa using h1,by simpa using h2⟩
theorem jX {S:List Nat} {w0 w:World} {Bs:List HA} (t:TypeId) (n:Nat) (h:Scope S w0 w Bs):Scope S w0 w (aU (nS) t n 0 []::Bs):=by
 obtain⟨c,fp,h1,h2⟩:=h
 exact⟨c,fp,⟨[],fp,⟨World.ownsRow_nil _ _ _ _,rfl⟩,h1,(fun _ h=>by cases h),rfl⟩,h2⟩
theorem Scope.jb {S:List Nat} {w0 w:World} {As:List HA} (h:Scope S w0 w As) {v:Value} {t:TypeId} {size n:Nat} {xs:List Value} (i:Nat) (hi:As[i]? =some (aU v t size n xs)):w.ownsRow 0 t size v n xs:=by
 obtain⟨f,h1,_⟩:=h.get i hi
 exact h1.1
theorem mJ {P:Program} (w:World) {ops:Array Oper} {rest:List Oper} {o:Oper} {a:Act} {Q:Exit→Act→World→Prop} (hg:o.guard=none) (m x:Operand) (t k:TypeId) (hop:o.op=Op.call { callee:=Callee.builtin Builtin.delete,args:=#[m,x],argTypes:=#[t,k] })
  (e:TypeId) (K:Keyed P k) (ht:P.underlying t=some (.map k e)) (b:Nat) (f:Value→Option Value)
  (hm:a.eval m=.map (some b)) (hown:fM P k w b f) (key:Value) (kl:Lit) (hx:a.eval x=key) (hkey:keyOf P k key=some kl)
  (hK:∀ w',fM P k w' b (lI f key none)→dE [b] w w'→wpList P ops Q rest (a.put o.dst (.tuple #[])) w'):
  wpList P ops Q (o::rest) a w:=by
 refine wpList_plain hg fun K' hK'=>?_
 obtain⟨w',hrun,r1,r2⟩:=hown.drop (ty:=o.type) K ht hkey;unfold Oper.wp
 simp[execOp,hop,resolve,invoke,builtin,hm,hx,hrun,Result.andThen]
 exact hK' _ _ (hK w' r1 r2)
theorem mi.last {l:List It} {f:Value→Option Value} (h:mi l f) {n:Nat} (hn:l.length=n+1) {x:It} (hx:l[n]? =some x):mi (l.take n) (lI f (J x.id) none):=by
 have key:∀ a b:Int,(J a=J b)↔a=b:=fun a b=>by simp
 constructor
 ·intro id v hv
  by_cases e:id=x.id
  ·subst e;rw[dM]at hv;cases hv
  ·rw[eU _ _ (fun q=>e ((key _ _).1 q))]at hv
   obtain⟨k,z,h1,h2,h3⟩:=h.1 id v hv;refine⟨k,z,h1,?_,h3⟩;have hk:=(List.getElem?_eq_some_iff.1 h2).1;have hne:k≠n:=fun q=>by subst q;rw[hx]at h2;cases h2;exact e h3.symm
   rw[List.getElem?_take,if_pos (by omega)]
   exact h2
 ·intro k z hz
  rw[List.getElem?_take]at hz
  split at hz
  ·rename_i hk
   have hne:z.id≠x.id:=fun q=>by have:=h.nodup hz hx q;omega
   rw[eU _ _ (fun q=>hne ((key _ _).1 q))]
   exact h.2 k z hz
  ·cases hz
theorem JB {l:List It} {f:Value→Option Value} (h:mi l f) {i:Nat} {x:It} (hi:l[i]? =some x):l.findIdx? (fun y=>y.id==x.id)=some i:=by
 have hlt:=(List.getElem?_eq_some_iff.1 hi).1;rw[List.findIdx?_eq_some_iff_getElem];refine⟨hlt,by rw[(List.getElem?_eq_some_iff.1 hi).2];simp,fun j hj=>?_⟩;have hj':l[j]? =some l[j]:=List.getElem?_eq_getElem (by omega)
 simp
 intro e
 have:=h.nodup hj' hi e
 omega
section
variable {p:Nat} {l:List It}
theorem QT {id:Int} (hid:I64 id) (hh:hhas l id=false):Does prog [dY p l] 112 #[ptr p,J id] (.tuple #[It.zero.val,.bool false]) [dY p l]:=
 Does.ex (F:=fun c=>aG (dV p l c)) (G:=fun c=>aG (dV p l c)) fun c=>Does.pack fun S w0 w h=>by
 have c0:At w p 1 (.map (some c.2)):=(h.row 0 rfl).cell rfl;have lp:=(h.row 0 rfl).lt;obtain⟨fp,⟨⟨f,h1,h2⟩,_⟩,_⟩:=h.get 2 rfl;obtain⟨x,hx⟩:=qy hid;have hrun:=fun(o:Obj)=>((h1.kept (Below.heap_alloc _ _ _ h1.lt):fM prog 3 (w.alloc o) c.2 f)).look_ok (t:=73) nV underlying73 (xA _) hx
 rw[Ld h2,hh]at hrun;have H0:=zd h;clear h h1 h2 hx
 go_enter func112,ntmps112
 go_wp2
 exact bodyPost_ret (v:=.tuple #[.agg #[Ju 0,J 0],.bool false]) (by simp[results,results112,go_sem]) rfl (Ends.mk [] (by simpa using H0.out.alloc _))
theorem Ae {x:It} {i:Nat} (hix:l[i]? =some x) (hll:l.length≤100000) (ho:fH l):Does prog [dY p l] 112 #[ptr p,J x.id] (.tuple #[x.val,.bool true]) [dY p (gu l i)]:=Does.ax fun S w0 w h=>by
 obtain⟨⟨v,mb⟩,s1⟩:=Scope.xq (F:=fun c=>aG (dV p l c)) h;have s2:Scope S w0 w (dV p l (v,mb)):=by simpa using Scope.gU s1
 obtain⟨n,hn⟩:∃ n,l.length=n+1:=⟨l.length - 1,by have:=(List.getElem?_eq_some_iff.1 hix).1;omega⟩
 have hil:=(List.getElem?_eq_some_iff.1 hix).1
 rcases(s2.front 1 rfl).ny with⟨_,hz⟩|⟨g,cap,rfl,lg,k1,k2⟩
 ·omega
 obtain⟨fp,⟨⟨f,hm,hf⟩,_⟩,_⟩:=s2.get 2 rfl;obtain⟨kx,hkx⟩:=qy (ho x (List.mem_of_getElem? hix)).1;have e0:f (J x.id)=some (J i):=hf.2 i x hix;have hrun:=fun(o:Obj)=>((hm.kept (Below.heap_alloc _ _ _ hm.lt):fM prog 3 (w.alloc o) mb f)).look_ok (t:=73) nV underlying73 (xA _) hkx
 rw[e0]at hrun;simp only[Option.getD_some,Option.isSome_some]at hrun;have s3:=s2.box [Ju 0,J 0] 156;have c1:At w p 1 (.map (some mb)):=(s2.row (k:=p) 0 rfl).cell rfl;have lp:=(s2.row (k:=p) 0 rfl).lt;obtain⟨B,hB⟩:∃ B,B=w.heap.size:=⟨_,rfl⟩
 obtain⟨W,hW⟩:∃ W,W=w.alloc (.cells #[Ju 0,J 0] 156):=⟨_,rfl⟩
 have hWs:W.heap.size=B+1:=by rw[hW,hB];simp
 rw[←hB,show w.alloc (.cells [Ju 0,J 0].toArray 156)=W from hW.symm]at s3;have c0:W.drew.cell? ⟨p,0,none⟩=some (.slice (some ⟨g,0,none⟩) (n+1) cap):=by rw[←hn];exact(s3.row (k:=p) 0 rfl).cell rfl
 obtain⟨x0',x1'⟩:=s3.item (i:=1) rfl hix;have x0:At W.drew g (i*2) (Ju x.key):=x0';have x1:At W.drew g (i*2+1) (J x.id):=x1';have i0:(0:Int)≤(i:Int):=by omega
 have i1:(i:Int)<(n:Int)+1:=by omega
 have S3:=zd s3;have Hix:=zd hix;have Hn:=zd hn;have Hm:=zd hm;have Hf:=zd hf;have Hkx:=zd hkx;have HW:=zd hW;have HWs:=zd hWs;have HB:=zd hB;have hn2:n<100000:=by omega
 have e3:IntKind.i64.wrap (n:Int)=n:=by rw[IntKind.wrap_i64];omega
 have Hil:=zd hil;clear h s1 s2 s3 hn hix hm hf hkx hil hW e0 lg x0' x1' hWs hB
 go_enter func112,ntmps112
 go_wp2_with fail
 rw[show w.alloc (.cells #[Ju 0,J 0] 156)=W from HW.out.symm, ←HB.out];clear hrun c1 lp;refine aP (by kernel_rfl) ?_;have h0:At W.drew p 0 (.slice (some ⟨g,0,none⟩) (n+1) cap)∧At W.drew g (i*2) (Ju x.key)∧At W.drew g (i*2+1) (J x.id):=⟨c0,x0,x1⟩
 refine bu (S:=fun w'=>At w' p 0 (.slice (some ⟨g,0,none⟩) (n+1) cap)∧At w' g (i*2) (Ju x.key)∧At w' g (i*2+1) (J x.id)) (U:=[0,1,2,3,4,5,6,7,8,9,10,11,12,13,14]) _ _ _ _ ?_;refine dB [0,1,2,3,4,5,6,7,8,9,10,11,12] ?_
 repeat (refine aN _ rfl (by kernel_rfl) (fun _ _ _ h=>h) h0 (fun w' hS=>by(try dsimp only at hS);(try simp only[ag,ah,aj]);go_simp;try with_reducible rfl) ?_;try simp only[Act.put,ag,ah,aj,aF,aB,aC])
 refine bM ?_;have t1:Scope S w0 (W.alloc (.cells #[Ju 0,J 0] 156)).drew (dV p l (.slice (some ⟨g,0,none⟩) l.length cap,mb)++[box B [Ju 0,J 0] 156]++[box W.heap.size [Ju 0,J 0] 156]):=(S3.out.box [Ju 0,J 0] 156).drew;obtain⟨W2,hW2⟩:∃ W2,W2=(W.alloc (.cells #[Ju 0,J 0] 156)).drew:=⟨_,rfl⟩
 obtain⟨C,hC⟩:∃ C,C=W.heap.size:=⟨_,rfl⟩
 rw[←hW2, ←hC]at t1;have h1:At W2 p 0 (.slice (some ⟨g,0,none⟩) (n+1) cap)∧At W2 g (i*2) (Ju x.key)∧At W2 g (i*2+1) (J x.id):=⟨by rw[←Hn.out];exact(t1.row (k:=p) 0 rfl).cell rfl,(t1.item (i:=1) rfl Hix.out).1,(t1.item (i:=1) rfl Hix.out).2⟩
 have T1:=zd t1;have HW2:=zd hW2;have HC:=zd hC;clear t1 h0 hW2 hC c0 x0 x1;refine aK 13 (by kernel_rfl) rfl (by rfl) fun K hK=>?_
 go_simp;rw[show(W.alloc (.cells #[Ju 0,J 0] 156)).drew=W2 from HW2.out.symm, ←HC.out];refine hK _ _ ⟨fun _=>h1,?_⟩;clear hK K
 try simp only[Act.put,ag,ah,aj,aF,aB,aC]
 have rc:=T1.out.row (k:=C) 4 rfl;obtain⟨rc0,rc1⟩:=rc.c2;have rf0:=rc.free 0;have rf1:=rc.free 1;clear rc;refine aK 14 (by kernel_rfl) rfl (by rfl) fun K hK=>?_
 go_simp;have q1:=Scope.au (As:=dV p l (.slice (some ⟨g,0,none⟩) l.length cap,mb)++[box B [Ju 0,J 0] 156]) (Bs:=[]) T1.out 0 (Ju x.key);have q2:=Scope.au (As:=dV p l (.slice (some ⟨g,0,none⟩) l.length cap,mb)++[box B [Ju 0,J 0] 156]) (Bs:=[]) q1 1 (J x.id);obtain⟨W3,hW3⟩:∃ W3,W3=(W2.setCell ⟨C,0,none⟩ (Ju x.key)).setCell ⟨C,1,none⟩ (J x.id):=⟨_,rfl⟩
 rw[←hW3]at q2 ⊢
 have t2:Scope S w0 W3 (dV p l (.slice (some ⟨g,0,none⟩) l.length cap,mb)++[box B [Ju 0,J 0] 156,box C x.cells 156]):=q2;have h2:At W3 p 0 (.slice (some ⟨g,0,none⟩) (n+1) cap)∧At W3 g (i*2) (Ju x.key)∧At W3 g (i*2+1) (J x.id):=⟨by rw[←Hn.out];exact(t2.row (k:=p) 0 rfl).cell rfl,(t2.item (i:=1) rfl Hix.out).1,(t2.item (i:=1) rfl Hix.out).2⟩
 have T2:=zd t2;clear t2 q1 q2 hW3 T1 rc0 rc1 rf0 rf1 h1;refine hK _ _ ⟨fun _=>h2,?_⟩;clear hK K h2
 try simp only[Act.put,ag,ah,aj,aF,aB,aC]
 refine aX _ _ _ _ (fun j hj=>?_) ?_
 ·simp at hj;rcases hj with rfl|rfl|rfl|rfl|rfl|rfl|rfl|rfl|rfl|rfl|rfl|rfl|rfl|rfl|rfl<;>rfl
 refine aY [15] ?_
 repeat (refine ay _ rfl (by kernel_rfl) (fun _ _ _ h=>h) (fun w'=>by(try simp only[ag,ah,aj]);go_simp;try with_reducible rfl) ?_;try simp only[Act.put,ag,ah,aj,aF,aB,aC])
 refine aH ?_;refine wpAny_done (by kernel_rfl) ?_ _
 go_wp2_with fail
 refine((sZ (p:=p) Hil.out (j:=n) (by rw[Hn.out];omega) hll ho).call T2.out).mono ?_
 rintro e W4 ⟨rfl,sr⟩
 have hl2:(gq l i n).length=n+1:=by rw[ji,Hn.out]
 obtain⟨g',cap',rest,hgg,u2,_,_,u5,u6⟩:=(sr.front 1 rfl).qj (by rw[hl2];omega);obtain⟨rfl,rfl⟩:g=g'∧cap=cap':=by simp at hgg;exact⟨hgg.1,hgg.2.2⟩
 have c0:W4.cell? ⟨p,0,none⟩=some (.slice (some ⟨g,0,none⟩) (n+1) cap):=by rw[←Hn.out];exact(sr.row (k:=p) 0 rfl).cell rfl
 have f0:=(sr.row (k:=p) 0 rfl).free 0;have c1:At W4 p 1 (.map (some mb)):=(sr.row (k:=p) 0 rfl).cell rfl;have d1:(0:Int)≤(n:Int):=by omega
 have d2:(n:Int)≤(cap:Int):=by omega
 have Sr:=zd sr;have U2:=zd u2;have U5:=zd u5;have Hl2:=zd hl2;have hct:hcut l i=(gq l i n).take n:=by unfold hcut;rw[Hn.out];rfl
 have u7:=Scope.au (As:=[box g (its (gq l i n)++rest) 156]) (Bs:=[oQ mb (gq l i n),box B [Ju 0,J 0] 156,box C x.cells 156]) u2 0 (.slice (some ⟨g,0,none⟩) n cap);have e5:its (gq l i n)++rest=its (hcut l i)++((its (gq l i n)).drop (n*2)++rest):=by rw[hct,EM, ←List.append_assoc,List.take_append_drop]
 rw[e5]at u7 u5;have hlc:(hcut l i).length=n:=by rw[qB,Hn.out];rfl
 have u8:=Scope.own (n:=n) (cap:=cap) u7 (by omega) k2 u5 (by rw[jf,hlc]);have s5:Scope S w0 (W4.setCell ⟨p,0,none⟩ (.slice (some ⟨g,0,none⟩) n cap)) [oQ mb (gq l i n),aU (.slice (some ⟨g,0,none⟩) n cap) 156 2 n (its (hcut l i)),hbox p (.slice (some ⟨g,0,none⟩) n cap,mb),box B [Ju 0,J 0] 156,box C x.cells 156]:=u8.front 2 rfl;obtain⟨fi,⟨⟨⟨f2,hm2,hf2⟩,rfl⟩,s6⟩⟩:=s5.turned;have hx2:(gq l i n)[n]? =some x:=by rw[lT l i n n Hil.out (by rw[Hn.out];omega),if_pos rfl,Hix.out]
 have hf3:mi (hcut l i) (lI f2 (J x.id) none):=by rw[hct];exact hf2.last hl2 hx2
 have S6:=zd s6;have Hm2:=zd hm2;have Hf3:=zd hf3;have Hlc:=zd hlc;clear sr u2 u5 u6 hgg hl2 u7 e5 u8 s5 s6 hx2 hf2 hm2 hf3 hct hlc;have fin:∀ W6,fM prog 3 W6 mb (lI f2 (J x.id) none)→dE [mb] (W4.setCell ⟨p,0,none⟩ (.slice (some ⟨g,0,none⟩) n cap)) W6→Scope S w0 W6 (dV p (hcut l i) (.slice (some ⟨g,0,none⟩) (hcut l i).length cap,mb)++[box B [Ju 0,J 0] 156,box C x.cells 156]):=fun W6 m6 d6=>by
  have t6:=S6.out (oQ mb (hcut l i)) W6 [mb] ⟨⟨_,m6,Hf3.out⟩,rfl⟩ d6 (Own.refl _ _);have h3:=((t6.front 2 rfl).front 2 rfl).front 1 rfl;unfold dV;rw[Hlc.out]
  exact h3
 have Fin:=zd fin;clear fin
 by_cases hc:i<n
 ·have hd:gu l i=hdown (hup (i+1) (hcut l i) i).length (hup (i+1) (hcut l i) i) i:=by
   unfold gu;rw[Hn.out,if_pos (by simpa using hc),nH,Hlc.out]
   rfl
  have Hd:=zd hd;clear hd
  go_wp2_with (at_delete;refine mJ _ rfl _ _ 73 3 rfl 3 nV underlying73 mb f2 rfl Hm2.out _ kx rfl Hkx.out ?_;intro W6 m6 d6;have T6:=zd (Fin.out W6 m6 d6);clear m6 d6)
  have hoc:fH (hcut l i):=(ho.swap _ _).take _;refine((KX (p:=p) (l:=hcut l i) (by rw[Hlc.out];exact hc) (by rw[Hlc.out];omega) hoc).call T6.out).mono ?_
  rintro e W7 ⟨rfl,t7⟩
  have T7:=zd t7;clear t7
  go_wp2_with fail
  refine((NZ (p:=p) (l:=hup (i+1) (hcut l i) i) (by rw[nH,Hlc.out];exact hc) (by rw[nH,Hlc.out];omega) (hoc.up i)).call T7.out).mono ?_
  rintro e W8 ⟨rfl,t8⟩
  rw[←Hd.out]at t8;have T8:=zd t8;clear t8;have rC0:=(T8.out.row (k:=C) 4 rfl).cell (j:=0) rfl;have rC1:=(T8.out.row (k:=C) 4 rfl).cell (j:=1) rfl;have rB0:=(T8.out.row (k:=B) 3 rfl).cell (j:=0) rfl;have rB1:=(T8.out.row (k:=B) 3 rfl).cell (j:=1) rfl;have rBf0:=(T8.out.row (k:=B) 3 rfl).free 0;have rBf1:=(T8.out.row (k:=B) 3 rfl).free 1
  go_wp2
  have q1:=Scope.au (As:=dV p (gu l i) (.slice (some ⟨g,0,none⟩) (hcut l i).length cap,mb)) (Bs:=[box C x.cells 156]) T8.out 0 (Ju x.key);have q2:=Scope.au (As:=dV p (gu l i) (.slice (some ⟨g,0,none⟩) (hcut l i).length cap,mb)) (Bs:=[box C x.cells 156]) q1 1 (J x.id);obtain⟨W9,hW9⟩:∃ W9,W9=(W8.setCell ⟨B,0,none⟩ (Ju x.key)).setCell ⟨B,1,none⟩ (J x.id):=⟨_,rfl⟩
  rw[←hW9]at q2 ⊢
  have z0:At W9 B 0 (Ju x.key):=(q2.row (k:=B) 3 rfl).cell rfl;have z1:At W9 B 1 (J x.id):=(q2.row (k:=B) 3 rfl).cell rfl;have Q2:=zd q2;clear q2 q1 hW9 rC0 rC1 rB0 rB1 rBf0 rBf1
  exact bodyPost_ret (v:=.tuple #[.agg #[Ju x.key,J x.id],.bool true]) (by simp[results,results112,go_sem,z0,z1]) rfl (Ends.mk [box B [Ju x.key,J x.id] 156,box C x.cells 156] (Scope.tX (F:=fun c=>aG (dV p (gu l i) c)) (_,mb) (Scope.shut1 Q2.out)))
 ·have hd:gu l i=hcut l i:=by unfold gu;rw[Hn.out,if_neg (by simpa using hc)]
  have Hd:=zd hd;clear hd
  go_wp2_with (at_delete;refine mJ _ rfl _ _ 73 3 rfl 3 nV underlying73 mb f2 rfl Hm2.out _ kx rfl Hkx.out ?_;intro W6 m6 d6;have T6:=zd (Fin.out W6 m6 d6);have rC0:=(T6.out.row (k:=C) 4 rfl).cell (j:=0) rfl;have rC1:=(T6.out.row (k:=C) 4 rfl).cell (j:=1) rfl;have rB0:=(T6.out.row (k:=B) 3 rfl).cell (j:=0) rfl;have rB1:=(T6.out.row (k:=B) 3 rfl).cell (j:=1) rfl;have rBf0:=(T6.out.row (k:=B) 3 rfl).free 0;have rBf1:=(T6.out.row (k:=B) 3 rfl).free 1;clear m6 d6)
  have q1:=Scope.au (As:=dV p (hcut l i) (.slice (some ⟨g,0,none⟩) (hcut l i).length cap,mb)) (Bs:=[box C x.cells 156]) T6.out 0 (Ju x.key);have q2:=Scope.au (As:=dV p (hcut l i) (.slice (some ⟨g,0,none⟩) (hcut l i).length cap,mb)) (Bs:=[box C x.cells 156]) q1 1 (J x.id);obtain⟨W9,hW9⟩:∃ W9,W9=(W6.setCell ⟨B,0,none⟩ (Ju x.key)).setCell ⟨B,1,none⟩ (J x.id):=⟨_,rfl⟩
  rw[←hW9]at q2 ⊢
  have z0:At W9 B 0 (Ju x.key):=(q2.row (k:=B) 3 rfl).cell rfl;have z1:At W9 B 1 (J x.id):=(q2.row (k:=B) 3 rfl).cell rfl;have Q2:=zd q2;clear q2 q1 hW9 rC0 rC1 rB0 rB1 rBf0 rBf1
  exact bodyPost_ret (v:=.tuple #[.agg #[Ju x.key,J x.id],.bool true]) (by simp[results,results112,go_sem,z0,z1]) rfl (Ends.mk [box B [Ju x.key,J x.id] 156,box C x.cells 156] (by rw[Hd.out];exact Scope.tX (F:=fun c=>aG (dV p (hcut l i) c)) (_,mb) (Scope.shut1 Q2.out)))
end
section
variable {p:Nat} {l:List It}
theorem Ku (x:It) (hx:okI x) (hll:l.length<100000) (ho:fH l):Does prog [dY p l] 80 #[ptr p,x.val] (.bool (hpush l x).2) [dY p (hpush l x).1]:=by
 unfold hpush
 cases hh:hhas l x.id
 ·simpa using Oy x hx hh hll ho
 ·simpa using Rh x hx hh
def AV (l:List It) (id:Int):It:=(l.find? fun x=>x.id==id).getD .zero
theorem Does.know {P:Program} {A:HA} {f:FuncId} {args:Array Value} {r:Value} {As':List HA} {Q:Prop} (hk:∀ w fp,A.holds w fp→Q) (d:Q→Does P [A] f args r As'):Does P [A] f args r As':=fun w fp h=>d (hk w fp (bZ h)) w fp h
theorem QV {w:World} {fp:List Nat} (h:(dY p l).holds w fp):∃ f,mi l f:=by
 obtain⟨c,f0,g0,_,⟨f1,g1,_,⟨f2,g2,⟨⟨f,_,hf⟩,_⟩,_⟩,_⟩,_⟩:=h
 exact⟨f,hf⟩
theorem JC (id:Int) (hid:I64 id) (hll:l.length≤100000) (ho:fH l):Does prog [dY p l] 112 #[ptr p,J id] (.tuple #[(AV l id).val,.bool (hhas l id)]) [dY p (hdrop l id)]:=
 Does.know (fun _ _ h=>QV h) fun⟨f,hf⟩=>by
 cases hh:hhas l id
 ·have h1:l.findIdx? (fun x=>x.id==id)=none:=by
   rw[List.findIdx?_eq_none_iff]
   intro x hx
   cases hq:(x.id==id)
   ·rfl
   ·have:hhas l id=true:=List.any_eq_true.2 ⟨x,hx,hq⟩
    rw[hh]at this;cases this
  have h2:l.find? (fun x=>x.id==id)=none:=by
   rw[List.find?_eq_none]
   intro x hx hq
   have:hhas l id=true:=List.any_eq_true.2 ⟨x,hx,hq⟩
   rw[hh]at this;cases this
  unfold hdrop AV;rw[h1,h2]
  exact QT hid hh
 ·obtain⟨x,hx,he⟩:=List.any_eq_true.1 hh
  simp at he
  subst he;obtain⟨i,hi⟩:=List.mem_iff_getElem?.1 hx;have h1:=JB hf hi;have h2:l.find? (fun y=>y.id==x.id)=some x:=by
   cases hq:l.find? (fun y=>y.id==x.id)with
   |none=>rw[List.find?_eq_none]at hq;exact absurd (by simp) (hq x hx)
   |some y=>
    obtain⟨j,hj⟩:=List.mem_iff_getElem?.1 (List.mem_of_find?_eq_some hq);have he:=List.find?_some hq
    simp at he
    have:=hf.nodup hi hj he.symm
    subst this;rw[hi]at hj
    exact hj.symm
  unfold hdrop AV;rw[h1,h2]
  exact Ae hi hll ho
theorem OD (hll:l.length≤100000) (ho:fH l):Does prog [dY p l] 155 #[ptr p] (.tuple #[(l.headD .zero).val,.bool (decide (0<l.length))]) [dY p (if 0<l.length then gu l 0 else l)]:=by
 cases l with
 |nil=>
  refine Does.ax fun S w0 w h=>?_
  have s1:=zd (h.box [Ju 0,J 0] 156);clear h
  go_enter func155,ntmps155
  go_wp2_with fail
  refine(oN.at0 s1.out).mono ?_
  rintro e wq ⟨he,sq⟩
  rw[show(Value.tuple #[(List.headD [] It.zero).val,.bool (decide (0<([]:List It).length))])=.tuple #[.agg #[Ju 0,J 0],.bool false]from rfl]at he;subst he;have r:=sq.row (k:=w.heap.size) 1 rfl;obtain⟨c0,c1⟩:=r.c2;have f0:=r.free 0;have f1:=r.free 1;have lt:=r.lt;have Sq:=zd sq;clear r sq
  go_wp2
  have q1:=Scope.au (As:=[dY p []]) (Bs:=[]) Sq.out 0 (Ju 0);have q2:=Scope.au (As:=[dY p []]) (Bs:=[]) q1 1 (J 0);obtain⟨W,hW⟩:∃ W,W=(wq.setCell ⟨w.heap.size,0,none⟩ (Ju 0)).setCell ⟨w.heap.size,1,none⟩ (J 0):=⟨_,rfl⟩
  rw[←hW]at q2 ⊢
  have q3:=q2.box [Ju 0,J 0] 156;have z0:=(q3.row (k:=w.heap.size) 1 rfl).cell (j:=0) rfl;have z1:=(q3.row (k:=w.heap.size) 1 rfl).cell (j:=1) rfl
  exact bodyPost_ret (v:=.tuple #[.agg #[Ju 0,J 0],.bool false]) (by simp[results,results155,go_sem]at z0 z1 ⊢;simp[z0,z1]) rfl (Ends.mk' rfl [_,_] q3)
 |cons x l=>
  obtain⟨xk,xi⟩:=x;refine Does.ax fun S w0 w h=>?_
  have s1:=zd (h.box [Ju 0,J 0] 156);clear h
  go_enter func155,ntmps155
  go_wp2_with fail
  refine(oN.at0 s1.out).mono ?_
  rintro e wq ⟨he,sq⟩
  rw[show(Value.tuple #[(List.headD (⟨xk,xi⟩::l) It.zero).val,.bool (decide (0<((⟨xk,xi⟩:It)::l).length))])=.tuple #[.agg #[Ju xk,J xi],.bool true] by simp]at he;subst he;have r:=sq.row (k:=w.heap.size) 1 rfl;obtain⟨c0,c1⟩:=r.c2;have f0:=r.free 0;have f1:=r.free 1;have lt:=r.lt;have s2:=sq.box [Ju xk,J xi] 156;have S2:=zd s2;clear r sq s2
  go_wp2_with fail
  refine((Ae (p:=p) (x:=⟨xk,xi⟩) (i:=0) rfl hll ho).at0 S2.out).mono ?_
  rintro e wr ⟨rfl,sr⟩
  have r:=sr.row (k:=w.heap.size) 1 rfl;obtain⟨c0,c1⟩:=r.c2;have f0:=r.free 0;have f1:=r.free 1;have Sr:=zd sr;clear r sr
  go_wp2
  have q1:=Scope.au (As:=[dY p (gu (⟨xk,xi⟩::l) 0)]) (Bs:=[box wq.heap.size [Ju xk,J xi] 156]) Sr.out 0 (Ju xk);have q2:=Scope.au (As:=[dY p (gu (⟨xk,xi⟩::l) 0)]) (Bs:=[box wq.heap.size [Ju xk,J xi] 156]) q1 1 (J xi);obtain⟨W,hW⟩:∃ W,W=(wr.setCell ⟨w.heap.size,0,none⟩ (Ju xk)).setCell ⟨w.heap.size,1,none⟩ (J xi):=⟨_,rfl⟩
  rw[←hW]at q2 ⊢
  have z0:At W w.heap.size 0 (Ju xk):=(q2.row (k:=w.heap.size) 1 rfl).cell rfl;have z1:At W w.heap.size 1 (J xi):=(q2.row (k:=w.heap.size) 1 rfl).cell rfl
  exact bodyPost_ret (v:=.tuple #[.agg #[Ju xk,J xi],.bool true]) (by simp[results,results155,go_sem,z0,z1]) rfl (Ends.mk' rfl [_,_] q2)
end
end Go.Proofs.YtjnbbmgbmiggbaaGreatDoor
